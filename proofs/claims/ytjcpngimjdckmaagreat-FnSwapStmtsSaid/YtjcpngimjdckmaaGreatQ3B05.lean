/-
 A part of the proofs over this program: rules and contracts of its functions (the contracts).
-/
import Derived.Test.YtjcpngimjdckmaaGreatQ3B04
set_option linter.unusedVariables false
set_option linter.unusedSimpArgs false
set_option maxHeartbeats 8000000
set_option maxRecDepth 4000
attribute [local irreducible] Go.AL.RW Go.AL.AW Go.AL.Stop
namespace Go.Proofs.YtjcpngimjdckmaaGreat
open Go.AL Go.RowKit
theorem Hp {m : List Cl} {j : Nat} {X : AV} {v : Int} (h : j < m.length) : iR (aI gZ (e5 m j X)) (0 + j * 4 + 0) [iv v] = aI gZ (e5 (m.set j { m[j]! with val := v }) j X) := by
 have e : e5 (m.set j { m[j]! with val := v }) j X = (e5 m j X).set j ⟨v, m[j]!.alive, m[j]!.next, X⟩ := by
  have e2 : (m.set j { m[j]! with val := v })[j]! = { m[j]! with val := v } := by rw [cL _ _ (by rw [List.length_set]; exact h), List.getElem_set_self]
  unfold e5
  rw [e2, List.map_set, List.set_set, List.set_set]; rfl
 rw [e]
 exact fW (by rw [eT]; exact h) (by simp) (by rw [iV h]; rfl)
theorem I2 {m : List Cl} {j : Nat} {X : AV} {b : Bool} (h : j < m.length) : iR (aI gZ (e5 m j X)) (0 + j * 4 + 1) [.v (.bool b)] = aI gZ (e5 (m.set j { m[j]! with alive := b }) j X) := by
 have e : e5 (m.set j { m[j]! with alive := b }) j X = (e5 m j X).set j ⟨m[j]!.val, b, m[j]!.next, X⟩ := by
  have e2 : (m.set j { m[j]! with alive := b })[j]! = { m[j]! with alive := b } := by rw [cL _ _ (by rw [List.length_set]; exact h), List.getElem_set_self]
  unfold e5
  rw [e2, List.map_set, List.set_set, List.set_set]; rfl
 rw [e]
 exact fW (by rw [eT]; exact h) (by simp) (by rw [iV h]; rfl)
theorem qF (m : List Cl) (hm : OkM m) (x : Pt) : PC Tryz.prog 157 [sl eC m, Gc x] (fun r => r = .tup [sl eC (fL m x false), iv (uK m x), iv (cR m x false)]) := by
 have hml := hm.l
 by_cases hk : cR m x false = 0
 ·obtain ⟨c, t⟩ := x
  obtain ⟨h1, h2, h3, h4, _⟩ := iZ hk
  obtain ⟨j, rfl⟩ := Int.eq_ofNat_of_zero_le (show 0 ≤ c from h1)
  have hj : j < m.length := by have : (j : Int) < m.length := h2;omega
  obtain ⟨k, hkk⟩ := Int.eq_ofNat_of_zero_le (show 0 ≤ cP m[j]!.stk t from h4)
  obtain ⟨r, hr⟩ : ∃ r, r = eQ m[j]!.stk k false := ⟨_, rfl⟩
  have hto := y3 m j t r k m.length hm rfl hj hkk h3 hr
  have hog := iV (m := m) (j := j) (X := .own (0 + 1 + 3 + 3) 0 r.length 2) hj
  have hol := eT (m := m) (j := j) (X := .own (0 + 1 + 3 + 3) 0 r.length 2)
  (refine aT Tryz.func157 rfl (by simp [Tryz.ntmps157]) ?_; rw [Tryz.ntmps157])
  repeat' (first|(apply aM;first|((apply oQ (j := j));(case ha0 => rfl);(case hmc => exact tZ m j hm hj);(case hM|hN => rfl))|((apply u7 (m := m) (j := j) (t := t) (r := r) (n := m.length));(case ha0|ha1|ha2|hH0|hH1|hdd => rfl);(case hmc => exact hto);(case hM|hN => rfl))|(apply aE;rfl;rfl)|(first|(apply cV;(case hx|hH => rfl);(case hf|hg|hα => infer_instance);(case hk => omega);(case hc|hN => rfl))|(apply aK;rfl;rfl;rfl;rfl)|(apply aX;rfl;rfl;(exact (rfl:_=[_, _]));rfl;rfl;rfl))|(apply aD;rfl;rfl;rfl)|(apply aR;rfl;rfl;rfl;rfl)|(apply aC;rfl;rfl)|(apply cG;rfl;rfl;(assumption);rfl)|(apply aF;kernel_rfl)|(apply bW;rfl;rfl;rfl;rfl))|(apply aN;first|apply aH|apply aB|(apply bZ;kernel_rfl)|(apply cH;rfl;(rfl))|apply aS|apply aQ)|with_reducible apply aA)
  refine cC (Le.cls (o := 2) (q := 7) (j := j) (k := r.length) (m := m) (r := r) rfl rfl rfl hj (by decide)) ?_
  refine cC (Le.frzD (d := 4) (i := 2) rfl rfl) ?_
  rw [hog]
  refine aP (l := [.imm m.length (aI eC (m.set j { m[j]! with stk := r })), iv m[j]!.val, iv 0]) rfl ?_
  have eM : fL m ⟨j, t⟩ false = m.set j { m[j]! with stk := r } := by
   unfold fL iO;rw [if_pos hk]; dsimp only
   rw [Int.toNat_natCast, hkk, Int.toNat_natCast, hr]
  have eN : uK m ⟨j, t⟩ = m[j]!.val := by unfold uK;rw [if_pos hk]; rfl
  rw [eM, eN, hk, lS (by rw [List.length_set])]
  exact ⟨rfl, by (exact Pur.pf)⟩
 ·(refine aT Tryz.func157 rfl (by simp [Tryz.ntmps157]) ?_; rw [Tryz.ntmps157])
  repeat' (first|(apply aM;first|(apply hU;rfl;exact kC m hm;rfl;rfl)|((apply mH (m := m) (x := x) (wr := false) (n := m.length));(case ha0|ha1|ha2|hH0 => rfl);(case hmc => exact oT m x false _ hm rfl hk);(case hM|hN => rfl))|(apply aE;rfl;rfl)|(apply aX;rfl;rfl;(exact (rfl:_=[_, _]));rfl;rfl;rfl)|(apply aR;rfl;rfl;rfl;rfl)|(apply aC;rfl;rfl)|(apply aF;kernel_rfl)|(apply bW;rfl;rfl;rfl;rfl))|(apply aN;first|apply aH|apply aB|(apply aO;rfl;all_goals intro hc;have hq:=hc;(try simp only [cK] at hq);try exfalso;omega)|apply aQ)|with_reducible apply aA|with_reducible apply bJ)
  (refine cC (Le.frzD (d := 4) (i := 2) rfl rfl) ?_; refine aP rfl ?_)
  refine ⟨?_, by (exact Pur.pf)⟩
  simp only [bX]
  unfold fL uK;rw [if_neg hk, if_neg hk]
theorem AQ (m : List Cl) (hm : OkM m) (x : Pt) : PC Tryz.prog 191 [sl eC m, Gc x] (fun r => r = .tup [sl eC (jB m x), iv (cR m x true)]) := by
 have hml := hm.l
 by_cases hk : cR m x true = 0
 ·obtain ⟨c, t⟩ := x
  obtain ⟨h1, h2, h3, h4, hu⟩ := iZ hk
  obtain ⟨j, rfl⟩ := Int.eq_ofNat_of_zero_le (show 0 ≤ c from h1)
  have hj : j < m.length := by have : (j : Int) < m.length := h2;omega
  obtain ⟨k, hkk⟩ := Int.eq_ofNat_of_zero_le (show 0 ≤ cP m[j]!.stk t from h4)
  have huk : m[j]!.stk[k]!.uq = true := by
   have h : m[j]!.stk[(cP m[j]!.stk t).toNat]!.uq = true := hu rfl
   rwa [hkk, Int.toNat_natCast] at h
  have htw := tM m j t k m.length hm rfl hj hkk h3 huk
  have hrl : (m[j]!.stk.take (k + 1)).length = k + 1 := by
   have hb := e7 m[j]!.stk t
   rw [List.length_take]; omega
  have hol := eT (m := m) (j := j) (X := .own (0 + 1 + 2) 0 (k + 1) 2)
  have hls : (m.set j { m[j]! with alive := false }).length = m.length := List.length_set
  (refine aT Tryz.func191 rfl (by simp [Tryz.ntmps191]) ?_; rw [Tryz.ntmps191])
  repeat' (first|(apply aM;first|((apply oQ (j := j));(case ha0 => rfl);(case hmc => exact tZ m j hm hj);(case hM|hN => rfl))|((apply vQ (m := m) (j := j) (t := t) (k := k) (n := m.length));(case ha0|ha1|ha2|hH0|hH1|hdd => rfl);(case hmc => exact htw);(case hM|hN => rfl))|(apply aW;rfl;rfl;rfl;rfl;rfl;(rw [aU]; simp only [List.length_append, List.length_cons, List.length_nil]; omega);exact I2 hj)|(apply aE;rfl;rfl)|(first|(apply aK;rfl;rfl;rfl;rfl)|(apply aX;rfl;rfl;(exact (rfl:_=[_, _]));rfl;rfl;rfl))|(apply aD;rfl;rfl;rfl)|(apply aR;rfl;rfl;rfl;rfl)|(apply aC;rfl;rfl)|(apply cG;rfl;rfl;(assumption);rfl)|(apply aF;kernel_rfl)|(apply bW;rfl;rfl;rfl;rfl))|(apply aN;first|apply aH|apply aB|(apply b8;rfl;(rfl))|apply aQ)|with_reducible apply aA)
  refine cC (Le.cls (o := 2) (q := 3) (j := j) (k := k + 1) (m := m.set j { m[j]! with alive := false }) (r := m[j]!.stk.take (k + 1)) rfl rfl hrl.symm (by rw [hls]; exact hj) (by decide)) ?_
  refine cC (Le.frzD (d := 4) (i := 2) rfl rfl) ?_
  rw [rE hj, set_set]
  refine aP (l := [.imm m.length (aI eC (m.set j { m[j]! with alive := false, stk := m[j]!.stk.take (k + 1) })), iv 0]) rfl ?_
  have eM : jB m ⟨j, t⟩ = m.set j { m[j]! with alive := false, stk := m[j]!.stk.take (k + 1) } := by
   unfold jB iO;rw [if_pos hk]; dsimp only
   rw [Int.toNat_natCast, hkk, Int.toNat_natCast]; unfold eQ;rw [if_pos rfl]
  rw [eM, hk, lS (by rw [List.length_set])]
  exact ⟨rfl, by (exact Pur.pf)⟩
 ·(refine aT Tryz.func191 rfl (by simp [Tryz.ntmps191]) ?_; rw [Tryz.ntmps191])
  repeat' (first|(apply aM;first|(apply hU;rfl;exact kC m hm;rfl;rfl)|((apply mH (m := m) (x := x) (wr := true) (n := m.length));(case ha0|ha1|ha2|hH0 => rfl);(case hmc => exact oT m x true _ hm rfl hk);(case hM|hN => rfl))|(apply aE;rfl;rfl)|(apply aX;rfl;rfl;(exact (rfl:_=[_, _]));rfl;rfl;rfl)|(apply aR;rfl;rfl;rfl;rfl)|(apply aC;rfl;rfl)|(apply aF;kernel_rfl)|(apply bW;rfl;rfl;rfl;rfl))|(apply aN;first|apply aH|apply aB|(apply aO;rfl;all_goals intro hc;have hq:=hc;(try simp only [cK] at hq);try exfalso;omega)|apply aS|apply aQ)|with_reducible apply aA)
  (refine cC (Le.frzD (d := 4) (i := 2) rfl rfl) ?_; refine aP rfl ?_)
  refine ⟨?_, by (exact Pur.pf)⟩
  simp only [bX]
  unfold jB;rw [if_neg hk]
theorem yE (m : List Cl) (hm : OkM m) (x : Pt) (v : Int) : PC Tryz.prog 158 [sl eC m, Gc x, iv v] (fun r => r = .tup [sl eC (oZ m x v), iv (qP m x v)]) := by
 have hml := hm.l
 by_cases hv : 0 ≤ v ∧ v ≤ 9
 case neg =>
  have hwk : qP m x v = 4 := by unfold qP;rw [if_neg hv]
  have e : oZ m x v = m := by unfold oZ;rw [if_neg (by rw [hwk]; decide)]
  (refine aT Tryz.func158 rfl (by simp [Tryz.ntmps158]) ?_; rw [Tryz.ntmps158])
  repeat' (first|(apply aM;first|(apply hU;rfl;exact kC m hm;rfl;rfl)|(apply aE;rfl;rfl)|(apply aC;rfl;rfl)|((with_reducible apply aJ (k := 50));(case ha => rfl);(case h => (apply dO <;> (fail)));(case hp => (rfl));(case hN => rfl))|(apply aF;kernel_rfl)|(apply cQ;rfl;rfl)|(apply bW;rfl;rfl;rfl;rfl))|(apply aN;first|apply aH|apply aB|(apply aO;rfl;all_goals intro hc;have hq:=hc;(try simp only [cK] at hq);try exfalso;omega)|apply aQ)|with_reducible apply aA|with_reducible apply bJ)
  all_goals (try (exfalso;omega))
  all_goals (
   (refine cC (Le.frzD (d := 6) (i := 2) rfl rfl) ?_; refine aP rfl ?_)
   refine ⟨?_, by (exact Pur.pf)⟩
   simp only [bX]
   rw [e, hwk])
 case pos =>
 have hwk : qP m x v = cR m x true := by unfold qP;rw [if_pos hv]
 by_cases hk : cR m x true = 0
 ·obtain ⟨c, t⟩ := x
  obtain ⟨h1, h2, h3, h4, hu⟩ := iZ hk
  obtain ⟨j, rfl⟩ := Int.eq_ofNat_of_zero_le (show 0 ≤ c from h1)
  have hj : j < m.length := by have : (j : Int) < m.length := h2;omega
  obtain ⟨k, hkk⟩ := Int.eq_ofNat_of_zero_le (show 0 ≤ cP m[j]!.stk t from h4)
  have huk : m[j]!.stk[k]!.uq = true := by
   have h : m[j]!.stk[(cP m[j]!.stk t).toNat]!.uq = true := hu rfl
   rwa [hkk, Int.toNat_natCast] at h
  have htw := tM m j t k m.length hm rfl hj hkk h3 huk
  have hrl : (m[j]!.stk.take (k + 1)).length = k + 1 := by
   have hb := e7 m[j]!.stk t
   rw [List.length_take]; omega
  have hol := eT (m := m) (j := j) (X := .own (0 + 1 + 2) 0 (k + 1) 2)
  have hls : (m.set j { m[j]! with val := v }).length = m.length := List.length_set
  (refine aT Tryz.func158 rfl (by simp [Tryz.ntmps158]) ?_; rw [Tryz.ntmps158])
  repeat' (first|(apply aM;first|((apply oQ (j := j));(case ha0 => rfl);(case hmc => exact tZ m j hm hj);(case hM|hN => rfl))|((apply vQ (m := m) (j := j) (t := t) (k := k) (n := m.length));(case ha0|ha1|ha2|hH0|hH1|hdd => rfl);(case hmc => exact htw);(case hM|hN => rfl))|(apply aW;rfl;rfl;rfl;rfl;rfl;(rw [aU]; simp only [List.length_append, List.length_cons, List.length_nil]; omega);exact Hp hj)|(apply aE;rfl;rfl)|(first|(apply aK;rfl;rfl;rfl;rfl)|(apply aX;rfl;rfl;(exact (rfl:_=[_, _]));rfl;rfl;rfl))|(apply aD;rfl;rfl;rfl)|(apply aR;rfl;rfl;rfl;rfl)|(apply aC;rfl;rfl)|(apply cG;rfl;rfl;(assumption);rfl)|((with_reducible apply aJ (k := 50));(case ha => rfl);(case h => (apply dO <;> (fail)));(case hp => (rfl));(case hN => rfl))|(apply aF;kernel_rfl)|(apply cQ;rfl;rfl)|(apply bW;rfl;rfl;rfl;rfl))|(apply aN;first|apply aH|apply aB|(apply b8;rfl;(rfl))|(apply aO;rfl;all_goals intro hc;have hq:=hc;(try simp only [cK] at hq);try exfalso;omega)|apply aS|apply aQ)|with_reducible apply aA)
  refine cC (Le.cls (o := 2) (q := 3) (j := j) (k := k + 1) (m := m.set j { m[j]! with val := v }) (r := m[j]!.stk.take (k + 1)) rfl rfl hrl.symm (by rw [hls]; exact hj) (by decide)) ?_
  refine cC (Le.frzD (d := 6) (i := 2) rfl rfl) ?_
  rw [rE hj, set_set]
  refine aP (l := [.imm m.length (aI eC (m.set j { m[j]! with val := v, stk := m[j]!.stk.take (k + 1) })), iv 0]) rfl ?_
  have eM : oZ m ⟨j, t⟩ v = m.set j { m[j]! with val := v, stk := m[j]!.stk.take (k + 1) } := by
   unfold oZ iO;rw [hwk, if_pos hk]; dsimp only
   rw [Int.toNat_natCast, hkk, Int.toNat_natCast]; unfold eQ;rw [if_pos rfl]
  rw [eM, hwk, hk, lS (by rw [List.length_set])]
  exact ⟨rfl, by (exact Pur.pf)⟩
 ·(refine aT Tryz.func158 rfl (by simp [Tryz.ntmps158]) ?_; rw [Tryz.ntmps158])
  repeat' (first|(apply aM;first|(apply hU;rfl;exact kC m hm;rfl;rfl)|((apply mH (m := m) (x := x) (wr := true) (n := m.length));(case ha0|ha1|ha2|hH0 => rfl);(case hmc => exact oT m x true _ hm rfl hk);(case hM|hN => rfl))|(apply aE;rfl;rfl)|(apply aX;rfl;rfl;(exact (rfl:_=[_, _]));rfl;rfl;rfl)|(apply aR;rfl;rfl;rfl;rfl)|(apply aC;rfl;rfl)|((with_reducible apply aJ (k := 50));(case ha => rfl);(case h => (apply dO <;> (fail)));(case hp => (rfl));(case hN => rfl))|(apply aF;kernel_rfl)|(apply cQ;rfl;rfl)|(apply bW;rfl;rfl;rfl;rfl))|(apply aN;first|apply aH|apply aB|(apply aO;rfl;all_goals intro hc;have hq:=hc;(try simp only [cK] at hq);try exfalso;omega)|apply aS|apply aQ)|with_reducible apply aA)
  (refine cC (Le.frzD (d := 6) (i := 2) rfl rfl) ?_; refine aP rfl ?_)
  refine ⟨?_, by (exact Pur.pf)⟩
  simp only [bX]
  unfold oZ;rw [hwk, if_neg hk]
theorem Bn (m : List Cl) (hm : OkM m) (v : Int) : PC Tryz.prog 188 [sl eC m, iv v] (fun r => r = .tup [sl eC (m ++ [oY v]), .agg [iv m.length, iv 0]]) := by
 have hml := hm.l
 (refine aT Tryz.func188 rfl (by simp [Tryz.ntmps188]) ?_; rw [Tryz.ntmps188])
 repeat' (first|(apply aM;first|(apply hU;rfl;exact kC m hm;rfl;rfl)|(apply aE;rfl;rfl)|(apply aC;rfl;rfl)|(first|(apply a9;rfl;rfl;rfl)|(apply cF;rfl;rfl;rfl;rfl;rfl;(rw [aU]; omega);(rfl);omega;omega;(rfl);rfl;rfl))|(apply aF;kernel_rfl)|(apply b9;rfl;(first|exact (rfl:_=some [_, _])|exact (rfl:_=some [_, _, _, _]));(first|exact (rfl:_=[_, _])|exact (rfl:_=[_, _, _, _]));rfl)|(apply bH;rfl;rfl)|((apply bQ (t := _));(case hze|hsm|hl => rfl);(case hfl => (first|exact (rfl:_=some [_, _])|exact (rfl:_=some [_, _, _, _])));(case hM|hN => rfl))|(apply aW;rfl;rfl;rfl;rfl;rfl;(case hl => (simp;done));(exact (rfl:_=[_, _]))))|(apply aN;first|apply aH|apply aB|apply aQ)|with_reducible apply aA)
 have e2 : AV.imm (m.length + 1) (((aI eC m).drop 0).take (m.length * 4) ++ [iv v, bv true, iv 1, .imm 1 [iv 0, bv true]]) = sl eC (m ++ [oY v]) := by
  have e : ((aI eC m).drop 0).take (m.length * 4) ++ [iv v, bv true, iv 1, .imm 1 [iv 0, bv true]] = aI eC (m ++ [oY v]) := iC rfl rfl
  rw [e]; exact lS (by rw [List.length_append]; rfl)
 refine cC (Le.frzD (d := 4) (i := 5) rfl rfl) ?_
 refine aP (l := [AV.imm (m.length + 1) (((aI eC m).drop 0).take (m.length * 4) ++ [iv v, bv true, iv 1, .imm 1 [iv 0, bv true]]), .agg [iv m.length, iv 0]]) rfl ?_
 rw [e2]
 exact ⟨rfl, by (exact Pur.pf)⟩
theorem BV (m : List Cl) (hm : OkM m) (v : Int) : PC Tryz.prog 153 [sl eC m, iv v] (fun r => r = .tup (if 0 ≤ v ∧ v ≤ 9 ∧ m.length < 200 then [sl eC (m ++ [oY v]), .agg [iv m.length, iv 0], bv true] else [sl eC [], .agg [iv 0, iv 0], bv false])) := by
 have hml := hm.l
 have hcv := hO m hm
 have hnc := Bn m hm v
 (refine aT Tryz.func153 rfl (by simp [Tryz.ntmps153]) ?_; rw [Tryz.ntmps153])
 repeat' (first|(apply aM;first|((with_reducible apply aJ (k := 187));(case ha => rfl);(case h => exact hcv);(case hp => (exact Pur.pf));(case hN => rfl))|((with_reducible apply aJ (k := 188));(case ha => rfl);(case h => exact hnc);(case hp => (exact Pur.pf));(case hN => rfl))|(apply aE;rfl;rfl)|(apply aX;rfl;rfl;(exact (rfl:_=[_, _]));rfl;rfl;rfl)|(first|(apply bB;rfl;rfl;rfl;(first|rfl|assumption))|(apply bC;rfl;rfl;rfl;(assumption))|(apply bK;(case hj|hb|hN => rfl);all_goals (intro hg;have hq := hg;(try simp only [cK] at hq);(try (exfalso;omega)))))|(apply aR;rfl;rfl;rfl;rfl)|(apply aC;rfl;rfl)|(first|(apply bS;rfl;(assumption);rfl;rfl)|(apply bI;rfl;(first|rfl|assumption);rfl;rfl))|((with_reducible apply aJ (k := 50));(case ha => rfl);(case h => (apply dO <;> (fail)));(case hp => (rfl));(case hN => rfl))|(apply a9;rfl;rfl;rfl)|(apply aF;kernel_rfl)|(apply b9;rfl;(exact (rfl:_=some [_, _]));(exact (rfl:_=[_, _]));rfl)|(apply cQ;rfl;rfl)|(apply bH;rfl;rfl)|(apply cD;rfl;rfl;rfl)|(apply aW;rfl;rfl;rfl;rfl;rfl;(case hl => (first|decide|(simp;done)));(exact (rfl:_=[_, _]))))|(apply aN;first|apply aH|apply aB|(apply bZ;kernel_rfl)|(apply b8;rfl;(rfl))|(apply aO;rfl;all_goals intro hc;have hq:=hc;(try simp only [cK] at hq);try exfalso;omega)|apply aS|apply aQ)|with_reducible apply aA|with_reducible apply bJ)
 ·refine cC (Le.nilImm (d := 4) rfl) ?_
  exact aP (l := [sl eC [], .agg [iv 0, iv 0], bv false]) rfl ⟨by rw [if_neg (by omega)]; rfl, rfl⟩
 ·exact aP (l := [sl eC (m ++ [oY v]), .agg [iv m.length, iv 0], bv true]) rfl ⟨by rw [if_pos (by omega)]; rfl, by (exact Pur.pf)⟩
 ·refine cC (Le.nilImm (d := 4) rfl) ?_
  exact aP (l := [sl eC [], .agg [iv 0, iv 0], bv false]) rfl ⟨by rw [if_neg (by omega)]; rfl, rfl⟩
theorem D5 {m : List Cl} {j : Nat} {t : Int} {r : List Tg} {n : Nat} {N : Nat} {Q : Exit → AS → Prop} {all : Array Oper} {rest : List Oper} {tsl : List (Nat × AV)} {hsl : List (Nat × Option (List AV))} {nidl : Nat} {z0 : Lo} {md : Md} {d : Nat} {ty : TypeId} {pos : String} {af : Array Edge} {tys : Array TypeId} {x0 x1 x2 : Operand} {i0 i1 : Nat} (ha0 : ev (lk tsl) x0 = some (.own i0 0 n 4)) (ha1 : ev (lk tsl) x1 = some (.agg [iv (j : Int), iv t])) (ha2 : ev (lk tsl) x2 = some (bv true)) (hH0 : cE hsl i0 = some (aI gZ (e5 m j (.own i1 0 m[j]!.stk.length 2)))) (hH1 : cE hsl i1 = some (aI eF m[j]!.stk)) (hdd : Go.AL.distinct [i0, i1] = true) (hmc : MC Tryz.prog 190 [.own 0 0 n 4, .agg [iv (j : Int), iv t], bv true] [(0, some (aI gZ (e5 m j (.own 1 0 m[j]!.stk.length 2)))), (1, some (aI eF m[j]!.stk))] 2 (fun _ : Unit => True) (fun _ => iv 0) (fun _ => [(0, some (aI gZ (e5 m j (.own 1 0 r.length 2)))), (1, some (aI eF r))])) (hM : Nat.ble (nidl + 0) fD = true) (hN : Nat.blt d N = true) {md' : Md} [hmd : MdA md (gS [x0, x1, x2] ++ [.inr i0, .inr i1]) (List.map Sum.inr (List.map Prod.fst ([(i0, some (aI gZ (e5 m j (.own i1 0 r.length 2)))), (i1, some (aI eF r))] : List (Nat × Option (List AV)))) ++ [.inl d]) md'] (kk : RW Tryz.prog N all Q md' rest ⟨(d, iv 0) :: tsl, iK hsl [(i0, some (aI gZ (e5 m j (.own i1 0 r.length 2)))), (i1, some (aI eF r))], nidl + 0, z0⟩) : RW Tryz.prog N all Q md (⟨some d, .call ⟨.value (.func 190), #[x0, x1, x2], tys⟩, ty, pos, af, none⟩ :: rest) ⟨tsl, hsl, nidl, z0⟩ := by
 refine cJ [i0, i1] 2 [(i0, some (aI gZ (e5 m j (.own i1 0 r.length 2)))), (i1, some (aI eF r))] hmc (avs := [.own i0 0 n 4, .agg [iv (j : Int), iv t], bv true]) ?_ hdd ?_ rfl ?_ (by simpa using hM) ?_ ?_ ?_ hN (md' := md') (hmd := hmd) kk
 ·show evL (lk tsl) [x0, x1, x2] = _
  simp only [evL, ha0, ha1, ha2]
 ·exact ⟨⟨_, _, rfl, hH0, by (repeat' (exact nA rfl))⟩, ⟨⟨_, _, rfl, hH1, by (repeat' (exact RnL.purI inferInstance))⟩, trivial⟩⟩
 ·(repeat' (first|exact RnL.purI inferInstance|exact RnV.own rfl|refine RnL.cons ?_ ?_))
 ·(repeat' (exact RnV.purI inferInstance))
 ·simp [dQ]
 ·(repeat' (first|exact trivial|(refine And.intro ⟨0, _, rfl, rfl, ?_⟩ ?_)|(refine And.intro ⟨1, _, rfl, rfl, ?_⟩ ?_)|exact RnL.purI inferInstance|exact nA rfl))
theorem Fh (m : List Cl) (j : Nat) (t : Int) (r : List Tg) (k n : Nat) (hm : OkM m) (hn : n = m.length) (hj : j < m.length) (hk : cP m[j]!.stk t = (k : Int)) (hal : m[j]!.alive = true) (hu : m[j]!.stk[k]!.uq = true) (hre : m[j]!.stk.take (k + 1) = r) (hrk : k + 1 = r.length) : MC Tryz.prog 190 [.own 0 0 n 4, .agg [iv (j : Int), iv t], bv true] [(0, some (aI gZ (e5 m j (.own 1 0 m[j]!.stk.length 2)))), (1, some (aI eF m[j]!.stk))] 2 (fun _ : Unit => True) (fun _ => iv 0) (fun _ => [(0, some (aI gZ (e5 m j (.own 1 0 r.length 2)))), (1, some (aI eF r))]) := by
 have h := tM m j t k n hm hn hj hk hal hu
 rw [hre, hrk] at h
 exact h
theorem Hn (m : List Cl) (hm : OkM m) (j k : Nat) (t : Int) (r : List Tg) (hj : j < m.length) (hkk : cP m[j]!.stk t = (k : Int)) (hk : cR m ⟨(j : Int), t⟩ false = 0) (hr : r = eQ m[j]!.stk k false) : PC Tryz.prog 155 [sl eC m, .agg [iv (j : Int), iv t], bv false] (fun z => z = .tup [sl eC (nY m m j false r), Gc (qN m j r), iv (oS m j r)]) := by
 have hml := hm.l
 obtain ⟨h1, h2, h3, h4, hu⟩ := iZ hk
 have hc := ((jC m).1 hm).2 j hj
 have hb := e7 m[j]!.stk t
 have hrl : r.length ≤ 200 := by rw [hr]; exact Nat.le_trans tchS_sub.length_le hc.l.2
 have hnx := hc.n
 obtain ⟨_, e2, _⟩ := m7 hk (r := r) (by rw [hr]; show _ = eQ m[j]!.stk (cP m[j]!.stk t).toNat false;rw [hkk]; rfl)
 have e2' : m8 m ⟨(j : Int), t⟩ false = nY m m j false r := e2
 have hok := hm.ln ⟨(j : Int), t⟩ false
 rw [e2'] at hok
 have hto := y3 m j t r k m.length hm rfl hj hkk h3 hr
 have hog := iV (m := m) (j := j) (X := .own (0 + 1 + 1 + 3 + 3) 0 r.length 2) hj
 have hol := eT (m := m) (j := j) (X := .own (0 + 1 + 1 + 3 + 3) 0 r.length 2)
 have hol2 := eT (m := m) (j := j) (X := .own (0 + 1 + 1 + 3 + 4 + 1) 0 (r.length + 1) 2)
 have hm2 : (m.set j { m[j]! with next := m[j]!.next + 1 }).length = m.length := List.length_set
 (refine aT Tryz.func155 rfl (by simp [Tryz.ntmps155]) ?_; rw [Tryz.ntmps155])
 repeat' (first|(apply aM;first|((apply oQ (j := j));(case ha0 => rfl);(case hmc => exact tZ m j hm hj);(case hM|hN => rfl))|((apply u7 (m := m) (j := j) (t := t) (r := r) (n := m.length));(case ha0|ha1|ha2|hH0|hH1|hdd => rfl);(case hmc => exact hto);(case hM|hN => rfl))|(with_reducible apply dG (d := 32))|(apply aE;rfl;rfl)|(first|(apply cV;(case hx|hH => rfl);(case hf|hg|hα => infer_instance);(case hk => omega);(case hc|hN => rfl))|(apply aK;rfl;rfl;rfl;rfl)|(apply aX;rfl;rfl;(exact (rfl:_=[_, _]));rfl;rfl;rfl))|(apply aD;rfl;rfl;rfl)|(apply aR;rfl;rfl;rfl;rfl)|(apply aC;rfl;rfl)|(apply cG;rfl;rfl;(assumption);rfl)|(apply aF;kernel_rfl)|(apply bU;rfl;rfl;rfl)|(apply bW;rfl;rfl;rfl;rfl)|(apply bH;rfl;rfl))|(apply aN;first|apply aH|apply aB|(apply cH;rfl;(rfl))|apply aS)|with_reducible apply aA)
 refine fA ?_
 rw [hog]
 dsimp only
 by_cases hf : tH m j r
 ·have eM : nY m m j false r = m := by unfold nY; rw [if_pos hf]
  have eP : qN m j r = ⟨0, 0⟩ := by unfold qN;rw [if_pos hf]
  have eK : oS m j r = 4 := by unfold oS;rw [if_pos hf]
  rw [eM, eP, eK]
  unfold tH at hf
  repeat' (first|(apply aM;first|(apply hU;rfl;exact kC m hm;rfl;rfl)|(with_reducible apply dG (d := 44))|(apply aE;rfl;rfl)|(apply cV;(case hx|hH => rfl);(case hf|hg|hα => infer_instance);(case hk => omega);(case hc|hN => rfl))|(apply aD;rfl;rfl;rfl)|(first|(apply bB;rfl;rfl;rfl;(assumption))|(apply bC;rfl;rfl;rfl;(assumption))|(apply bK;(case hj|hb|hN => rfl);all_goals (intro hg;have hq := hg;(try simp only [cK] at hq);(try (exfalso;omega)))))|(apply aR;rfl;rfl;rfl;rfl)|(apply aC;rfl;rfl)|(first|(apply bS;rfl;(assumption);rfl;rfl)|(apply bI;rfl;(assumption);rfl;rfl))|(apply a9;rfl;rfl;rfl)|(apply aF;kernel_rfl)|(apply b9;rfl;(exact (rfl:_=some [_, _]));(exact (rfl:_=[_, _]));rfl)|(apply bU;rfl;rfl;rfl)|(apply aW;rfl;rfl;rfl;rfl;rfl;(decide);(exact (rfl:_=[_, _]))))|(apply aN;first|apply aH|apply aB|(apply b8;rfl;(rfl))|(apply aO;rfl;all_goals intro hc;have hq:=hc;(try simp only [cK] at hq);try exfalso;omega)|apply aS|apply aQ)|with_reducible apply aA|with_reducible apply bJ)
  ·refine cC (Le.frzD (d := 6) (i := 10) rfl rfl) ?_
   exact aP (l := [sl eC m, .agg [iv 0, iv 0], iv 4]) rfl ⟨rfl, by (exact Pur.pf)⟩
  ·exfalso
   have h : ¬ (e5 m j (.own (0 + 1 + 1 + 3 + 3) 0 r.length 2))[j]!.next = 1000 := by assumption
   rw [hog] at h
   dsimp only at h
   omega
  ·refine cC (Le.frzD (d := 6) (i := 10) rfl rfl) ?_
   exact aP (l := [sl eC m, .agg [iv 0, iv 0], iv 4]) rfl ⟨rfl, by (exact Pur.pf)⟩
 ·have eM : nY m m j false r = m.set j (psh { m[j]! with stk := r } false) := by unfold nY; rw [if_neg hf]
  have eP : qN m j r = ⟨j, m[j]!.next⟩ := by unfold qN;rw [if_neg hf]
  have eK : oS m j r = 0 := by unfold oS;rw [if_neg hf]
  rw [eM] at hok
  rw [eM, eP, eK]
  unfold tH at hf
  have hown := kC _ hok
  repeat' (first|(apply aM;first|(with_reducible apply dG (d := 41))|(with_reducible apply dG (d := 54))|(apply aE;rfl;rfl)|(apply cV;(case hx|hH => rfl);(case hf|hg|hα => infer_instance);(case hk => omega);(case hc|hN => rfl))|(apply aD;rfl;rfl;rfl)|(first|(apply bB;rfl;rfl;rfl;(assumption))|(apply bK;(case hj|hb|hN => rfl);all_goals (intro hg;have hq := hg;(try simp only [cK] at hq);(try (exfalso;omega)))))|(apply aR;rfl;rfl;rfl;rfl)|(apply aC;rfl;rfl)|(apply bI;rfl;(assumption);rfl;rfl)|(apply a9;rfl;rfl;rfl)|(apply aF;kernel_rfl)|(apply bU;rfl;rfl;rfl))|(apply aN;first|apply aH|apply aB|(apply aO;rfl;all_goals intro hc;have hq:=hc;(try simp only [cK] at hq);try exfalso;omega)|apply aS)|with_reducible apply aA)
  ·exfalso
   have h : (e5 m j (.own (0 + 1 + 1 + 3 + 3) 0 r.length 2))[j]!.next = 1000 := by assumption
   rw [hog] at h
   dsimp only at h
   omega
  ·refine fA ?_
   rw [hog]
   dsimp only
   repeat' (first|(apply aM;first|(apply aW;rfl;rfl;rfl;rfl;rfl;(rw [aU, eT]; simp only [List.length_append, List.length_cons, List.length_nil]; omega);(first|exact xW hj|exact CX hj))|(apply aE;rfl;rfl)|(apply aD;rfl;rfl;rfl)|(apply bR;rfl;rfl;omega;rfl)|(apply cF;rfl;rfl;rfl;rfl;rfl;(rw [aU]; omega);(rfl);omega;omega;(exact G1 (by (omega)));rfl;rfl)|(apply aF;kernel_rfl)|(apply b9;rfl;(exact (rfl:_=some [_, _]));(exact (rfl:_=[_, _]));rfl)|(apply bU;rfl;rfl;rfl)|((apply bQ (t := _));(case hze|hsm|hl => rfl);(case hfl => (exact (rfl:_=some [_, _])));(case hM|hN => rfl)))|(apply aN;(apply aH))|with_reducible apply aA)
   refine AW.le ?_ (Le.cls (o := 3) (q := 0 + 1 + 1 + 3 + 4 + 1) (j := j) (k := r.length + 1) (m := m.set j { m[j]! with next := m[j]!.next + 1 }) (r := r ++ [⟨m[j]!.next, false⟩]) rfl rfl (by (rw [List.length_append]; rfl)) (by omega) (by decide))
   refine AW.le ?_ (Le.frzD (d := 9) (i := 3) rfl rfl)
   have e : (m.set j { m[j]! with next := m[j]!.next + 1 }).set j { (m.set j { m[j]! with next := m[j]!.next + 1 })[j]! with stk := r ++ [⟨m[j]!.next, false⟩] } = m.set j (psh { m[j]! with stk := r } false) := by
    rw [rE hj, set_set]; rfl
   rw [e, lS (f := eC) (xs := m.set j (psh { m[j]! with stk := r } false)) (by rw [List.length_set])]
   repeat' (first|(apply aM;first|(apply hU;rfl;exact hown;rfl;rfl)|(apply aE;rfl;rfl)|(apply aK;rfl;rfl;rfl;rfl)|(apply aD;rfl;rfl;rfl)|(apply aC;rfl;rfl)|(apply aF;kernel_rfl)|(apply b9;rfl;(exact (rfl:_=some [_, _]));(exact (rfl:_=[_, _]));rfl)|(apply aW;rfl;rfl;rfl;rfl;rfl;(case hl => (simp;done));(exact (rfl:_=[_, _]))))|(apply aN;first|(apply bZ;kernel_rfl)|apply aQ)|with_reducible apply aA)
   refine cC (Le.frzD (d := 6) (i := 12) rfl rfl) ?_
   exact aP (l := [sl eC (m.set j (psh { m[j]! with stk := r } false)), .agg [iv (j : Int), iv m[j]!.next], iv 0]) rfl ⟨rfl, by (exact Pur.pf)⟩
  all_goals (exfalso;omega)
theorem Ik (m : List Cl) (hm : OkM m) (j k : Nat) (t : Int) (r : List Tg) (hj : j < m.length) (hkk : cP m[j]!.stk t = (k : Int)) (hk : cR m ⟨(j : Int), t⟩ true = 0) (hr : r = eQ m[j]!.stk k true) : PC Tryz.prog 155 [sl eC m, .agg [iv (j : Int), iv t], bv true] (fun z => z = .tup [sl eC (nY m m j true r), Gc (qN m j r), iv (oS m j r)]) := by
 have hml := hm.l
 obtain ⟨h1, h2, h3, h4, hu⟩ := iZ hk
 have hc := ((jC m).1 hm).2 j hj
 have hb := e7 m[j]!.stk t
 have hrl : r.length ≤ 200 := by rw [hr]; exact Nat.le_trans tchS_sub.length_le hc.l.2
 have hnx := hc.n
 obtain ⟨_, e2, _⟩ := m7 hk (r := r) (by rw [hr]; show _ = eQ m[j]!.stk (cP m[j]!.stk t).toNat true;rw [hkk]; rfl)
 have e2' : m8 m ⟨(j : Int), t⟩ true = nY m m j true r := e2
 have hok := hm.ln ⟨(j : Int), t⟩ true
 rw [e2'] at hok
 have huk : m[j]!.stk[k]!.uq = true := by
  have h : m[j]!.stk[(cP m[j]!.stk t).toNat]!.uq = true := hu rfl
  rwa [hkk, Int.toNat_natCast] at h
 have hre : m[j]!.stk.take (k + 1) = r := by rw [hr]; unfold eQ;rw [if_pos rfl]
 have hrk : k + 1 = r.length := by rw [← hre, List.length_take]; omega
 have hto := Fh m j t r k m.length hm rfl hj hkk h3 huk hre hrk
 clear hre hrk huk hu hr hkk
 have hog := iV (m := m) (j := j) (X := .own (0 + 1 + 1 + 2) 0 r.length 2) hj
 have hol := eT (m := m) (j := j) (X := .own (0 + 1 + 1 + 2) 0 r.length 2)
 have hol2 := eT (m := m) (j := j) (X := .own (0 + 1 + 1 + 3 + 0 + 1) 0 (r.length + 1) 2)
 have hm2 : (m.set j { m[j]! with next := m[j]!.next + 1 }).length = m.length := List.length_set
 (refine aT Tryz.func155 rfl (by simp [Tryz.ntmps155]) ?_; rw [Tryz.ntmps155])
 repeat' (first|(apply aM;first|((apply oQ (j := j));(case ha0 => rfl);(case hmc => exact tZ m j hm hj);(case hM|hN => rfl))|((apply D5 (m := m) (j := j) (t := t) (r := r) (n := m.length));(case ha0|ha1|ha2|hH0|hH1|hdd => rfl);(case hmc => exact hto);(case hM|hN => rfl))|(with_reducible apply dG (d := 32))|(apply aE;rfl;rfl)|(first|(apply cV;(case hx|hH => rfl);(case hf|hg|hα => infer_instance);(case hk => omega);(case hc|hN => rfl))|(apply aK;rfl;rfl;rfl;rfl)|(apply aX;rfl;rfl;(exact (rfl:_=[_, _]));rfl;rfl;rfl))|(apply aD;rfl;rfl;rfl)|(apply aR;rfl;rfl;rfl;rfl)|(apply aC;rfl;rfl)|(apply cG;rfl;rfl;(assumption);rfl)|(apply aF;kernel_rfl)|(apply bU;rfl;rfl;rfl)|(apply bW;rfl;rfl;rfl;rfl)|(apply bH;rfl;rfl))|(apply aN;first|apply aH|apply aB|(apply cH;rfl;(rfl))|apply aS)|with_reducible apply aA)
 refine fA ?_
 rw [hog]
 dsimp only
 by_cases hf : tH m j r
 ·have eM : nY m m j true r = m := by unfold nY; rw [if_pos hf]
  have eP : qN m j r = ⟨0, 0⟩ := by unfold qN;rw [if_pos hf]
  have eK : oS m j r = 4 := by unfold oS;rw [if_pos hf]
  rw [eM, eP, eK]
  unfold tH at hf
  repeat' (first|(apply aM;first|(apply hU;rfl;exact kC m hm;rfl;rfl)|(with_reducible apply dG (d := 44))|(apply aE;rfl;rfl)|(apply cV;(case hx|hH => rfl);(case hf|hg|hα => infer_instance);(case hk => omega);(case hc|hN => rfl))|(apply aD;rfl;rfl;rfl)|(first|(apply bB;rfl;rfl;rfl;(assumption))|(apply bC;rfl;rfl;rfl;(assumption))|(apply bK;(case hj|hb|hN => rfl);all_goals (intro hg;have hq := hg;(try simp only [cK] at hq);(try (exfalso;omega)))))|(apply aR;rfl;rfl;rfl;rfl)|(apply aC;rfl;rfl)|(first|(apply bS;rfl;(assumption);rfl;rfl)|(apply bI;rfl;(assumption);rfl;rfl))|(apply a9;rfl;rfl;rfl)|(apply aF;kernel_rfl)|(apply b9;rfl;(exact (rfl:_=some [_, _]));(exact (rfl:_=[_, _]));rfl)|(apply bU;rfl;rfl;rfl)|(apply aW;rfl;rfl;rfl;rfl;rfl;(decide);(exact (rfl:_=[_, _]))))|(apply aN;first|apply aH|apply aB|(apply b8;rfl;(rfl))|(apply aO;rfl;all_goals intro hc;have hq:=hc;(try simp only [cK] at hq);try exfalso;omega)|apply aS|apply aQ)|with_reducible apply aA|with_reducible apply bJ)
  ·refine cC (Le.frzD (d := 6) (i := 6) rfl rfl) ?_
   exact aP (l := [sl eC m, .agg [iv 0, iv 0], iv 4]) rfl ⟨rfl, by (exact Pur.pf)⟩
  ·exfalso
   have h : ¬ (e5 m j (.own (0 + 1 + 1 + 2) 0 r.length 2))[j]!.next = 1000 := by assumption
   rw [hog] at h
   dsimp only at h
   omega
  ·refine cC (Le.frzD (d := 6) (i := 6) rfl rfl) ?_
   exact aP (l := [sl eC m, .agg [iv 0, iv 0], iv 4]) rfl ⟨rfl, by (exact Pur.pf)⟩
 ·have eM : nY m m j true r = m.set j (psh { m[j]! with stk := r } true) := by unfold nY; rw [if_neg hf]
  have eP : qN m j r = ⟨j, m[j]!.next⟩ := by unfold qN;rw [if_neg hf]
  have eK : oS m j r = 0 := by unfold oS;rw [if_neg hf]
  rw [eM] at hok
  rw [eM, eP, eK]
  unfold tH at hf
  have hown := kC _ hok
  repeat' (first|(apply aM;first|(with_reducible apply dG (d := 41))|(with_reducible apply dG (d := 54))|(apply aE;rfl;rfl)|(apply cV;(case hx|hH => rfl);(case hf|hg|hα => infer_instance);(case hk => omega);(case hc|hN => rfl))|(apply aD;rfl;rfl;rfl)|(first|(apply bB;rfl;rfl;rfl;(assumption))|(apply bK;(case hj|hb|hN => rfl);all_goals (intro hg;have hq := hg;(try simp only [cK] at hq);(try (exfalso;omega)))))|(apply aR;rfl;rfl;rfl;rfl)|(apply aC;rfl;rfl)|(apply bI;rfl;(assumption);rfl;rfl)|(apply a9;rfl;rfl;rfl)|(apply aF;kernel_rfl)|(apply bU;rfl;rfl;rfl))|(apply aN;first|apply aH|apply aB|(apply aO;rfl;all_goals intro hc;have hq:=hc;(try simp only [cK] at hq);try exfalso;omega)|apply aS)|with_reducible apply aA)
  ·exfalso
   have h : (e5 m j (.own (0 + 1 + 1 + 2) 0 r.length 2))[j]!.next = 1000 := by assumption
   rw [hog] at h
   dsimp only at h
   omega
  ·refine fA ?_
   rw [hog]
   dsimp only
   repeat' (first|(apply aM;first|(apply aW;rfl;rfl;rfl;rfl;rfl;(rw [aU, eT]; simp only [List.length_append, List.length_cons, List.length_nil]; omega);(first|exact xW hj|exact CX hj))|(apply aE;rfl;rfl)|(apply aD;rfl;rfl;rfl)|(apply bR;rfl;rfl;omega;rfl)|(apply cF;rfl;rfl;rfl;rfl;rfl;(rw [aU]; omega);(rfl);omega;omega;(exact G1 (by (omega)));rfl;rfl)|(apply aF;kernel_rfl)|(apply b9;rfl;(exact (rfl:_=some [_, _]));(exact (rfl:_=[_, _]));rfl)|(apply bU;rfl;rfl;rfl)|((apply bQ (t := _));(case hze|hsm|hl => rfl);(case hfl => (exact (rfl:_=some [_, _])));(case hM|hN => rfl)))|(apply aN;(apply aH))|with_reducible apply aA)
   refine AW.le ?_ (Le.cls (o := 3) (q := 0 + 1 + 1 + 3 + 0 + 1) (j := j) (k := r.length + 1) (m := m.set j { m[j]! with next := m[j]!.next + 1 }) (r := r ++ [⟨m[j]!.next, true⟩]) rfl rfl (by (rw [List.length_append]; rfl)) (by omega) (by decide))
   refine AW.le ?_ (Le.frzD (d := 9) (i := 3) rfl rfl)
   have e : (m.set j { m[j]! with next := m[j]!.next + 1 }).set j { (m.set j { m[j]! with next := m[j]!.next + 1 })[j]! with stk := r ++ [⟨m[j]!.next, true⟩] } = m.set j (psh { m[j]! with stk := r } true) := by
    rw [rE hj, set_set]; rfl
   rw [e, lS (f := eC) (xs := m.set j (psh { m[j]! with stk := r } true)) (by rw [List.length_set])]
   repeat' (first|(apply aM;first|(apply hU;rfl;exact hown;rfl;rfl)|(apply aE;rfl;rfl)|(apply aK;rfl;rfl;rfl;rfl)|(apply aD;rfl;rfl;rfl)|(apply aC;rfl;rfl)|(apply aF;kernel_rfl)|(apply b9;rfl;(exact (rfl:_=some [_, _]));(exact (rfl:_=[_, _]));rfl)|(apply aW;rfl;rfl;rfl;rfl;rfl;(case hl => (simp;done));(exact (rfl:_=[_, _]))))|(apply aN;first|(apply bZ;kernel_rfl)|apply aQ)|with_reducible apply aA)
   refine cC (Le.frzD (d := 6) (i := 8) rfl rfl) ?_
   exact aP (l := [sl eC (m.set j (psh { m[j]! with stk := r } true)), .agg [iv (j : Int), iv m[j]!.next], iv 0]) rfl ⟨rfl, by (exact Pur.pf)⟩
  all_goals (exfalso;omega)
theorem I7 (m : List Cl) (hm : OkM m) (x : Pt) (u : Bool) : PC Tryz.prog 155 [sl eC m, Gc x, bv u] (fun r => r = .tup [sl eC (m8 m x u), Gc (zW m x u), iv (qI m x u)]) := by
 have hml := hm.l
 by_cases hk : cR m x u = 0
 ·obtain ⟨c, t⟩ := x
  obtain ⟨h1, h2, h3, h4, hu⟩ := iZ hk
  obtain ⟨j, rfl⟩ := Int.eq_ofNat_of_zero_le (show 0 ≤ c from h1)
  have hj : j < m.length := by have : (j : Int) < m.length := h2;omega
  obtain ⟨k, hkk⟩ := Int.eq_ofNat_of_zero_le (show 0 ≤ cP m[j]!.stk t from h4)
  obtain ⟨r, hr⟩ : ∃ r, r = eQ m[j]!.stk k u := ⟨_, rfl⟩
  obtain ⟨e1, e2, e3⟩ := m7 hk (r := r) (by rw [hr]; show _ = eQ m[j]!.stk (cP m[j]!.stk t).toNat u;rw [hkk]; rfl)
  rw [e1, e2, e3]
  cases u
  ·exact Hn m hm j k t r hj hkk hk hr
  ·exact Ik m hm j k t r hj hkk hk hr
 ·obtain ⟨e1, e2, e3⟩ := K4 hk
  rw [e1, e2, e3]
  (refine aT Tryz.func155 rfl (by simp [Tryz.ntmps155]) ?_; rw [Tryz.ntmps155])
  repeat' (first|(apply aM;first|(apply hU;rfl;exact kC m hm;rfl;rfl)|((apply mH (m := m) (x := x) (wr := u) (n := m.length));(case ha0|ha1|ha2|hH0 => rfl);(case hmc => exact oT m x u _ hm rfl hk);(case hM|hN => rfl))|(apply aE;rfl;rfl)|(apply aX;rfl;rfl;(exact (rfl:_=[_, _]));rfl;rfl;rfl)|(apply aR;rfl;rfl;rfl;rfl)|(apply aC;rfl;rfl)|(apply aF;kernel_rfl)|(apply b9;rfl;(exact (rfl:_=some [_, _]));(exact (rfl:_=[_, _]));rfl)|(apply bW;rfl;rfl;rfl;rfl)|(apply bH;rfl;rfl)|(apply aW;rfl;rfl;rfl;rfl;rfl;(decide);(exact (rfl:_=[_, _]))))|(apply aN;first|apply aH|apply aB|(apply aO;rfl;all_goals intro hc;have hq:=hc;(try simp only [cK] at hq);try exfalso;omega)|apply aQ)|with_reducible apply aA|with_reducible apply bJ)
  refine cC (Le.frzD (d := 6) (i := 3) rfl rfl) ?_
  exact aP (l := [sl eC m, .agg [iv 0, iv 0], iv (cR m x u)]) rfl ⟨rfl, by (exact Pur.pf)⟩
abbrev mO (ts : List Int) (bd : List AL.Stmt) (pts : List Pnt) (i1 i2 : Nat) (s : Mc) : List AV := [aG ts bd pts, .own i1 0 ts.length 4, sl eC s.cells, .own i2 0 s.read.length 1]
theorem zX {ts : List Int} {bd : List AL.Stmt} {pts : List Pnt} {s : Mc} {v : Nat} {N : Nat} {Q : Exit → AS → Prop} {all : Array Oper} {rest : List Oper} {tsl : List (Nat × AV)} {hsl : List (Nat × Option (List AV))} {nidl : Nat} {z0 : Lo} {md : Md} {d : Nat} {ty : TypeId} {pos : String} {af : Array Edge} {tys : Array TypeId} {x0 x1 : Operand} {i0 i1 i2 : Nat} (ha0 : ev (lk tsl) x0 = some (.optr i0 0)) (ha1 : ev (lk tsl) x1 = some (iv (v : Int))) (hH0 : cE hsl i0 = some (mO ts bd pts i1 i2 s)) (hH1 : cE hsl i1 = some (aI eV s.slots)) (hH2 : cE hsl i2 = some (aI cI s.read)) (hdd : Go.AL.distinct [i0, i1, i2] = true) (hmc : MC Tryz.prog 159 [.optr 0 0, iv (v : Int)] [(0, some (mO ts bd pts 1 2 s)), (1, some (aI eV s.slots)), (2, some (aI cI s.read))] 3 (fun _ : Unit => True) (fun _ => iv (lL (cR s.cells s.slots[v]!.ptr true))) (fun _ => [(0, some ([aG ts bd pts, .own 1 0 ts.length 4, sl eC (jB s.cells s.slots[v]!.ptr), .own 2 0 s.read.length 1])), (1, some (aI eV s.slots)), (2, some (aI cI s.read))])) (hM : Nat.ble (nidl + 0) fD = true) (hN : Nat.blt d N = true) {md' : Md} [hmd : MdA md (gS [x0, x1] ++ [.inr i0, .inr i1, .inr i2]) (List.map Sum.inr (List.map Prod.fst ([(i0, some ([aG ts bd pts, .own i1 0 ts.length 4, sl eC (jB s.cells s.slots[v]!.ptr), .own i2 0 s.read.length 1])), (i1, some (aI eV s.slots)), (i2, some (aI cI s.read))] : List (Nat × Option (List AV)))) ++ [.inl d]) md'] (kk : RW Tryz.prog N all Q md' rest ⟨(d, iv (lL (cR s.cells s.slots[v]!.ptr true))) :: tsl, iK hsl [(i0, some ([aG ts bd pts, .own i1 0 ts.length 4, sl eC (jB s.cells s.slots[v]!.ptr), .own i2 0 s.read.length 1])), (i1, some (aI eV s.slots)), (i2, some (aI cI s.read))], nidl + 0, z0⟩) : RW Tryz.prog N all Q md (⟨some d, .call ⟨.value (.func 159), #[x0, x1], tys⟩, ty, pos, af, none⟩ :: rest) ⟨tsl, hsl, nidl, z0⟩ := by
 refine cJ [i0, i1, i2] 3 [(i0, some ([aG ts bd pts, .own i1 0 ts.length 4, sl eC (jB s.cells s.slots[v]!.ptr), .own i2 0 s.read.length 1])), (i1, some (aI eV s.slots)), (i2, some (aI cI s.read))] hmc (avs := [.optr i0 0, iv (v : Int)]) ?_ hdd ?_ rfl ?_ (by simpa using hM) ?_ ?_ ?_ hN (md' := md') (hmd := hmd) kk
 ·show evL (lk tsl) [x0, x1] = _
  simp only [evL, ha0, ha1]
 ·exact ⟨⟨_, _, rfl, hH0, by (repeat' (first|exact RnL.purI inferInstance|exact RnV.purI inferInstance|exact RnV.own rfl|refine RnL.cons ?_ ?_))⟩, ⟨⟨_, _, rfl, hH1, by (repeat' (exact RnL.purI inferInstance))⟩, ⟨⟨_, _, rfl, hH2, by (repeat' (exact RnL.purI inferInstance))⟩, trivial⟩⟩⟩
 ·(repeat' (first|exact RnL.purI inferInstance|exact RnV.optr rfl|refine RnL.cons ?_ ?_))
 ·(repeat' (exact RnV.purI inferInstance))
 ·simp [dQ]
 ·(repeat' (first|exact trivial|(refine And.intro ⟨0, _, rfl, rfl, ?_⟩ ?_)|(refine And.intro ⟨1, _, rfl, rfl, ?_⟩ ?_)|(refine And.intro ⟨2, _, rfl, rfl, ?_⟩ ?_)|exact RnL.purI inferInstance|exact RnV.purI inferInstance|exact RnV.own rfl|refine RnL.cons ?_ ?_))
theorem wZ (ts : List Int) (bd : List AL.Stmt) (pts : List Pnt) (s : Mc) (v : Nat) (hm : OkM s.cells) (hsl : s.slots.length = ts.length) (hv : v < ts.length) : MC Tryz.prog 159 [.optr 0 0, iv (v : Int)] [(0, some (mO ts bd pts 1 2 s)), (1, some (aI eV s.slots)), (2, some (aI cI s.read))] 3 (fun _ : Unit => True) (fun _ => iv (lL (cR s.cells s.slots[v]!.ptr true))) (fun _ => [(0, some ([aG ts bd pts, .own 1 0 ts.length 4, sl eC (jB s.cells s.slots[v]!.ptr), .own 2 0 s.read.length 1])), (1, some (aI eV s.slots)), (2, some (aI cI s.read))]) := by
 have hfc := AQ s.cells hm s.slots[v]!.ptr
 (refine b0 Tryz.func159 rfl (by simp [Tryz.ntmps159]) ?_; rw [Tryz.ntmps159])
 repeat' (first|(apply aM;first|(apply jI;(case hx|hH => rfl);(case hf|hg|hα => infer_instance);(case hk => omega);(case hj => decide);(case hc => exact (rfl:_=[_, _]));(case h0|hN => rfl))|((with_reducible apply aJ (k := 191));(case ha => rfl);(case h => exact hfc);(case hp => (exact Pur.pf));(case hN => rfl))|(apply aE;rfl;rfl)|(apply aK;rfl;rfl;rfl;rfl)|(apply aD;rfl;rfl;rfl)|(apply aR;rfl;rfl;rfl;rfl)|(apply aC;rfl;rfl)|(apply cG;rfl;rfl;(assumption);rfl)|((with_reducible apply aJ (k := 156));(case ha => rfl);(case h => (apply rP <;> (fail)));(case hp => (rfl));(case hN => rfl))|(apply aF;kernel_rfl)|(apply bU;rfl;rfl;rfl)|(apply cD;rfl;rfl;rfl)|(apply aW;rfl;rfl;rfl;rfl;rfl;(case hl => (simp;done));(exact (rfl:_=[_, _, _, _]))))|(apply aN;first|apply aH|apply aB|(apply bZ;kernel_rfl)|(apply aO;rfl;all_goals intro hc;have hq:=hc;(try simp only [cK] at hq);try exfalso;omega)|apply aS|apply aQ)|with_reducible apply aA|with_reducible apply bJ)
 ·have hk : ¬ cR s.cells s.slots[v]!.ptr true = 0 := by assumption
  (refine aP rfl ?_; refine bV () trivial ?_ ⟨.inr (Eq.trans (b := some _) rfl ?_), ⟨.inr (Eq.trans (b := some _) rfl ?_), ⟨.inr (Eq.trans (b := some _) rfl ?_), trivial⟩⟩⟩)
  ·show iv (iX _) = iv (lL _)
   unfold lL;rw [if_neg hk]
  ·rfl
  ·rfl
  ·rfl
 ·have hk : cR s.cells s.slots[v]!.ptr true = 0 := by assumption
  (refine aP rfl ?_; refine bV () trivial ?_ ⟨.inr (Eq.trans (b := some _) rfl ?_), ⟨.inr (Eq.trans (b := some _) rfl ?_), ⟨.inr (Eq.trans (b := some _) rfl ?_), trivial⟩⟩⟩)
  ·rw [hk]; rfl
  ·rfl
  ·rfl
  ·rfl
theorem JF (ts : List Int) (bd : List AL.Stmt) (pts : List Pnt) (s : Mc) (v : Nat) (y : Sl) (hm : OkM s.cells) (hsl : s.slots.length = ts.length) (hv : v < ts.length) : MC Tryz.prog 152 [.optr 0 0, iv (v : Int), L6 y] [(0, some (mO ts bd pts 1 2 s)), (1, some (aI eV s.slots)), (2, some (aI cI s.read))] 3 (fun _ : Unit => True) (fun _ => iv (dM ts s v y).2) (fun _ => [(0, some (mO ts bd pts 1 2 (dM ts s v y).1)), (1, some (aI eV (dM ts s v y).1.slots)), (2, some (aI cI (dM ts s v y).1.read))]) := by
 have hfr := wZ ts bd pts s v hm hsl hv
 (refine b0 Tryz.func152 rfl (by simp [Tryz.ntmps152]) ?_; rw [Tryz.ntmps152])
 repeat' (first|(apply aM;first|((apply zX (ts := ts) (bd := bd) (pts := pts) (s := s) (v := v));(case ha0|ha1|hH0|hH1|hH2|hdd => rfl);(case hmc => exact hfr);(case hM|hN => rfl))|(apply aE;rfl;rfl)|(first|(apply cV;(case hx|hH => rfl);(case hf|hg|hα => infer_instance);(case hk => omega);(case hc|hN => rfl))|(apply aK;rfl;rfl;rfl;rfl)|(apply aX;rfl;rfl;(exact (rfl:_=[_, _, _, _]));rfl;rfl;rfl))|(apply aD;rfl;rfl;rfl)|(first|(apply bB;rfl;rfl;rfl;(assumption))|(apply bC;rfl;rfl;rfl;(assumption))|(apply bK;(case hj|hb|hN => rfl);all_goals (intro hg;have hq := hg;(try simp only [cK] at hq);(try (exfalso;omega)))))|(apply aR;rfl;rfl;rfl;rfl)|(apply aC;rfl;rfl)|(first|(apply bS;rfl;(assumption);rfl;rfl)|(apply bI;rfl;(assumption);rfl;rfl))|(first|(apply a6;(case hx|hi => rfl);(case hm => (assumption));(case hml => (rfl));(case hα | hf|hg => infer_instance);(case hN => rfl))|(apply cG;rfl;rfl;(assumption);rfl))|(apply aF;kernel_rfl)|(apply bU;rfl;rfl;rfl)|(apply bW;rfl;rfl;rfl;rfl)|(apply aW;rfl;rfl;rfl;rfl;rfl;(rw [aU]; simp only [hZ] <;> omega);(exact C1 (by (omega)))))|(apply aN;first|apply aH|apply aB|(apply bZ;kernel_rfl)|(apply cH;rfl;(rfl))|(apply aO;rfl;all_goals intro hc;have hq:=hc;(try simp only [cK] at hq);try exfalso;omega)|apply aS|apply aQ)|with_reducible apply aA)
 ·have hp : dM ts s v y = (⟨s.slots.set v y, jB s.cells s.slots[v]!.ptr, s.read⟩, lL (cR s.cells s.slots[v]!.ptr true)) := if_pos ⟨by assumption, by assumption⟩
  rw [hp]
  (refine aP rfl ?_; refine bV () trivial ?_ ⟨.inr (Eq.trans (b := some _) rfl ?_), ⟨.inr (Eq.trans (b := some _) rfl ?_), ⟨.inr (Eq.trans (b := some _) rfl ?_), trivial⟩⟩⟩)
  ·rfl
  ·rfl
  ·rfl
  ·rfl
 all_goals (
  have hp : dM ts s v y = (⟨s.slots.set v y, s.cells, s.read⟩, -1) := if_neg (by
   rintro ⟨q1, q2⟩
   first|(exact (by assumption : ¬ ts[v]! = 2) q1)|(rw [(by assumption : s.slots[v]!.set = false)] at q2;exact absurd q2 (by decide)))
  rw [hp]
  (refine aP rfl ?_; refine bV () trivial ?_ ⟨.inr (Eq.trans (b := some _) rfl ?_), ⟨.inr (Eq.trans (b := some _) rfl ?_), ⟨.inr (Eq.trans (b := some _) rfl ?_), trivial⟩⟩⟩)
  ·rfl
  ·rfl
  ·rfl
  ·rfl)
theorem HK {ts : List Int} {bd : List AL.Stmt} {pts : List Pnt} {s : Mc} {N : Nat} {Q : Exit → AS → Prop} {all : Array Oper} {rest : List Oper} {tsl : List (Nat × AV)} {hsl : List (Nat × Option (List AV))} {nidl : Nat} {z0 : Lo} {md : Md} {d : Nat} {ty : TypeId} {pos : String} {af : Array Edge} {tys : Array TypeId} {x0 : Operand} {i0 i1 i2 : Nat} (ha0 : ev (lk tsl) x0 = some (.optr i0 0)) (hH0 : cE hsl i0 = some (mO ts bd pts i1 i2 s)) (hH1 : cE hsl i1 = some (aI eV s.slots)) (hH2 : cE hsl i2 = some (aI cI s.read)) (hdd : Go.AL.distinct [i0, i1, i2] = true) (hmc : MC Tryz.prog 160 [.optr 0 0] [(0, some (mO ts bd pts 1 2 s)), (1, some (aI eV s.slots)), (2, some (aI cI s.read))] 3 (fun _ : Unit => True) (fun _ => iv (dT ts ts.length 0 s).2) (fun _ => [(0, some (mO ts bd pts 1 2 (dT ts ts.length 0 s).1)), (1, some (aI eV (dT ts ts.length 0 s).1.slots)), (2, some (aI cI (dT ts ts.length 0 s).1.read))])) (hM : Nat.ble (nidl + 0) fD = true) (hN : Nat.blt d N = true) {md' : Md} [hmd : MdA md (gS [x0] ++ [.inr i0, .inr i1, .inr i2]) (List.map Sum.inr (List.map Prod.fst ([(i0, some (mO ts bd pts i1 i2 (dT ts ts.length 0 s).1)), (i1, some (aI eV (dT ts ts.length 0 s).1.slots)), (i2, some (aI cI (dT ts ts.length 0 s).1.read))] : List (Nat × Option (List AV)))) ++ [.inl d]) md'] (kk : RW Tryz.prog N all Q md' rest ⟨(d, iv (dT ts ts.length 0 s).2) :: tsl, iK hsl [(i0, some (mO ts bd pts i1 i2 (dT ts ts.length 0 s).1)), (i1, some (aI eV (dT ts ts.length 0 s).1.slots)), (i2, some (aI cI (dT ts ts.length 0 s).1.read))], nidl + 0, z0⟩) : RW Tryz.prog N all Q md (⟨some d, .call ⟨.value (.func 160), #[x0], tys⟩, ty, pos, af, none⟩ :: rest) ⟨tsl, hsl, nidl, z0⟩ := by
 refine cJ [i0, i1, i2] 3 [(i0, some (mO ts bd pts i1 i2 (dT ts ts.length 0 s).1)), (i1, some (aI eV (dT ts ts.length 0 s).1.slots)), (i2, some (aI cI (dT ts ts.length 0 s).1.read))] hmc (avs := [.optr i0 0]) ?_ hdd ?_ rfl ?_ (by simpa using hM) ?_ ?_ ?_ hN (md' := md') (hmd := hmd) kk
 ·show evL (lk tsl) [x0] = _
  simp only [evL, ha0]
 ·exact ⟨⟨_, _, rfl, hH0, by (repeat' (first|exact RnL.purI inferInstance|exact RnV.purI inferInstance|exact RnV.own rfl|refine RnL.cons ?_ ?_))⟩, ⟨⟨_, _, rfl, hH1, by (repeat' (exact RnL.purI inferInstance))⟩, ⟨⟨_, _, rfl, hH2, by (repeat' (exact RnL.purI inferInstance))⟩, trivial⟩⟩⟩
 ·(repeat' (first|exact RnL.purI inferInstance|exact RnV.optr rfl|refine RnL.cons ?_ ?_))
 ·(repeat' (exact RnV.purI inferInstance))
 ·simp [dQ]
 ·(repeat' (first|exact trivial|(refine And.intro ⟨0, _, rfl, rfl, ?_⟩ ?_)|(refine And.intro ⟨1, _, rfl, rfl, ?_⟩ ?_)|(refine And.intro ⟨2, _, rfl, rfl, ?_⟩ ?_)|exact RnL.purI inferInstance|exact RnV.purI inferInstance|exact RnV.own rfl|refine RnL.cons ?_ ?_))
theorem JY (ts : List Int) (bd : List AL.Stmt) (pts : List Pnt) (s : Mc) (hm : OkM s.cells) (hsl : s.slots.length = ts.length) (hl : ts.length ≤ 1000000) : MC Tryz.prog 160 [.optr 0 0] [(0, some (mO ts bd pts 1 2 s)), (1, some (aI eV s.slots)), (2, some (aI cI s.read))] 3 (fun _ : Unit => True) (fun _ => iv (dT ts ts.length 0 s).2) (fun _ => [(0, some (mO ts bd pts 1 2 (dT ts ts.length 0 s).1)), (1, some (aI eV (dT ts ts.length 0 s).1.slots)), (2, some (aI cI (dT ts ts.length 0 s).1.read))]) := by
 (refine b0 Tryz.func160 rfl (by simp [Tryz.ntmps160]) ?_; rw [Tryz.ntmps160])
 repeat' (first|(apply aM;first|(apply aE;rfl;rfl)|(apply aK;rfl;rfl;rfl;rfl)|(apply aD;rfl;rfl;rfl)|(apply aC;rfl;rfl)|(apply a9;rfl;rfl;rfl)|(apply aF;kernel_rfl)|(apply bU;rfl;rfl;rfl))|(apply aN;first|apply aH|apply aB|apply aL)|with_reducible apply aA)
 refine a7 (σ := Nat × Mc) [0, 13, 14] [(0, _), (13, _), (14, _)] [] [] (fun k => [(15, iv (k.1 : Int))]) (fun k => [(0, some (mO ts bd pts 1 2 k.2)), (1, some (aI eV k.2.slots)), (2, some (aI cI k.2.read))]) (fun k => k.1 ≤ ts.length ∧ dT ts (ts.length - k.1) k.1 k.2 = dT ts ts.length 0 s ∧ OkM k.2.cells ∧ k.2.slots.length = ts.length) (fun k => ts.length - k.1) (0, s) ⟨Nat.zero_le _, rfl, hm, hsl⟩ rfl rfl (by repeat' (first|exact trivial|refine And.intro rfl ?_)) (by repeat' (first|exact trivial|refine And.intro (.inr rfl) ?_)) ?_
 rintro ⟨v, q⟩ ⟨hv, hf, hmq, hlq⟩
 dsimp only at hv hf hmq hlq ⊢
 by_cases hvn : v < ts.length
 ·have hfr := wZ ts bd pts q v hmq hlq hvn
  repeat' (first|(apply aM;first|((apply zX (ts := ts) (bd := bd) (pts := pts) (s := q) (v := v));(case ha0|ha1|hH0|hH1|hH2|hdd => rfl);(case hmc => exact hfr);(case hM|hN => rfl))|(apply aE;rfl;rfl)|(first|(apply cV;(case hx|hH => rfl);(case hf|hg|hα => infer_instance);(case hk => omega);(case hc|hN => rfl))|(apply aK;rfl;rfl;rfl;rfl))|(apply aD;rfl;rfl;rfl)|(first|(apply bB;rfl;rfl;rfl;(assumption))|(apply bC;rfl;rfl;rfl;(assumption))|(apply bK;(case hj|hb|hN => rfl);all_goals (intro hg;have hq := hg;(try simp only [cK] at hq);(try (exfalso;omega)))))|(first|(apply bR;rfl;rfl;omega;rfl)|(apply aR;rfl;rfl;rfl;rfl))|(apply aC;rfl;rfl)|(first|(apply bS;rfl;(assumption);rfl;rfl)|(apply bI;rfl;(assumption);rfl;rfl))|(first|(apply a6;(case hx|hi => rfl);(case hm => (assumption));(case hml => (rfl));(case hα | hf|hg => infer_instance);(case hN => rfl))|(apply cG;rfl;rfl;(assumption);rfl))|(apply aF;kernel_rfl)|(apply b9;rfl;(exact (rfl:_=some [_, _, _, _]));(exact (rfl:_=[_, _, _, _]));rfl)|(apply cQ;rfl;rfl)|(apply bU;rfl;rfl;rfl)|(apply aW;rfl;rfl;rfl;rfl;rfl;(rw [aU]; simp only [hZ] <;> omega);(exact C1 (by (omega)))))|(apply aN;first|apply aH|apply aB|(apply b8;rfl;(rfl))|(apply aO;rfl;all_goals intro hc;have hq:=hc;(try simp only [cK] at hq);try exfalso;omega)|apply aL|apply aS|apply bF|apply aQ)|with_reducible apply aA|with_reducible apply bJ|with_reducible apply bE|with_reducible apply aV|with_reducible apply cY|with_reducible apply bG)
  ·(apply dV (v + 1, q); focus (refine Le.ren [] rfl (by decide) ?_ ?_ <;> repeat' (first | exact trivial | refine And.intro ⟨_, rfl, ?_⟩ ?_ | refine And.intro ⟨_, _, rfl, rfl, ?_⟩ ?_ | exact Or.inr rfl | refine Or.inl ⟨?_, (by first | rfl | exact aZ _ _ | exact Pur.pf)⟩ | refine Or.inr (All2.cons ?_ ?_) | refine All2.cons ?_ ?_ | exact All2.nil | rfl)))
   ·refine ⟨by omega, ?_, hmq, hlq⟩
    dsimp only
    rw [← hf, show ts.length - v = (ts.length - (v + 1)) + 1 by omega, Gh (fun h => by
     have h2 : q.slots[v]!.set = false := by assumption
     rw [h2] at h;exact absurd h.2 (by decide))]
   ·dsimp only;omega
  ·have hk : ¬ cR q.cells q.slots[v]!.ptr true = 0 := fun h => by
    have h2 : ¬ lL (cR q.cells q.slots[v]!.ptr true) = -1 := by assumption
    rw [h] at h2;exact h2 rfl
   have hq2 : dT ts ts.length 0 s = (⟨q.slots, jB q.cells q.slots[v]!.ptr, q.read⟩, iX (cR q.cells q.slots[v]!.ptr true)) := by
    rw [← hf, show ts.length - v = (ts.length - (v + 1)) + 1 by omega, Jr ⟨by assumption, by assumption⟩ hk]
   rw [hq2]
   (refine aP rfl ?_; refine bV () trivial ?_ ⟨.inr (Eq.trans (b := some _) rfl ?_), ⟨.inr (Eq.trans (b := some _) rfl ?_), ⟨.inr (Eq.trans (b := some _) rfl ?_), trivial⟩⟩⟩)
   ·show iv (lL _) = iv (iX _)
    unfold lL;rw [if_neg hk]
   ·rfl
   ·rfl
   ·rfl
  ·have hk : cR q.cells q.slots[v]!.ptr true = 0 := by
    have h2 : lL (cR q.cells q.slots[v]!.ptr true) = -1 := by assumption
    unfold lL at h2
    by_cases h : cR q.cells q.slots[v]!.ptr true = 0
    ·exact h
    ·rw [if_neg h] at h2;unfold iX at h2;split at h2 <;> cases h2
   have hls : (q.slots.set v iT).length = q.slots.length := List.length_set
   (apply dV (v + 1, ⟨q.slots.set v iT, jB q.cells q.slots[v]!.ptr, q.read⟩);focus (refine Le.ren [] rfl (by decide) ?_ ?_ <;> repeat' (first|exact trivial|refine And.intro ⟨_, rfl, ?_⟩ ?_|refine And.intro ⟨_, _, rfl, rfl, ?_⟩ ?_|exact Or.inr rfl|refine Or.inl ⟨?_, (by first|rfl|exact aZ _ _|exact Pur.pf)⟩|refine Or.inr (All2.cons ?_ ?_)|refine All2.cons ?_ ?_|exact All2.nil|rfl)))
   ·refine ⟨by dsimp only; omega, ?_, hmq.fr _, by show (q.slots.set v iT).length = _; rw [List.length_set]; exact hlq⟩
    dsimp only
    rw [← hf, show ts.length - v = (ts.length - (v + 1)) + 1 by omega, J5 ⟨by assumption, by assumption⟩ hk]
   ·dsimp only;omega
  ·(apply dV (v + 1, q); focus (refine Le.ren [] rfl (by decide) ?_ ?_ <;> repeat' (first | exact trivial | refine And.intro ⟨_, rfl, ?_⟩ ?_ | refine And.intro ⟨_, _, rfl, rfl, ?_⟩ ?_ | exact Or.inr rfl | refine Or.inl ⟨?_, (by first | rfl | exact aZ _ _ | exact Pur.pf)⟩ | refine Or.inr (All2.cons ?_ ?_) | refine All2.cons ?_ ?_ | exact All2.nil | rfl)))
   ·refine ⟨by omega, ?_, hmq, hlq⟩
    dsimp only
    rw [← hf, show ts.length - v = (ts.length - (v + 1)) + 1 by omega, Gh (fun h => by
     have h2 : ¬ ts[v]! = 2 := by assumption
     exact h2 h.1)]
   ·dsimp only;omega
 ·have hve : v = ts.length := by omega
  have hq2 : dT ts ts.length 0 s = (q, 0) := by rw [← hf, hve, Nat.sub_self]; rfl
  repeat' (first|(apply aM;first|(apply aR;rfl;rfl;rfl;rfl)|(apply aC;rfl;rfl)|(apply aF;kernel_rfl))|(apply aN;first|apply aH|apply aB|(apply aO;rfl;all_goals intro hc;have hq:=hc;(try simp only [cK] at hq);try exfalso;omega)|apply bF|apply aQ)|with_reducible apply aA|with_reducible apply bE|with_reducible apply bG)
  rw [hq2]
  (refine aP rfl ?_; refine bV () trivial ?_ ⟨.inr (Eq.trans (b := some _) rfl ?_), ⟨.inr (Eq.trans (b := some _) rfl ?_), ⟨.inr (Eq.trans (b := some _) rfl ?_), trivial⟩⟩⟩)
  ·rfl
  ·rfl
  ·rfl
  ·rfl
def eX (ts : List Int) (s : Mc) (x : Pnt) : Mc × Int := if cX ts s x = true then (s, 2) else cO ts s x
theorem uQ {ts : List Int} {s : Mc} {x : Pnt} (h : cX ts s x = true) : eX ts s x = (s, 2) := if_pos h
theorem qO {ts : List Int} {s : Mc} {x : Pnt} (h : cX ts s x = false) : eX ts s x = cO ts s x := if_neg (by rw [h]; decide)
theorem g9 {ts : List Int} {x : Pnt} {v : Int} (h : v ∈ cS (wS ts x [1, 2, 3])) : 0 ≤ v ∧ v < ts.length := by
 obtain ⟨v', h3, h4, rfl⟩ := dU.1 h
 rw [dX, Bool.and_eq_true, decide_eq_true_eq] at h4
 omega
theorem dP {ts : List Int} {s : Mc} {x : Pnt} (htl : ts.length ≤ 6) : cX ts s x = true ↔ ∃ v ∈ cS (wS ts x [1, 2, 3]), s.slots[v.toNat]!.set = false := by
 constructor
 ·intro h
  obtain ⟨v, hv, hne, hs⟩ := AK h
  refine ⟨(v : Int), dU.2 ⟨v, by omega, ?_, rfl⟩, hs⟩
  have hb := nX ts x v
  rw [dX, decide_eq_true hv, Bool.true_and, decide_eq_true_eq]
  simp only [List.mem_cons, List.not_mem_nil, or_false]; omega
 ·rintro ⟨v, hv, hs⟩
  obtain ⟨v', h3, h4, rfl⟩ := dU.1 hv
  rw [dX, Bool.and_eq_true, decide_eq_true_eq, decide_eq_true_eq] at h4
  unfold cX
  refine List.any_eq_true.2 ⟨v', List.mem_range.2 h4.1, ?_⟩
  rw [Bool.and_eq_true, decide_eq_true_eq]
  refine ⟨fun e => ?_, by rw [show s.slots[v']!.set = false from hs]; rfl⟩
  have h5 := h4.2
  simp only [List.mem_cons, List.not_mem_nil, or_false] at h5;omega
theorem JA {ts : List Int} {bd : List AL.Stmt} {pts : List Pnt} {s : Mc} {x : Pnt} {N : Nat} {Q : Exit → AS → Prop} {all : Array Oper} {rest : List Oper} {tsl : List (Nat × AV)} {hsl : List (Nat × Option (List AV))} {nidl : Nat} {z0 : Lo} {md : Md} {d : Nat} {ty : TypeId} {pos : String} {af : Array Edge} {tys : Array TypeId} {x0 x1 : Operand} {i0 i1 i2 : Nat} (ha0 : ev (lk tsl) x0 = some (.optr i0 0)) (ha1 : ev (lk tsl) x1 = some (iD x)) (hH0 : cE hsl i0 = some (mO ts bd pts i1 i2 s)) (hH1 : cE hsl i1 = some (aI eV s.slots)) (hH2 : cE hsl i2 = some (aI cI s.read)) (hdd : Go.AL.distinct [i0, i1, i2] = true) (hmc : MC Tryz.prog 120 [.optr 0 0, iD x] [(0, some (mO ts bd pts 1 2 s)), (1, some (aI eV s.slots)), (2, some (aI cI s.read))] 3 (fun _ : Unit => True) (fun _ => iv (eX ts s x).2) (fun _ => [(0, some (mO ts bd pts 1 2 (eX ts s x).1)), (1, some (aI eV (eX ts s x).1.slots)), (2, some (aI cI (eX ts s x).1.read))])) (hM : Nat.ble (nidl + 0) fD = true) (hN : Nat.blt d N = true) {md' : Md} [hmd : MdA md (gS [x0, x1] ++ [.inr i0, .inr i1, .inr i2]) (List.map Sum.inr (List.map Prod.fst ([(i0, some (mO ts bd pts i1 i2 (eX ts s x).1)), (i1, some (aI eV (eX ts s x).1.slots)), (i2, some (aI cI (eX ts s x).1.read))] : List (Nat × Option (List AV)))) ++ [.inl d]) md'] (kk : RW Tryz.prog N all Q md' rest ⟨(d, iv (eX ts s x).2) :: tsl, iK hsl [(i0, some (mO ts bd pts i1 i2 (eX ts s x).1)), (i1, some (aI eV (eX ts s x).1.slots)), (i2, some (aI cI (eX ts s x).1.read))], nidl + 0, z0⟩) : RW Tryz.prog N all Q md (⟨some d, .call ⟨.value (.func 120), #[x0, x1], tys⟩, ty, pos, af, none⟩ :: rest) ⟨tsl, hsl, nidl, z0⟩ := by
 refine cJ [i0, i1, i2] 3 [(i0, some (mO ts bd pts i1 i2 (eX ts s x).1)), (i1, some (aI eV (eX ts s x).1.slots)), (i2, some (aI cI (eX ts s x).1.read))] hmc (avs := [.optr i0 0, iD x]) ?_ hdd ?_ rfl ?_ (by simpa using hM) ?_ ?_ ?_ hN (md' := md') (hmd := hmd) kk
 ·show evL (lk tsl) [x0, x1] = _
  simp only [evL, ha0, ha1]
 ·exact ⟨⟨_, _, rfl, hH0, by (repeat' (first|exact RnL.purI inferInstance|exact RnV.purI inferInstance|exact RnV.own rfl|refine RnL.cons ?_ ?_))⟩, ⟨⟨_, _, rfl, hH1, by (repeat' (exact RnL.purI inferInstance))⟩, ⟨⟨_, _, rfl, hH2, by (repeat' (exact RnL.purI inferInstance))⟩, trivial⟩⟩⟩
 ·(repeat' (first|exact RnL.purI inferInstance|exact RnV.optr rfl|refine RnL.cons ?_ ?_))
 ·(repeat' (exact RnV.purI inferInstance))
 ·simp [dQ]
 ·(repeat' (first|exact trivial|(refine And.intro ⟨0, _, rfl, rfl, ?_⟩ ?_)|(refine And.intro ⟨1, _, rfl, rfl, ?_⟩ ?_)|(refine And.intro ⟨2, _, rfl, rfl, ?_⟩ ?_)|exact RnL.purI inferInstance|exact RnV.purI inferInstance|exact RnV.own rfl|refine RnL.cons ?_ ?_))
theorem kJ {ts : List Int} {bd : List AL.Stmt} {pts : List Pnt} {s : Mc} {v : Int} {y : Sl} {N : Nat} {Q : Exit → AS → Prop} {all : Array Oper} {rest : List Oper} {tsl : List (Nat × AV)} {hsl : List (Nat × Option (List AV))} {nidl : Nat} {z0 : Lo} {md : Md} {d : Nat} {ty : TypeId} {pos : String} {af : Array Edge} {tys : Array TypeId} {x0 x1 x2 : Operand} {i0 i1 i2 : Nat} (ha0 : ev (lk tsl) x0 = some (.optr i0 0)) (ha1 : ev (lk tsl) x1 = some (iv v)) (ha2 : ev (lk tsl) x2 = some (L6 y)) (hH0 : cE hsl i0 = some (mO ts bd pts i1 i2 s)) (hH1 : cE hsl i1 = some (aI eV s.slots)) (hH2 : cE hsl i2 = some (aI cI s.read)) (hdd : Go.AL.distinct [i0, i1, i2] = true) (hmc : MC Tryz.prog 152 [.optr 0 0, iv v, L6 y] [(0, some (mO ts bd pts 1 2 s)), (1, some (aI eV s.slots)), (2, some (aI cI s.read))] 3 (fun _ : Unit => True) (fun _ => iv (dM ts s v.toNat y).2) (fun _ => [(0, some (mO ts bd pts 1 2 (dM ts s v.toNat y).1)), (1, some (aI eV (dM ts s v.toNat y).1.slots)), (2, some (aI cI (dM ts s v.toNat y).1.read))])) (hM : Nat.ble (nidl + 0) fD = true) (hN : Nat.blt d N = true) {md' : Md} [hmd : MdA md (gS [x0, x1, x2] ++ [.inr i0, .inr i1, .inr i2]) (List.map Sum.inr (List.map Prod.fst ([(i0, some (mO ts bd pts i1 i2 (dM ts s v.toNat y).1)), (i1, some (aI eV (dM ts s v.toNat y).1.slots)), (i2, some (aI cI (dM ts s v.toNat y).1.read))] : List (Nat × Option (List AV)))) ++ [.inl d]) md'] (kk : RW Tryz.prog N all Q md' rest ⟨(d, iv (dM ts s v.toNat y).2) :: tsl, iK hsl [(i0, some (mO ts bd pts i1 i2 (dM ts s v.toNat y).1)), (i1, some (aI eV (dM ts s v.toNat y).1.slots)), (i2, some (aI cI (dM ts s v.toNat y).1.read))], nidl + 0, z0⟩) : RW Tryz.prog N all Q md (⟨some d, .call ⟨.value (.func 152), #[x0, x1, x2], tys⟩, ty, pos, af, none⟩ :: rest) ⟨tsl, hsl, nidl, z0⟩ := by
 refine cJ [i0, i1, i2] 3 [(i0, some (mO ts bd pts i1 i2 (dM ts s v.toNat y).1)), (i1, some (aI eV (dM ts s v.toNat y).1.slots)), (i2, some (aI cI (dM ts s v.toNat y).1.read))] hmc (avs := [.optr i0 0, iv v, L6 y]) ?_ hdd ?_ rfl ?_ (by simpa using hM) ?_ ?_ ?_ hN (md' := md') (hmd := hmd) kk
 ·show evL (lk tsl) [x0, x1, x2] = _
  simp only [evL, ha0, ha1, ha2]
 ·exact ⟨⟨_, _, rfl, hH0, by (repeat' (first|exact RnL.purI inferInstance|exact RnV.purI inferInstance|exact RnV.own rfl|refine RnL.cons ?_ ?_))⟩, ⟨⟨_, _, rfl, hH1, by (repeat' (exact RnL.purI inferInstance))⟩, ⟨⟨_, _, rfl, hH2, by (repeat' (exact RnL.purI inferInstance))⟩, trivial⟩⟩⟩
 ·(repeat' (first|exact RnL.purI inferInstance|exact RnV.optr rfl|refine RnL.cons ?_ ?_))
 ·(repeat' (exact RnV.purI inferInstance))
 ·simp [dQ]
 ·(repeat' (first|exact trivial|(refine And.intro ⟨0, _, rfl, rfl, ?_⟩ ?_)|(refine And.intro ⟨1, _, rfl, rfl, ?_⟩ ?_)|(refine And.intro ⟨2, _, rfl, rfl, ?_⟩ ?_)|exact RnL.purI inferInstance|exact RnV.purI inferInstance|exact RnV.own rfl|refine RnL.cons ?_ ?_))
theorem mG (ts : List Int) (bd : List AL.Stmt) (pts : List Pnt) (s : Mc) (v : Int) (y : Sl) (hm : OkM s.cells) (hsl : s.slots.length = ts.length) (hv : 0 ≤ v ∧ v < ts.length) : MC Tryz.prog 152 [.optr 0 0, iv v, L6 y] [(0, some (mO ts bd pts 1 2 s)), (1, some (aI eV s.slots)), (2, some (aI cI s.read))] 3 (fun _ : Unit => True) (fun _ => iv (dM ts s v.toNat y).2) (fun _ => [(0, some (mO ts bd pts 1 2 (dM ts s v.toNat y).1)), (1, some (aI eV (dM ts s v.toNat y).1.slots)), (2, some (aI cI (dM ts s v.toNat y).1.read))]) := by
 have h := JF ts bd pts s v.toNat y hm hsl (by omega)
 rw [Int.toNat_of_nonneg hv.1] at h
 exact h
theorem El {ts : List Int} {bd : List AL.Stmt} {pts : List Pnt} {s : Mc} {v : Int} {N : Nat} {Q : Exit → AS → Prop} {all : Array Oper} {rest : List Oper} {tsl : List (Nat × AV)} {hsl : List (Nat × Option (List AV))} {nidl : Nat} {z0 : Lo} {md : Md} {d : Nat} {ty : TypeId} {pos : String} {af : Array Edge} {tys : Array TypeId} {x0 x1 : Operand} {i0 i1 i2 : Nat} (ha0 : ev (lk tsl) x0 = some (.optr i0 0)) (ha1 : ev (lk tsl) x1 = some (iv v)) (hH0 : cE hsl i0 = some (mO ts bd pts i1 i2 s)) (hH1 : cE hsl i1 = some (aI eV s.slots)) (hH2 : cE hsl i2 = some (aI cI s.read)) (hdd : Go.AL.distinct [i0, i1, i2] = true) (hmc : MC Tryz.prog 159 [.optr 0 0, iv v] [(0, some (mO ts bd pts 1 2 s)), (1, some (aI eV s.slots)), (2, some (aI cI s.read))] 3 (fun _ : Unit => True) (fun _ => iv (lL (cR s.cells s.slots[v.toNat]!.ptr true))) (fun _ => [(0, some ([aG ts bd pts, .own 1 0 ts.length 4, sl eC (jB s.cells s.slots[v.toNat]!.ptr), .own 2 0 s.read.length 1])), (1, some (aI eV s.slots)), (2, some (aI cI s.read))])) (hM : Nat.ble (nidl + 0) fD = true) (hN : Nat.blt d N = true) {md' : Md} [hmd : MdA md (gS [x0, x1] ++ [.inr i0, .inr i1, .inr i2]) (List.map Sum.inr (List.map Prod.fst ([(i0, some ([aG ts bd pts, .own i1 0 ts.length 4, sl eC (jB s.cells s.slots[v.toNat]!.ptr), .own i2 0 s.read.length 1])), (i1, some (aI eV s.slots)), (i2, some (aI cI s.read))] : List (Nat × Option (List AV)))) ++ [.inl d]) md'] (kk : RW Tryz.prog N all Q md' rest ⟨(d, iv (lL (cR s.cells s.slots[v.toNat]!.ptr true))) :: tsl, iK hsl [(i0, some ([aG ts bd pts, .own i1 0 ts.length 4, sl eC (jB s.cells s.slots[v.toNat]!.ptr), .own i2 0 s.read.length 1])), (i1, some (aI eV s.slots)), (i2, some (aI cI s.read))], nidl + 0, z0⟩) : RW Tryz.prog N all Q md (⟨some d, .call ⟨.value (.func 159), #[x0, x1], tys⟩, ty, pos, af, none⟩ :: rest) ⟨tsl, hsl, nidl, z0⟩ := by
 refine cJ [i0, i1, i2] 3 [(i0, some ([aG ts bd pts, .own i1 0 ts.length 4, sl eC (jB s.cells s.slots[v.toNat]!.ptr), .own i2 0 s.read.length 1])), (i1, some (aI eV s.slots)), (i2, some (aI cI s.read))] hmc (avs := [.optr i0 0, iv v]) ?_ hdd ?_ rfl ?_ (by simpa using hM) ?_ ?_ ?_ hN (md' := md') (hmd := hmd) kk
 ·show evL (lk tsl) [x0, x1] = _
  simp only [evL, ha0, ha1]
 ·exact ⟨⟨_, _, rfl, hH0, by (repeat' (first|exact RnL.purI inferInstance|exact RnV.purI inferInstance|exact RnV.own rfl|refine RnL.cons ?_ ?_))⟩, ⟨⟨_, _, rfl, hH1, by (repeat' (exact RnL.purI inferInstance))⟩, ⟨⟨_, _, rfl, hH2, by (repeat' (exact RnL.purI inferInstance))⟩, trivial⟩⟩⟩
 ·(repeat' (first|exact RnL.purI inferInstance|exact RnV.optr rfl|refine RnL.cons ?_ ?_))
 ·(repeat' (exact RnV.purI inferInstance))
 ·simp [dQ]
 ·(repeat' (first|exact trivial|(refine And.intro ⟨0, _, rfl, rfl, ?_⟩ ?_)|(refine And.intro ⟨1, _, rfl, rfl, ?_⟩ ?_)|(refine And.intro ⟨2, _, rfl, rfl, ?_⟩ ?_)|exact RnL.purI inferInstance|exact RnV.purI inferInstance|exact RnV.own rfl|refine RnL.cons ?_ ?_))
theorem Fw (ts : List Int) (bd : List AL.Stmt) (pts : List Pnt) (s : Mc) (v : Int) (hm : OkM s.cells) (hsl : s.slots.length = ts.length) (hv : 0 ≤ v ∧ v < ts.length) : MC Tryz.prog 159 [.optr 0 0, iv v] [(0, some (mO ts bd pts 1 2 s)), (1, some (aI eV s.slots)), (2, some (aI cI s.read))] 3 (fun _ : Unit => True) (fun _ => iv (lL (cR s.cells s.slots[v.toNat]!.ptr true))) (fun _ => [(0, some ([aG ts bd pts, .own 1 0 ts.length 4, sl eC (jB s.cells s.slots[v.toNat]!.ptr), .own 2 0 s.read.length 1])), (1, some (aI eV s.slots)), (2, some (aI cI s.read))]) := by
 have h := wZ ts bd pts s v.toNat hm hsl (by omega)
 rw [Int.toNat_of_nonneg hv.1] at h
 exact h
theorem Lj (ts : List Int) (bd : List AL.Stmt) (pts : List Pnt) (s : Mc) (x : Pnt) (htl : ts.length ≤ 6) (hm : OkM s.cells) (hsl : s.slots.length = ts.length) (ho : x.op = 1) (hx : 0 ≤ x.x ∧ x.x < ts.length) : MC Tryz.prog 120 [.optr 0 0, iD x] [(0, some (mO ts bd pts 1 2 s)), (1, some (aI eV s.slots)), (2, some (aI cI s.read))] 3 (fun _ : Unit => True) (fun _ => iv (eX ts s x).2) (fun _ => [(0, some (mO ts bd pts 1 2 (eX ts s x).1)), (1, some (aI eV (eX ts s x).1.slots)), (2, some (aI cI (eX ts s x).1.read))]) := by
 have hus := iP ts bd pts x htl
 have hsm : Sm (wS ts x [1, 2, 3]) := dJ (by omega)
 obtain ⟨L, hL⟩ : ∃ L, L = cS (wS ts x [1, 2, 3]) := ⟨_, rfl⟩
 have hLl : L.length ≤ 62 := by rw [hL]; exact dY _
 have hmem : ∀ k, k < L.length → 0 ≤ L[k]! ∧ L[k]! < s.slots.length := fun k hk => by
  rw [hsl]; exact g9 (by rw [← hL]; exact bY _ _ hk)
 (refine b0 Tryz.func120 rfl (by simp [Tryz.ntmps120]) ?_; rw [Tryz.ntmps120])
 repeat' (first|(apply aM;first|((with_reducible apply aJ (k := 151));(case ha => rfl);(case h => exact hus);(case hp => (exact Pur.pf));(case hN => rfl))|(apply aE;rfl;rfl)|(first|(apply aK;rfl;rfl;rfl;rfl)|(apply aX;rfl;rfl;(exact (rfl:_=[_, _, _, _, _]));rfl;rfl;rfl))|(apply aD;rfl;rfl;rfl)|(apply aC;rfl;rfl)|((with_reducible apply aJ (k := 100));(case ha => rfl);(case h => (apply g8 <;> (assumption)));(case hp => (rfl));(case hN => rfl))|(apply a9;rfl;rfl;rfl)|(apply aF;kernel_rfl)|(apply bU;rfl;rfl;rfl)|(apply bW;rfl;rfl;rfl;rfl))|(apply aN;first|apply aH|apply aB|(apply bZ;kernel_rfl)|apply aL)|with_reducible apply aA)
 rw [← hL]
 refine a7 (σ := Nat) [0, 3, 26, 27] [(0, _), (3, _), (26, _), (27, _)] [0, 1, 2, 3] [(0, some _), (1, some _), (2, some _), (3, some _)] (fun k => [(28, iv (k : Int))]) (fun k => []) (fun k => k ≤ L.length ∧ ∀ j, j < k → s.slots[(L[j]!).toNat]!.set = true) (fun k => L.length - k) (0) ⟨Nat.zero_le _, fun j h => absurd h (by omega)⟩ rfl rfl (by repeat' (first|exact trivial|refine And.intro rfl ?_)) (by repeat' (exact trivial)) ?_
 rintro k ⟨hk, hall⟩
 by_cases hkn : k < L.length
 ·have hmk := hmem k hkn
  repeat' (first|(apply aM;first|(apply aE;rfl;rfl)|(first|(apply cV;(case hx|hH => rfl);(case hf|hg|hα => infer_instance);(case hk => omega);(case hc|hN => rfl))|(apply aK;rfl;rfl;rfl;rfl))|(apply aD;rfl;rfl;rfl)|(first|(apply bR;rfl;rfl;omega;rfl)|(apply aR;rfl;rfl;rfl;rfl))|(apply aC;rfl;rfl)|(first|(apply a6;(case hx|hi => rfl);(case hm => (assumption));(case hml => (rfl));(case hα | hf|hg => infer_instance);(case hN => rfl))|(apply cM;rfl;rfl;(omega);rfl))|(apply aF;kernel_rfl)|(apply cQ;rfl;rfl)|(apply bU;rfl;rfl;rfl))|(apply aN;first|apply aH|apply aB|(apply aO;rfl;all_goals intro hc;have hq:=hc;(try simp only [cK] at hq);try exfalso;omega)|apply aL|apply aS|apply aQ)|with_reducible apply aA|with_reducible apply bJ|with_reducible apply aV|with_reducible apply cY)
  ·have hu : cX ts s x = true := (dP htl).2 ⟨L[k]!, by rw [← hL]; exact bY _ _ hkn, by assumption⟩
   rw [uQ hu]
   (refine aP rfl ?_; refine bV () trivial ?_ ⟨.inr (Eq.trans (b := some _) rfl ?_), ⟨.inr (Eq.trans (b := some _) rfl ?_), ⟨.inr (Eq.trans (b := some _) rfl ?_), trivial⟩⟩⟩)
   ·rfl
   ·rfl
   ·rfl
   ·rfl
  ·(apply dV (k + 1); focus (refine Le.ren [(3, 3)] rfl (by decide) ?_ ?_ <;> repeat' (first | exact trivial | refine And.intro ⟨_, rfl, ?_⟩ ?_ | refine And.intro ⟨_, _, rfl, rfl, ?_⟩ ?_ | exact Or.inr rfl | refine Or.inl ⟨?_, (by first | rfl | exact aZ _ _ | exact Pur.pf)⟩ | refine Or.inr (All2.cons ?_ ?_) | refine All2.cons ?_ ?_ | exact All2.nil | rfl)))
   ·refine ⟨by omega, fun j hj => ?_⟩
    rcases Nat.lt_or_ge j k with h|h
    ·exact hall j h
    ·rw [show j = k by omega]; assumption
   ·omega
 ·have hu : cX ts s x = false := by
   cases q : cX ts s x with
   | false => rfl
   | true =>
    obtain ⟨v, hv, hs⟩ := (dP htl).1 q
    rw [← hL] at hv
    obtain ⟨j, hj, e⟩ := List.getElem_of_mem hv
    have h1 := hall j (by omega)
    rw [cL _ _ hj, e, hs] at h1;cases h1
  rw [qO hu]
  have hd : cO ts s x = dM ts s x.x.toNat ⟨true, x.n, ⟨0, 0⟩⟩ := by unfold cO;rw [if_pos ho]
  rw [hd]
  have hp := mG ts bd pts s x.x ⟨true, x.n, ⟨0, 0⟩⟩ hm hsl hx
  repeat' (first|(apply aM;first|((apply kJ (ts := ts) (bd := bd) (pts := pts) (s := s) (v := x.x) (y := ⟨true, x.n, ⟨0, 0⟩⟩));(case ha0|ha1|ha2|hH0|hH1|hH2|hdd => rfl);(case hmc => exact hp);(case hM|hN => rfl))|(apply aE;rfl;rfl)|(apply aK;rfl;rfl;rfl;rfl)|(apply aD;rfl;rfl;rfl)|(apply aR;rfl;rfl;rfl;rfl)|(apply aC;rfl;rfl)|(apply aF;kernel_rfl)|(apply b9;rfl;(exact (rfl:_=some [_, _, _, _]));(exact (rfl:_=[_, _, _, _]));rfl))|(apply aN;first|apply aH|apply aB|(apply aO;rfl;all_goals intro hc;have hq:=hc;(try simp only [cK] at hq);try exfalso;omega)|apply aL|apply bF|apply aQ)|with_reducible apply aA|with_reducible apply bJ|with_reducible apply bE|with_reducible apply cY|with_reducible apply bG)
  (refine aP rfl ?_; refine bV () trivial ?_ ⟨.inr (Eq.trans (b := some _) rfl ?_), ⟨.inr (Eq.trans (b := some _) rfl ?_), ⟨.inr (Eq.trans (b := some _) rfl ?_), trivial⟩⟩⟩)
  ·rfl
  ·rfl
  ·rfl
  ·rfl
theorem K7 (ts : List Int) (bd : List AL.Stmt) (pts : List Pnt) (s : Mc) (x : Pnt) (htl : ts.length ≤ 6) (hm : OkM s.cells) (hsl : s.slots.length = ts.length) (ho : x.op = 2) (hn : 0 ≤ x.n ∧ x.n ≤ 9) (hx : 0 ≤ x.x ∧ x.x < ts.length) : MC Tryz.prog 120 [.optr 0 0, iD x] [(0, some (mO ts bd pts 1 2 s)), (1, some (aI eV s.slots)), (2, some (aI cI s.read))] 3 (fun _ : Unit => True) (fun _ => iv (eX ts s x).2) (fun _ => [(0, some (mO ts bd pts 1 2 (eX ts s x).1)), (1, some (aI eV (eX ts s x).1.slots)), (2, some (aI cI (eX ts s x).1.read))]) := by
 have hus := iP ts bd pts x htl
 have hsm : Sm (wS ts x [1, 2, 3]) := dJ (by omega)
 obtain ⟨L, hL⟩ : ∃ L, L = cS (wS ts x [1, 2, 3]) := ⟨_, rfl⟩
 have hLl : L.length ≤ 62 := by rw [hL]; exact dY _
 have hmem : ∀ k, k < L.length → 0 ≤ L[k]! ∧ L[k]! < s.slots.length := fun k hk => by
  rw [hsl]; exact g9 (by rw [← hL]; exact bY _ _ hk)
 (refine b0 Tryz.func120 rfl (by simp [Tryz.ntmps120]) ?_; rw [Tryz.ntmps120])
 repeat' (first|(apply aM;first|((with_reducible apply aJ (k := 151));(case ha => rfl);(case h => exact hus);(case hp => (exact Pur.pf));(case hN => rfl))|(apply aE;rfl;rfl)|(first|(apply aK;rfl;rfl;rfl;rfl)|(apply aX;rfl;rfl;(exact (rfl:_=[_, _, _, _, _]));rfl;rfl;rfl))|(apply aD;rfl;rfl;rfl)|(apply aC;rfl;rfl)|((with_reducible apply aJ (k := 100));(case ha => rfl);(case h => (apply g8 <;> (assumption)));(case hp => (rfl));(case hN => rfl))|(apply a9;rfl;rfl;rfl)|(apply aF;kernel_rfl)|(apply bU;rfl;rfl;rfl)|(apply bW;rfl;rfl;rfl;rfl))|(apply aN;first|apply aH|apply aB|(apply bZ;kernel_rfl)|apply aL)|with_reducible apply aA)
 rw [← hL]
 refine a7 (σ := Nat) [0, 3, 26, 27] [(0, _), (3, _), (26, _), (27, _)] [0, 1, 2, 3] [(0, some _), (1, some _), (2, some _), (3, some _)] (fun k => [(28, iv (k : Int))]) (fun k => []) (fun k => k ≤ L.length ∧ ∀ j, j < k → s.slots[(L[j]!).toNat]!.set = true) (fun k => L.length - k) (0) ⟨Nat.zero_le _, fun j h => absurd h (by omega)⟩ rfl rfl (by repeat' (first|exact trivial|refine And.intro rfl ?_)) (by repeat' (exact trivial)) ?_
 rintro k ⟨hk, hall⟩
 by_cases hkn : k < L.length
 ·have hmk := hmem k hkn
  repeat' (first|(apply aM;first|(apply aE;rfl;rfl)|(first|(apply cV;(case hx|hH => rfl);(case hf|hg|hα => infer_instance);(case hk => omega);(case hc|hN => rfl))|(apply aK;rfl;rfl;rfl;rfl))|(apply aD;rfl;rfl;rfl)|(first|(apply bR;rfl;rfl;omega;rfl)|(apply aR;rfl;rfl;rfl;rfl))|(apply aC;rfl;rfl)|(first|(apply a6;(case hx|hi => rfl);(case hm => (assumption));(case hml => (rfl));(case hα | hf|hg => infer_instance);(case hN => rfl))|(apply cM;rfl;rfl;(omega);rfl))|(apply aF;kernel_rfl)|(apply cQ;rfl;rfl)|(apply bU;rfl;rfl;rfl))|(apply aN;first|apply aH|apply aB|(apply aO;rfl;all_goals intro hc;have hq:=hc;(try simp only [cK] at hq);try exfalso;omega)|apply aL|apply aS|apply aQ)|with_reducible apply aA|with_reducible apply bJ|with_reducible apply aV|with_reducible apply cY)
  ·have hu : cX ts s x = true := (dP htl).2 ⟨L[k]!, by rw [← hL]; exact bY _ _ hkn, by assumption⟩
   rw [uQ hu]
   (refine aP rfl ?_; refine bV () trivial ?_ ⟨.inr (Eq.trans (b := some _) rfl ?_), ⟨.inr (Eq.trans (b := some _) rfl ?_), ⟨.inr (Eq.trans (b := some _) rfl ?_), trivial⟩⟩⟩)
   ·rfl
   ·rfl
   ·rfl
   ·rfl
  ·(apply dV (k + 1); focus (refine Le.ren [(3, 3)] rfl (by decide) ?_ ?_ <;> repeat' (first | exact trivial | refine And.intro ⟨_, rfl, ?_⟩ ?_ | refine And.intro ⟨_, _, rfl, rfl, ?_⟩ ?_ | exact Or.inr rfl | refine Or.inl ⟨?_, (by first | rfl | exact aZ _ _ | exact Pur.pf)⟩ | refine Or.inr (All2.cons ?_ ?_) | refine All2.cons ?_ ?_ | exact All2.nil | rfl)))
   ·refine ⟨by omega, fun j hj => ?_⟩
    rcases Nat.lt_or_ge j k with h|h
    ·exact hall j h
    ·rw [show j = k by omega]; assumption
   ·omega
 ·have hu : cX ts s x = false := by
   cases q : cX ts s x with
   | false => rfl
   | true =>
    obtain ⟨v, hv, hs⟩ := (dP htl).1 q
    rw [← hL] at hv
    obtain ⟨j, hj, e⟩ := List.getElem_of_mem hv
    have h1 := hall j (by omega)
    rw [cL _ _ hj, e, hs] at h1;cases h1
  rw [qO hu]
  have hml := hm.l
  have hnc := BV s.cells hm x.n
  by_cases h2 : s.cells.length = 200
  ·rw [if_neg (by omega)] at hnc
   have hd : cO ts s x = (s, 1) := by unfold cO;rw [if_neg (show ¬ x.op = 1 by omega), if_pos ho, if_pos h2]
   rw [hd]
   repeat' (first|(apply aM;first|((with_reducible apply aJ (k := 153));(case ha => rfl);(case h => exact hnc);(case hp => (exact Pur.pf));(case hN => rfl))|(apply aE;rfl;rfl)|(apply aK;rfl;rfl;rfl;rfl)|(apply aD;rfl;rfl;rfl)|(apply aR;rfl;rfl;rfl;rfl)|(apply aC;rfl;rfl)|(apply aF;kernel_rfl)|(apply cQ;rfl;rfl)|(apply bU;rfl;rfl;rfl)|(apply bH;rfl;rfl)|(apply cD;rfl;rfl;rfl)|(apply aW;rfl;rfl;rfl;rfl;rfl;(decide);(exact (rfl:_=[_, _]))))|(apply aN;first|apply aH|apply aB|(apply bZ;kernel_rfl)|(apply b8;rfl;(rfl))|(apply aO;rfl;all_goals intro hc;have hq:=hc;(try simp only [cK] at hq);try exfalso;omega)|apply aL|apply bF|apply aQ)|with_reducible apply aA|with_reducible apply bJ|with_reducible apply bE|with_reducible apply cY|with_reducible apply bG)
   (refine aP rfl ?_; refine bV () trivial ?_ ⟨.inr (Eq.trans (b := some _) rfl ?_), ⟨.inr (Eq.trans (b := some _) rfl ?_), ⟨.inr (Eq.trans (b := some _) rfl ?_), trivial⟩⟩⟩)
   ·rfl
   ·rfl
   ·rfl
   ·rfl
  ·rw [if_pos (by omega)] at hnc
   have hp := mG ts bd pts ⟨s.slots, s.cells ++ [oY x.n], s.read⟩ x.x ⟨true, 0, ⟨s.cells.length, 0⟩⟩ (hm.nw hn (by omega)) hsl hx
   have hd : cO ts s x = dM ts ⟨s.slots, s.cells ++ [oY x.n], s.read⟩ x.x.toNat ⟨true, 0, ⟨s.cells.length, 0⟩⟩ := by unfold cO;rw [if_neg (show ¬ x.op = 1 by omega), if_pos ho, if_neg h2]
   rw [hd]
   repeat' (first|(apply aM;first|((with_reducible apply aJ (k := 153));(case ha => rfl);(case h => exact hnc);(case hp => (exact Pur.pf));(case hN => rfl))|((apply kJ (ts := ts) (bd := bd) (pts := pts) (s := ⟨s.slots, s.cells ++ [oY x.n], s.read⟩) (v := x.x) (y := ⟨true, 0, ⟨s.cells.length, 0⟩⟩));(case ha0|ha1|ha2|hH0|hH1|hH2|hdd => rfl);(case hmc => exact hp);(case hM|hN => rfl))|(apply aE;rfl;rfl)|(first|(apply aK;rfl;rfl;rfl;rfl)|(apply aX;rfl;rfl;(exact (rfl:_=[_, _]));rfl;rfl;rfl))|(apply aD;rfl;rfl;rfl)|(apply aR;rfl;rfl;rfl;rfl)|(apply aC;rfl;rfl)|(apply aF;kernel_rfl)|(apply b9;rfl;(exact (rfl:_=some [_, _, _, _]));(exact (rfl:_=[_, _, _, _]));rfl)|(apply cQ;rfl;rfl)|(apply bU;rfl;rfl;rfl)|(apply bH;rfl;rfl)|(apply cD;rfl;rfl;rfl)|(apply aW;rfl;rfl;rfl;rfl;rfl;(case hl => (simp;done));(first|exact (rfl:_=[_, _])|exact (rfl:_=[_, _, _, _]))))|(apply aN;first|apply aH|apply aB|(apply bZ;kernel_rfl)|(apply cH;rfl;(rfl))|(apply aO;rfl;all_goals intro hc;have hq:=hc;(try simp only [cK] at hq);try exfalso;omega)|apply aL|apply aS|apply bF|apply aQ)|with_reducible apply aA|with_reducible apply bJ|with_reducible apply bE|with_reducible apply cY|with_reducible apply bG)
   (refine aP rfl ?_; refine bV () trivial ?_ ⟨.inr (Eq.trans (b := some _) rfl ?_), ⟨.inr (Eq.trans (b := some _) rfl ?_), ⟨.inr (Eq.trans (b := some _) rfl ?_), trivial⟩⟩⟩)
   ·rfl
   ·rfl
   ·rfl
   ·rfl
theorem L5 (ts : List Int) (bd : List AL.Stmt) (pts : List Pnt) (s : Mc) (x : Pnt) (htl : ts.length ≤ 6) (hm : OkM s.cells) (hsl : s.slots.length = ts.length) (ho : x.op = 3) (hx : 0 ≤ x.x ∧ x.x < ts.length) (hy : 0 ≤ x.y ∧ x.y < ts.length) : MC Tryz.prog 120 [.optr 0 0, iD x] [(0, some (mO ts bd pts 1 2 s)), (1, some (aI eV s.slots)), (2, some (aI cI s.read))] 3 (fun _ : Unit => True) (fun _ => iv (eX ts s x).2) (fun _ => [(0, some (mO ts bd pts 1 2 (eX ts s x).1)), (1, some (aI eV (eX ts s x).1.slots)), (2, some (aI cI (eX ts s x).1.read))]) := by
 have hus := iP ts bd pts x htl
 have hsm : Sm (wS ts x [1, 2, 3]) := dJ (by omega)
 obtain ⟨L, hL⟩ : ∃ L, L = cS (wS ts x [1, 2, 3]) := ⟨_, rfl⟩
 have hLl : L.length ≤ 62 := by rw [hL]; exact dY _
 have hmem : ∀ k, k < L.length → 0 ≤ L[k]! ∧ L[k]! < s.slots.length := fun k hk => by
  rw [hsl]; exact g9 (by rw [← hL]; exact bY _ _ hk)
 (refine b0 Tryz.func120 rfl (by simp [Tryz.ntmps120]) ?_; rw [Tryz.ntmps120])
 repeat' (first|(apply aM;first|((with_reducible apply aJ (k := 151));(case ha => rfl);(case h => exact hus);(case hp => (exact Pur.pf));(case hN => rfl))|(apply aE;rfl;rfl)|(first|(apply aK;rfl;rfl;rfl;rfl)|(apply aX;rfl;rfl;(exact (rfl:_=[_, _, _, _, _]));rfl;rfl;rfl))|(apply aD;rfl;rfl;rfl)|(apply aC;rfl;rfl)|((with_reducible apply aJ (k := 100));(case ha => rfl);(case h => (apply g8 <;> (assumption)));(case hp => (rfl));(case hN => rfl))|(apply a9;rfl;rfl;rfl)|(apply aF;kernel_rfl)|(apply bU;rfl;rfl;rfl)|(apply bW;rfl;rfl;rfl;rfl))|(apply aN;first|apply aH|apply aB|(apply bZ;kernel_rfl)|apply aL)|with_reducible apply aA)
 rw [← hL]
 refine a7 (σ := Nat) [0, 3, 26, 27] [(0, _), (3, _), (26, _), (27, _)] [0, 1, 2, 3] [(0, some _), (1, some _), (2, some _), (3, some _)] (fun k => [(28, iv (k : Int))]) (fun k => []) (fun k => k ≤ L.length ∧ ∀ j, j < k → s.slots[(L[j]!).toNat]!.set = true) (fun k => L.length - k) (0) ⟨Nat.zero_le _, fun j h => absurd h (by omega)⟩ rfl rfl (by repeat' (first|exact trivial|refine And.intro rfl ?_)) (by repeat' (exact trivial)) ?_
 rintro k ⟨hk, hall⟩
 by_cases hkn : k < L.length
 ·have hmk := hmem k hkn
  repeat' (first|(apply aM;first|(apply aE;rfl;rfl)|(first|(apply cV;(case hx|hH => rfl);(case hf|hg|hα => infer_instance);(case hk => omega);(case hc|hN => rfl))|(apply aK;rfl;rfl;rfl;rfl))|(apply aD;rfl;rfl;rfl)|(first|(apply bR;rfl;rfl;omega;rfl)|(apply aR;rfl;rfl;rfl;rfl))|(apply aC;rfl;rfl)|(first|(apply a6;(case hx|hi => rfl);(case hm => (assumption));(case hml => (rfl));(case hα | hf|hg => infer_instance);(case hN => rfl))|(apply cM;rfl;rfl;(omega);rfl))|(apply aF;kernel_rfl)|(apply cQ;rfl;rfl)|(apply bU;rfl;rfl;rfl))|(apply aN;first|apply aH|apply aB|(apply aO;rfl;all_goals intro hc;have hq:=hc;(try simp only [cK] at hq);try exfalso;omega)|apply aL|apply aS|apply aQ)|with_reducible apply aA|with_reducible apply bJ|with_reducible apply aV|with_reducible apply cY)
  ·have hu : cX ts s x = true := (dP htl).2 ⟨L[k]!, by rw [← hL]; exact bY _ _ hkn, by assumption⟩
   rw [uQ hu]
   (refine aP rfl ?_; refine bV () trivial ?_ ⟨.inr (Eq.trans (b := some _) rfl ?_), ⟨.inr (Eq.trans (b := some _) rfl ?_), ⟨.inr (Eq.trans (b := some _) rfl ?_), trivial⟩⟩⟩)
   ·rfl
   ·rfl
   ·rfl
   ·rfl
  ·(apply dV (k + 1); focus (refine Le.ren [(3, 3)] rfl (by decide) ?_ ?_ <;> repeat' (first | exact trivial | refine And.intro ⟨_, rfl, ?_⟩ ?_ | refine And.intro ⟨_, _, rfl, rfl, ?_⟩ ?_ | exact Or.inr rfl | refine Or.inl ⟨?_, (by first | rfl | exact aZ _ _ | exact Pur.pf)⟩ | refine Or.inr (All2.cons ?_ ?_) | refine All2.cons ?_ ?_ | exact All2.nil | rfl)))
   ·refine ⟨by omega, fun j hj => ?_⟩
    rcases Nat.lt_or_ge j k with h|h
    ·exact hall j h
    ·rw [show j = k by omega]; assumption
   ·omega
 ·have hu : cX ts s x = false := by
   cases q : cX ts s x with
   | false => rfl
   | true =>
    obtain ⟨v, hv, hs⟩ := (dP htl).1 q
    rw [← hL] at hv
    obtain ⟨j, hj, e⟩ := List.getElem_of_mem hv
    have h1 := hall j (by omega)
    rw [cL _ _ hj, e, hs] at h1;cases h1
  rw [qO hu]
  have hd : cO ts s x = dM ts (if Cq ts[x.y.toNat]! = true then ⟨s.slots.set x.y.toNat iT, s.cells, s.read⟩ else s) x.x.toNat s.slots[x.y.toNat]! := by unfold cO;rw [if_neg (show ¬ x.op = 1 by omega), if_neg (show ¬ x.op = 2 by omega), if_pos ho]
  rw [hd]
  have htk := xQ ts bd pts x.y hy
  by_cases hk : Cq ts[x.y.toNat]! = true
  ·rw [hk] at htk
   rw [if_pos hk]
   have hp := mG ts bd pts ⟨s.slots.set x.y.toNat iT, s.cells, s.read⟩ x.x s.slots[x.y.toNat]! hm (by show (s.slots.set _ _).length = _; rw [List.length_set]; exact hsl) hx
   repeat' (first|(apply aM;first|((with_reducible apply aJ (k := 154));(case ha => rfl);(case h => exact htk);(case hp => (exact Pur.pf));(case hN => rfl))|((apply kJ (ts := ts) (bd := bd) (pts := pts) (s := ⟨s.slots.set x.y.toNat iT, s.cells, s.read⟩) (v := x.x) (y := s.slots[x.y.toNat]!));(case ha0|ha1|ha2|hH0|hH1|hH2|hdd => rfl);(case hmc => exact hp);(case hM|hN => rfl))|(apply aE;rfl;rfl)|(first|(apply gQ;(case hx|hH => rfl);(case hf|hg|hα => infer_instance);(case hk => omega);(case h0|hN => rfl))|(apply aK;rfl;rfl;rfl;rfl)|(apply aX;rfl;rfl;(exact (rfl:_=[_, _, _, _]));rfl;rfl;rfl))|(apply aD;rfl;rfl;rfl)|(apply aR;rfl;rfl;rfl;rfl)|(apply aC;rfl;rfl)|(apply cM;rfl;rfl;(assumption);rfl)|(apply aF;kernel_rfl)|(apply b9;rfl;(exact (rfl:_=some [_, _, _, _]));(exact (rfl:_=[_, _, _, _]));rfl)|(apply bU;rfl;rfl;rfl)|(apply bH;rfl;rfl)|(apply aW;rfl;rfl;rfl;rfl;rfl;(case hl => (first|(rw [aU]; simp only [hZ] <;> omega)|(simp;done)));(first|exact C1 (by (omega))|exact (rfl:_=[_, _, _, _]))))|(apply aN;first|apply aH|apply aB|(apply bZ;kernel_rfl)|(apply b8;rfl;(rfl))|(apply aO;rfl;all_goals intro hc;have hq:=hc;(try simp only [cK] at hq);try exfalso;omega)|apply aL|apply bF|apply aQ)|with_reducible apply aA|with_reducible apply bJ|with_reducible apply bE|with_reducible apply cY|with_reducible apply bG)
   (refine aP rfl ?_; refine bV () trivial ?_ ⟨.inr (Eq.trans (b := some _) rfl ?_), ⟨.inr (Eq.trans (b := some _) rfl ?_), ⟨.inr (Eq.trans (b := some _) rfl ?_), trivial⟩⟩⟩)
   ·rfl
   ·rfl
   ·rfl
   ·rfl
  ·have hk2 : Cq ts[x.y.toNat]! = false := by simpa using hk
   rw [hk2] at htk
   rw [if_neg hk]
   have hp := mG ts bd pts s x.x s.slots[x.y.toNat]! hm hsl hx
   repeat' (first|(apply aM;first|((with_reducible apply aJ (k := 154));(case ha => rfl);(case h => exact htk);(case hp => (exact Pur.pf));(case hN => rfl))|((apply kJ (ts := ts) (bd := bd) (pts := pts) (s := s) (v := x.x) (y := s.slots[x.y.toNat]!));(case ha0|ha1|ha2|hH0|hH1|hH2|hdd => rfl);(case hmc => exact hp);(case hM|hN => rfl))|(apply aE;rfl;rfl)|(first|(apply gQ;(case hx|hH => rfl);(case hf|hg|hα => infer_instance);(case hk => omega);(case h0|hN => rfl))|(apply aK;rfl;rfl;rfl;rfl)|(apply aX;rfl;rfl;(exact (rfl:_=[_, _, _, _]));rfl;rfl;rfl))|(apply aD;rfl;rfl;rfl)|(apply aR;rfl;rfl;rfl;rfl)|(apply aC;rfl;rfl)|(apply cM;rfl;rfl;(assumption);rfl)|(apply aF;kernel_rfl)|(apply bU;rfl;rfl;rfl)|(apply bH;rfl;rfl)|(apply aW;rfl;rfl;rfl;rfl;rfl;(case hl => (simp;done));(exact (rfl:_=[_, _, _, _]))))|(apply aN;first|apply aH|apply aB|(apply bZ;kernel_rfl)|(apply cH;rfl;(rfl))|(apply aO;rfl;all_goals intro hc;have hq:=hc;(try simp only [cK] at hq);try exfalso;omega)|apply aL|apply aS|apply bF|apply aQ)|with_reducible apply aA|with_reducible apply bJ|with_reducible apply bE|with_reducible apply cY|with_reducible apply bG)
   (refine aP rfl ?_; refine bV () trivial ?_ ⟨.inr (Eq.trans (b := some _) rfl ?_), ⟨.inr (Eq.trans (b := some _) rfl ?_), ⟨.inr (Eq.trans (b := some _) rfl ?_), trivial⟩⟩⟩)
   ·rfl
   ·rfl
   ·rfl
   ·rfl
theorem Ks (ts : List Int) (bd : List AL.Stmt) (pts : List Pnt) (s : Mc) (x : Pnt) (htl : ts.length ≤ 6) (hm : OkM s.cells) (hsl : s.slots.length = ts.length) (ho : x.op = 4 ∨ x.op = 5) (hx : 0 ≤ x.x ∧ x.x < ts.length) (hy : 0 ≤ x.y ∧ x.y < ts.length) : MC Tryz.prog 120 [.optr 0 0, iD x] [(0, some (mO ts bd pts 1 2 s)), (1, some (aI eV s.slots)), (2, some (aI cI s.read))] 3 (fun _ : Unit => True) (fun _ => iv (eX ts s x).2) (fun _ => [(0, some (mO ts bd pts 1 2 (eX ts s x).1)), (1, some (aI eV (eX ts s x).1.slots)), (2, some (aI cI (eX ts s x).1.read))]) := by
 have hus := iP ts bd pts x htl
 have hsm : Sm (wS ts x [1, 2, 3]) := dJ (by omega)
 obtain ⟨L, hL⟩ : ∃ L, L = cS (wS ts x [1, 2, 3]) := ⟨_, rfl⟩
 have hLl : L.length ≤ 62 := by rw [hL]; exact dY _
 have hmem : ∀ k, k < L.length → 0 ≤ L[k]! ∧ L[k]! < s.slots.length := fun k hk => by
  rw [hsl]; exact g9 (by rw [← hL]; exact bY _ _ hk)
 (refine b0 Tryz.func120 rfl (by simp [Tryz.ntmps120]) ?_; rw [Tryz.ntmps120])
 repeat' (first|(apply aM;first|((with_reducible apply aJ (k := 151));(case ha => rfl);(case h => exact hus);(case hp => (exact Pur.pf));(case hN => rfl))|(apply aE;rfl;rfl)|(first|(apply aK;rfl;rfl;rfl;rfl)|(apply aX;rfl;rfl;(exact (rfl:_=[_, _, _, _, _]));rfl;rfl;rfl))|(apply aD;rfl;rfl;rfl)|(apply aC;rfl;rfl)|((with_reducible apply aJ (k := 100));(case ha => rfl);(case h => (apply g8 <;> (assumption)));(case hp => (rfl));(case hN => rfl))|(apply a9;rfl;rfl;rfl)|(apply aF;kernel_rfl)|(apply bU;rfl;rfl;rfl)|(apply bW;rfl;rfl;rfl;rfl))|(apply aN;first|apply aH|apply aB|(apply bZ;kernel_rfl)|apply aL)|with_reducible apply aA)
 rw [← hL]
 refine a7 (σ := Nat) [0, 3, 26, 27] [(0, _), (3, _), (26, _), (27, _)] [0, 1, 2, 3] [(0, some _), (1, some _), (2, some _), (3, some _)] (fun k => [(28, iv (k : Int))]) (fun k => []) (fun k => k ≤ L.length ∧ ∀ j, j < k → s.slots[(L[j]!).toNat]!.set = true) (fun k => L.length - k) (0) ⟨Nat.zero_le _, fun j h => absurd h (by omega)⟩ rfl rfl (by repeat' (first|exact trivial|refine And.intro rfl ?_)) (by repeat' (exact trivial)) ?_
 rintro k ⟨hk, hall⟩
 by_cases hkn : k < L.length
 ·have hmk := hmem k hkn
  repeat' (first|(apply aM;first|(apply aE;rfl;rfl)|(first|(apply cV;(case hx|hH => rfl);(case hf|hg|hα => infer_instance);(case hk => omega);(case hc|hN => rfl))|(apply aK;rfl;rfl;rfl;rfl))|(apply aD;rfl;rfl;rfl)|(first|(apply bR;rfl;rfl;omega;rfl)|(apply aR;rfl;rfl;rfl;rfl))|(apply aC;rfl;rfl)|(first|(apply a6;(case hx|hi => rfl);(case hm => (assumption));(case hml => (rfl));(case hα | hf|hg => infer_instance);(case hN => rfl))|(apply cM;rfl;rfl;(omega);rfl))|(apply aF;kernel_rfl)|(apply cQ;rfl;rfl)|(apply bU;rfl;rfl;rfl))|(apply aN;first|apply aH|apply aB|(apply aO;rfl;all_goals intro hc;have hq:=hc;(try simp only [cK] at hq);try exfalso;omega)|apply aL|apply aS|apply aQ)|with_reducible apply aA|with_reducible apply bJ|with_reducible apply aV|with_reducible apply cY)
  ·have hu : cX ts s x = true := (dP htl).2 ⟨L[k]!, by rw [← hL]; exact bY _ _ hkn, by assumption⟩
   rw [uQ hu]
   (refine aP rfl ?_; refine bV () trivial ?_ ⟨.inr (Eq.trans (b := some _) rfl ?_), ⟨.inr (Eq.trans (b := some _) rfl ?_), ⟨.inr (Eq.trans (b := some _) rfl ?_), trivial⟩⟩⟩)
   ·rfl
   ·rfl
   ·rfl
   ·rfl
  ·(apply dV (k + 1); focus (refine Le.ren [(3, 3)] rfl (by decide) ?_ ?_ <;> repeat' (first | exact trivial | refine And.intro ⟨_, rfl, ?_⟩ ?_ | refine And.intro ⟨_, _, rfl, rfl, ?_⟩ ?_ | exact Or.inr rfl | refine Or.inl ⟨?_, (by first | rfl | exact aZ _ _ | exact Pur.pf)⟩ | refine Or.inr (All2.cons ?_ ?_) | refine All2.cons ?_ ?_ | exact All2.nil | rfl)))
   ·refine ⟨by omega, fun j hj => ?_⟩
    rcases Nat.lt_or_ge j k with h|h
    ·exact hall j h
    ·rw [show j = k by omega]; assumption
   ·omega
 ·have hu : cX ts s x = false := by
   cases q : cX ts s x with
   | false => rfl
   | true =>
    obtain ⟨v, hv, hs⟩ := (dP htl).1 q
    rw [← hL] at hv
    obtain ⟨j, hj, e⟩ := List.getElem_of_mem hv
    have h1 := hall j (by omega)
    rw [cL _ _ hj, e, hs] at h1;cases h1
  rw [qO hu]
  have hle := I7 s.cells hm s.slots[x.y.toNat]!.ptr (decide (x.op = 5))
  by_cases hk : qI s.cells s.slots[x.y.toNat]!.ptr (decide (x.op = 5)) = 0
  ·have hp := mG ts bd pts ⟨s.slots, m8 s.cells s.slots[x.y.toNat]!.ptr (decide (x.op = 5)), s.read⟩ x.x ⟨true, 0, zW s.cells s.slots[x.y.toNat]!.ptr (decide (x.op = 5))⟩ (hm.ln _ _) hsl hx
   have hd : cO ts s x = dM ts ⟨s.slots, m8 s.cells s.slots[x.y.toNat]!.ptr (decide (x.op = 5)), s.read⟩ x.x.toNat ⟨true, 0, zW s.cells s.slots[x.y.toNat]!.ptr (decide (x.op = 5))⟩ := by unfold cO;rw [if_neg (show ¬ x.op = 1 by omega), if_neg (show ¬ x.op = 2 by omega), if_neg (show ¬ x.op = 3 by omega), if_pos ho, if_pos hk]
   rw [hd]
   rw [hk] at hle
   repeat' (first|(apply aM;first|(apply jI;(case hx|hH => rfl);(case hf|hg|hα => infer_instance);(case hk => omega);(case hj => decide);(case hc => exact (rfl:_=[_, _]));(case h0|hN => rfl))|((with_reducible apply aJ (k := 155));(case ha => rfl);(case h => exact hle);(case hp => (exact Pur.pf));(case hN => rfl))|((apply kJ (ts := ts) (bd := bd) (pts := pts) (s := ⟨s.slots, m8 s.cells s.slots[x.y.toNat]!.ptr (decide (x.op = 5)), s.read⟩) (v := x.x) (y := ⟨true, 0, zW s.cells s.slots[x.y.toNat]!.ptr (decide (x.op = 5))⟩));(case ha0|ha1|ha2|hH0|hH1|hH2|hdd => rfl);(case hmc => exact hp);(case hM|hN => rfl))|(apply aE;rfl;rfl)|(first|(apply aK;rfl;rfl;rfl;rfl)|(apply aX;rfl;rfl;(exact (rfl:_=[_, _]));rfl;rfl;rfl))|(apply aD;rfl;rfl;rfl)|(apply aR;rfl;rfl;rfl;rfl)|(apply aC;rfl;rfl)|(apply cM;rfl;rfl;(assumption);rfl)|(apply aF;kernel_rfl)|(apply b9;rfl;(exact (rfl:_=some [_, _, _, _]));(exact (rfl:_=[_, _, _, _]));rfl)|(apply bU;rfl;rfl;rfl)|(apply bH;rfl;rfl)|(apply cD;rfl;rfl;rfl)|(apply aW;rfl;rfl;rfl;rfl;rfl;(case hl => (simp;done));(first|exact (rfl:_=[_, _])|exact (rfl:_=[_, _, _, _]))))|(apply aN;first|apply aH|apply aB|(apply bZ;kernel_rfl)|(apply b8;rfl;(assumption))|(apply cH;rfl;(rfl))|(apply aO;rfl;all_goals intro hc;have hq:=hc;(try simp only [cK] at hq);try exfalso;omega)|apply aL|apply aS|apply bF|apply aQ)|with_reducible apply aA|with_reducible apply bJ|with_reducible apply bE|with_reducible apply cY|with_reducible apply bG)
   all_goals (
    (refine aP rfl ?_; refine bV () trivial ?_ ⟨.inr (Eq.trans (b := some _) rfl ?_), ⟨.inr (Eq.trans (b := some _) rfl ?_), ⟨.inr (Eq.trans (b := some _) rfl ?_), trivial⟩⟩⟩)
    ·rfl
    ·rfl
    ·rfl
    ·rfl)
  ·have hd : cO ts s x = (s, iX (qI s.cells s.slots[x.y.toNat]!.ptr (decide (x.op = 5)))) := by unfold cO; rw [if_neg (show ¬ x.op = 1 by omega), if_neg (show ¬ x.op = 2 by omega), if_neg (show ¬ x.op = 3 by omega), if_pos ho, if_neg hk]
   rw [hd]
   repeat' (first|(apply aM;first|(apply jI;(case hx|hH => rfl);(case hf|hg|hα => infer_instance);(case hk => omega);(case hj => decide);(case hc => exact (rfl:_=[_, _]));(case h0|hN => rfl))|((with_reducible apply aJ (k := 155));(case ha => rfl);(case h => exact hle);(case hp => (exact Pur.pf));(case hN => rfl))|(apply aE;rfl;rfl)|(apply aK;rfl;rfl;rfl;rfl)|(apply aD;rfl;rfl;rfl)|(apply aR;rfl;rfl;rfl;rfl)|(apply aC;rfl;rfl)|(apply cM;rfl;rfl;(assumption);rfl)|((with_reducible apply aJ (k := 156));(case ha => rfl);(case h => (apply rP <;> (fail)));(case hp => (rfl));(case hN => rfl))|(apply aF;kernel_rfl)|(apply bU;rfl;rfl;rfl)|(apply bH;rfl;rfl)|(apply cD;rfl;rfl;rfl)|(apply aW;rfl;rfl;rfl;rfl;rfl;(case hl => (simp;done));(exact (rfl:_=[_, _]))))|(apply aN;first|apply aH|apply aB|(apply bZ;kernel_rfl)|(apply b8;rfl;(assumption))|(apply aO;rfl;all_goals intro hc;have hq:=hc;(try simp only [cK] at hq);try exfalso;omega)|apply aL|apply aS|apply bF|apply aQ)|with_reducible apply aA|with_reducible apply bJ|with_reducible apply bE|with_reducible apply cY|with_reducible apply bG)
   all_goals (
    (refine aP rfl ?_; refine bV () trivial ?_ ⟨.inr (Eq.trans (b := some _) rfl ?_), ⟨.inr (Eq.trans (b := some _) rfl ?_), ⟨.inr (Eq.trans (b := some _) rfl ?_), trivial⟩⟩⟩)
    ·rfl
    ·rfl
    ·rfl
    ·rfl)
theorem Lc (ts : List Int) (bd : List AL.Stmt) (pts : List Pnt) (s : Mc) (x : Pnt) (htl : ts.length ≤ 6) (hm : OkM s.cells) (hsl : s.slots.length = ts.length) (ho : x.op = 6) (hrl : s.read.length ≤ 1000) (hx : 0 ≤ x.x ∧ x.x < ts.length) (hy : 0 ≤ x.y ∧ x.y < ts.length) (hz : ¬ cR s.cells s.slots[x.y.toNat]!.ptr false = 0) : MC Tryz.prog 120 [.optr 0 0, iD x] [(0, some (mO ts bd pts 1 2 s)), (1, some (aI eV s.slots)), (2, some (aI cI s.read))] 3 (fun _ : Unit => True) (fun _ => iv (eX ts s x).2) (fun _ => [(0, some (mO ts bd pts 1 2 (eX ts s x).1)), (1, some (aI eV (eX ts s x).1.slots)), (2, some (aI cI (eX ts s x).1.read))]) := by
 have hus := iP ts bd pts x htl
 have hsm : Sm (wS ts x [1, 2, 3]) := dJ (by omega)
 obtain ⟨L, hL⟩ : ∃ L, L = cS (wS ts x [1, 2, 3]) := ⟨_, rfl⟩
 have hLl : L.length ≤ 62 := by rw [hL]; exact dY _
 have hmem : ∀ k, k < L.length → 0 ≤ L[k]! ∧ L[k]! < s.slots.length := fun k hk => by
  rw [hsl]; exact g9 (by rw [← hL]; exact bY _ _ hk)
 (refine b0 Tryz.func120 rfl (by simp [Tryz.ntmps120]) ?_; rw [Tryz.ntmps120])
 repeat' (first|(apply aM;first|((with_reducible apply aJ (k := 151));(case ha => rfl);(case h => exact hus);(case hp => (exact Pur.pf));(case hN => rfl))|(apply aE;rfl;rfl)|(first|(apply aK;rfl;rfl;rfl;rfl)|(apply aX;rfl;rfl;(exact (rfl:_=[_, _, _, _, _]));rfl;rfl;rfl))|(apply aD;rfl;rfl;rfl)|(apply aC;rfl;rfl)|((with_reducible apply aJ (k := 100));(case ha => rfl);(case h => (apply g8 <;> (assumption)));(case hp => (rfl));(case hN => rfl))|(apply a9;rfl;rfl;rfl)|(apply aF;kernel_rfl)|(apply bU;rfl;rfl;rfl)|(apply bW;rfl;rfl;rfl;rfl))|(apply aN;first|apply aH|apply aB|(apply bZ;kernel_rfl)|apply aL)|with_reducible apply aA)
 rw [← hL]
 refine a7 (σ := Nat) [0, 3, 26, 27] [(0, _), (3, _), (26, _), (27, _)] [0, 1, 2, 3] [(0, some _), (1, some _), (2, some _), (3, some _)] (fun k => [(28, iv (k : Int))]) (fun k => []) (fun k => k ≤ L.length ∧ ∀ j, j < k → s.slots[(L[j]!).toNat]!.set = true) (fun k => L.length - k) (0) ⟨Nat.zero_le _, fun j h => absurd h (by omega)⟩ rfl rfl (by repeat' (first|exact trivial|refine And.intro rfl ?_)) (by repeat' (exact trivial)) ?_
 rintro k ⟨hk, hall⟩
 by_cases hkn : k < L.length
 ·have hmk := hmem k hkn
  repeat' (first|(apply aM;first|(apply aE;rfl;rfl)|(first|(apply cV;(case hx|hH => rfl);(case hf|hg|hα => infer_instance);(case hk => omega);(case hc|hN => rfl))|(apply aK;rfl;rfl;rfl;rfl))|(apply aD;rfl;rfl;rfl)|(first|(apply bR;rfl;rfl;omega;rfl)|(apply aR;rfl;rfl;rfl;rfl))|(apply aC;rfl;rfl)|(first|(apply a6;(case hx|hi => rfl);(case hm => (assumption));(case hml => (rfl));(case hα | hf|hg => infer_instance);(case hN => rfl))|(apply cM;rfl;rfl;(omega);rfl))|(apply aF;kernel_rfl)|(apply cQ;rfl;rfl)|(apply bU;rfl;rfl;rfl))|(apply aN;first|apply aH|apply aB|(apply aO;rfl;all_goals intro hc;have hq:=hc;(try simp only [cK] at hq);try exfalso;omega)|apply aL|apply aS|apply aQ)|with_reducible apply aA|with_reducible apply bJ|with_reducible apply aV|with_reducible apply cY)
  ·have hu : cX ts s x = true := (dP htl).2 ⟨L[k]!, by rw [← hL]; exact bY _ _ hkn, by assumption⟩
   rw [uQ hu]
   (refine aP rfl ?_; refine bV () trivial ?_ ⟨.inr (Eq.trans (b := some _) rfl ?_), ⟨.inr (Eq.trans (b := some _) rfl ?_), ⟨.inr (Eq.trans (b := some _) rfl ?_), trivial⟩⟩⟩)
   ·rfl
   ·rfl
   ·rfl
   ·rfl
  ·(apply dV (k + 1); focus (refine Le.ren [(3, 3)] rfl (by decide) ?_ ?_ <;> repeat' (first | exact trivial | refine And.intro ⟨_, rfl, ?_⟩ ?_ | refine And.intro ⟨_, _, rfl, rfl, ?_⟩ ?_ | exact Or.inr rfl | refine Or.inl ⟨?_, (by first | rfl | exact aZ _ _ | exact Pur.pf)⟩ | refine Or.inr (All2.cons ?_ ?_) | refine All2.cons ?_ ?_ | exact All2.nil | rfl)))
   ·refine ⟨by omega, fun j hj => ?_⟩
    rcases Nat.lt_or_ge j k with h|h
    ·exact hall j h
    ·rw [show j = k by omega]; assumption
   ·omega
 ·have hu : cX ts s x = false := by
   cases q : cX ts s x with
   | false => rfl
   | true =>
    obtain ⟨v, hv, hs⟩ := (dP htl).1 q
    rw [← hL] at hv
    obtain ⟨j, hj, e⟩ := List.getElem_of_mem hv
    have h1 := hall j (by omega)
    rw [cL _ _ hj, e, hs] at h1;cases h1
  rw [qO hu]
  have hrc := qF s.cells hm s.slots[x.y.toNat]!.ptr
  have hd : cO ts s x = (s, iX (cR s.cells s.slots[x.y.toNat]!.ptr false)) := by unfold cO;rw [if_neg (show ¬ x.op = 1 by omega), if_neg (show ¬ x.op = 2 by omega), if_neg (show ¬ x.op = 3 by omega), if_neg (show ¬ (x.op = 4 ∨ x.op = 5) by omega), if_pos ho, if_neg hz]
  rw [hd]
  repeat' (first|(apply aM;first|(apply jI;(case hx|hH => rfl);(case hf|hg|hα => infer_instance);(case hk => omega);(case hj => decide);(case hc => exact (rfl:_=[_, _]));(case h0|hN => rfl))|((with_reducible apply aJ (k := 157));(case ha => rfl);(case h => exact hrc);(case hp => (exact Pur.pf));(case hN => rfl))|(apply aE;rfl;rfl)|(apply aK;rfl;rfl;rfl;rfl)|(apply aD;rfl;rfl;rfl)|(apply aR;rfl;rfl;rfl;rfl)|(apply aC;rfl;rfl)|(apply cM;rfl;rfl;(assumption);rfl)|((with_reducible apply aJ (k := 156));(case ha => rfl);(case h => (apply rP <;> (fail)));(case hp => (rfl));(case hN => rfl))|(apply aF;kernel_rfl)|(apply bU;rfl;rfl;rfl)|(apply cD;rfl;rfl;rfl))|(apply aN;first|apply aH|apply aB|(apply bZ;kernel_rfl)|(apply aO;rfl;all_goals intro hc;have hq:=hc;(try simp only [cK] at hq);try exfalso;omega)|apply aL|apply bF|apply aQ)|with_reducible apply aA|with_reducible apply bJ|with_reducible apply bE|with_reducible apply cY|with_reducible apply bG)
  (refine aP rfl ?_; refine bV () trivial ?_ ⟨.inr (Eq.trans (b := some _) rfl ?_), ⟨.inr (Eq.trans (b := some _) rfl ?_), ⟨.inr (Eq.trans (b := some _) rfl ?_), trivial⟩⟩⟩)
  ·rfl
  ·rfl
  ·rfl
  ·rfl
theorem Lz (ts : List Int) (bd : List AL.Stmt) (pts : List Pnt) (s : Mc) (x : Pnt) (htl : ts.length ≤ 6) (hm : OkM s.cells) (hsl : s.slots.length = ts.length) (ho : x.op = 7) (hx : 0 ≤ x.x ∧ x.x < ts.length) (hy : 0 ≤ x.y ∧ x.y < ts.length) : MC Tryz.prog 120 [.optr 0 0, iD x] [(0, some (mO ts bd pts 1 2 s)), (1, some (aI eV s.slots)), (2, some (aI cI s.read))] 3 (fun _ : Unit => True) (fun _ => iv (eX ts s x).2) (fun _ => [(0, some (mO ts bd pts 1 2 (eX ts s x).1)), (1, some (aI eV (eX ts s x).1.slots)), (2, some (aI cI (eX ts s x).1.read))]) := by
 have hus := iP ts bd pts x htl
 have hsm : Sm (wS ts x [1, 2, 3]) := dJ (by omega)
 obtain ⟨L, hL⟩ : ∃ L, L = cS (wS ts x [1, 2, 3]) := ⟨_, rfl⟩
 have hLl : L.length ≤ 62 := by rw [hL]; exact dY _
 have hmem : ∀ k, k < L.length → 0 ≤ L[k]! ∧ L[k]! < s.slots.length := fun k hk => by
  rw [hsl]; exact g9 (by rw [← hL]; exact bY _ _ hk)
 (refine b0 Tryz.func120 rfl (by simp [Tryz.ntmps120]) ?_; rw [Tryz.ntmps120])
 repeat' (first|(apply aM;first|((with_reducible apply aJ (k := 151));(case ha => rfl);(case h => exact hus);(case hp => (exact Pur.pf));(case hN => rfl))|(apply aE;rfl;rfl)|(first|(apply aK;rfl;rfl;rfl;rfl)|(apply aX;rfl;rfl;(exact (rfl:_=[_, _, _, _, _]));rfl;rfl;rfl))|(apply aD;rfl;rfl;rfl)|(apply aC;rfl;rfl)|((with_reducible apply aJ (k := 100));(case ha => rfl);(case h => (apply g8 <;> (assumption)));(case hp => (rfl));(case hN => rfl))|(apply a9;rfl;rfl;rfl)|(apply aF;kernel_rfl)|(apply bU;rfl;rfl;rfl)|(apply bW;rfl;rfl;rfl;rfl))|(apply aN;first|apply aH|apply aB|(apply bZ;kernel_rfl)|apply aL)|with_reducible apply aA)
 rw [← hL]
 refine a7 (σ := Nat) [0, 3, 26, 27] [(0, _), (3, _), (26, _), (27, _)] [0, 1, 2, 3] [(0, some _), (1, some _), (2, some _), (3, some _)] (fun k => [(28, iv (k : Int))]) (fun k => []) (fun k => k ≤ L.length ∧ ∀ j, j < k → s.slots[(L[j]!).toNat]!.set = true) (fun k => L.length - k) (0) ⟨Nat.zero_le _, fun j h => absurd h (by omega)⟩ rfl rfl (by repeat' (first|exact trivial|refine And.intro rfl ?_)) (by repeat' (exact trivial)) ?_
 rintro k ⟨hk, hall⟩
 by_cases hkn : k < L.length
 ·have hmk := hmem k hkn
  repeat' (first|(apply aM;first|(apply aE;rfl;rfl)|(first|(apply cV;(case hx|hH => rfl);(case hf|hg|hα => infer_instance);(case hk => omega);(case hc|hN => rfl))|(apply aK;rfl;rfl;rfl;rfl))|(apply aD;rfl;rfl;rfl)|(first|(apply bR;rfl;rfl;omega;rfl)|(apply aR;rfl;rfl;rfl;rfl))|(apply aC;rfl;rfl)|(first|(apply a6;(case hx|hi => rfl);(case hm => (assumption));(case hml => (rfl));(case hα | hf|hg => infer_instance);(case hN => rfl))|(apply cM;rfl;rfl;(omega);rfl))|(apply aF;kernel_rfl)|(apply cQ;rfl;rfl)|(apply bU;rfl;rfl;rfl))|(apply aN;first|apply aH|apply aB|(apply aO;rfl;all_goals intro hc;have hq:=hc;(try simp only [cK] at hq);try exfalso;omega)|apply aL|apply aS|apply aQ)|with_reducible apply aA|with_reducible apply bJ|with_reducible apply aV|with_reducible apply cY)
  ·have hu : cX ts s x = true := (dP htl).2 ⟨L[k]!, by rw [← hL]; exact bY _ _ hkn, by assumption⟩
   rw [uQ hu]
   (refine aP rfl ?_; refine bV () trivial ?_ ⟨.inr (Eq.trans (b := some _) rfl ?_), ⟨.inr (Eq.trans (b := some _) rfl ?_), ⟨.inr (Eq.trans (b := some _) rfl ?_), trivial⟩⟩⟩)
   ·rfl
   ·rfl
   ·rfl
   ·rfl
  ·(apply dV (k + 1); focus (refine Le.ren [(3, 3)] rfl (by decide) ?_ ?_ <;> repeat' (first | exact trivial | refine And.intro ⟨_, rfl, ?_⟩ ?_ | refine And.intro ⟨_, _, rfl, rfl, ?_⟩ ?_ | exact Or.inr rfl | refine Or.inl ⟨?_, (by first | rfl | exact aZ _ _ | exact Pur.pf)⟩ | refine Or.inr (All2.cons ?_ ?_) | refine All2.cons ?_ ?_ | exact All2.nil | rfl)))
   ·refine ⟨by omega, fun j hj => ?_⟩
    rcases Nat.lt_or_ge j k with h|h
    ·exact hall j h
    ·rw [show j = k by omega]; assumption
   ·omega
 ·have hu : cX ts s x = false := by
   cases q : cX ts s x with
   | false => rfl
   | true =>
    obtain ⟨v, hv, hs⟩ := (dP htl).1 q
    rw [← hL] at hv
    obtain ⟨j, hj, e⟩ := List.getElem_of_mem hv
    have h1 := hall j (by omega)
    rw [cL _ _ hj, e, hs] at h1;cases h1
  rw [qO hu]
  have hwr := yE s.cells hm s.slots[x.x.toNat]!.ptr s.slots[x.y.toNat]!.num
  have hd : cO ts s x = (⟨s.slots, oZ s.cells s.slots[x.x.toNat]!.ptr s.slots[x.y.toNat]!.num, s.read⟩, lL (qP s.cells s.slots[x.x.toNat]!.ptr s.slots[x.y.toNat]!.num)) := by unfold cO;rw [if_neg (show ¬ x.op = 1 by omega), if_neg (show ¬ x.op = 2 by omega), if_neg (show ¬ x.op = 3 by omega), if_neg (show ¬ (x.op = 4 ∨ x.op = 5) by omega), if_neg (show ¬ x.op = 6 by omega), if_pos ho]
  rw [hd]
  repeat' (first|(apply aM;first|(apply jI;(case hx|hH => rfl);(case hf|hg|hα => infer_instance);(case hk => omega);(case hj => decide);(case hc => exact (rfl:_=[_, _]));(case h0|hN => rfl))|((with_reducible apply aJ (k := 158));(case ha => rfl);(case h => exact hwr);(case hp => (exact Pur.pf));(case hN => rfl))|(apply aE;rfl;rfl)|(first|(apply cV;(case hx|hH => rfl);(case hf|hg|hα => infer_instance);(case hk => omega);(case hc|hN => rfl))|(apply aK;rfl;rfl;rfl;rfl))|(apply aD;rfl;rfl;rfl)|(apply aR;rfl;rfl;rfl;rfl)|(apply aC;rfl;rfl)|(apply cM;rfl;rfl;(assumption);rfl)|((with_reducible apply aJ (k := 156));(case ha => rfl);(case h => (apply rP <;> (fail)));(case hp => (rfl));(case hN => rfl))|(apply aF;kernel_rfl)|(apply bU;rfl;rfl;rfl)|(apply cD;rfl;rfl;rfl)|(apply aW;rfl;rfl;rfl;rfl;rfl;(case hl => (simp;done));(exact (rfl:_=[_, _, _, _]))))|(apply aN;first|apply aH|apply aB|(apply bZ;kernel_rfl)|(apply aO;rfl;all_goals intro hc;have hq:=hc;(try simp only [cK] at hq);try exfalso;omega)|apply aL|apply aS|apply bF|apply aQ)|with_reducible apply aA|with_reducible apply bJ|with_reducible apply bE|with_reducible apply aV|with_reducible apply cY|with_reducible apply bG)
  ·have hk : ¬ qP s.cells s.slots[x.x.toNat]!.ptr s.slots[x.y.toNat]!.num = 0 := by assumption
   (refine aP rfl ?_; refine bV () trivial ?_ ⟨.inr (Eq.trans (b := some _) rfl ?_), ⟨.inr (Eq.trans (b := some _) rfl ?_), ⟨.inr (Eq.trans (b := some _) rfl ?_), trivial⟩⟩⟩)
   ·show iv (iX _) = iv (lL _)
    unfold lL;rw [if_neg hk]
   ·rfl
   ·rfl
   ·rfl
  ·have hk : qP s.cells s.slots[x.x.toNat]!.ptr s.slots[x.y.toNat]!.num = 0 := by assumption
   (refine aP rfl ?_; refine bV () trivial ?_ ⟨.inr (Eq.trans (b := some _) rfl ?_), ⟨.inr (Eq.trans (b := some _) rfl ?_), ⟨.inr (Eq.trans (b := some _) rfl ?_), trivial⟩⟩⟩)
   ·rw [hk]; rfl
   ·rfl
   ·rfl
   ·rfl
end Go.Proofs.YtjcpngimjdckmaaGreat
