/-
 A part of the proofs over this program: rules and contracts of its functions (the contracts).
-/
import Derived.Test.YtckihjkcgfphmaaGreatP1B06
set_option linter.unusedVariables false
set_option linter.unusedSimpArgs false
set_option maxHeartbeats 8000000
set_option maxRecDepth 4000
attribute [local irreducible] Go.AL.RW Go.AL.AW Go.AL.Stop
namespace Go.Proofs.YtckihjkcgfphmaaGreat
open Go.AL Go.RowKit
abbrev mO (ts : List Int) (bd : List AL.Stmt) (pts : List Pnt) (i1 i2 : Nat) (s : Mc) : List AV := [aG ts bd pts, .own i1 0 ts.length 4, sl c8 s.cells, .own i2 0 s.read.length 1]
theorem Az {ts : List Int} {bd : List AL.Stmt} {pts : List Pnt} {s : Mc} {v : Nat} {N : Nat} {Q : Exit → AS → Prop} {all : Array Oper} {rest : List Oper} {tsl : List (Nat × AV)} {hsl : List (Nat × Option (List AV))} {nidl : Nat} {z0 : Lo} {md : Md} {d : Nat} {ty : TypeId} {pos : String} {af : Array Edge} {tys : Array TypeId} {x0 x1 : Operand} {i0 i1 i2 : Nat} (ha0 : ev (lk tsl) x0 = some (.optr i0 0)) (ha1 : ev (lk tsl) x1 = some (iv (v : Int))) (hH0 : cQ hsl i0 = some (mO ts bd pts i1 i2 s)) (hH1 : cQ hsl i1 = some (aJ eH s.slots)) (hH2 : cQ hsl i2 = some (aJ cI s.read)) (hdd : Go.AL.distinct [i0, i1, i2] = true) (hmc : MC Tryz.prog 136 [.optr 0 0, iv (v : Int)] [(0, some (mO ts bd pts 1 2 s)), (1, some (aJ eH s.slots)), (2, some (aJ cI s.read))] 3 (fun _ : Unit => True) (fun _ => iv (kC (cM s.cells s.slots[v]!.ptr true))) (fun _ => [(0, some ([aG ts bd pts, .own 1 0 ts.length 4, sl c8 (iF s.cells s.slots[v]!.ptr), .own 2 0 s.read.length 1])), (1, some (aJ eH s.slots)), (2, some (aJ cI s.read))])) (hM : Nat.ble (nidl + 0) eX = true) (hN : Nat.blt d N = true) {md' : Md} [hmd : MdA md (gJ [x0, x1] ++ [.inr i0, .inr i1, .inr i2]) (List.map Sum.inr (List.map Prod.fst ([(i0, some ([aG ts bd pts, .own i1 0 ts.length 4, sl c8 (iF s.cells s.slots[v]!.ptr), .own i2 0 s.read.length 1])), (i1, some (aJ eH s.slots)), (i2, some (aJ cI s.read))] : List (Nat × Option (List AV)))) ++ [.inl d]) md'] (kk : RW Tryz.prog N all Q md' rest ⟨(d, iv (kC (cM s.cells s.slots[v]!.ptr true))) :: tsl, iJ hsl [(i0, some ([aG ts bd pts, .own i1 0 ts.length 4, sl c8 (iF s.cells s.slots[v]!.ptr), .own i2 0 s.read.length 1])), (i1, some (aJ eH s.slots)), (i2, some (aJ cI s.read))], nidl + 0, z0⟩) : RW Tryz.prog N all Q md (⟨some d, .call ⟨.value (.func 136), #[x0, x1], tys⟩, ty, pos, af, none⟩ :: rest) ⟨tsl, hsl, nidl, z0⟩ := by
 refine cJ [i0, i1, i2] 3 [(i0, some ([aG ts bd pts, .own i1 0 ts.length 4, sl c8 (iF s.cells s.slots[v]!.ptr), .own i2 0 s.read.length 1])), (i1, some (aJ eH s.slots)), (i2, some (aJ cI s.read))] hmc (avs := [.optr i0 0, iv (v : Int)]) ?_ hdd ?_ rfl ?_ (by simpa using hM) ?_ ?_ ?_ hN (md' := md') (hmd := hmd) kk
 ·show evL (lk tsl) [x0, x1] = _
  simp only [evL, ha0, ha1]
 ·exact ⟨⟨_, _, rfl, hH0, by (repeat' (first|exact RnL.purI inferInstance|exact RnV.purI inferInstance|exact RnV.own rfl|refine RnL.cons ?_ ?_))⟩, ⟨⟨_, _, rfl, hH1, by (repeat' (exact RnL.purI inferInstance))⟩, ⟨⟨_, _, rfl, hH2, by (repeat' (exact RnL.purI inferInstance))⟩, trivial⟩⟩⟩
 ·(repeat' (first|exact RnL.purI inferInstance|exact RnV.optr rfl|refine RnL.cons ?_ ?_))
 ·(repeat' (exact RnV.purI inferInstance))
 ·simp [dJ]
 ·(repeat' (first|exact trivial|(refine And.intro ⟨0, _, rfl, rfl, ?_⟩ ?_)|(refine And.intro ⟨1, _, rfl, rfl, ?_⟩ ?_)|(refine And.intro ⟨2, _, rfl, rfl, ?_⟩ ?_)|exact RnL.purI inferInstance|exact RnV.purI inferInstance|exact RnV.own rfl|refine RnL.cons ?_ ?_))
theorem yC (ts : List Int) (bd : List AL.Stmt) (pts : List Pnt) (s : Mc) (v : Nat) (hm : OkM s.cells) (hsl : s.slots.length = ts.length) (hv : v < ts.length) : MC Tryz.prog 136 [.optr 0 0, iv (v : Int)] [(0, some (mO ts bd pts 1 2 s)), (1, some (aJ eH s.slots)), (2, some (aJ cI s.read))] 3 (fun _ : Unit => True) (fun _ => iv (kC (cM s.cells s.slots[v]!.ptr true))) (fun _ => [(0, some ([aG ts bd pts, .own 1 0 ts.length 4, sl c8 (iF s.cells s.slots[v]!.ptr), .own 2 0 s.read.length 1])), (1, some (aJ eH s.slots)), (2, some (aJ cI s.read))]) := by
 have hfc := Ao s.cells hm s.slots[v]!.ptr
 (refine cA Tryz.func136 rfl (by simp [Tryz.ntmps136]) ?_; rw [Tryz.ntmps136])
 repeat' (first|(apply aL;first|(apply jP;(case hx|hH => rfl);(case hf|hg|hα => infer_instance);(case hk => omega);(case hj => decide);(case hc => exact (rfl:_=[_, _]));(case h0|hN => rfl))|((with_reducible apply aI (k := 188));(case ha => rfl);(case h => exact hfc);(case hp => (exact Pur.pf));(case hN => rfl))|(apply aE;rfl;rfl)|(apply aN;rfl;rfl;rfl;rfl)|(apply aD;rfl;rfl;rfl)|(apply aT;rfl;rfl;rfl;rfl)|(apply aC;rfl;rfl)|(apply cP;rfl;rfl;(assumption);rfl)|((with_reducible apply aI (k := 133));(case ha => rfl);(case h => (apply rM <;> (fail)));(case hp => (rfl));(case hN => rfl))|(apply aF;kernel_rfl)|(apply bZ;rfl;rfl;rfl)|(apply a8;rfl;rfl;rfl)|(apply aW;rfl;rfl;rfl;rfl;rfl;(case hl => (simp;done));(exact (rfl:_=[_, _, _, _]))))|(apply aM;first|apply aH|apply aB|(apply b0;kernel_rfl)|(apply aP;rfl;all_goals intro hc;have hq:=hc;(try simp only [cH] at hq);try exfalso;omega)|apply aR|apply aQ)|with_reducible apply aA|with_reducible apply bD)
 ·have hk : ¬ cM s.cells s.slots[v]!.ptr true = 0 := by assumption
  (refine aO rfl ?_; refine bW () trivial ?_ ⟨.inr (Eq.trans (b := some _) rfl ?_), ⟨.inr (Eq.trans (b := some _) rfl ?_), ⟨.inr (Eq.trans (b := some _) rfl ?_), trivial⟩⟩⟩)
  ·show iv (e9 _) = iv (kC _)
   unfold kC;rw [if_neg hk]
  ·rfl
  ·rfl
  ·rfl
 ·have hk : cM s.cells s.slots[v]!.ptr true = 0 := by assumption
  (refine aO rfl ?_; refine bW () trivial ?_ ⟨.inr (Eq.trans (b := some _) rfl ?_), ⟨.inr (Eq.trans (b := some _) rfl ?_), ⟨.inr (Eq.trans (b := some _) rfl ?_), trivial⟩⟩⟩)
  ·rw [hk]; rfl
  ·rfl
  ·rfl
  ·rfl
theorem Ki (ts : List Int) (bd : List AL.Stmt) (pts : List Pnt) (s : Mc) (v : Nat) (y : Sl) (hm : OkM s.cells) (hsl : s.slots.length = ts.length) (hv : v < ts.length) : MC Tryz.prog 129 [.optr 0 0, iv (v : Int), Hp y] [(0, some (mO ts bd pts 1 2 s)), (1, some (aJ eH s.slots)), (2, some (aJ cI s.read))] 3 (fun _ : Unit => True) (fun _ => iv (c6 ts s v y).2) (fun _ => [(0, some (mO ts bd pts 1 2 (c6 ts s v y).1)), (1, some (aJ eH (c6 ts s v y).1.slots)), (2, some (aJ cI (c6 ts s v y).1.read))]) := by
 have hfr := yC ts bd pts s v hm hsl hv
 (refine cA Tryz.func129 rfl (by simp [Tryz.ntmps129]) ?_; rw [Tryz.ntmps129])
 repeat' (first|(apply aL;first|((apply Az (ts := ts) (bd := bd) (pts := pts) (s := s) (v := v));(case ha0|ha1|hH0|hH1|hH2|hdd => rfl);(case hmc => exact hfr);(case hM|hN => rfl))|(apply aE;rfl;rfl)|(first|(apply cY;(case hx|hH => rfl);(case hf|hg|hα => infer_instance);(case hk => omega);(case hc|hN => rfl))|(apply aN;rfl;rfl;rfl;rfl)|(apply aV;rfl;rfl;(exact (rfl:_=[_, _, _, _]));rfl;rfl;rfl))|(apply aD;rfl;rfl;rfl)|(first|(apply a6;rfl;rfl;rfl;(assumption))|(apply a7;rfl;rfl;rfl;(assumption))|(apply bI;(case hj|hb|hN => rfl);all_goals (intro hg;have hq := hg;(try simp only [cH] at hq);(try (exfalso;omega)))))|(apply aT;rfl;rfl;rfl;rfl)|(apply aC;rfl;rfl)|(first|(apply bT;rfl;(assumption);rfl;rfl)|(apply bH;rfl;(assumption);rfl;rfl))|(first|(apply aZ;(case hx|hi => rfl);(case hm => (assumption));(case hml => (rfl));(case hα | hf|hg => infer_instance);(case hN => rfl))|(apply cP;rfl;rfl;(assumption);rfl))|(apply aF;kernel_rfl)|(apply bZ;rfl;rfl;rfl)|(apply bQ;rfl;rfl;rfl;rfl)|(apply aW;rfl;rfl;rfl;rfl;rfl;(rw [aU]; simp only [fY] <;> omega);(exact wT (by (omega)))))|(apply aM;first|apply aH|apply aB|(apply b0;kernel_rfl)|(apply cF;rfl;(rfl))|(apply aP;rfl;all_goals intro hc;have hq:=hc;(try simp only [cH] at hq);try exfalso;omega)|apply aR|apply aQ)|with_reducible apply aA)
 ·have hp : c6 ts s v y = (⟨s.slots.set v y, iF s.cells s.slots[v]!.ptr, s.read⟩, kC (cM s.cells s.slots[v]!.ptr true)) := if_pos ⟨by assumption, by assumption⟩
  rw [hp]
  (refine aO rfl ?_; refine bW () trivial ?_ ⟨.inr (Eq.trans (b := some _) rfl ?_), ⟨.inr (Eq.trans (b := some _) rfl ?_), ⟨.inr (Eq.trans (b := some _) rfl ?_), trivial⟩⟩⟩)
  ·rfl
  ·rfl
  ·rfl
  ·rfl
 all_goals (
  have hp : c6 ts s v y = (⟨s.slots.set v y, s.cells, s.read⟩, -1) := if_neg (by
   rintro ⟨q1, q2⟩
   first|(exact (by assumption : ¬ ts[v]! = 2) q1)|(rw [(by assumption : s.slots[v]!.set = false)] at q2;exact absurd q2 (by decide)))
  rw [hp]
  (refine aO rfl ?_; refine bW () trivial ?_ ⟨.inr (Eq.trans (b := some _) rfl ?_), ⟨.inr (Eq.trans (b := some _) rfl ?_), ⟨.inr (Eq.trans (b := some _) rfl ?_), trivial⟩⟩⟩)
  ·rfl
  ·rfl
  ·rfl
  ·rfl)
theorem HF {ts : List Int} {bd : List AL.Stmt} {pts : List Pnt} {s : Mc} {N : Nat} {Q : Exit → AS → Prop} {all : Array Oper} {rest : List Oper} {tsl : List (Nat × AV)} {hsl : List (Nat × Option (List AV))} {nidl : Nat} {z0 : Lo} {md : Md} {d : Nat} {ty : TypeId} {pos : String} {af : Array Edge} {tys : Array TypeId} {x0 : Operand} {i0 i1 i2 : Nat} (ha0 : ev (lk tsl) x0 = some (.optr i0 0)) (hH0 : cQ hsl i0 = some (mO ts bd pts i1 i2 s)) (hH1 : cQ hsl i1 = some (aJ eH s.slots)) (hH2 : cQ hsl i2 = some (aJ cI s.read)) (hdd : Go.AL.distinct [i0, i1, i2] = true) (hmc : MC Tryz.prog 137 [.optr 0 0] [(0, some (mO ts bd pts 1 2 s)), (1, some (aJ eH s.slots)), (2, some (aJ cI s.read))] 3 (fun _ : Unit => True) (fun _ => iv (dQ ts ts.length 0 s).2) (fun _ => [(0, some (mO ts bd pts 1 2 (dQ ts ts.length 0 s).1)), (1, some (aJ eH (dQ ts ts.length 0 s).1.slots)), (2, some (aJ cI (dQ ts ts.length 0 s).1.read))])) (hM : Nat.ble (nidl + 0) eX = true) (hN : Nat.blt d N = true) {md' : Md} [hmd : MdA md (gJ [x0] ++ [.inr i0, .inr i1, .inr i2]) (List.map Sum.inr (List.map Prod.fst ([(i0, some (mO ts bd pts i1 i2 (dQ ts ts.length 0 s).1)), (i1, some (aJ eH (dQ ts ts.length 0 s).1.slots)), (i2, some (aJ cI (dQ ts ts.length 0 s).1.read))] : List (Nat × Option (List AV)))) ++ [.inl d]) md'] (kk : RW Tryz.prog N all Q md' rest ⟨(d, iv (dQ ts ts.length 0 s).2) :: tsl, iJ hsl [(i0, some (mO ts bd pts i1 i2 (dQ ts ts.length 0 s).1)), (i1, some (aJ eH (dQ ts ts.length 0 s).1.slots)), (i2, some (aJ cI (dQ ts ts.length 0 s).1.read))], nidl + 0, z0⟩) : RW Tryz.prog N all Q md (⟨some d, .call ⟨.value (.func 137), #[x0], tys⟩, ty, pos, af, none⟩ :: rest) ⟨tsl, hsl, nidl, z0⟩ := by
 refine cJ [i0, i1, i2] 3 [(i0, some (mO ts bd pts i1 i2 (dQ ts ts.length 0 s).1)), (i1, some (aJ eH (dQ ts ts.length 0 s).1.slots)), (i2, some (aJ cI (dQ ts ts.length 0 s).1.read))] hmc (avs := [.optr i0 0]) ?_ hdd ?_ rfl ?_ (by simpa using hM) ?_ ?_ ?_ hN (md' := md') (hmd := hmd) kk
 ·show evL (lk tsl) [x0] = _
  simp only [evL, ha0]
 ·exact ⟨⟨_, _, rfl, hH0, by (repeat' (first|exact RnL.purI inferInstance|exact RnV.purI inferInstance|exact RnV.own rfl|refine RnL.cons ?_ ?_))⟩, ⟨⟨_, _, rfl, hH1, by (repeat' (exact RnL.purI inferInstance))⟩, ⟨⟨_, _, rfl, hH2, by (repeat' (exact RnL.purI inferInstance))⟩, trivial⟩⟩⟩
 ·(repeat' (first|exact RnL.purI inferInstance|exact RnV.optr rfl|refine RnL.cons ?_ ?_))
 ·(repeat' (exact RnV.purI inferInstance))
 ·simp [dJ]
 ·(repeat' (first|exact trivial|(refine And.intro ⟨0, _, rfl, rfl, ?_⟩ ?_)|(refine And.intro ⟨1, _, rfl, rfl, ?_⟩ ?_)|(refine And.intro ⟨2, _, rfl, rfl, ?_⟩ ?_)|exact RnL.purI inferInstance|exact RnV.purI inferInstance|exact RnV.own rfl|refine RnL.cons ?_ ?_))
theorem KI (ts : List Int) (bd : List AL.Stmt) (pts : List Pnt) (s : Mc) (hm : OkM s.cells) (hsl : s.slots.length = ts.length) (hl : ts.length ≤ 1000000) : MC Tryz.prog 137 [.optr 0 0] [(0, some (mO ts bd pts 1 2 s)), (1, some (aJ eH s.slots)), (2, some (aJ cI s.read))] 3 (fun _ : Unit => True) (fun _ => iv (dQ ts ts.length 0 s).2) (fun _ => [(0, some (mO ts bd pts 1 2 (dQ ts ts.length 0 s).1)), (1, some (aJ eH (dQ ts ts.length 0 s).1.slots)), (2, some (aJ cI (dQ ts ts.length 0 s).1.read))]) := by
 (refine cA Tryz.func137 rfl (by simp [Tryz.ntmps137]) ?_; rw [Tryz.ntmps137])
 repeat' (first|(apply aL;first|(apply aE;rfl;rfl)|(apply aN;rfl;rfl;rfl;rfl)|(apply aD;rfl;rfl;rfl)|(apply aC;rfl;rfl)|(apply bF;rfl;rfl;rfl)|(apply aF;kernel_rfl)|(apply bZ;rfl;rfl;rfl))|(apply aM;first|apply aH|apply aB|apply aK)|with_reducible apply aA)
 refine bB (σ := Nat × Mc) [0, 13, 14] [(0, _), (13, _), (14, _)] [] [] (fun k => [(15, iv (k.1 : Int))]) (fun k => [(0, some (mO ts bd pts 1 2 k.2)), (1, some (aJ eH k.2.slots)), (2, some (aJ cI k.2.read))]) (fun k => k.1 ≤ ts.length ∧ dQ ts (ts.length - k.1) k.1 k.2 = dQ ts ts.length 0 s ∧ OkM k.2.cells ∧ k.2.slots.length = ts.length) (fun k => ts.length - k.1) (0, s) ⟨Nat.zero_le _, rfl, hm, hsl⟩ rfl rfl (by repeat' (first|exact trivial|refine And.intro rfl ?_)) (by repeat' (first|exact trivial|refine And.intro (.inr rfl) ?_)) ?_
 rintro ⟨v, q⟩ ⟨hv, hf, hmq, hlq⟩
 dsimp only at hv hf hmq hlq ⊢
 by_cases hvn : v < ts.length
 ·have hfr := yC ts bd pts q v hmq hlq hvn
  repeat' (first|(apply aL;first|((apply Az (ts := ts) (bd := bd) (pts := pts) (s := q) (v := v));(case ha0|ha1|hH0|hH1|hH2|hdd => rfl);(case hmc => exact hfr);(case hM|hN => rfl))|(apply aE;rfl;rfl)|(first|(apply cY;(case hx|hH => rfl);(case hf|hg|hα => infer_instance);(case hk => omega);(case hc|hN => rfl))|(apply aN;rfl;rfl;rfl;rfl))|(apply aD;rfl;rfl;rfl)|(first|(apply a6;rfl;rfl;rfl;(assumption))|(apply a7;rfl;rfl;rfl;(assumption))|(apply bI;(case hj|hb|hN => rfl);all_goals (intro hg;have hq := hg;(try simp only [cH] at hq);(try (exfalso;omega)))))|(first|(apply bS;rfl;rfl;omega;rfl)|(apply aT;rfl;rfl;rfl;rfl))|(apply aC;rfl;rfl)|(first|(apply bT;rfl;(assumption);rfl;rfl)|(apply bH;rfl;(assumption);rfl;rfl))|(first|(apply aZ;(case hx|hi => rfl);(case hm => (assumption));(case hml => (rfl));(case hα | hf|hg => infer_instance);(case hN => rfl))|(apply cP;rfl;rfl;(assumption);rfl))|(apply aF;kernel_rfl)|(apply cC;rfl;(exact (rfl:_=some [_, _, _, _]));(exact (rfl:_=[_, _, _, _]));rfl)|(apply cG;rfl;rfl)|(apply bZ;rfl;rfl;rfl)|(apply aW;rfl;rfl;rfl;rfl;rfl;(rw [aU]; simp only [fY] <;> omega);(exact wT (by (omega)))))|(apply aM;first|apply aH|apply aB|(apply b8;rfl;(rfl))|(apply aP;rfl;all_goals intro hc;have hq:=hc;(try simp only [cH] at hq);try exfalso;omega)|apply aK|apply aR|apply bJ|apply aQ)|with_reducible apply aA|with_reducible apply bD|with_reducible apply bO|with_reducible apply aX|with_reducible apply cL|with_reducible apply bK)
  ·(apply dK (v + 1, q); focus (refine Le.ren [] rfl (by decide) ?_ ?_ <;> repeat' (first | exact trivial | refine And.intro ⟨_, rfl, ?_⟩ ?_ | refine And.intro ⟨_, _, rfl, rfl, ?_⟩ ?_ | exact Or.inr rfl | refine Or.inl ⟨?_, (by first | rfl | exact aY _ _ | exact Pur.pf)⟩ | refine Or.inr (All2.cons ?_ ?_) | refine All2.cons ?_ ?_ | exact All2.nil | rfl)))
   ·refine ⟨by omega, ?_, hmq, hlq⟩
    dsimp only
    rw [← hf, show ts.length - v = (ts.length - (v + 1)) + 1 by omega, yV (fun h => by
     have h2 : q.slots[v]!.set = false := by assumption
     rw [h2] at h;exact absurd h.2 (by decide))]
   ·dsimp only;omega
  ·have hk : ¬ cM q.cells q.slots[v]!.ptr true = 0 := fun h => by
    have h2 : ¬ kC (cM q.cells q.slots[v]!.ptr true) = -1 := by assumption
    rw [h] at h2;exact h2 rfl
   have hq2 : dQ ts ts.length 0 s = (⟨q.slots, iF q.cells q.slots[v]!.ptr, q.read⟩, e9 (cM q.cells q.slots[v]!.ptr true)) := by
    rw [← hf, show ts.length - v = (ts.length - (v + 1)) + 1 by omega, Fj ⟨by assumption, by assumption⟩ hk]
   rw [hq2]
   (refine aO rfl ?_; refine bW () trivial ?_ ⟨.inr (Eq.trans (b := some _) rfl ?_), ⟨.inr (Eq.trans (b := some _) rfl ?_), ⟨.inr (Eq.trans (b := some _) rfl ?_), trivial⟩⟩⟩)
   ·show iv (kC _) = iv (e9 _)
    unfold kC;rw [if_neg hk]
   ·rfl
   ·rfl
   ·rfl
  ·have hk : cM q.cells q.slots[v]!.ptr true = 0 := by
    have h2 : kC (cM q.cells q.slots[v]!.ptr true) = -1 := by assumption
    unfold kC at h2
    by_cases h : cM q.cells q.slots[v]!.ptr true = 0
    ·exact h
    ·rw [if_neg h] at h2;unfold e9 at h2;split at h2 <;> cases h2
   have hls : (q.slots.set v gY).length = q.slots.length := List.length_set
   (apply dK (v + 1, ⟨q.slots.set v gY, iF q.cells q.slots[v]!.ptr, q.read⟩);focus (refine Le.ren [] rfl (by decide) ?_ ?_ <;> repeat' (first|exact trivial|refine And.intro ⟨_, rfl, ?_⟩ ?_|refine And.intro ⟨_, _, rfl, rfl, ?_⟩ ?_|exact Or.inr rfl|refine Or.inl ⟨?_, (by first|rfl|exact aY _ _|exact Pur.pf)⟩|refine Or.inr (All2.cons ?_ ?_)|refine All2.cons ?_ ?_|exact All2.nil|rfl)))
   ·refine ⟨by dsimp only; omega, ?_, hmq.fr _, by show (q.slots.set v gY).length = _; rw [List.length_set]; exact hlq⟩
    dsimp only
    rw [← hf, show ts.length - v = (ts.length - (v + 1)) + 1 by omega, GC ⟨by assumption, by assumption⟩ hk]
   ·dsimp only;omega
  ·(apply dK (v + 1, q); focus (refine Le.ren [] rfl (by decide) ?_ ?_ <;> repeat' (first | exact trivial | refine And.intro ⟨_, rfl, ?_⟩ ?_ | refine And.intro ⟨_, _, rfl, rfl, ?_⟩ ?_ | exact Or.inr rfl | refine Or.inl ⟨?_, (by first | rfl | exact aY _ _ | exact Pur.pf)⟩ | refine Or.inr (All2.cons ?_ ?_) | refine All2.cons ?_ ?_ | exact All2.nil | rfl)))
   ·refine ⟨by omega, ?_, hmq, hlq⟩
    dsimp only
    rw [← hf, show ts.length - v = (ts.length - (v + 1)) + 1 by omega, yV (fun h => by
     have h2 : ¬ ts[v]! = 2 := by assumption
     exact h2 h.1)]
   ·dsimp only;omega
 ·have hve : v = ts.length := by omega
  have hq2 : dQ ts ts.length 0 s = (q, 0) := by rw [← hf, hve, Nat.sub_self]; rfl
  repeat' (first|(apply aL;first|(apply aT;rfl;rfl;rfl;rfl)|(apply aC;rfl;rfl)|(apply aF;kernel_rfl))|(apply aM;first|apply aH|apply aB|(apply aP;rfl;all_goals intro hc;have hq:=hc;(try simp only [cH] at hq);try exfalso;omega)|apply bJ|apply aQ)|with_reducible apply aA|with_reducible apply bO|with_reducible apply bK)
  rw [hq2]
  (refine aO rfl ?_; refine bW () trivial ?_ ⟨.inr (Eq.trans (b := some _) rfl ?_), ⟨.inr (Eq.trans (b := some _) rfl ?_), ⟨.inr (Eq.trans (b := some _) rfl ?_), trivial⟩⟩⟩)
  ·rfl
  ·rfl
  ·rfl
  ·rfl
def eW (ts : List Int) (s : Mc) (x : Pnt) : Mc × Int := if dI ts s x = true then (s, 2) else dA ts s x
theorem uZ {ts : List Int} {s : Mc} {x : Pnt} (h : dI ts s x = true) : eW ts s x = (s, 2) := if_pos h
theorem qU {ts : List Int} {s : Mc} {x : Pnt} (h : dI ts s x = false) : eW ts s x = dA ts s x := if_neg (by rw [h]; decide)
theorem iU {ts : List Int} {x : Pnt} {v : Int} (h : v ∈ cV (wS ts x [1, 2, 3])) : 0 ≤ v ∧ v < ts.length := by
 obtain ⟨v', h3, h4, rfl⟩ := dY.1 h
 rw [dU, Bool.and_eq_true, decide_eq_true_eq] at h4
 omega
theorem dO {ts : List Int} {s : Mc} {x : Pnt} (htl : ts.length ≤ 6) : dI ts s x = true ↔ ∃ v ∈ cV (wS ts x [1, 2, 3]), s.slots[v.toNat]!.set = false := by
 constructor
 ·intro h
  obtain ⟨v, hv, hne, hs⟩ := uC h
  refine ⟨(v : Int), dY.2 ⟨v, by omega, ?_, rfl⟩, hs⟩
  have hb := oH ts x v
  rw [dU, decide_eq_true hv, Bool.true_and, decide_eq_true_eq]
  simp only [List.mem_cons, List.not_mem_nil, or_false]; omega
 ·rintro ⟨v, hv, hs⟩
  obtain ⟨v', h3, h4, rfl⟩ := dY.1 hv
  rw [dU, Bool.and_eq_true, decide_eq_true_eq, decide_eq_true_eq] at h4
  unfold dI
  refine List.any_eq_true.2 ⟨v', List.mem_range.2 h4.1, ?_⟩
  rw [Bool.and_eq_true, decide_eq_true_eq]
  refine ⟨fun e => ?_, by rw [show s.slots[v']!.set = false from hs]; rfl⟩
  have h5 := h4.2
  simp only [List.mem_cons, List.not_mem_nil, or_false] at h5;omega
theorem Kg {ts : List Int} {bd : List AL.Stmt} {pts : List Pnt} {s : Mc} {x : Pnt} {N : Nat} {Q : Exit → AS → Prop} {all : Array Oper} {rest : List Oper} {tsl : List (Nat × AV)} {hsl : List (Nat × Option (List AV))} {nidl : Nat} {z0 : Lo} {md : Md} {d : Nat} {ty : TypeId} {pos : String} {af : Array Edge} {tys : Array TypeId} {x0 x1 : Operand} {i0 i1 i2 : Nat} (ha0 : ev (lk tsl) x0 = some (.optr i0 0)) (ha1 : ev (lk tsl) x1 = some (fM x)) (hH0 : cQ hsl i0 = some (mO ts bd pts i1 i2 s)) (hH1 : cQ hsl i1 = some (aJ eH s.slots)) (hH2 : cQ hsl i2 = some (aJ cI s.read)) (hdd : Go.AL.distinct [i0, i1, i2] = true) (hmc : MC Tryz.prog 86 [.optr 0 0, fM x] [(0, some (mO ts bd pts 1 2 s)), (1, some (aJ eH s.slots)), (2, some (aJ cI s.read))] 3 (fun _ : Unit => True) (fun _ => iv (eW ts s x).2) (fun _ => [(0, some (mO ts bd pts 1 2 (eW ts s x).1)), (1, some (aJ eH (eW ts s x).1.slots)), (2, some (aJ cI (eW ts s x).1.read))])) (hM : Nat.ble (nidl + 0) eX = true) (hN : Nat.blt d N = true) {md' : Md} [hmd : MdA md (gJ [x0, x1] ++ [.inr i0, .inr i1, .inr i2]) (List.map Sum.inr (List.map Prod.fst ([(i0, some (mO ts bd pts i1 i2 (eW ts s x).1)), (i1, some (aJ eH (eW ts s x).1.slots)), (i2, some (aJ cI (eW ts s x).1.read))] : List (Nat × Option (List AV)))) ++ [.inl d]) md'] (kk : RW Tryz.prog N all Q md' rest ⟨(d, iv (eW ts s x).2) :: tsl, iJ hsl [(i0, some (mO ts bd pts i1 i2 (eW ts s x).1)), (i1, some (aJ eH (eW ts s x).1.slots)), (i2, some (aJ cI (eW ts s x).1.read))], nidl + 0, z0⟩) : RW Tryz.prog N all Q md (⟨some d, .call ⟨.value (.func 86), #[x0, x1], tys⟩, ty, pos, af, none⟩ :: rest) ⟨tsl, hsl, nidl, z0⟩ := by
 refine cJ [i0, i1, i2] 3 [(i0, some (mO ts bd pts i1 i2 (eW ts s x).1)), (i1, some (aJ eH (eW ts s x).1.slots)), (i2, some (aJ cI (eW ts s x).1.read))] hmc (avs := [.optr i0 0, fM x]) ?_ hdd ?_ rfl ?_ (by simpa using hM) ?_ ?_ ?_ hN (md' := md') (hmd := hmd) kk
 ·show evL (lk tsl) [x0, x1] = _
  simp only [evL, ha0, ha1]
 ·exact ⟨⟨_, _, rfl, hH0, by (repeat' (first|exact RnL.purI inferInstance|exact RnV.purI inferInstance|exact RnV.own rfl|refine RnL.cons ?_ ?_))⟩, ⟨⟨_, _, rfl, hH1, by (repeat' (exact RnL.purI inferInstance))⟩, ⟨⟨_, _, rfl, hH2, by (repeat' (exact RnL.purI inferInstance))⟩, trivial⟩⟩⟩
 ·(repeat' (first|exact RnL.purI inferInstance|exact RnV.optr rfl|refine RnL.cons ?_ ?_))
 ·(repeat' (exact RnV.purI inferInstance))
 ·simp [dJ]
 ·(repeat' (first|exact trivial|(refine And.intro ⟨0, _, rfl, rfl, ?_⟩ ?_)|(refine And.intro ⟨1, _, rfl, rfl, ?_⟩ ?_)|(refine And.intro ⟨2, _, rfl, rfl, ?_⟩ ?_)|exact RnL.purI inferInstance|exact RnV.purI inferInstance|exact RnV.own rfl|refine RnL.cons ?_ ?_))
theorem k7 {ts : List Int} {bd : List AL.Stmt} {pts : List Pnt} {s : Mc} {v : Int} {y : Sl} {N : Nat} {Q : Exit → AS → Prop} {all : Array Oper} {rest : List Oper} {tsl : List (Nat × AV)} {hsl : List (Nat × Option (List AV))} {nidl : Nat} {z0 : Lo} {md : Md} {d : Nat} {ty : TypeId} {pos : String} {af : Array Edge} {tys : Array TypeId} {x0 x1 x2 : Operand} {i0 i1 i2 : Nat} (ha0 : ev (lk tsl) x0 = some (.optr i0 0)) (ha1 : ev (lk tsl) x1 = some (iv v)) (ha2 : ev (lk tsl) x2 = some (Hp y)) (hH0 : cQ hsl i0 = some (mO ts bd pts i1 i2 s)) (hH1 : cQ hsl i1 = some (aJ eH s.slots)) (hH2 : cQ hsl i2 = some (aJ cI s.read)) (hdd : Go.AL.distinct [i0, i1, i2] = true) (hmc : MC Tryz.prog 129 [.optr 0 0, iv v, Hp y] [(0, some (mO ts bd pts 1 2 s)), (1, some (aJ eH s.slots)), (2, some (aJ cI s.read))] 3 (fun _ : Unit => True) (fun _ => iv (c6 ts s v.toNat y).2) (fun _ => [(0, some (mO ts bd pts 1 2 (c6 ts s v.toNat y).1)), (1, some (aJ eH (c6 ts s v.toNat y).1.slots)), (2, some (aJ cI (c6 ts s v.toNat y).1.read))])) (hM : Nat.ble (nidl + 0) eX = true) (hN : Nat.blt d N = true) {md' : Md} [hmd : MdA md (gJ [x0, x1, x2] ++ [.inr i0, .inr i1, .inr i2]) (List.map Sum.inr (List.map Prod.fst ([(i0, some (mO ts bd pts i1 i2 (c6 ts s v.toNat y).1)), (i1, some (aJ eH (c6 ts s v.toNat y).1.slots)), (i2, some (aJ cI (c6 ts s v.toNat y).1.read))] : List (Nat × Option (List AV)))) ++ [.inl d]) md'] (kk : RW Tryz.prog N all Q md' rest ⟨(d, iv (c6 ts s v.toNat y).2) :: tsl, iJ hsl [(i0, some (mO ts bd pts i1 i2 (c6 ts s v.toNat y).1)), (i1, some (aJ eH (c6 ts s v.toNat y).1.slots)), (i2, some (aJ cI (c6 ts s v.toNat y).1.read))], nidl + 0, z0⟩) : RW Tryz.prog N all Q md (⟨some d, .call ⟨.value (.func 129), #[x0, x1, x2], tys⟩, ty, pos, af, none⟩ :: rest) ⟨tsl, hsl, nidl, z0⟩ := by
 refine cJ [i0, i1, i2] 3 [(i0, some (mO ts bd pts i1 i2 (c6 ts s v.toNat y).1)), (i1, some (aJ eH (c6 ts s v.toNat y).1.slots)), (i2, some (aJ cI (c6 ts s v.toNat y).1.read))] hmc (avs := [.optr i0 0, iv v, Hp y]) ?_ hdd ?_ rfl ?_ (by simpa using hM) ?_ ?_ ?_ hN (md' := md') (hmd := hmd) kk
 ·show evL (lk tsl) [x0, x1, x2] = _
  simp only [evL, ha0, ha1, ha2]
 ·exact ⟨⟨_, _, rfl, hH0, by (repeat' (first|exact RnL.purI inferInstance|exact RnV.purI inferInstance|exact RnV.own rfl|refine RnL.cons ?_ ?_))⟩, ⟨⟨_, _, rfl, hH1, by (repeat' (exact RnL.purI inferInstance))⟩, ⟨⟨_, _, rfl, hH2, by (repeat' (exact RnL.purI inferInstance))⟩, trivial⟩⟩⟩
 ·(repeat' (first|exact RnL.purI inferInstance|exact RnV.optr rfl|refine RnL.cons ?_ ?_))
 ·(repeat' (exact RnV.purI inferInstance))
 ·simp [dJ]
 ·(repeat' (first|exact trivial|(refine And.intro ⟨0, _, rfl, rfl, ?_⟩ ?_)|(refine And.intro ⟨1, _, rfl, rfl, ?_⟩ ?_)|(refine And.intro ⟨2, _, rfl, rfl, ?_⟩ ?_)|exact RnL.purI inferInstance|exact RnV.purI inferInstance|exact RnV.own rfl|refine RnL.cons ?_ ?_))
theorem m8 (ts : List Int) (bd : List AL.Stmt) (pts : List Pnt) (s : Mc) (v : Int) (y : Sl) (hm : OkM s.cells) (hsl : s.slots.length = ts.length) (hv : 0 ≤ v ∧ v < ts.length) : MC Tryz.prog 129 [.optr 0 0, iv v, Hp y] [(0, some (mO ts bd pts 1 2 s)), (1, some (aJ eH s.slots)), (2, some (aJ cI s.read))] 3 (fun _ : Unit => True) (fun _ => iv (c6 ts s v.toNat y).2) (fun _ => [(0, some (mO ts bd pts 1 2 (c6 ts s v.toNat y).1)), (1, some (aJ eH (c6 ts s v.toNat y).1.slots)), (2, some (aJ cI (c6 ts s v.toNat y).1.read))]) := by
 have h := Ki ts bd pts s v.toNat y hm hsl (by omega)
 rw [Int.toNat_of_nonneg hv.1] at h
 exact h
theorem D3 {ts : List Int} {bd : List AL.Stmt} {pts : List Pnt} {s : Mc} {v : Int} {N : Nat} {Q : Exit → AS → Prop} {all : Array Oper} {rest : List Oper} {tsl : List (Nat × AV)} {hsl : List (Nat × Option (List AV))} {nidl : Nat} {z0 : Lo} {md : Md} {d : Nat} {ty : TypeId} {pos : String} {af : Array Edge} {tys : Array TypeId} {x0 x1 : Operand} {i0 i1 i2 : Nat} (ha0 : ev (lk tsl) x0 = some (.optr i0 0)) (ha1 : ev (lk tsl) x1 = some (iv v)) (hH0 : cQ hsl i0 = some (mO ts bd pts i1 i2 s)) (hH1 : cQ hsl i1 = some (aJ eH s.slots)) (hH2 : cQ hsl i2 = some (aJ cI s.read)) (hdd : Go.AL.distinct [i0, i1, i2] = true) (hmc : MC Tryz.prog 136 [.optr 0 0, iv v] [(0, some (mO ts bd pts 1 2 s)), (1, some (aJ eH s.slots)), (2, some (aJ cI s.read))] 3 (fun _ : Unit => True) (fun _ => iv (kC (cM s.cells s.slots[v.toNat]!.ptr true))) (fun _ => [(0, some ([aG ts bd pts, .own 1 0 ts.length 4, sl c8 (iF s.cells s.slots[v.toNat]!.ptr), .own 2 0 s.read.length 1])), (1, some (aJ eH s.slots)), (2, some (aJ cI s.read))])) (hM : Nat.ble (nidl + 0) eX = true) (hN : Nat.blt d N = true) {md' : Md} [hmd : MdA md (gJ [x0, x1] ++ [.inr i0, .inr i1, .inr i2]) (List.map Sum.inr (List.map Prod.fst ([(i0, some ([aG ts bd pts, .own i1 0 ts.length 4, sl c8 (iF s.cells s.slots[v.toNat]!.ptr), .own i2 0 s.read.length 1])), (i1, some (aJ eH s.slots)), (i2, some (aJ cI s.read))] : List (Nat × Option (List AV)))) ++ [.inl d]) md'] (kk : RW Tryz.prog N all Q md' rest ⟨(d, iv (kC (cM s.cells s.slots[v.toNat]!.ptr true))) :: tsl, iJ hsl [(i0, some ([aG ts bd pts, .own i1 0 ts.length 4, sl c8 (iF s.cells s.slots[v.toNat]!.ptr), .own i2 0 s.read.length 1])), (i1, some (aJ eH s.slots)), (i2, some (aJ cI s.read))], nidl + 0, z0⟩) : RW Tryz.prog N all Q md (⟨some d, .call ⟨.value (.func 136), #[x0, x1], tys⟩, ty, pos, af, none⟩ :: rest) ⟨tsl, hsl, nidl, z0⟩ := by
 refine cJ [i0, i1, i2] 3 [(i0, some ([aG ts bd pts, .own i1 0 ts.length 4, sl c8 (iF s.cells s.slots[v.toNat]!.ptr), .own i2 0 s.read.length 1])), (i1, some (aJ eH s.slots)), (i2, some (aJ cI s.read))] hmc (avs := [.optr i0 0, iv v]) ?_ hdd ?_ rfl ?_ (by simpa using hM) ?_ ?_ ?_ hN (md' := md') (hmd := hmd) kk
 ·show evL (lk tsl) [x0, x1] = _
  simp only [evL, ha0, ha1]
 ·exact ⟨⟨_, _, rfl, hH0, by (repeat' (first|exact RnL.purI inferInstance|exact RnV.purI inferInstance|exact RnV.own rfl|refine RnL.cons ?_ ?_))⟩, ⟨⟨_, _, rfl, hH1, by (repeat' (exact RnL.purI inferInstance))⟩, ⟨⟨_, _, rfl, hH2, by (repeat' (exact RnL.purI inferInstance))⟩, trivial⟩⟩⟩
 ·(repeat' (first|exact RnL.purI inferInstance|exact RnV.optr rfl|refine RnL.cons ?_ ?_))
 ·(repeat' (exact RnV.purI inferInstance))
 ·simp [dJ]
 ·(repeat' (first|exact trivial|(refine And.intro ⟨0, _, rfl, rfl, ?_⟩ ?_)|(refine And.intro ⟨1, _, rfl, rfl, ?_⟩ ?_)|(refine And.intro ⟨2, _, rfl, rfl, ?_⟩ ?_)|exact RnL.purI inferInstance|exact RnV.purI inferInstance|exact RnV.own rfl|refine RnL.cons ?_ ?_))
theorem Gt (ts : List Int) (bd : List AL.Stmt) (pts : List Pnt) (s : Mc) (v : Int) (hm : OkM s.cells) (hsl : s.slots.length = ts.length) (hv : 0 ≤ v ∧ v < ts.length) : MC Tryz.prog 136 [.optr 0 0, iv v] [(0, some (mO ts bd pts 1 2 s)), (1, some (aJ eH s.slots)), (2, some (aJ cI s.read))] 3 (fun _ : Unit => True) (fun _ => iv (kC (cM s.cells s.slots[v.toNat]!.ptr true))) (fun _ => [(0, some ([aG ts bd pts, .own 1 0 ts.length 4, sl c8 (iF s.cells s.slots[v.toNat]!.ptr), .own 2 0 s.read.length 1])), (1, some (aJ eH s.slots)), (2, some (aJ cI s.read))]) := by
 have h := yC ts bd pts s v.toNat hm hsl (by omega)
 rw [Int.toNat_of_nonneg hv.1] at h
 exact h
theorem LN (ts : List Int) (bd : List AL.Stmt) (pts : List Pnt) (s : Mc) (x : Pnt) (htl : ts.length ≤ 6) (hm : OkM s.cells) (hsl : s.slots.length = ts.length) (ho : x.op = 1) (hx : 0 ≤ x.x ∧ x.x < ts.length) : MC Tryz.prog 86 [.optr 0 0, fM x] [(0, some (mO ts bd pts 1 2 s)), (1, some (aJ eH s.slots)), (2, some (aJ cI s.read))] 3 (fun _ : Unit => True) (fun _ => iv (eW ts s x).2) (fun _ => [(0, some (mO ts bd pts 1 2 (eW ts s x).1)), (1, some (aJ eH (eW ts s x).1.slots)), (2, some (aJ cI (eW ts s x).1.read))]) := by
 have hus := jF ts bd pts x htl
 have hsm : Sm (wS ts x [1, 2, 3]) := dH (by omega)
 obtain ⟨L, hL⟩ : ∃ L, L = cV (wS ts x [1, 2, 3]) := ⟨_, rfl⟩
 have hLl : L.length ≤ 62 := by rw [hL]; exact dT _
 have hmem : ∀ k, k < L.length → 0 ≤ L[k]! ∧ L[k]! < s.slots.length := fun k hk => by
  rw [hsl]; exact iU (by rw [← hL]; exact cO _ _ hk)
 (refine cA Tryz.func86 rfl (by simp [Tryz.ntmps86]) ?_; rw [Tryz.ntmps86])
 repeat' (first|(apply aL;first|((with_reducible apply aI (k := 120));(case ha => rfl);(case h => exact hus);(case hp => (exact Pur.pf));(case hN => rfl))|(apply aE;rfl;rfl)|(first|(apply aN;rfl;rfl;rfl;rfl)|(apply aV;rfl;rfl;(exact (rfl:_=[_, _, _, _, _]));rfl;rfl;rfl))|(apply aD;rfl;rfl;rfl)|(apply aC;rfl;rfl)|((with_reducible apply aI (k := 119));(case ha => rfl);(case h => (apply iK <;> (assumption)));(case hp => (rfl));(case hN => rfl))|(apply bF;rfl;rfl;rfl)|(apply aF;kernel_rfl)|(apply bZ;rfl;rfl;rfl)|(apply bQ;rfl;rfl;rfl;rfl))|(apply aM;first|apply aH|apply aB|(apply b0;kernel_rfl)|apply aK)|with_reducible apply aA)
 rw [← hL]
 refine bB (σ := Nat) [0, 3, 26, 27] [(0, _), (3, _), (26, _), (27, _)] [0, 1, 2, 3] [(0, some _), (1, some _), (2, some _), (3, some _)] (fun k => [(28, iv (k : Int))]) (fun k => []) (fun k => k ≤ L.length ∧ ∀ j, j < k → s.slots[(L[j]!).toNat]!.set = true) (fun k => L.length - k) (0) ⟨Nat.zero_le _, fun j h => absurd h (by omega)⟩ rfl rfl (by repeat' (first|exact trivial|refine And.intro rfl ?_)) (by repeat' (exact trivial)) ?_
 rintro k ⟨hk, hall⟩
 by_cases hkn : k < L.length
 ·have hmk := hmem k hkn
  repeat' (first|(apply aL;first|(apply aE;rfl;rfl)|(first|(apply cY;(case hx|hH => rfl);(case hf|hg|hα => infer_instance);(case hk => omega);(case hc|hN => rfl))|(apply aN;rfl;rfl;rfl;rfl))|(apply aD;rfl;rfl;rfl)|(first|(apply bS;rfl;rfl;omega;rfl)|(apply aT;rfl;rfl;rfl;rfl))|(apply aC;rfl;rfl)|(first|(apply aZ;(case hx|hi => rfl);(case hm => (assumption));(case hml => (rfl));(case hα | hf|hg => infer_instance);(case hN => rfl))|(apply cR;rfl;rfl;(omega);rfl))|(apply aF;kernel_rfl)|(apply cG;rfl;rfl)|(apply bZ;rfl;rfl;rfl))|(apply aM;first|apply aH|apply aB|(apply aP;rfl;all_goals intro hc;have hq:=hc;(try simp only [cH] at hq);try exfalso;omega)|apply aK|apply aR|apply aQ)|with_reducible apply aA|with_reducible apply bD|with_reducible apply aX|with_reducible apply cL)
  ·have hu : dI ts s x = true := (dO htl).2 ⟨L[k]!, by rw [← hL]; exact cO _ _ hkn, by assumption⟩
   rw [uZ hu]
   (refine aO rfl ?_; refine bW () trivial ?_ ⟨.inr (Eq.trans (b := some _) rfl ?_), ⟨.inr (Eq.trans (b := some _) rfl ?_), ⟨.inr (Eq.trans (b := some _) rfl ?_), trivial⟩⟩⟩)
   ·rfl
   ·rfl
   ·rfl
   ·rfl
  ·(apply dK (k + 1); focus (refine Le.ren [(3, 3)] rfl (by decide) ?_ ?_ <;> repeat' (first | exact trivial | refine And.intro ⟨_, rfl, ?_⟩ ?_ | refine And.intro ⟨_, _, rfl, rfl, ?_⟩ ?_ | exact Or.inr rfl | refine Or.inl ⟨?_, (by first | rfl | exact aY _ _ | exact Pur.pf)⟩ | refine Or.inr (All2.cons ?_ ?_) | refine All2.cons ?_ ?_ | exact All2.nil | rfl)))
   ·refine ⟨by omega, fun j hj => ?_⟩
    rcases Nat.lt_or_ge j k with h|h
    ·exact hall j h
    ·rw [show j = k by omega]; assumption
   ·omega
 ·have hu : dI ts s x = false := by
   cases q : dI ts s x with
   | false => rfl
   | true =>
    obtain ⟨v, hv, hs⟩ := (dO htl).1 q
    rw [← hL] at hv
    obtain ⟨j, hj, e⟩ := List.getElem_of_mem hv
    have h1 := hall j (by omega)
    rw [cT _ _ hj, e, hs] at h1;cases h1
  rw [qU hu]
  have hd : dA ts s x = c6 ts s x.x.toNat ⟨true, x.n, ⟨0, 0⟩⟩ := by unfold dA;rw [if_pos ho]
  rw [hd]
  have hp := m8 ts bd pts s x.x ⟨true, x.n, ⟨0, 0⟩⟩ hm hsl hx
  repeat' (first|(apply aL;first|((apply k7 (ts := ts) (bd := bd) (pts := pts) (s := s) (v := x.x) (y := ⟨true, x.n, ⟨0, 0⟩⟩));(case ha0|ha1|ha2|hH0|hH1|hH2|hdd => rfl);(case hmc => exact hp);(case hM|hN => rfl))|(apply aE;rfl;rfl)|(apply aN;rfl;rfl;rfl;rfl)|(apply aD;rfl;rfl;rfl)|(apply aT;rfl;rfl;rfl;rfl)|(apply aC;rfl;rfl)|(apply aF;kernel_rfl)|(apply cC;rfl;(exact (rfl:_=some [_, _, _, _]));(exact (rfl:_=[_, _, _, _]));rfl))|(apply aM;first|apply aH|apply aB|(apply aP;rfl;all_goals intro hc;have hq:=hc;(try simp only [cH] at hq);try exfalso;omega)|apply aK|apply bJ|apply aQ)|with_reducible apply aA|with_reducible apply bD|with_reducible apply bO|with_reducible apply cL|with_reducible apply bK)
  (refine aO rfl ?_; refine bW () trivial ?_ ⟨.inr (Eq.trans (b := some _) rfl ?_), ⟨.inr (Eq.trans (b := some _) rfl ?_), ⟨.inr (Eq.trans (b := some _) rfl ?_), trivial⟩⟩⟩)
  ·rfl
  ·rfl
  ·rfl
  ·rfl
theorem Lm (ts : List Int) (bd : List AL.Stmt) (pts : List Pnt) (s : Mc) (x : Pnt) (htl : ts.length ≤ 6) (hm : OkM s.cells) (hsl : s.slots.length = ts.length) (ho : x.op = 2) (hn : 0 ≤ x.n ∧ x.n ≤ 9) (hx : 0 ≤ x.x ∧ x.x < ts.length) : MC Tryz.prog 86 [.optr 0 0, fM x] [(0, some (mO ts bd pts 1 2 s)), (1, some (aJ eH s.slots)), (2, some (aJ cI s.read))] 3 (fun _ : Unit => True) (fun _ => iv (eW ts s x).2) (fun _ => [(0, some (mO ts bd pts 1 2 (eW ts s x).1)), (1, some (aJ eH (eW ts s x).1.slots)), (2, some (aJ cI (eW ts s x).1.read))]) := by
 have hus := jF ts bd pts x htl
 have hsm : Sm (wS ts x [1, 2, 3]) := dH (by omega)
 obtain ⟨L, hL⟩ : ∃ L, L = cV (wS ts x [1, 2, 3]) := ⟨_, rfl⟩
 have hLl : L.length ≤ 62 := by rw [hL]; exact dT _
 have hmem : ∀ k, k < L.length → 0 ≤ L[k]! ∧ L[k]! < s.slots.length := fun k hk => by
  rw [hsl]; exact iU (by rw [← hL]; exact cO _ _ hk)
 (refine cA Tryz.func86 rfl (by simp [Tryz.ntmps86]) ?_; rw [Tryz.ntmps86])
 repeat' (first|(apply aL;first|((with_reducible apply aI (k := 120));(case ha => rfl);(case h => exact hus);(case hp => (exact Pur.pf));(case hN => rfl))|(apply aE;rfl;rfl)|(first|(apply aN;rfl;rfl;rfl;rfl)|(apply aV;rfl;rfl;(exact (rfl:_=[_, _, _, _, _]));rfl;rfl;rfl))|(apply aD;rfl;rfl;rfl)|(apply aC;rfl;rfl)|((with_reducible apply aI (k := 119));(case ha => rfl);(case h => (apply iK <;> (assumption)));(case hp => (rfl));(case hN => rfl))|(apply bF;rfl;rfl;rfl)|(apply aF;kernel_rfl)|(apply bZ;rfl;rfl;rfl)|(apply bQ;rfl;rfl;rfl;rfl))|(apply aM;first|apply aH|apply aB|(apply b0;kernel_rfl)|apply aK)|with_reducible apply aA)
 rw [← hL]
 refine bB (σ := Nat) [0, 3, 26, 27] [(0, _), (3, _), (26, _), (27, _)] [0, 1, 2, 3] [(0, some _), (1, some _), (2, some _), (3, some _)] (fun k => [(28, iv (k : Int))]) (fun k => []) (fun k => k ≤ L.length ∧ ∀ j, j < k → s.slots[(L[j]!).toNat]!.set = true) (fun k => L.length - k) (0) ⟨Nat.zero_le _, fun j h => absurd h (by omega)⟩ rfl rfl (by repeat' (first|exact trivial|refine And.intro rfl ?_)) (by repeat' (exact trivial)) ?_
 rintro k ⟨hk, hall⟩
 by_cases hkn : k < L.length
 ·have hmk := hmem k hkn
  repeat' (first|(apply aL;first|(apply aE;rfl;rfl)|(first|(apply cY;(case hx|hH => rfl);(case hf|hg|hα => infer_instance);(case hk => omega);(case hc|hN => rfl))|(apply aN;rfl;rfl;rfl;rfl))|(apply aD;rfl;rfl;rfl)|(first|(apply bS;rfl;rfl;omega;rfl)|(apply aT;rfl;rfl;rfl;rfl))|(apply aC;rfl;rfl)|(first|(apply aZ;(case hx|hi => rfl);(case hm => (assumption));(case hml => (rfl));(case hα | hf|hg => infer_instance);(case hN => rfl))|(apply cR;rfl;rfl;(omega);rfl))|(apply aF;kernel_rfl)|(apply cG;rfl;rfl)|(apply bZ;rfl;rfl;rfl))|(apply aM;first|apply aH|apply aB|(apply aP;rfl;all_goals intro hc;have hq:=hc;(try simp only [cH] at hq);try exfalso;omega)|apply aK|apply aR|apply aQ)|with_reducible apply aA|with_reducible apply bD|with_reducible apply aX|with_reducible apply cL)
  ·have hu : dI ts s x = true := (dO htl).2 ⟨L[k]!, by rw [← hL]; exact cO _ _ hkn, by assumption⟩
   rw [uZ hu]
   (refine aO rfl ?_; refine bW () trivial ?_ ⟨.inr (Eq.trans (b := some _) rfl ?_), ⟨.inr (Eq.trans (b := some _) rfl ?_), ⟨.inr (Eq.trans (b := some _) rfl ?_), trivial⟩⟩⟩)
   ·rfl
   ·rfl
   ·rfl
   ·rfl
  ·(apply dK (k + 1); focus (refine Le.ren [(3, 3)] rfl (by decide) ?_ ?_ <;> repeat' (first | exact trivial | refine And.intro ⟨_, rfl, ?_⟩ ?_ | refine And.intro ⟨_, _, rfl, rfl, ?_⟩ ?_ | exact Or.inr rfl | refine Or.inl ⟨?_, (by first | rfl | exact aY _ _ | exact Pur.pf)⟩ | refine Or.inr (All2.cons ?_ ?_) | refine All2.cons ?_ ?_ | exact All2.nil | rfl)))
   ·refine ⟨by omega, fun j hj => ?_⟩
    rcases Nat.lt_or_ge j k with h|h
    ·exact hall j h
    ·rw [show j = k by omega]; assumption
   ·omega
 ·have hu : dI ts s x = false := by
   cases q : dI ts s x with
   | false => rfl
   | true =>
    obtain ⟨v, hv, hs⟩ := (dO htl).1 q
    rw [← hL] at hv
    obtain ⟨j, hj, e⟩ := List.getElem_of_mem hv
    have h1 := hall j (by omega)
    rw [cT _ _ hj, e, hs] at h1;cases h1
  rw [qU hu]
  have hml := hm.l
  have hnc := BX s.cells hm x.n
  by_cases h2 : s.cells.length = 200
  ·rw [if_neg (by omega)] at hnc
   have hd : dA ts s x = (s, 1) := by unfold dA;rw [if_neg (show ¬ x.op = 1 by omega), if_pos ho, if_pos h2]
   rw [hd]
   repeat' (first|(apply aL;first|((with_reducible apply aI (k := 130));(case ha => rfl);(case h => exact hnc);(case hp => (exact Pur.pf));(case hN => rfl))|(apply aE;rfl;rfl)|(apply aN;rfl;rfl;rfl;rfl)|(apply aD;rfl;rfl;rfl)|(apply aT;rfl;rfl;rfl;rfl)|(apply aC;rfl;rfl)|(apply aF;kernel_rfl)|(apply cG;rfl;rfl)|(apply bZ;rfl;rfl;rfl)|(apply bE;rfl;rfl)|(apply a8;rfl;rfl;rfl)|(apply aW;rfl;rfl;rfl;rfl;rfl;(decide);(exact (rfl:_=[_, _]))))|(apply aM;first|apply aH|apply aB|(apply b0;kernel_rfl)|(apply b8;rfl;(rfl))|(apply aP;rfl;all_goals intro hc;have hq:=hc;(try simp only [cH] at hq);try exfalso;omega)|apply aK|apply bJ|apply aQ)|with_reducible apply aA|with_reducible apply bD|with_reducible apply bO|with_reducible apply cL|with_reducible apply bK)
   (refine aO rfl ?_; refine bW () trivial ?_ ⟨.inr (Eq.trans (b := some _) rfl ?_), ⟨.inr (Eq.trans (b := some _) rfl ?_), ⟨.inr (Eq.trans (b := some _) rfl ?_), trivial⟩⟩⟩)
   ·rfl
   ·rfl
   ·rfl
   ·rfl
  ·rw [if_pos (by omega)] at hnc
   have hp := m8 ts bd pts ⟨s.slots, s.cells ++ [nV x.n], s.read⟩ x.x ⟨true, 0, ⟨s.cells.length, 0⟩⟩ (hm.nw hn (by omega)) hsl hx
   have hd : dA ts s x = c6 ts ⟨s.slots, s.cells ++ [nV x.n], s.read⟩ x.x.toNat ⟨true, 0, ⟨s.cells.length, 0⟩⟩ := by unfold dA;rw [if_neg (show ¬ x.op = 1 by omega), if_pos ho, if_neg h2]
   rw [hd]
   repeat' (first|(apply aL;first|((with_reducible apply aI (k := 130));(case ha => rfl);(case h => exact hnc);(case hp => (exact Pur.pf));(case hN => rfl))|((apply k7 (ts := ts) (bd := bd) (pts := pts) (s := ⟨s.slots, s.cells ++ [nV x.n], s.read⟩) (v := x.x) (y := ⟨true, 0, ⟨s.cells.length, 0⟩⟩));(case ha0|ha1|ha2|hH0|hH1|hH2|hdd => rfl);(case hmc => exact hp);(case hM|hN => rfl))|(apply aE;rfl;rfl)|(first|(apply aN;rfl;rfl;rfl;rfl)|(apply aV;rfl;rfl;(exact (rfl:_=[_, _]));rfl;rfl;rfl))|(apply aD;rfl;rfl;rfl)|(apply aT;rfl;rfl;rfl;rfl)|(apply aC;rfl;rfl)|(apply aF;kernel_rfl)|(apply cC;rfl;(exact (rfl:_=some [_, _, _, _]));(exact (rfl:_=[_, _, _, _]));rfl)|(apply cG;rfl;rfl)|(apply bZ;rfl;rfl;rfl)|(apply bE;rfl;rfl)|(apply a8;rfl;rfl;rfl)|(apply aW;rfl;rfl;rfl;rfl;rfl;(case hl => (simp;done));(first|exact (rfl:_=[_, _])|exact (rfl:_=[_, _, _, _]))))|(apply aM;first|apply aH|apply aB|(apply b0;kernel_rfl)|(apply cF;rfl;(rfl))|(apply aP;rfl;all_goals intro hc;have hq:=hc;(try simp only [cH] at hq);try exfalso;omega)|apply aK|apply aR|apply bJ|apply aQ)|with_reducible apply aA|with_reducible apply bD|with_reducible apply bO|with_reducible apply cL|with_reducible apply bK)
   (refine aO rfl ?_; refine bW () trivial ?_ ⟨.inr (Eq.trans (b := some _) rfl ?_), ⟨.inr (Eq.trans (b := some _) rfl ?_), ⟨.inr (Eq.trans (b := some _) rfl ?_), trivial⟩⟩⟩)
   ·rfl
   ·rfl
   ·rfl
   ·rfl
theorem LM (ts : List Int) (bd : List AL.Stmt) (pts : List Pnt) (s : Mc) (x : Pnt) (htl : ts.length ≤ 6) (hm : OkM s.cells) (hsl : s.slots.length = ts.length) (ho : x.op = 3) (hx : 0 ≤ x.x ∧ x.x < ts.length) (hy : 0 ≤ x.y ∧ x.y < ts.length) : MC Tryz.prog 86 [.optr 0 0, fM x] [(0, some (mO ts bd pts 1 2 s)), (1, some (aJ eH s.slots)), (2, some (aJ cI s.read))] 3 (fun _ : Unit => True) (fun _ => iv (eW ts s x).2) (fun _ => [(0, some (mO ts bd pts 1 2 (eW ts s x).1)), (1, some (aJ eH (eW ts s x).1.slots)), (2, some (aJ cI (eW ts s x).1.read))]) := by
 have hus := jF ts bd pts x htl
 have hsm : Sm (wS ts x [1, 2, 3]) := dH (by omega)
 obtain ⟨L, hL⟩ : ∃ L, L = cV (wS ts x [1, 2, 3]) := ⟨_, rfl⟩
 have hLl : L.length ≤ 62 := by rw [hL]; exact dT _
 have hmem : ∀ k, k < L.length → 0 ≤ L[k]! ∧ L[k]! < s.slots.length := fun k hk => by
  rw [hsl]; exact iU (by rw [← hL]; exact cO _ _ hk)
 (refine cA Tryz.func86 rfl (by simp [Tryz.ntmps86]) ?_; rw [Tryz.ntmps86])
 repeat' (first|(apply aL;first|((with_reducible apply aI (k := 120));(case ha => rfl);(case h => exact hus);(case hp => (exact Pur.pf));(case hN => rfl))|(apply aE;rfl;rfl)|(first|(apply aN;rfl;rfl;rfl;rfl)|(apply aV;rfl;rfl;(exact (rfl:_=[_, _, _, _, _]));rfl;rfl;rfl))|(apply aD;rfl;rfl;rfl)|(apply aC;rfl;rfl)|((with_reducible apply aI (k := 119));(case ha => rfl);(case h => (apply iK <;> (assumption)));(case hp => (rfl));(case hN => rfl))|(apply bF;rfl;rfl;rfl)|(apply aF;kernel_rfl)|(apply bZ;rfl;rfl;rfl)|(apply bQ;rfl;rfl;rfl;rfl))|(apply aM;first|apply aH|apply aB|(apply b0;kernel_rfl)|apply aK)|with_reducible apply aA)
 rw [← hL]
 refine bB (σ := Nat) [0, 3, 26, 27] [(0, _), (3, _), (26, _), (27, _)] [0, 1, 2, 3] [(0, some _), (1, some _), (2, some _), (3, some _)] (fun k => [(28, iv (k : Int))]) (fun k => []) (fun k => k ≤ L.length ∧ ∀ j, j < k → s.slots[(L[j]!).toNat]!.set = true) (fun k => L.length - k) (0) ⟨Nat.zero_le _, fun j h => absurd h (by omega)⟩ rfl rfl (by repeat' (first|exact trivial|refine And.intro rfl ?_)) (by repeat' (exact trivial)) ?_
 rintro k ⟨hk, hall⟩
 by_cases hkn : k < L.length
 ·have hmk := hmem k hkn
  repeat' (first|(apply aL;first|(apply aE;rfl;rfl)|(first|(apply cY;(case hx|hH => rfl);(case hf|hg|hα => infer_instance);(case hk => omega);(case hc|hN => rfl))|(apply aN;rfl;rfl;rfl;rfl))|(apply aD;rfl;rfl;rfl)|(first|(apply bS;rfl;rfl;omega;rfl)|(apply aT;rfl;rfl;rfl;rfl))|(apply aC;rfl;rfl)|(first|(apply aZ;(case hx|hi => rfl);(case hm => (assumption));(case hml => (rfl));(case hα | hf|hg => infer_instance);(case hN => rfl))|(apply cR;rfl;rfl;(omega);rfl))|(apply aF;kernel_rfl)|(apply cG;rfl;rfl)|(apply bZ;rfl;rfl;rfl))|(apply aM;first|apply aH|apply aB|(apply aP;rfl;all_goals intro hc;have hq:=hc;(try simp only [cH] at hq);try exfalso;omega)|apply aK|apply aR|apply aQ)|with_reducible apply aA|with_reducible apply bD|with_reducible apply aX|with_reducible apply cL)
  ·have hu : dI ts s x = true := (dO htl).2 ⟨L[k]!, by rw [← hL]; exact cO _ _ hkn, by assumption⟩
   rw [uZ hu]
   (refine aO rfl ?_; refine bW () trivial ?_ ⟨.inr (Eq.trans (b := some _) rfl ?_), ⟨.inr (Eq.trans (b := some _) rfl ?_), ⟨.inr (Eq.trans (b := some _) rfl ?_), trivial⟩⟩⟩)
   ·rfl
   ·rfl
   ·rfl
   ·rfl
  ·(apply dK (k + 1); focus (refine Le.ren [(3, 3)] rfl (by decide) ?_ ?_ <;> repeat' (first | exact trivial | refine And.intro ⟨_, rfl, ?_⟩ ?_ | refine And.intro ⟨_, _, rfl, rfl, ?_⟩ ?_ | exact Or.inr rfl | refine Or.inl ⟨?_, (by first | rfl | exact aY _ _ | exact Pur.pf)⟩ | refine Or.inr (All2.cons ?_ ?_) | refine All2.cons ?_ ?_ | exact All2.nil | rfl)))
   ·refine ⟨by omega, fun j hj => ?_⟩
    rcases Nat.lt_or_ge j k with h|h
    ·exact hall j h
    ·rw [show j = k by omega]; assumption
   ·omega
 ·have hu : dI ts s x = false := by
   cases q : dI ts s x with
   | false => rfl
   | true =>
    obtain ⟨v, hv, hs⟩ := (dO htl).1 q
    rw [← hL] at hv
    obtain ⟨j, hj, e⟩ := List.getElem_of_mem hv
    have h1 := hall j (by omega)
    rw [cT _ _ hj, e, hs] at h1;cases h1
  rw [qU hu]
  have hd : dA ts s x = c6 ts (if vH ts[x.y.toNat]! = true then ⟨s.slots.set x.y.toNat gY, s.cells, s.read⟩ else s) x.x.toNat s.slots[x.y.toNat]! := by unfold dA;rw [if_neg (show ¬ x.op = 1 by omega), if_neg (show ¬ x.op = 2 by omega), if_pos ho]
  rw [hd]
  have htk := xV ts bd pts x.y hy
  by_cases hk : vH ts[x.y.toNat]! = true
  ·rw [hk] at htk
   rw [if_pos hk]
   have hp := m8 ts bd pts ⟨s.slots.set x.y.toNat gY, s.cells, s.read⟩ x.x s.slots[x.y.toNat]! hm (by show (s.slots.set _ _).length = _; rw [List.length_set]; exact hsl) hx
   repeat' (first|(apply aL;first|((with_reducible apply aI (k := 131));(case ha => rfl);(case h => exact htk);(case hp => (exact Pur.pf));(case hN => rfl))|((apply k7 (ts := ts) (bd := bd) (pts := pts) (s := ⟨s.slots.set x.y.toNat gY, s.cells, s.read⟩) (v := x.x) (y := s.slots[x.y.toNat]!));(case ha0|ha1|ha2|hH0|hH1|hH2|hdd => rfl);(case hmc => exact hp);(case hM|hN => rfl))|(apply aE;rfl;rfl)|(first|(apply gR;(case hx|hH => rfl);(case hf|hg|hα => infer_instance);(case hk => omega);(case h0|hN => rfl))|(apply aN;rfl;rfl;rfl;rfl)|(apply aV;rfl;rfl;(exact (rfl:_=[_, _, _, _]));rfl;rfl;rfl))|(apply aD;rfl;rfl;rfl)|(apply aT;rfl;rfl;rfl;rfl)|(apply aC;rfl;rfl)|(apply cR;rfl;rfl;(assumption);rfl)|(apply aF;kernel_rfl)|(apply cC;rfl;(exact (rfl:_=some [_, _, _, _]));(exact (rfl:_=[_, _, _, _]));rfl)|(apply bZ;rfl;rfl;rfl)|(apply bE;rfl;rfl)|(apply aW;rfl;rfl;rfl;rfl;rfl;(case hl => (first|(rw [aU]; simp only [fY] <;> omega)|(simp;done)));(first|exact wT (by (omega))|exact (rfl:_=[_, _, _, _]))))|(apply aM;first|apply aH|apply aB|(apply b0;kernel_rfl)|(apply b8;rfl;(rfl))|(apply aP;rfl;all_goals intro hc;have hq:=hc;(try simp only [cH] at hq);try exfalso;omega)|apply aK|apply bJ|apply aQ)|with_reducible apply aA|with_reducible apply bD|with_reducible apply bO|with_reducible apply cL|with_reducible apply bK)
   (refine aO rfl ?_; refine bW () trivial ?_ ⟨.inr (Eq.trans (b := some _) rfl ?_), ⟨.inr (Eq.trans (b := some _) rfl ?_), ⟨.inr (Eq.trans (b := some _) rfl ?_), trivial⟩⟩⟩)
   ·rfl
   ·rfl
   ·rfl
   ·rfl
  ·have hk2 : vH ts[x.y.toNat]! = false := by simpa using hk
   rw [hk2] at htk
   rw [if_neg hk]
   have hp := m8 ts bd pts s x.x s.slots[x.y.toNat]! hm hsl hx
   repeat' (first|(apply aL;first|((with_reducible apply aI (k := 131));(case ha => rfl);(case h => exact htk);(case hp => (exact Pur.pf));(case hN => rfl))|((apply k7 (ts := ts) (bd := bd) (pts := pts) (s := s) (v := x.x) (y := s.slots[x.y.toNat]!));(case ha0|ha1|ha2|hH0|hH1|hH2|hdd => rfl);(case hmc => exact hp);(case hM|hN => rfl))|(apply aE;rfl;rfl)|(first|(apply gR;(case hx|hH => rfl);(case hf|hg|hα => infer_instance);(case hk => omega);(case h0|hN => rfl))|(apply aN;rfl;rfl;rfl;rfl)|(apply aV;rfl;rfl;(exact (rfl:_=[_, _, _, _]));rfl;rfl;rfl))|(apply aD;rfl;rfl;rfl)|(apply aT;rfl;rfl;rfl;rfl)|(apply aC;rfl;rfl)|(apply cR;rfl;rfl;(assumption);rfl)|(apply aF;kernel_rfl)|(apply bZ;rfl;rfl;rfl)|(apply bE;rfl;rfl)|(apply aW;rfl;rfl;rfl;rfl;rfl;(case hl => (simp;done));(exact (rfl:_=[_, _, _, _]))))|(apply aM;first|apply aH|apply aB|(apply b0;kernel_rfl)|(apply cF;rfl;(rfl))|(apply aP;rfl;all_goals intro hc;have hq:=hc;(try simp only [cH] at hq);try exfalso;omega)|apply aK|apply aR|apply bJ|apply aQ)|with_reducible apply aA|with_reducible apply bD|with_reducible apply bO|with_reducible apply cL|with_reducible apply bK)
   (refine aO rfl ?_; refine bW () trivial ?_ ⟨.inr (Eq.trans (b := some _) rfl ?_), ⟨.inr (Eq.trans (b := some _) rfl ?_), ⟨.inr (Eq.trans (b := some _) rfl ?_), trivial⟩⟩⟩)
   ·rfl
   ·rfl
   ·rfl
   ·rfl
theorem KS (ts : List Int) (bd : List AL.Stmt) (pts : List Pnt) (s : Mc) (x : Pnt) (htl : ts.length ≤ 6) (hm : OkM s.cells) (hsl : s.slots.length = ts.length) (ho : x.op = 4 ∨ x.op = 5) (hx : 0 ≤ x.x ∧ x.x < ts.length) (hy : 0 ≤ x.y ∧ x.y < ts.length) : MC Tryz.prog 86 [.optr 0 0, fM x] [(0, some (mO ts bd pts 1 2 s)), (1, some (aJ eH s.slots)), (2, some (aJ cI s.read))] 3 (fun _ : Unit => True) (fun _ => iv (eW ts s x).2) (fun _ => [(0, some (mO ts bd pts 1 2 (eW ts s x).1)), (1, some (aJ eH (eW ts s x).1.slots)), (2, some (aJ cI (eW ts s x).1.read))]) := by
 have hus := jF ts bd pts x htl
 have hsm : Sm (wS ts x [1, 2, 3]) := dH (by omega)
 obtain ⟨L, hL⟩ : ∃ L, L = cV (wS ts x [1, 2, 3]) := ⟨_, rfl⟩
 have hLl : L.length ≤ 62 := by rw [hL]; exact dT _
 have hmem : ∀ k, k < L.length → 0 ≤ L[k]! ∧ L[k]! < s.slots.length := fun k hk => by
  rw [hsl]; exact iU (by rw [← hL]; exact cO _ _ hk)
 (refine cA Tryz.func86 rfl (by simp [Tryz.ntmps86]) ?_; rw [Tryz.ntmps86])
 repeat' (first|(apply aL;first|((with_reducible apply aI (k := 120));(case ha => rfl);(case h => exact hus);(case hp => (exact Pur.pf));(case hN => rfl))|(apply aE;rfl;rfl)|(first|(apply aN;rfl;rfl;rfl;rfl)|(apply aV;rfl;rfl;(exact (rfl:_=[_, _, _, _, _]));rfl;rfl;rfl))|(apply aD;rfl;rfl;rfl)|(apply aC;rfl;rfl)|((with_reducible apply aI (k := 119));(case ha => rfl);(case h => (apply iK <;> (assumption)));(case hp => (rfl));(case hN => rfl))|(apply bF;rfl;rfl;rfl)|(apply aF;kernel_rfl)|(apply bZ;rfl;rfl;rfl)|(apply bQ;rfl;rfl;rfl;rfl))|(apply aM;first|apply aH|apply aB|(apply b0;kernel_rfl)|apply aK)|with_reducible apply aA)
 rw [← hL]
 refine bB (σ := Nat) [0, 3, 26, 27] [(0, _), (3, _), (26, _), (27, _)] [0, 1, 2, 3] [(0, some _), (1, some _), (2, some _), (3, some _)] (fun k => [(28, iv (k : Int))]) (fun k => []) (fun k => k ≤ L.length ∧ ∀ j, j < k → s.slots[(L[j]!).toNat]!.set = true) (fun k => L.length - k) (0) ⟨Nat.zero_le _, fun j h => absurd h (by omega)⟩ rfl rfl (by repeat' (first|exact trivial|refine And.intro rfl ?_)) (by repeat' (exact trivial)) ?_
 rintro k ⟨hk, hall⟩
 by_cases hkn : k < L.length
 ·have hmk := hmem k hkn
  repeat' (first|(apply aL;first|(apply aE;rfl;rfl)|(first|(apply cY;(case hx|hH => rfl);(case hf|hg|hα => infer_instance);(case hk => omega);(case hc|hN => rfl))|(apply aN;rfl;rfl;rfl;rfl))|(apply aD;rfl;rfl;rfl)|(first|(apply bS;rfl;rfl;omega;rfl)|(apply aT;rfl;rfl;rfl;rfl))|(apply aC;rfl;rfl)|(first|(apply aZ;(case hx|hi => rfl);(case hm => (assumption));(case hml => (rfl));(case hα | hf|hg => infer_instance);(case hN => rfl))|(apply cR;rfl;rfl;(omega);rfl))|(apply aF;kernel_rfl)|(apply cG;rfl;rfl)|(apply bZ;rfl;rfl;rfl))|(apply aM;first|apply aH|apply aB|(apply aP;rfl;all_goals intro hc;have hq:=hc;(try simp only [cH] at hq);try exfalso;omega)|apply aK|apply aR|apply aQ)|with_reducible apply aA|with_reducible apply bD|with_reducible apply aX|with_reducible apply cL)
  ·have hu : dI ts s x = true := (dO htl).2 ⟨L[k]!, by rw [← hL]; exact cO _ _ hkn, by assumption⟩
   rw [uZ hu]
   (refine aO rfl ?_; refine bW () trivial ?_ ⟨.inr (Eq.trans (b := some _) rfl ?_), ⟨.inr (Eq.trans (b := some _) rfl ?_), ⟨.inr (Eq.trans (b := some _) rfl ?_), trivial⟩⟩⟩)
   ·rfl
   ·rfl
   ·rfl
   ·rfl
  ·(apply dK (k + 1); focus (refine Le.ren [(3, 3)] rfl (by decide) ?_ ?_ <;> repeat' (first | exact trivial | refine And.intro ⟨_, rfl, ?_⟩ ?_ | refine And.intro ⟨_, _, rfl, rfl, ?_⟩ ?_ | exact Or.inr rfl | refine Or.inl ⟨?_, (by first | rfl | exact aY _ _ | exact Pur.pf)⟩ | refine Or.inr (All2.cons ?_ ?_) | refine All2.cons ?_ ?_ | exact All2.nil | rfl)))
   ·refine ⟨by omega, fun j hj => ?_⟩
    rcases Nat.lt_or_ge j k with h|h
    ·exact hall j h
    ·rw [show j = k by omega]; assumption
   ·omega
 ·have hu : dI ts s x = false := by
   cases q : dI ts s x with
   | false => rfl
   | true =>
    obtain ⟨v, hv, hs⟩ := (dO htl).1 q
    rw [← hL] at hv
    obtain ⟨j, hj, e⟩ := List.getElem_of_mem hv
    have h1 := hall j (by omega)
    rw [cT _ _ hj, e, hs] at h1;cases h1
  rw [qU hu]
  have hle := Jc s.cells hm s.slots[x.y.toNat]!.ptr (decide (x.op = 5))
  by_cases hk : kQ s.cells s.slots[x.y.toNat]!.ptr (decide (x.op = 5)) = 0
  ·have hp := m8 ts bd pts ⟨s.slots, j4 s.cells s.slots[x.y.toNat]!.ptr (decide (x.op = 5)), s.read⟩ x.x ⟨true, 0, n7 s.cells s.slots[x.y.toNat]!.ptr (decide (x.op = 5))⟩ (hm.ln _ _) hsl hx
   have hd : dA ts s x = c6 ts ⟨s.slots, j4 s.cells s.slots[x.y.toNat]!.ptr (decide (x.op = 5)), s.read⟩ x.x.toNat ⟨true, 0, n7 s.cells s.slots[x.y.toNat]!.ptr (decide (x.op = 5))⟩ := by unfold dA;rw [if_neg (show ¬ x.op = 1 by omega), if_neg (show ¬ x.op = 2 by omega), if_neg (show ¬ x.op = 3 by omega), if_pos ho, if_pos hk]
   rw [hd]
   rw [hk] at hle
   repeat' (first|(apply aL;first|(apply jP;(case hx|hH => rfl);(case hf|hg|hα => infer_instance);(case hk => omega);(case hj => decide);(case hc => exact (rfl:_=[_, _]));(case h0|hN => rfl))|((with_reducible apply aI (k := 132));(case ha => rfl);(case h => exact hle);(case hp => (exact Pur.pf));(case hN => rfl))|((apply k7 (ts := ts) (bd := bd) (pts := pts) (s := ⟨s.slots, j4 s.cells s.slots[x.y.toNat]!.ptr (decide (x.op = 5)), s.read⟩) (v := x.x) (y := ⟨true, 0, n7 s.cells s.slots[x.y.toNat]!.ptr (decide (x.op = 5))⟩));(case ha0|ha1|ha2|hH0|hH1|hH2|hdd => rfl);(case hmc => exact hp);(case hM|hN => rfl))|(apply aE;rfl;rfl)|(first|(apply aN;rfl;rfl;rfl;rfl)|(apply aV;rfl;rfl;(exact (rfl:_=[_, _]));rfl;rfl;rfl))|(apply aD;rfl;rfl;rfl)|(apply aT;rfl;rfl;rfl;rfl)|(apply aC;rfl;rfl)|(apply cR;rfl;rfl;(assumption);rfl)|(apply aF;kernel_rfl)|(apply cC;rfl;(exact (rfl:_=some [_, _, _, _]));(exact (rfl:_=[_, _, _, _]));rfl)|(apply bZ;rfl;rfl;rfl)|(apply bE;rfl;rfl)|(apply a8;rfl;rfl;rfl)|(apply aW;rfl;rfl;rfl;rfl;rfl;(case hl => (simp;done));(first|exact (rfl:_=[_, _])|exact (rfl:_=[_, _, _, _]))))|(apply aM;first|apply aH|apply aB|(apply b0;kernel_rfl)|(apply b8;rfl;(assumption))|(apply cF;rfl;(rfl))|(apply aP;rfl;all_goals intro hc;have hq:=hc;(try simp only [cH] at hq);try exfalso;omega)|apply aK|apply aR|apply bJ|apply aQ)|with_reducible apply aA|with_reducible apply bD|with_reducible apply bO|with_reducible apply cL|with_reducible apply bK)
   all_goals (
    (refine aO rfl ?_; refine bW () trivial ?_ ⟨.inr (Eq.trans (b := some _) rfl ?_), ⟨.inr (Eq.trans (b := some _) rfl ?_), ⟨.inr (Eq.trans (b := some _) rfl ?_), trivial⟩⟩⟩)
    ·rfl
    ·rfl
    ·rfl
    ·rfl)
  ·have hd : dA ts s x = (s, e9 (kQ s.cells s.slots[x.y.toNat]!.ptr (decide (x.op = 5)))) := by unfold dA; rw [if_neg (show ¬ x.op = 1 by omega), if_neg (show ¬ x.op = 2 by omega), if_neg (show ¬ x.op = 3 by omega), if_pos ho, if_neg hk]
   rw [hd]
   repeat' (first|(apply aL;first|(apply jP;(case hx|hH => rfl);(case hf|hg|hα => infer_instance);(case hk => omega);(case hj => decide);(case hc => exact (rfl:_=[_, _]));(case h0|hN => rfl))|((with_reducible apply aI (k := 132));(case ha => rfl);(case h => exact hle);(case hp => (exact Pur.pf));(case hN => rfl))|(apply aE;rfl;rfl)|(apply aN;rfl;rfl;rfl;rfl)|(apply aD;rfl;rfl;rfl)|(apply aT;rfl;rfl;rfl;rfl)|(apply aC;rfl;rfl)|(apply cR;rfl;rfl;(assumption);rfl)|((with_reducible apply aI (k := 133));(case ha => rfl);(case h => (apply rM <;> (fail)));(case hp => (rfl));(case hN => rfl))|(apply aF;kernel_rfl)|(apply bZ;rfl;rfl;rfl)|(apply bE;rfl;rfl)|(apply a8;rfl;rfl;rfl)|(apply aW;rfl;rfl;rfl;rfl;rfl;(case hl => (simp;done));(exact (rfl:_=[_, _]))))|(apply aM;first|apply aH|apply aB|(apply b0;kernel_rfl)|(apply b8;rfl;(assumption))|(apply aP;rfl;all_goals intro hc;have hq:=hc;(try simp only [cH] at hq);try exfalso;omega)|apply aK|apply aR|apply bJ|apply aQ)|with_reducible apply aA|with_reducible apply bD|with_reducible apply bO|with_reducible apply cL|with_reducible apply bK)
   all_goals (
    (refine aO rfl ?_; refine bW () trivial ?_ ⟨.inr (Eq.trans (b := some _) rfl ?_), ⟨.inr (Eq.trans (b := some _) rfl ?_), ⟨.inr (Eq.trans (b := some _) rfl ?_), trivial⟩⟩⟩)
    ·rfl
    ·rfl
    ·rfl
    ·rfl)
theorem LB (ts : List Int) (bd : List AL.Stmt) (pts : List Pnt) (s : Mc) (x : Pnt) (htl : ts.length ≤ 6) (hm : OkM s.cells) (hsl : s.slots.length = ts.length) (ho : x.op = 6) (hrl : s.read.length ≤ 1000) (hx : 0 ≤ x.x ∧ x.x < ts.length) (hy : 0 ≤ x.y ∧ x.y < ts.length) (hz : ¬ cM s.cells s.slots[x.y.toNat]!.ptr false = 0) : MC Tryz.prog 86 [.optr 0 0, fM x] [(0, some (mO ts bd pts 1 2 s)), (1, some (aJ eH s.slots)), (2, some (aJ cI s.read))] 3 (fun _ : Unit => True) (fun _ => iv (eW ts s x).2) (fun _ => [(0, some (mO ts bd pts 1 2 (eW ts s x).1)), (1, some (aJ eH (eW ts s x).1.slots)), (2, some (aJ cI (eW ts s x).1.read))]) := by
 have hus := jF ts bd pts x htl
 have hsm : Sm (wS ts x [1, 2, 3]) := dH (by omega)
 obtain ⟨L, hL⟩ : ∃ L, L = cV (wS ts x [1, 2, 3]) := ⟨_, rfl⟩
 have hLl : L.length ≤ 62 := by rw [hL]; exact dT _
 have hmem : ∀ k, k < L.length → 0 ≤ L[k]! ∧ L[k]! < s.slots.length := fun k hk => by
  rw [hsl]; exact iU (by rw [← hL]; exact cO _ _ hk)
 (refine cA Tryz.func86 rfl (by simp [Tryz.ntmps86]) ?_; rw [Tryz.ntmps86])
 repeat' (first|(apply aL;first|((with_reducible apply aI (k := 120));(case ha => rfl);(case h => exact hus);(case hp => (exact Pur.pf));(case hN => rfl))|(apply aE;rfl;rfl)|(first|(apply aN;rfl;rfl;rfl;rfl)|(apply aV;rfl;rfl;(exact (rfl:_=[_, _, _, _, _]));rfl;rfl;rfl))|(apply aD;rfl;rfl;rfl)|(apply aC;rfl;rfl)|((with_reducible apply aI (k := 119));(case ha => rfl);(case h => (apply iK <;> (assumption)));(case hp => (rfl));(case hN => rfl))|(apply bF;rfl;rfl;rfl)|(apply aF;kernel_rfl)|(apply bZ;rfl;rfl;rfl)|(apply bQ;rfl;rfl;rfl;rfl))|(apply aM;first|apply aH|apply aB|(apply b0;kernel_rfl)|apply aK)|with_reducible apply aA)
 rw [← hL]
 refine bB (σ := Nat) [0, 3, 26, 27] [(0, _), (3, _), (26, _), (27, _)] [0, 1, 2, 3] [(0, some _), (1, some _), (2, some _), (3, some _)] (fun k => [(28, iv (k : Int))]) (fun k => []) (fun k => k ≤ L.length ∧ ∀ j, j < k → s.slots[(L[j]!).toNat]!.set = true) (fun k => L.length - k) (0) ⟨Nat.zero_le _, fun j h => absurd h (by omega)⟩ rfl rfl (by repeat' (first|exact trivial|refine And.intro rfl ?_)) (by repeat' (exact trivial)) ?_
 rintro k ⟨hk, hall⟩
 by_cases hkn : k < L.length
 ·have hmk := hmem k hkn
  repeat' (first|(apply aL;first|(apply aE;rfl;rfl)|(first|(apply cY;(case hx|hH => rfl);(case hf|hg|hα => infer_instance);(case hk => omega);(case hc|hN => rfl))|(apply aN;rfl;rfl;rfl;rfl))|(apply aD;rfl;rfl;rfl)|(first|(apply bS;rfl;rfl;omega;rfl)|(apply aT;rfl;rfl;rfl;rfl))|(apply aC;rfl;rfl)|(first|(apply aZ;(case hx|hi => rfl);(case hm => (assumption));(case hml => (rfl));(case hα | hf|hg => infer_instance);(case hN => rfl))|(apply cR;rfl;rfl;(omega);rfl))|(apply aF;kernel_rfl)|(apply cG;rfl;rfl)|(apply bZ;rfl;rfl;rfl))|(apply aM;first|apply aH|apply aB|(apply aP;rfl;all_goals intro hc;have hq:=hc;(try simp only [cH] at hq);try exfalso;omega)|apply aK|apply aR|apply aQ)|with_reducible apply aA|with_reducible apply bD|with_reducible apply aX|with_reducible apply cL)
  ·have hu : dI ts s x = true := (dO htl).2 ⟨L[k]!, by rw [← hL]; exact cO _ _ hkn, by assumption⟩
   rw [uZ hu]
   (refine aO rfl ?_; refine bW () trivial ?_ ⟨.inr (Eq.trans (b := some _) rfl ?_), ⟨.inr (Eq.trans (b := some _) rfl ?_), ⟨.inr (Eq.trans (b := some _) rfl ?_), trivial⟩⟩⟩)
   ·rfl
   ·rfl
   ·rfl
   ·rfl
  ·(apply dK (k + 1); focus (refine Le.ren [(3, 3)] rfl (by decide) ?_ ?_ <;> repeat' (first | exact trivial | refine And.intro ⟨_, rfl, ?_⟩ ?_ | refine And.intro ⟨_, _, rfl, rfl, ?_⟩ ?_ | exact Or.inr rfl | refine Or.inl ⟨?_, (by first | rfl | exact aY _ _ | exact Pur.pf)⟩ | refine Or.inr (All2.cons ?_ ?_) | refine All2.cons ?_ ?_ | exact All2.nil | rfl)))
   ·refine ⟨by omega, fun j hj => ?_⟩
    rcases Nat.lt_or_ge j k with h|h
    ·exact hall j h
    ·rw [show j = k by omega]; assumption
   ·omega
 ·have hu : dI ts s x = false := by
   cases q : dI ts s x with
   | false => rfl
   | true =>
    obtain ⟨v, hv, hs⟩ := (dO htl).1 q
    rw [← hL] at hv
    obtain ⟨j, hj, e⟩ := List.getElem_of_mem hv
    have h1 := hall j (by omega)
    rw [cT _ _ hj, e, hs] at h1;cases h1
  rw [qU hu]
  have hrc := p9 s.cells hm s.slots[x.y.toNat]!.ptr
  have hd : dA ts s x = (s, e9 (cM s.cells s.slots[x.y.toNat]!.ptr false)) := by unfold dA;rw [if_neg (show ¬ x.op = 1 by omega), if_neg (show ¬ x.op = 2 by omega), if_neg (show ¬ x.op = 3 by omega), if_neg (show ¬ (x.op = 4 ∨ x.op = 5) by omega), if_pos ho, if_neg hz]
  rw [hd]
  repeat' (first|(apply aL;first|(apply jP;(case hx|hH => rfl);(case hf|hg|hα => infer_instance);(case hk => omega);(case hj => decide);(case hc => exact (rfl:_=[_, _]));(case h0|hN => rfl))|((with_reducible apply aI (k := 134));(case ha => rfl);(case h => exact hrc);(case hp => (exact Pur.pf));(case hN => rfl))|(apply aE;rfl;rfl)|(apply aN;rfl;rfl;rfl;rfl)|(apply aD;rfl;rfl;rfl)|(apply aT;rfl;rfl;rfl;rfl)|(apply aC;rfl;rfl)|(apply cR;rfl;rfl;(assumption);rfl)|((with_reducible apply aI (k := 133));(case ha => rfl);(case h => (apply rM <;> (fail)));(case hp => (rfl));(case hN => rfl))|(apply aF;kernel_rfl)|(apply bZ;rfl;rfl;rfl)|(apply a8;rfl;rfl;rfl))|(apply aM;first|apply aH|apply aB|(apply b0;kernel_rfl)|(apply aP;rfl;all_goals intro hc;have hq:=hc;(try simp only [cH] at hq);try exfalso;omega)|apply aK|apply bJ|apply aQ)|with_reducible apply aA|with_reducible apply bD|with_reducible apply bO|with_reducible apply cL|with_reducible apply bK)
  (refine aO rfl ?_; refine bW () trivial ?_ ⟨.inr (Eq.trans (b := some _) rfl ?_), ⟨.inr (Eq.trans (b := some _) rfl ?_), ⟨.inr (Eq.trans (b := some _) rfl ?_), trivial⟩⟩⟩)
  ·rfl
  ·rfl
  ·rfl
  ·rfl
theorem L8 (ts : List Int) (bd : List AL.Stmt) (pts : List Pnt) (s : Mc) (x : Pnt) (htl : ts.length ≤ 6) (hm : OkM s.cells) (hsl : s.slots.length = ts.length) (ho : x.op = 7) (hx : 0 ≤ x.x ∧ x.x < ts.length) (hy : 0 ≤ x.y ∧ x.y < ts.length) : MC Tryz.prog 86 [.optr 0 0, fM x] [(0, some (mO ts bd pts 1 2 s)), (1, some (aJ eH s.slots)), (2, some (aJ cI s.read))] 3 (fun _ : Unit => True) (fun _ => iv (eW ts s x).2) (fun _ => [(0, some (mO ts bd pts 1 2 (eW ts s x).1)), (1, some (aJ eH (eW ts s x).1.slots)), (2, some (aJ cI (eW ts s x).1.read))]) := by
 have hus := jF ts bd pts x htl
 have hsm : Sm (wS ts x [1, 2, 3]) := dH (by omega)
 obtain ⟨L, hL⟩ : ∃ L, L = cV (wS ts x [1, 2, 3]) := ⟨_, rfl⟩
 have hLl : L.length ≤ 62 := by rw [hL]; exact dT _
 have hmem : ∀ k, k < L.length → 0 ≤ L[k]! ∧ L[k]! < s.slots.length := fun k hk => by
  rw [hsl]; exact iU (by rw [← hL]; exact cO _ _ hk)
 (refine cA Tryz.func86 rfl (by simp [Tryz.ntmps86]) ?_; rw [Tryz.ntmps86])
 repeat' (first|(apply aL;first|((with_reducible apply aI (k := 120));(case ha => rfl);(case h => exact hus);(case hp => (exact Pur.pf));(case hN => rfl))|(apply aE;rfl;rfl)|(first|(apply aN;rfl;rfl;rfl;rfl)|(apply aV;rfl;rfl;(exact (rfl:_=[_, _, _, _, _]));rfl;rfl;rfl))|(apply aD;rfl;rfl;rfl)|(apply aC;rfl;rfl)|((with_reducible apply aI (k := 119));(case ha => rfl);(case h => (apply iK <;> (assumption)));(case hp => (rfl));(case hN => rfl))|(apply bF;rfl;rfl;rfl)|(apply aF;kernel_rfl)|(apply bZ;rfl;rfl;rfl)|(apply bQ;rfl;rfl;rfl;rfl))|(apply aM;first|apply aH|apply aB|(apply b0;kernel_rfl)|apply aK)|with_reducible apply aA)
 rw [← hL]
 refine bB (σ := Nat) [0, 3, 26, 27] [(0, _), (3, _), (26, _), (27, _)] [0, 1, 2, 3] [(0, some _), (1, some _), (2, some _), (3, some _)] (fun k => [(28, iv (k : Int))]) (fun k => []) (fun k => k ≤ L.length ∧ ∀ j, j < k → s.slots[(L[j]!).toNat]!.set = true) (fun k => L.length - k) (0) ⟨Nat.zero_le _, fun j h => absurd h (by omega)⟩ rfl rfl (by repeat' (first|exact trivial|refine And.intro rfl ?_)) (by repeat' (exact trivial)) ?_
 rintro k ⟨hk, hall⟩
 by_cases hkn : k < L.length
 ·have hmk := hmem k hkn
  repeat' (first|(apply aL;first|(apply aE;rfl;rfl)|(first|(apply cY;(case hx|hH => rfl);(case hf|hg|hα => infer_instance);(case hk => omega);(case hc|hN => rfl))|(apply aN;rfl;rfl;rfl;rfl))|(apply aD;rfl;rfl;rfl)|(first|(apply bS;rfl;rfl;omega;rfl)|(apply aT;rfl;rfl;rfl;rfl))|(apply aC;rfl;rfl)|(first|(apply aZ;(case hx|hi => rfl);(case hm => (assumption));(case hml => (rfl));(case hα | hf|hg => infer_instance);(case hN => rfl))|(apply cR;rfl;rfl;(omega);rfl))|(apply aF;kernel_rfl)|(apply cG;rfl;rfl)|(apply bZ;rfl;rfl;rfl))|(apply aM;first|apply aH|apply aB|(apply aP;rfl;all_goals intro hc;have hq:=hc;(try simp only [cH] at hq);try exfalso;omega)|apply aK|apply aR|apply aQ)|with_reducible apply aA|with_reducible apply bD|with_reducible apply aX|with_reducible apply cL)
  ·have hu : dI ts s x = true := (dO htl).2 ⟨L[k]!, by rw [← hL]; exact cO _ _ hkn, by assumption⟩
   rw [uZ hu]
   (refine aO rfl ?_; refine bW () trivial ?_ ⟨.inr (Eq.trans (b := some _) rfl ?_), ⟨.inr (Eq.trans (b := some _) rfl ?_), ⟨.inr (Eq.trans (b := some _) rfl ?_), trivial⟩⟩⟩)
   ·rfl
   ·rfl
   ·rfl
   ·rfl
  ·(apply dK (k + 1); focus (refine Le.ren [(3, 3)] rfl (by decide) ?_ ?_ <;> repeat' (first | exact trivial | refine And.intro ⟨_, rfl, ?_⟩ ?_ | refine And.intro ⟨_, _, rfl, rfl, ?_⟩ ?_ | exact Or.inr rfl | refine Or.inl ⟨?_, (by first | rfl | exact aY _ _ | exact Pur.pf)⟩ | refine Or.inr (All2.cons ?_ ?_) | refine All2.cons ?_ ?_ | exact All2.nil | rfl)))
   ·refine ⟨by omega, fun j hj => ?_⟩
    rcases Nat.lt_or_ge j k with h|h
    ·exact hall j h
    ·rw [show j = k by omega]; assumption
   ·omega
 ·have hu : dI ts s x = false := by
   cases q : dI ts s x with
   | false => rfl
   | true =>
    obtain ⟨v, hv, hs⟩ := (dO htl).1 q
    rw [← hL] at hv
    obtain ⟨j, hj, e⟩ := List.getElem_of_mem hv
    have h1 := hall j (by omega)
    rw [cT _ _ hj, e, hs] at h1;cases h1
  rw [qU hu]
  have hwr := xE s.cells hm s.slots[x.x.toNat]!.ptr s.slots[x.y.toNat]!.num
  have hd : dA ts s x = (⟨s.slots, nY s.cells s.slots[x.x.toNat]!.ptr s.slots[x.y.toNat]!.num, s.read⟩, kC (oB s.cells s.slots[x.x.toNat]!.ptr s.slots[x.y.toNat]!.num)) := by unfold dA;rw [if_neg (show ¬ x.op = 1 by omega), if_neg (show ¬ x.op = 2 by omega), if_neg (show ¬ x.op = 3 by omega), if_neg (show ¬ (x.op = 4 ∨ x.op = 5) by omega), if_neg (show ¬ x.op = 6 by omega), if_pos ho]
  rw [hd]
  repeat' (first|(apply aL;first|(apply jP;(case hx|hH => rfl);(case hf|hg|hα => infer_instance);(case hk => omega);(case hj => decide);(case hc => exact (rfl:_=[_, _]));(case h0|hN => rfl))|((with_reducible apply aI (k := 135));(case ha => rfl);(case h => exact hwr);(case hp => (exact Pur.pf));(case hN => rfl))|(apply aE;rfl;rfl)|(first|(apply cY;(case hx|hH => rfl);(case hf|hg|hα => infer_instance);(case hk => omega);(case hc|hN => rfl))|(apply aN;rfl;rfl;rfl;rfl))|(apply aD;rfl;rfl;rfl)|(apply aT;rfl;rfl;rfl;rfl)|(apply aC;rfl;rfl)|(apply cR;rfl;rfl;(assumption);rfl)|((with_reducible apply aI (k := 133));(case ha => rfl);(case h => (apply rM <;> (fail)));(case hp => (rfl));(case hN => rfl))|(apply aF;kernel_rfl)|(apply bZ;rfl;rfl;rfl)|(apply a8;rfl;rfl;rfl)|(apply aW;rfl;rfl;rfl;rfl;rfl;(case hl => (simp;done));(exact (rfl:_=[_, _, _, _]))))|(apply aM;first|apply aH|apply aB|(apply b0;kernel_rfl)|(apply aP;rfl;all_goals intro hc;have hq:=hc;(try simp only [cH] at hq);try exfalso;omega)|apply aK|apply aR|apply bJ|apply aQ)|with_reducible apply aA|with_reducible apply bD|with_reducible apply bO|with_reducible apply aX|with_reducible apply cL|with_reducible apply bK)
  ·have hk : ¬ oB s.cells s.slots[x.x.toNat]!.ptr s.slots[x.y.toNat]!.num = 0 := by assumption
   (refine aO rfl ?_; refine bW () trivial ?_ ⟨.inr (Eq.trans (b := some _) rfl ?_), ⟨.inr (Eq.trans (b := some _) rfl ?_), ⟨.inr (Eq.trans (b := some _) rfl ?_), trivial⟩⟩⟩)
   ·show iv (e9 _) = iv (kC _)
    unfold kC;rw [if_neg hk]
   ·rfl
   ·rfl
   ·rfl
  ·have hk : oB s.cells s.slots[x.x.toNat]!.ptr s.slots[x.y.toNat]!.num = 0 := by assumption
   (refine aO rfl ?_; refine bW () trivial ?_ ⟨.inr (Eq.trans (b := some _) rfl ?_), ⟨.inr (Eq.trans (b := some _) rfl ?_), ⟨.inr (Eq.trans (b := some _) rfl ?_), trivial⟩⟩⟩)
   ·rw [hk]; rfl
   ·rfl
   ·rfl
   ·rfl
theorem Lz (ts : List Int) (bd : List AL.Stmt) (pts : List Pnt) (s : Mc) (x : Pnt) (htl : ts.length ≤ 6) (hm : OkM s.cells) (hsl : s.slots.length = ts.length) (ho : x.op = 8) (hx : 0 ≤ x.x ∧ x.x < ts.length) : MC Tryz.prog 86 [.optr 0 0, fM x] [(0, some (mO ts bd pts 1 2 s)), (1, some (aJ eH s.slots)), (2, some (aJ cI s.read))] 3 (fun _ : Unit => True) (fun _ => iv (eW ts s x).2) (fun _ => [(0, some (mO ts bd pts 1 2 (eW ts s x).1)), (1, some (aJ eH (eW ts s x).1.slots)), (2, some (aJ cI (eW ts s x).1.read))]) := by
 have hus := jF ts bd pts x htl
 have hsm : Sm (wS ts x [1, 2, 3]) := dH (by omega)
 obtain ⟨L, hL⟩ : ∃ L, L = cV (wS ts x [1, 2, 3]) := ⟨_, rfl⟩
 have hLl : L.length ≤ 62 := by rw [hL]; exact dT _
 have hmem : ∀ k, k < L.length → 0 ≤ L[k]! ∧ L[k]! < s.slots.length := fun k hk => by
  rw [hsl]; exact iU (by rw [← hL]; exact cO _ _ hk)
 (refine cA Tryz.func86 rfl (by simp [Tryz.ntmps86]) ?_; rw [Tryz.ntmps86])
 repeat' (first|(apply aL;first|((with_reducible apply aI (k := 120));(case ha => rfl);(case h => exact hus);(case hp => (exact Pur.pf));(case hN => rfl))|(apply aE;rfl;rfl)|(first|(apply aN;rfl;rfl;rfl;rfl)|(apply aV;rfl;rfl;(exact (rfl:_=[_, _, _, _, _]));rfl;rfl;rfl))|(apply aD;rfl;rfl;rfl)|(apply aC;rfl;rfl)|((with_reducible apply aI (k := 119));(case ha => rfl);(case h => (apply iK <;> (assumption)));(case hp => (rfl));(case hN => rfl))|(apply bF;rfl;rfl;rfl)|(apply aF;kernel_rfl)|(apply bZ;rfl;rfl;rfl)|(apply bQ;rfl;rfl;rfl;rfl))|(apply aM;first|apply aH|apply aB|(apply b0;kernel_rfl)|apply aK)|with_reducible apply aA)
 rw [← hL]
 refine bB (σ := Nat) [0, 3, 26, 27] [(0, _), (3, _), (26, _), (27, _)] [0, 1, 2, 3] [(0, some _), (1, some _), (2, some _), (3, some _)] (fun k => [(28, iv (k : Int))]) (fun k => []) (fun k => k ≤ L.length ∧ ∀ j, j < k → s.slots[(L[j]!).toNat]!.set = true) (fun k => L.length - k) (0) ⟨Nat.zero_le _, fun j h => absurd h (by omega)⟩ rfl rfl (by repeat' (first|exact trivial|refine And.intro rfl ?_)) (by repeat' (exact trivial)) ?_
 rintro k ⟨hk, hall⟩
 by_cases hkn : k < L.length
 ·have hmk := hmem k hkn
  repeat' (first|(apply aL;first|(apply aE;rfl;rfl)|(first|(apply cY;(case hx|hH => rfl);(case hf|hg|hα => infer_instance);(case hk => omega);(case hc|hN => rfl))|(apply aN;rfl;rfl;rfl;rfl))|(apply aD;rfl;rfl;rfl)|(first|(apply bS;rfl;rfl;omega;rfl)|(apply aT;rfl;rfl;rfl;rfl))|(apply aC;rfl;rfl)|(first|(apply aZ;(case hx|hi => rfl);(case hm => (assumption));(case hml => (rfl));(case hα | hf|hg => infer_instance);(case hN => rfl))|(apply cR;rfl;rfl;(omega);rfl))|(apply aF;kernel_rfl)|(apply cG;rfl;rfl)|(apply bZ;rfl;rfl;rfl))|(apply aM;first|apply aH|apply aB|(apply aP;rfl;all_goals intro hc;have hq:=hc;(try simp only [cH] at hq);try exfalso;omega)|apply aK|apply aR|apply aQ)|with_reducible apply aA|with_reducible apply bD|with_reducible apply aX|with_reducible apply cL)
  ·have hu : dI ts s x = true := (dO htl).2 ⟨L[k]!, by rw [← hL]; exact cO _ _ hkn, by assumption⟩
   rw [uZ hu]
   (refine aO rfl ?_; refine bW () trivial ?_ ⟨.inr (Eq.trans (b := some _) rfl ?_), ⟨.inr (Eq.trans (b := some _) rfl ?_), ⟨.inr (Eq.trans (b := some _) rfl ?_), trivial⟩⟩⟩)
   ·rfl
   ·rfl
   ·rfl
   ·rfl
  ·(apply dK (k + 1); focus (refine Le.ren [(3, 3)] rfl (by decide) ?_ ?_ <;> repeat' (first | exact trivial | refine And.intro ⟨_, rfl, ?_⟩ ?_ | refine And.intro ⟨_, _, rfl, rfl, ?_⟩ ?_ | exact Or.inr rfl | refine Or.inl ⟨?_, (by first | rfl | exact aY _ _ | exact Pur.pf)⟩ | refine Or.inr (All2.cons ?_ ?_) | refine All2.cons ?_ ?_ | exact All2.nil | rfl)))
   ·refine ⟨by omega, fun j hj => ?_⟩
    rcases Nat.lt_or_ge j k with h|h
    ·exact hall j h
    ·rw [show j = k by omega]; assumption
   ·omega
 ·have hu : dI ts s x = false := by
   cases q : dI ts s x with
   | false => rfl
   | true =>
    obtain ⟨v, hv, hs⟩ := (dO htl).1 q
    rw [← hL] at hv
    obtain ⟨j, hj, e⟩ := List.getElem_of_mem hv
    have h1 := hall j (by omega)
    rw [cT _ _ hj, e, hs] at h1;cases h1
  rw [qU hu]
  have hfr := Gt ts bd pts s x.x hm hsl hx
  have hd : dA ts s x = (⟨s.slots.set x.x.toNat gY, iF s.cells s.slots[x.x.toNat]!.ptr, s.read⟩, kC (cM s.cells s.slots[x.x.toNat]!.ptr true)) := by unfold dA;rw [if_neg (show ¬ x.op = 1 by omega), if_neg (show ¬ x.op = 2 by omega), if_neg (show ¬ x.op = 3 by omega), if_neg (show ¬ (x.op = 4 ∨ x.op = 5) by omega), if_neg (show ¬ x.op = 6 by omega), if_neg (show ¬ x.op = 7 by omega), if_pos ho]
  rw [hd]
  repeat' (first|(apply aL;first|((apply D3 (ts := ts) (bd := bd) (pts := pts) (s := s) (v := x.x));(case ha0|ha1|hH0|hH1|hH2|hdd => rfl);(case hmc => exact hfr);(case hM|hN => rfl))|(apply aE;rfl;rfl)|(apply aN;rfl;rfl;rfl;rfl)|(apply aD;rfl;rfl;rfl)|(apply aT;rfl;rfl;rfl;rfl)|(apply aC;rfl;rfl)|(apply cR;rfl;rfl;(assumption);rfl)|(apply aF;kernel_rfl)|(apply cC;rfl;(exact (rfl:_=some [_, _, _, _]));(exact (rfl:_=[_, _, _, _]));rfl)|(apply bZ;rfl;rfl;rfl)|(apply aW;rfl;rfl;rfl;rfl;rfl;(rw [aU]; simp only [fY] <;> omega);(exact wT (by (omega)))))|(apply aM;first|apply aH|apply aB|(apply b0;kernel_rfl)|(apply aP;rfl;all_goals intro hc;have hq:=hc;(try simp only [cH] at hq);try exfalso;omega)|apply aK|apply bJ|apply aQ)|with_reducible apply aA|with_reducible apply bD|with_reducible apply bO|with_reducible apply cL|with_reducible apply bK)
  (refine aO rfl ?_; refine bW () trivial ?_ ⟨.inr (Eq.trans (b := some _) rfl ?_), ⟨.inr (Eq.trans (b := some _) rfl ?_), ⟨.inr (Eq.trans (b := some _) rfl ?_), trivial⟩⟩⟩)
  ·rfl
  ·rfl
  ·rfl
  ·rfl
theorem LD (ts : List Int) (bd : List AL.Stmt) (pts : List Pnt) (s : Mc) (x : Pnt) (htl : ts.length ≤ 6) (hm : OkM s.cells) (hsl : s.slots.length = ts.length) (ho : x.op = 9 ∨ x.op = 10 ∨ x.op = 11) : MC Tryz.prog 86 [.optr 0 0, fM x] [(0, some (mO ts bd pts 1 2 s)), (1, some (aJ eH s.slots)), (2, some (aJ cI s.read))] 3 (fun _ : Unit => True) (fun _ => iv (eW ts s x).2) (fun _ => [(0, some (mO ts bd pts 1 2 (eW ts s x).1)), (1, some (aJ eH (eW ts s x).1.slots)), (2, some (aJ cI (eW ts s x).1.read))]) := by
 have hus := jF ts bd pts x htl
 have hsm : Sm (wS ts x [1, 2, 3]) := dH (by omega)
 obtain ⟨L, hL⟩ : ∃ L, L = cV (wS ts x [1, 2, 3]) := ⟨_, rfl⟩
 have hLl : L.length ≤ 62 := by rw [hL]; exact dT _
 have hmem : ∀ k, k < L.length → 0 ≤ L[k]! ∧ L[k]! < s.slots.length := fun k hk => by
  rw [hsl]; exact iU (by rw [← hL]; exact cO _ _ hk)
 (refine cA Tryz.func86 rfl (by simp [Tryz.ntmps86]) ?_; rw [Tryz.ntmps86])
 repeat' (first|(apply aL;first|((with_reducible apply aI (k := 120));(case ha => rfl);(case h => exact hus);(case hp => (exact Pur.pf));(case hN => rfl))|(apply aE;rfl;rfl)|(first|(apply aN;rfl;rfl;rfl;rfl)|(apply aV;rfl;rfl;(exact (rfl:_=[_, _, _, _, _]));rfl;rfl;rfl))|(apply aD;rfl;rfl;rfl)|(apply aC;rfl;rfl)|((with_reducible apply aI (k := 119));(case ha => rfl);(case h => (apply iK <;> (assumption)));(case hp => (rfl));(case hN => rfl))|(apply bF;rfl;rfl;rfl)|(apply aF;kernel_rfl)|(apply bZ;rfl;rfl;rfl)|(apply bQ;rfl;rfl;rfl;rfl))|(apply aM;first|apply aH|apply aB|(apply b0;kernel_rfl)|apply aK)|with_reducible apply aA)
 rw [← hL]
 refine bB (σ := Nat) [0, 3, 26, 27] [(0, _), (3, _), (26, _), (27, _)] [0, 1, 2, 3] [(0, some _), (1, some _), (2, some _), (3, some _)] (fun k => [(28, iv (k : Int))]) (fun k => []) (fun k => k ≤ L.length ∧ ∀ j, j < k → s.slots[(L[j]!).toNat]!.set = true) (fun k => L.length - k) (0) ⟨Nat.zero_le _, fun j h => absurd h (by omega)⟩ rfl rfl (by repeat' (first|exact trivial|refine And.intro rfl ?_)) (by repeat' (exact trivial)) ?_
 rintro k ⟨hk, hall⟩
 by_cases hkn : k < L.length
 ·have hmk := hmem k hkn
  repeat' (first|(apply aL;first|(apply aE;rfl;rfl)|(first|(apply cY;(case hx|hH => rfl);(case hf|hg|hα => infer_instance);(case hk => omega);(case hc|hN => rfl))|(apply aN;rfl;rfl;rfl;rfl))|(apply aD;rfl;rfl;rfl)|(first|(apply bS;rfl;rfl;omega;rfl)|(apply aT;rfl;rfl;rfl;rfl))|(apply aC;rfl;rfl)|(first|(apply aZ;(case hx|hi => rfl);(case hm => (assumption));(case hml => (rfl));(case hα | hf|hg => infer_instance);(case hN => rfl))|(apply cR;rfl;rfl;(omega);rfl))|(apply aF;kernel_rfl)|(apply cG;rfl;rfl)|(apply bZ;rfl;rfl;rfl))|(apply aM;first|apply aH|apply aB|(apply aP;rfl;all_goals intro hc;have hq:=hc;(try simp only [cH] at hq);try exfalso;omega)|apply aK|apply aR|apply aQ)|with_reducible apply aA|with_reducible apply bD|with_reducible apply aX|with_reducible apply cL)
  ·have hu : dI ts s x = true := (dO htl).2 ⟨L[k]!, by rw [← hL]; exact cO _ _ hkn, by assumption⟩
   rw [uZ hu]
   (refine aO rfl ?_; refine bW () trivial ?_ ⟨.inr (Eq.trans (b := some _) rfl ?_), ⟨.inr (Eq.trans (b := some _) rfl ?_), ⟨.inr (Eq.trans (b := some _) rfl ?_), trivial⟩⟩⟩)
   ·rfl
   ·rfl
   ·rfl
   ·rfl
  ·(apply dK (k + 1); focus (refine Le.ren [(3, 3)] rfl (by decide) ?_ ?_ <;> repeat' (first | exact trivial | refine And.intro ⟨_, rfl, ?_⟩ ?_ | refine And.intro ⟨_, _, rfl, rfl, ?_⟩ ?_ | exact Or.inr rfl | refine Or.inl ⟨?_, (by first | rfl | exact aY _ _ | exact Pur.pf)⟩ | refine Or.inr (All2.cons ?_ ?_) | refine All2.cons ?_ ?_ | exact All2.nil | rfl)))
   ·refine ⟨by omega, fun j hj => ?_⟩
    rcases Nat.lt_or_ge j k with h|h
    ·exact hall j h
    ·rw [show j = k by omega]; assumption
   ·omega
 ·have hu : dI ts s x = false := by
   cases q : dI ts s x with
   | false => rfl
   | true =>
    obtain ⟨v, hv, hs⟩ := (dO htl).1 q
    rw [← hL] at hv
    obtain ⟨j, hj, e⟩ := List.getElem_of_mem hv
    have h1 := hall j (by omega)
    rw [cT _ _ hj, e, hs] at h1;cases h1
  rw [qU hu]
  by_cases h11 : x.op = 11
  ·have hd : dA ts s x = dQ ts ts.length 0 s := uB h11
   rw [hd]
   have hfi := KI ts bd pts s hm hsl (by omega)
   repeat' (first|(apply aL;first|((apply HF (ts := ts) (bd := bd) (pts := pts) (s := s));(case ha0|hH0|hH1|hH2|hdd => rfl);(case hmc => exact hfi);(case hM|hN => rfl))|(apply aE;rfl;rfl)|(apply aN;rfl;rfl;rfl;rfl)|(apply aD;rfl;rfl;rfl)|(apply aT;rfl;rfl;rfl;rfl)|(apply aC;rfl;rfl)|(apply aF;kernel_rfl))|(apply aM;first|apply aH|apply aB|(apply aP;rfl;all_goals intro hc;have hq:=hc;(try simp only [cH] at hq);try exfalso;omega)|apply aK|apply bJ|apply aQ)|with_reducible apply aA|with_reducible apply bD|with_reducible apply bO|with_reducible apply cL|with_reducible apply bK)
   (refine aO rfl ?_; refine bW () trivial ?_ ⟨.inr (Eq.trans (b := some _) rfl ?_), ⟨.inr (Eq.trans (b := some _) rfl ?_), ⟨.inr (Eq.trans (b := some _) rfl ?_), trivial⟩⟩⟩)
   ·rfl
   ·rfl
   ·rfl
   ·rfl
  ·have hd : dA ts s x = (s, -1) := by unfold dA; rw [if_neg (show ¬ x.op = 1 by omega), if_neg (show ¬ x.op = 2 by omega), if_neg (show ¬ x.op = 3 by omega), if_neg (show ¬ (x.op = 4 ∨ x.op = 5) by omega), if_neg (show ¬ x.op = 6 by omega), if_neg (show ¬ x.op = 7 by omega), if_neg (show ¬ x.op = 8 by omega), if_neg (show ¬ x.op = 11 by omega)]
   rw [hd]
   repeat' (first|(apply aL;first|(apply aN;rfl;rfl;rfl;rfl)|(apply aD;rfl;rfl;rfl)|(apply aT;rfl;rfl;rfl;rfl)|(apply aC;rfl;rfl)|(apply aF;kernel_rfl))|(apply aM;first|apply aH|apply aB|(apply aP;rfl;all_goals intro hc;have hq:=hc;(try simp only [cH] at hq);try exfalso;omega)|apply aK|apply aR|apply bJ|apply aQ)|with_reducible apply aA|with_reducible apply bO|with_reducible apply aX|with_reducible apply bK)
   (refine aO rfl ?_; refine bW () trivial ?_ ⟨.inr (Eq.trans (b := some _) rfl ?_), ⟨.inr (Eq.trans (b := some _) rfl ?_), ⟨.inr (Eq.trans (b := some _) rfl ?_), trivial⟩⟩⟩)
   ·rfl
   ·rfl
   ·rfl
   ·rfl
theorem JW (ts : List Int) (bd : List AL.Stmt) (pts : List Pnt) (s : Mc) (x : Pnt) (htl : ts.length ≤ 6) (hm : OkM s.cells) (hsl : s.slots.length = ts.length) (ho : x.op = 6) (hrl : s.read.length ≤ 1000) (hx : 0 ≤ x.x ∧ x.x < ts.length) (hy : 0 ≤ x.y ∧ x.y < ts.length) (hz : cM s.cells s.slots[x.y.toNat]!.ptr false = 0) (hun : dI ts s x = false) : MC Tryz.prog 86 [.optr 0 0, fM x] [(0, some (mO ts bd pts 1 2 s)), (1, some (aJ eH s.slots)), (2, some (aJ cI s.read))] 3 (fun _ : Unit => True) (fun _ => iv (eW ts s x).2) (fun _ => [(0, some (mO ts bd pts 1 5 (eW ts s x).1)), (1, some (aJ eH (eW ts s x).1.slots)), (5, some (aJ cI (eW ts s x).1.read))]) := by
 have hus := jF ts bd pts x htl
 have hsm : Sm (wS ts x [1, 2, 3]) := dH (by omega)
 obtain ⟨L, hL⟩ : ∃ L, L = cV (wS ts x [1, 2, 3]) := ⟨_, rfl⟩
 have hLl : L.length ≤ 62 := by rw [hL]; exact dT _
 have hmem : ∀ k, k < L.length → 0 ≤ L[k]! ∧ L[k]! < s.slots.length := fun k hk => by
  rw [hsl]; exact iU (by rw [← hL]; exact cO _ _ hk)
 (refine cA Tryz.func86 rfl (by simp [Tryz.ntmps86]) ?_; rw [Tryz.ntmps86])
 repeat' (first|(apply aL;first|((with_reducible apply aI (k := 120));(case ha => rfl);(case h => exact hus);(case hp => (exact Pur.pf));(case hN => rfl))|(apply aE;rfl;rfl)|(first|(apply aN;rfl;rfl;rfl;rfl)|(apply aV;rfl;rfl;(exact (rfl:_=[_, _, _, _, _]));rfl;rfl;rfl))|(apply aD;rfl;rfl;rfl)|(apply aC;rfl;rfl)|((with_reducible apply aI (k := 119));(case ha => rfl);(case h => (apply iK <;> (assumption)));(case hp => (rfl));(case hN => rfl))|(apply bF;rfl;rfl;rfl)|(apply aF;kernel_rfl)|(apply bZ;rfl;rfl;rfl)|(apply bQ;rfl;rfl;rfl;rfl))|(apply aM;first|apply aH|apply aB|(apply b0;kernel_rfl)|apply aK)|with_reducible apply aA)
 rw [← hL]
 refine bB (σ := Nat) [0, 3, 26, 27] [(0, _), (3, _), (26, _), (27, _)] [0, 1, 2, 3] [(0, some _), (1, some _), (2, some _), (3, some _)] (fun k => [(28, iv (k : Int))]) (fun k => []) (fun k => k ≤ L.length ∧ ∀ j, j < k → s.slots[(L[j]!).toNat]!.set = true) (fun k => L.length - k) (0) ⟨Nat.zero_le _, fun j h => absurd h (by omega)⟩ rfl rfl (by repeat' (first|exact trivial|refine And.intro rfl ?_)) (by repeat' (exact trivial)) ?_
 rintro k ⟨hk, hall⟩
 by_cases hkn : k < L.length
 ·have hmk := hmem k hkn
  repeat' (first|(apply aL;first|(apply aE;rfl;rfl)|(first|(apply cY;(case hx|hH => rfl);(case hf|hg|hα => infer_instance);(case hk => omega);(case hc|hN => rfl))|(apply aN;rfl;rfl;rfl;rfl))|(apply aD;rfl;rfl;rfl)|(first|(apply bS;rfl;rfl;omega;rfl)|(apply aT;rfl;rfl;rfl;rfl))|(apply aC;rfl;rfl)|(first|(apply aZ;(case hx|hi => rfl);(case hm => (assumption));(case hml => (rfl));(case hα | hf|hg => infer_instance);(case hN => rfl))|(apply cR;rfl;rfl;(omega);rfl))|(apply aF;kernel_rfl)|(apply cG;rfl;rfl)|(apply bZ;rfl;rfl;rfl))|(apply aM;first|apply aH|apply aB|(apply aP;rfl;all_goals intro hc;have hq:=hc;(try simp only [cH] at hq);try exfalso;omega)|apply aK|apply aR|apply aQ)|with_reducible apply aA|with_reducible apply bD|with_reducible apply aX|with_reducible apply cL)
  ·exfalso
   have hu : dI ts s x = true := (dO htl).2 ⟨L[k]!, by rw [← hL]; exact cO _ _ hkn, by assumption⟩
   rw [hun] at hu;cases hu
  ·(apply dK (k + 1); focus (refine Le.ren [(3, 3)] rfl (by decide) ?_ ?_ <;> repeat' (first | exact trivial | refine And.intro ⟨_, rfl, ?_⟩ ?_ | refine And.intro ⟨_, _, rfl, rfl, ?_⟩ ?_ | exact Or.inr rfl | refine Or.inl ⟨?_, (by first | rfl | exact aY _ _ | exact Pur.pf)⟩ | refine Or.inr (All2.cons ?_ ?_) | refine All2.cons ?_ ?_ | exact All2.nil | rfl)))
   ·refine ⟨by omega, fun j hj => ?_⟩
    rcases Nat.lt_or_ge j k with h|h
    ·exact hall j h
    ·rw [show j = k by omega]; assumption
   ·omega
 ·have hu : dI ts s x = false := by
   cases q : dI ts s x with
   | false => rfl
   | true =>
    obtain ⟨v, hv, hs⟩ := (dO htl).1 q
    rw [← hL] at hv
    obtain ⟨j, hj, e⟩ := List.getElem_of_mem hv
    have h1 := hall j (by omega)
    rw [cT _ _ hj, e, hs] at h1;cases h1
  rw [qU hu]
  have hrc := p9 s.cells hm s.slots[x.y.toNat]!.ptr
  have hp := m8 ts bd pts ⟨s.slots, dS s.cells s.slots[x.y.toNat]!.ptr false, s.read ++ [nH s.cells s.slots[x.y.toNat]!.ptr]⟩ x.x ⟨true, nH s.cells s.slots[x.y.toNat]!.ptr, ⟨0, 0⟩⟩ (hm.tch _ _) hsl hx
  have hd : dA ts s x = c6 ts ⟨s.slots, dS s.cells s.slots[x.y.toNat]!.ptr false, s.read ++ [nH s.cells s.slots[x.y.toNat]!.ptr]⟩ x.x.toNat ⟨true, nH s.cells s.slots[x.y.toNat]!.ptr, ⟨0, 0⟩⟩ := by unfold dA;rw [if_neg (show ¬ x.op = 1 by omega), if_neg (show ¬ x.op = 2 by omega), if_neg (show ¬ x.op = 3 by omega), if_neg (show ¬ (x.op = 4 ∨ x.op = 5) by omega), if_pos ho, if_pos hz]
  rw [hd]
  rw [hz] at hrc
  repeat' (first|(apply aL;first|(apply jP;(case hx|hH => rfl);(case hf|hg|hα => infer_instance);(case hk => omega);(case hj => decide);(case hc => exact (rfl:_=[_, _]));(case h0|hN => rfl))|((with_reducible apply aI (k := 134));(case ha => rfl);(case h => exact hrc);(case hp => (exact Pur.pf));(case hN => rfl))|(with_reducible apply cS (d := 184))|(apply aE;rfl;rfl)|(apply aN;rfl;rfl;rfl;rfl)|(apply aD;rfl;rfl;rfl)|(apply aT;rfl;rfl;rfl;rfl)|(apply aC;rfl;rfl)|(apply cR;rfl;rfl;(assumption);rfl)|(apply bY;rfl;rfl;rfl;rfl;rfl;(rw [aU]; omega);(rfl);omega;omega;(exact gL (by (omega)));rfl;rfl)|(apply aF;kernel_rfl)|(apply bZ;rfl;rfl;rfl)|(apply a8;rfl;rfl;rfl)|((apply bC (t := _));(case hze|hsm|hl => rfl);(case hfl => exact (rfl:_=some [_]));(case hM|hN => rfl))|(apply aW;rfl;rfl;rfl;rfl;rfl;(case hl => (simp;done));(exact (rfl:_=[_, _, _, _]))))|(apply aM;first|apply aH|apply aB|(apply b0;kernel_rfl)|(apply cF;rfl;(rfl))|(apply aP;rfl;all_goals intro hc;have hq:=hc;(try simp only [cH] at hq);try exfalso;omega)|apply aK|apply aR|apply bJ)|with_reducible apply aA|with_reducible apply bO|with_reducible apply bK)
  refine dP ?_
  rw [show s.read.length + 1 = (s.read ++ [nH s.cells s.slots[x.y.toNat]!.ptr]).length from by rw [List.length_append]; rfl]
  repeat' (first|(apply aL;first|((apply k7 (ts := ts) (bd := bd) (pts := pts) (s := ⟨s.slots, dS s.cells s.slots[x.y.toNat]!.ptr false, s.read ++ [nH s.cells s.slots[x.y.toNat]!.ptr]⟩) (v := x.x) (y := ⟨true, nH s.cells s.slots[x.y.toNat]!.ptr, ⟨0, 0⟩⟩));(case ha0|ha1|ha2|hH0|hH1|hH2|hdd => rfl);(case hmc => exact hp);(case hM|hN => rfl))|(apply aE;rfl;rfl)|(apply aN;rfl;rfl;rfl;rfl)|(apply aD;rfl;rfl;rfl)|(apply aC;rfl;rfl)|(apply aF;kernel_rfl)|(apply cC;rfl;(exact (rfl:_=some [_, _, _, _]));(exact (rfl:_=[_, _, _, _]));rfl))|(apply aM;(apply aQ))|with_reducible apply aA|with_reducible apply bD|with_reducible apply cL)
  (refine aO rfl ?_; refine bW () trivial ?_ ⟨.inr (Eq.trans (b := some _) rfl ?_), ⟨.inr (Eq.trans (b := some _) rfl ?_), ⟨.inr (Eq.trans (b := some _) rfl ?_), trivial⟩⟩⟩)
  ·rfl
  ·rfl
  ·rfl
  ·rfl
theorem Lt (ts : List Int) (bd : List AL.Stmt) (pts : List Pnt) (s : Mc) (x : Pnt) (htl : ts.length ≤ 6) (hm : OkM s.cells) (hsl : s.slots.length = ts.length) (hun : dI ts s x = true) : MC Tryz.prog 86 [.optr 0 0, fM x] [(0, some (mO ts bd pts 1 2 s)), (1, some (aJ eH s.slots)), (2, some (aJ cI s.read))] 3 (fun _ : Unit => True) (fun _ => iv (eW ts s x).2) (fun _ => [(0, some (mO ts bd pts 1 2 (eW ts s x).1)), (1, some (aJ eH (eW ts s x).1.slots)), (2, some (aJ cI (eW ts s x).1.read))]) := by
 have hus := jF ts bd pts x htl
 have hsm : Sm (wS ts x [1, 2, 3]) := dH (by omega)
 obtain ⟨L, hL⟩ : ∃ L, L = cV (wS ts x [1, 2, 3]) := ⟨_, rfl⟩
 have hLl : L.length ≤ 62 := by rw [hL]; exact dT _
 have hmem : ∀ k, k < L.length → 0 ≤ L[k]! ∧ L[k]! < s.slots.length := fun k hk => by
  rw [hsl]; exact iU (by rw [← hL]; exact cO _ _ hk)
 (refine cA Tryz.func86 rfl (by simp [Tryz.ntmps86]) ?_; rw [Tryz.ntmps86])
 repeat' (first|(apply aL;first|((with_reducible apply aI (k := 120));(case ha => rfl);(case h => exact hus);(case hp => (exact Pur.pf));(case hN => rfl))|(apply aE;rfl;rfl)|(first|(apply aN;rfl;rfl;rfl;rfl)|(apply aV;rfl;rfl;(exact (rfl:_=[_, _, _, _, _]));rfl;rfl;rfl))|(apply aD;rfl;rfl;rfl)|(apply aC;rfl;rfl)|((with_reducible apply aI (k := 119));(case ha => rfl);(case h => (apply iK <;> (assumption)));(case hp => (rfl));(case hN => rfl))|(apply bF;rfl;rfl;rfl)|(apply aF;kernel_rfl)|(apply bZ;rfl;rfl;rfl)|(apply bQ;rfl;rfl;rfl;rfl))|(apply aM;first|apply aH|apply aB|(apply b0;kernel_rfl)|apply aK)|with_reducible apply aA)
 rw [← hL]
 refine bB (σ := Nat) [0, 3, 26, 27] [(0, _), (3, _), (26, _), (27, _)] [0, 1, 2, 3] [(0, some _), (1, some _), (2, some _), (3, some _)] (fun k => [(28, iv (k : Int))]) (fun k => []) (fun k => k ≤ L.length ∧ ∀ j, j < k → s.slots[(L[j]!).toNat]!.set = true) (fun k => L.length - k) (0) ⟨Nat.zero_le _, fun j h => absurd h (by omega)⟩ rfl rfl (by repeat' (first|exact trivial|refine And.intro rfl ?_)) (by repeat' (exact trivial)) ?_
 rintro k ⟨hk, hall⟩
 by_cases hkn : k < L.length
 ·have hmk := hmem k hkn
  repeat' (first|(apply aL;first|(apply aE;rfl;rfl)|(first|(apply cY;(case hx|hH => rfl);(case hf|hg|hα => infer_instance);(case hk => omega);(case hc|hN => rfl))|(apply aN;rfl;rfl;rfl;rfl))|(apply aD;rfl;rfl;rfl)|(first|(apply bS;rfl;rfl;omega;rfl)|(apply aT;rfl;rfl;rfl;rfl))|(apply aC;rfl;rfl)|(first|(apply aZ;(case hx|hi => rfl);(case hm => (assumption));(case hml => (rfl));(case hα | hf|hg => infer_instance);(case hN => rfl))|(apply cR;rfl;rfl;(omega);rfl))|(apply aF;kernel_rfl)|(apply cG;rfl;rfl)|(apply bZ;rfl;rfl;rfl))|(apply aM;first|apply aH|apply aB|(apply aP;rfl;all_goals intro hc;have hq:=hc;(try simp only [cH] at hq);try exfalso;omega)|apply aK|apply aR|apply aQ)|with_reducible apply aA|with_reducible apply bD|with_reducible apply aX|with_reducible apply cL)
  ·have hu : dI ts s x = true := (dO htl).2 ⟨L[k]!, by rw [← hL]; exact cO _ _ hkn, by assumption⟩
   rw [uZ hu]
   (refine aO rfl ?_; refine bW () trivial ?_ ⟨.inr (Eq.trans (b := some _) rfl ?_), ⟨.inr (Eq.trans (b := some _) rfl ?_), ⟨.inr (Eq.trans (b := some _) rfl ?_), trivial⟩⟩⟩)
   ·rfl
   ·rfl
   ·rfl
   ·rfl
  ·(apply dK (k + 1); focus (refine Le.ren [(3, 3)] rfl (by decide) ?_ ?_ <;> repeat' (first | exact trivial | refine And.intro ⟨_, rfl, ?_⟩ ?_ | refine And.intro ⟨_, _, rfl, rfl, ?_⟩ ?_ | exact Or.inr rfl | refine Or.inl ⟨?_, (by first | rfl | exact aY _ _ | exact Pur.pf)⟩ | refine Or.inr (All2.cons ?_ ?_) | refine All2.cons ?_ ?_ | exact All2.nil | rfl)))
   ·refine ⟨by omega, fun j hj => ?_⟩
    rcases Nat.lt_or_ge j k with h|h
    ·exact hall j h
    ·rw [show j = k by omega]; assumption
   ·omega
 ·have hu : dI ts s x = false := by
   cases q : dI ts s x with
   | false => rfl
   | true =>
    obtain ⟨v, hv, hs⟩ := (dO htl).1 q
    rw [← hL] at hv
    obtain ⟨j, hj, e⟩ := List.getElem_of_mem hv
    have h1 := hall j (by omega)
    rw [cT _ _ hj, e, hs] at h1;cases h1
  rw [qU hu]
  rw [hun] at hu;cases hu
theorem Iz {ts : List Int} {bd : List AL.Stmt} {pts : List Pnt} {s : Mc} {x : Pnt} {N : Nat} {Q : Exit → AS → Prop} {all : Array Oper} {rest : List Oper} {tsl : List (Nat × AV)} {hsl : List (Nat × Option (List AV))} {nidl : Nat} {z0 : Lo} {md : Md} {d : Nat} {ty : TypeId} {pos : String} {af : Array Edge} {tys : Array TypeId} {x0 x1 : Operand} {i0 i1 i2 : Nat} (ha0 : ev (lk tsl) x0 = some (.optr i0 0)) (ha1 : ev (lk tsl) x1 = some (fM x)) (hH0 : cQ hsl i0 = some (mO ts bd pts i1 i2 s)) (hH1 : cQ hsl i1 = some (aJ eH s.slots)) (hH2 : cQ hsl i2 = some (aJ cI s.read)) (hdd : Go.AL.distinct [i0, i1, i2] = true) (hmc : MC Tryz.prog 86 [.optr 0 0, fM x] [(0, some (mO ts bd pts 1 2 s)), (1, some (aJ eH s.slots)), (2, some (aJ cI s.read))] 3 (fun _ : Unit => True) (fun _ => iv (eW ts s x).2) (fun _ => [(0, some (mO ts bd pts 1 5 (eW ts s x).1)), (1, some (aJ eH (eW ts s x).1.slots)), (5, some (aJ cI (eW ts s x).1.read))])) (hM : Nat.ble (nidl + 3) eX = true) (hN : Nat.blt d N = true) {md' : Md} [hmd : MdA md (gJ [x0, x1] ++ [.inr i0, .inr i1, .inr i2]) (List.map Sum.inr (List.map Prod.fst ([(i0, some (mO ts bd pts i1 (nidl + 2) (eW ts s x).1)), (i1, some (aJ eH (eW ts s x).1.slots)), ((nidl + 2), some (aJ cI (eW ts s x).1.read)), (i2, none)] : List (Nat × Option (List AV)))) ++ [.inl d]) md'] (kk : RW Tryz.prog N all Q md' rest ⟨(d, iv (eW ts s x).2) :: tsl, iJ hsl [(i0, some (mO ts bd pts i1 (nidl + 2) (eW ts s x).1)), (i1, some (aJ eH (eW ts s x).1.slots)), ((nidl + 2), some (aJ cI (eW ts s x).1.read)), (i2, none)], nidl + 3, z0⟩) : RW Tryz.prog N all Q md (⟨some d, .call ⟨.value (.func 86), #[x0, x1], tys⟩, ty, pos, af, none⟩ :: rest) ⟨tsl, hsl, nidl, z0⟩ := by
 refine cJ [i0, i1, i2] 6 [(i0, some (mO ts bd pts i1 (nidl + 2) (eW ts s x).1)), (i1, some (aJ eH (eW ts s x).1.slots)), ((nidl + 2), some (aJ cI (eW ts s x).1.read)), (i2, none)] hmc (avs := [.optr i0 0, fM x]) ?_ hdd ?_ rfl ?_ (by simpa using hM) ?_ ?_ ?_ hN (md' := md') (hmd := hmd) kk
 ·show evL (lk tsl) [x0, x1] = _
  simp only [evL, ha0, ha1]
 ·exact ⟨⟨_, _, rfl, hH0, by (repeat' (first|exact RnL.purI inferInstance|exact RnV.purI inferInstance|exact RnV.own rfl|refine RnL.cons ?_ ?_))⟩, ⟨⟨_, _, rfl, hH1, by (repeat' (exact RnL.purI inferInstance))⟩, ⟨⟨_, _, rfl, hH2, by (repeat' (exact RnL.purI inferInstance))⟩, trivial⟩⟩⟩
 ·(repeat' (first|exact RnL.purI inferInstance|exact RnV.optr rfl|refine RnL.cons ?_ ?_))
 ·(repeat' (exact RnV.purI inferInstance))
 ·simp [dJ]
 ·(repeat' (first|exact trivial|(refine And.intro ⟨0, _, rfl, rfl, ?_⟩ ?_)|(refine And.intro ⟨1, _, rfl, rfl, ?_⟩ ?_)|(refine And.intro ⟨5, _, rfl, rfl, ?_⟩ ?_)|exact RnL.purI inferInstance|exact RnV.purI inferInstance|exact RnV.own rfl|refine RnL.cons ?_ ?_))
theorem Lr (ts : List Int) (bd : List AL.Stmt) (pts : List Pnt) (s : Mc) (x : Pnt) (htl : ts.length ≤ 6) (hm : OkM s.cells) (hsl : s.slots.length = ts.length) (hop : 1 ≤ x.op ∧ x.op ≤ 11) (hrl : s.read.length ≤ 1000)
  (hx : x.op ≤ 8 → 0 ≤ x.x ∧ x.x < ts.length) (hy : 3 ≤ x.op → x.op ≤ 7 → 0 ≤ x.y ∧ x.y < ts.length) (hn : x.op = 2 → 0 ≤ x.n ∧ x.n ≤ 9) (h6 : ¬ (x.op = 6 ∧ cM s.cells s.slots[x.y.toNat]!.ptr false = 0 ∧ dI ts s x = false)) : MC Tryz.prog 86 [.optr 0 0, fM x] [(0, some (mO ts bd pts 1 2 s)), (1, some (aJ eH s.slots)), (2, some (aJ cI s.read))] 3 (fun _ : Unit => True) (fun _ => iv (eW ts s x).2) (fun _ => [(0, some (mO ts bd pts 1 2 (eW ts s x).1)), (1, some (aJ eH (eW ts s x).1.slots)), (2, some (aJ cI (eW ts s x).1.read))]) := by
 by_cases h1 : x.op = 1
 ·exact LN ts bd pts s x htl hm hsl h1 (hx (by omega))
 by_cases h2 : x.op = 2
 ·exact Lm ts bd pts s x htl hm hsl h2 (hn h2) (hx (by omega))
 by_cases h3 : x.op = 3
 ·exact LM ts bd pts s x htl hm hsl h3 (hx (by omega)) (hy (by omega) (by omega))
 by_cases h4 : x.op = 4 ∨ x.op = 5
 ·exact KS ts bd pts s x htl hm hsl h4 (hx (by omega)) (hy (by omega) (by omega))
 by_cases h6' : x.op = 6
 ·by_cases hu : dI ts s x = true
  ·exact Lt ts bd pts s x htl hm hsl hu
  ·exact LB ts bd pts s x htl hm hsl h6' hrl (hx (by omega)) (hy (by omega) (by omega)) (fun q => h6 ⟨h6', q, by simpa using hu⟩)
 by_cases h7 : x.op = 7
 ·exact L8 ts bd pts s x htl hm hsl h7 (hx (by omega)) (hy (by omega) (by omega))
 by_cases h8 : x.op = 8
 ·exact Lz ts bd pts s x htl hm hsl h8 (hx (by omega))
 ·exact LD ts bd pts s x htl hm hsl (by omega)
theorem BN (x : Pnt) (h : x.next.length ≤ 1000000) : PC Tryz.prog 57 [fM x] (fun r => r = bv (decide (x.next.length = 2))) := by
 (refine aS Tryz.func57 rfl (by simp [Tryz.ntmps57]) ?_; rw [Tryz.ntmps57])
 repeat' (first|(apply aL;first|(apply aN;rfl;rfl;rfl;rfl)|(apply aD;rfl;rfl;rfl)|(apply aT;rfl;rfl;rfl;rfl)|(apply aC;rfl;rfl)|(apply bF;rfl;rfl;rfl)|(apply aF;kernel_rfl)|(apply bQ;rfl;rfl;rfl;rfl))|(apply aM;first|apply aH|apply aB|apply aQ)|with_reducible apply aA)
 refine aO rfl ⟨?_, rfl⟩
 simp only [bV, AV.v.injEq, Value.bool.injEq, decide_eq_decide]; omega
theorem Lw {pts : List Pnt} {a : Nat} {C : List Int} (h : pts[a]!.next.length = 2) (hC : 0 < C.length) : iH pts a C = ((pts[a]!.next[(C[0]! % 2).toNat]!).toNat, C.drop 1) := by
 cases C with
 | nil => simp at hC
 | cons c C => unfold iH;rw [if_pos h]; rfl
theorem LY {pts : List Pnt} {a : Nat} (h : pts[a]!.next.length = 2) : iH pts a [] = ((pts[a]!.next[1]!).toNat, []) := by unfold iH; rw [if_pos h]
theorem E4 {pts : List Pnt} {n a b : Nat} {out C C2 : List Int} {q : List Int × Bool} (h : ¬ pts[a]!.op = 11) (ho : out.length ≤ n) (hs : iH pts a C = (b, C2)) (hq : q = (out ++ (wm pts (n - out.length) a C).1, (wm pts (n - out.length) a C).2)) :
  ((out ++ [(a : Int)]).length ≤ n ∧ q = ((out ++ [(a : Int)]) ++ (wm pts (n - (out ++ [(a : Int)]).length) b C2).1, (wm pts (n - (out ++ [(a : Int)]).length) b C2).2)) ∨ ((out ++ [(a : Int)]).length = n + 1 ∧ q = ((out ++ [(a : Int)]).take n, false)) := by
 have hl : (out ++ [(a : Int)]).length = out.length + 1 := by rw [List.length_append]; rfl
 rcases Nat.lt_or_ge out.length n with h1|h1
 ·exact .inl ⟨by omega, oN h h1 hs hq⟩
 ·refine .inr ⟨by omega, ?_⟩
  have e : out.length = n := by omega
  rw [hq, e, Nat.sub_self, Ho h, ← e, List.take_left' rfl, List.append_nil]
theorem Ky (ts : List Int) (bd : List AL.Stmt) (pts : List Pnt) (cs : List Int) (n : Nat) (w : WG ts pts) (wa : WA ts pts) (hn : n ≤ 1000) (hcl : cs.length ≤ 1000000) : PC Tryz.prog 85 [aG ts bd pts, sl cI cs, iv (n : Int)] (fun r => r = .tup [sl cI (wm pts n 0 cs).1, bv (wm pts n 0 cs).2]) := by
 have hpl := w.pl
 have hp0 := w.p0
 (refine aS Tryz.func85 rfl (by simp [Tryz.ntmps85]) ?_; rw [Tryz.ntmps85])
 repeat' (first|(apply aL;first|((apply lA (d := 8) (e := 1));(case hM|hN => rfl))|(apply aC;rfl;rfl)|(apply aF;kernel_rfl))|(apply aM;first|apply aH|apply aB|apply aK)|with_reducible apply aA)
 refine bB (σ := Int × List Int × Nat × List Int) [0, 2] [(0, _), (2, _)] [] [] (fun k => [(9, iv k.1), (1, sl cI k.2.2.2), (8, .own 0 0 k.2.2.1 1)]) (fun k => [(0, some (aJ cI k.2.1))]) (fun k => (0 ≤ k.1 ∧ k.1 < pts.length) ∧ k.2.2.1 = k.2.1.length ∧ k.2.2.2.length ≤ 1000000 ∧ ((k.2.1.length ≤ n ∧ wm pts n 0 cs = (k.2.1 ++ (wm pts (n - k.2.1.length) k.1.toNat k.2.2.2).1, (wm pts (n - k.2.1.length) k.1.toNat k.2.2.2).2)) ∨ (k.2.1.length = n + 1 ∧ wm pts n 0 cs = (k.2.1.take n, false)))) (fun k => n + 1 - k.2.1.length) (0, [], 0, cs) ⟨⟨Int.le_refl _, by show (0 : Int) < _; omega⟩, rfl, hcl, .inl ⟨Nat.zero_le _, rfl⟩⟩ rfl rfl (by repeat' (first|exact trivial|refine And.intro rfl ?_)) (by repeat' (first|exact trivial|refine And.intro (.inr rfl) ?_)) ?_
 rintro ⟨a, out, m, C⟩ ⟨⟨ha0, ha⟩, hm, hC, hw⟩
 dsimp only at ha0 ha hm hC hw ⊢
 by_cases hout : out.length ≤ n
 ·have hw2 : wm pts n 0 cs = (out ++ (wm pts (n - out.length) a.toNat C).1, (wm pts (n - out.length) a.toNat C).2) := by
   rcases hw with h|h
   ·exact h.2
   ·omega
  have hat : (a.toNat : Int) = a := Int.toNat_of_nonneg ha0
  have hnx := w.nx a.toNat (by omega)
  have hnl := w.nl a.toNat (by omega)
  have hn1 := wa.n a.toNat (by omega)
  have hk : ∀ k, k < pts[a.toNat]!.next.length → 0 ≤ pts[a.toNat]!.next[k]! ∧ pts[a.toNat]!.next[k]! < pts.length := fun k h => hnx _ (cO _ _ h)
  have hch := BN pts[a.toNat]! (by omega)
  repeat' (first|(apply aL;first|((with_reducible apply aI (k := 57));(case ha => rfl);(case h => exact hch);(case hp => (exact Pur.pf));(case hN => rfl))|(apply IB;rfl;rfl;rfl)|(apply aE;rfl;rfl)|(first|(apply aN;rfl;rfl;rfl;rfl)|(apply aV;rfl;rfl;(exact (rfl:_=[_, _, _, _, _]));rfl;rfl;rfl))|(apply aD;rfl;rfl;rfl)|(apply aT;rfl;rfl;rfl;rfl)|(apply aC;rfl;rfl)|(apply cK;(case hx|hi => rfl);(case hm => (omega));(case hml => (rfl));(case hα | hf|hg => infer_instance);(case hN => rfl))|(first|(apply bF;rfl;rfl;rfl)|(apply bY;rfl;rfl;rfl;rfl;rfl;(rw [aU]; omega);(rfl);omega;omega;(exact gL (by (assumption)));rfl;rfl))|(apply aF;kernel_rfl)|(apply gV;rfl;infer_instance;rfl;rfl;(omega);rfl)|(apply cG;rfl;rfl)|(apply bZ;rfl;rfl;rfl)|(apply bE;rfl;rfl)|((apply bC (t := _));(case hze|hsm|hl => rfl);(case hfl => exact (rfl:_=some [_]));(case hM|hN => rfl))|(apply aW;rfl;rfl;rfl;rfl;rfl;(case hl => (simp;done));(exact (rfl:_=[_, _, _, _, _]))))|(apply aM;first|apply aH|apply aB|(apply b0;kernel_rfl)|(apply aP;rfl;all_goals intro hc;have hq:=hc;(try simp only [cH] at hq);try exfalso;omega)|apply aK|apply aR|apply aQ)|with_reducible apply aA|with_reducible apply bD|with_reducible apply aX|with_reducible apply cL)
  ·have hop : pts[a.toNat]!.op = 11 := by assumption
   have e : wm pts n 0 cs = (out ++ [a], true) := by rw [hw2, GY hop, hat]
   rw [e]
   (refine cE (Le.frzD (d := 6) (i := 2) rfl rfl) ?_; refine aO rfl ?_)
   refine ⟨?_, (by (exact Pur.pf))⟩
   simp only [bV, sl]
   rw [hm, List.length_append]; rfl
  ·have hop : ¬ pts[a.toNat]!.op = 11 := by assumption
   have hst := E4 hop hout (JF (by omega)) hw2
   rw [hat] at hst
   have hk := hk 0 (by omega)
   (apply dK (pts[a.toNat]!.next[0]!, _, _, C);focus (refine Le.ren [(0, 2)] rfl (by decide) ?_ ?_ <;> repeat' (first|exact trivial|refine And.intro ⟨_, rfl, ?_⟩ ?_|refine And.intro ⟨_, _, rfl, rfl, ?_⟩ ?_|exact Or.inr rfl|refine Or.inl ⟨?_, (by first|rfl|exact aY _ _|exact Pur.pf)⟩|rfl)))
   ·exact ⟨hk, by dsimp only;rw [List.length_append, hm]; rfl, hC, hst⟩
   ·dsimp only;rw [List.length_append]; simp only [List.length_singleton]; omega
  ·have hop : ¬ pts[a.toNat]!.op = 11 := by assumption
   have hC0 : 0 < C.length := by omega
   have hst := E4 hop hout (Lw (by omega) hC0) hw2
   rw [hat] at hst
   have hk := hk (C[0]! % 2).toNat (by omega)
   have hCe : List.take (C.length - Int.toNat 1) (List.drop (Int.toNat 1) C) = C.drop 1 := List.take_of_length_le (by rw [List.length_drop]; exact Nat.le_refl _)
   rw [hCe]
   (apply dK (pts[a.toNat]!.next[(C[0]! % 2).toNat]!, _, _, C.drop 1);focus (refine Le.ren [(0, 2)] rfl (by decide) ?_ ?_ <;> repeat' (first|exact trivial|refine And.intro ⟨_, rfl, ?_⟩ ?_|refine And.intro ⟨_, _, rfl, rfl, ?_⟩ ?_|exact Or.inr rfl|refine Or.inl ⟨?_, (by first|rfl|exact aY _ _|exact Pur.pf)⟩|rfl)))
   ·exact ⟨hk, by dsimp only;rw [List.length_append, hm]; rfl, by dsimp only;rw [List.length_drop]; omega, hst⟩
   ·dsimp only;rw [List.length_append]; simp only [List.length_singleton]; omega
  ·have hop : ¬ pts[a.toNat]!.op = 11 := by assumption
   have hC0 : C = [] := List.eq_nil_of_length_eq_zero (by omega)
   subst hC0
   have hst := E4 hop hout (LY (by omega)) hw2
   rw [hat] at hst
   have hk := hk 1 (by omega)
   (apply dK (pts[a.toNat]!.next[1]!, _, _, []);focus (refine Le.ren [(0, 2)] rfl (by decide) ?_ ?_ <;> repeat' (first|exact trivial|refine And.intro ⟨_, rfl, ?_⟩ ?_|refine And.intro ⟨_, _, rfl, rfl, ?_⟩ ?_|exact Or.inr rfl|refine Or.inl ⟨?_, (by first|rfl|exact aY _ _|exact Pur.pf)⟩|rfl)))
   ·exact ⟨hk, by dsimp only;rw [List.length_append, hm]; rfl, hC, hst⟩
   ·dsimp only;rw [List.length_append]; simp only [List.length_singleton]; omega
 ·have hw2 : out.length = n + 1 ∧ wm pts n 0 cs = (out.take n, false) := by
   rcases hw with h|h
   ·omega
   ·exact h
  repeat' (first|(apply aL;first|((apply hG (d := 59) (l := 0) (h := n));(case hx|hn|hl => rfl);(case hh => exact pP rfl (by omega));(case hp => exact if_pos (by omega));(case hN => rfl))|(apply aE;rfl;rfl)|(apply aT;rfl;rfl;rfl;rfl)|(apply aC;rfl;rfl)|(apply bF;rfl;rfl;rfl)|(apply aF;kernel_rfl))|(apply aM;first|apply aH|apply aB|(apply aP;rfl;all_goals intro hc;have hq:=hc;(try simp only [cH] at hq);try exfalso;omega)|apply bJ|apply aQ)|with_reducible apply aA|with_reducible apply bO|with_reducible apply bK)
  refine cE (Le.cut (i := 0) (n * 1) rfl) ?_
  refine cE (Le.frzD (d := 6) (i := 0) rfl rfl) ?_
  rw [hw2.2, fA cI (e := 1)]
  refine aO (l := [.imm (n - 0) (aJ cI (out.take n)), bv false]) rfl ⟨?_, (by (exact Pur.pf))⟩
  rw [fP (by rw [List.length_take]; omega)]
  rfl
end Go.Proofs.YtckihjkcgfphmaaGreat
