/-
 A part of the proofs over this program: rules and contracts of its functions (the contracts).
-/
import Derived.Test.YtjcpngimjdckmaaGreatQ3B06
set_option linter.unusedVariables false
set_option linter.unusedSimpArgs false
set_option maxHeartbeats 8000000
set_option maxRecDepth 4000
attribute [local irreducible] Go.AL.RW Go.AL.AW Go.AL.Stop
namespace Go.Proofs.YtjcpngimjdckmaaGreat
open Go.AL Go.RowKit
theorem Lf (Y : List Int) (v : Int) (hl : Y.length ≤ 1000000) : PC Tryz.prog 131 [iv v, .iptr [sl cI Y]] (fun r => r = bv (decide (v ∈ Y))) := by
 have hct := nH Y v hl
 (refine aT Tryz.func131 rfl (by simp [Tryz.ntmps131]) ?_; rw [Tryz.ntmps131])
 repeat' (first|(apply aM;first|(apply aE;rfl;rfl)|(apply aK;rfl;rfl;rfl;rfl)|(apply aC;rfl;rfl)|((with_reducible apply aJ (k := 52));(case ha => rfl);(case h => (apply nH <;> (assumption)));(case hp => (exact Pur.pf));(case hN => rfl))|(apply aF;kernel_rfl))|(apply aN;first|apply aH|apply aB|apply aQ)|with_reducible apply aA)
 refine aP rfl ⟨?_, rfl⟩
 rfl
def KV (Y xs : List Int) : Int := match xs.findIdx? (fun v => decide (v ∈ Y)) with | some i => (i : Int) | none => -1
theorem Ke (Y xs : List Int) : (!decide (0 ≤ KV Y xs)) = Dx xs Y := by
 unfold KV Dx
 split
 ·rename_i i h
  obtain ⟨h1, h2, _⟩ := List.findIdx?_eq_some_iff_getElem.1 h
  rw [List.all_eq_false.2 ⟨xs[i], List.getElem_mem h1, by rw [h2]; decide⟩]; simp
 ·rename_i h
  rw [List.findIdx?_eq_none_iff] at h
  have : xs.all (fun v => !decide (v ∈ Y)) = true := by rw [List.all_eq_true]; intro x hx;rw [h x hx]; decide
  rw [this]; rfl
theorem JT (Y xs : List Int) (hl : Y.length ≤ 1000000) (hx : xs.length ≤ 1000) : PC Tryz.prog 171 [sl cI xs, .clos (.func 131) [] [.iptr [sl cI Y]]] (fun r => r = iv (KV Y xs)) := by
 (refine aT Tryz.func171 rfl (by simp [Tryz.ntmps171]) ?_; rw [Tryz.ntmps171])
 repeat' (first|(apply aM;first|(apply aE;rfl;rfl)|(apply aC;rfl;rfl)|(apply a9;rfl;rfl;rfl)|(apply aF;kernel_rfl))|(apply aN;first|apply aH|apply aB|apply aL)|with_reducible apply aA)
 refine a7 (σ := Nat) [0, 1, 7] [(0, _), (1, _), (7, _)] [] [] (fun k => [(8, iv (k : Int))]) (fun k => []) (fun k => k ≤ xs.length ∧ ∀ j, j < k → (decide (xs[j]! ∈ Y)) = false) (fun k => xs.length - k) (0) ⟨by omega, by omega⟩ rfl rfl (by repeat' (first|exact trivial|refine And.intro rfl ?_)) (by repeat' (exact trivial)) ?_
 rintro k ⟨hk, hall⟩
 by_cases hkn : k < xs.length
 ·have hcl := Lf Y xs[k]! hl
  cases hb : decide (xs[k]! ∈ Y)
  ·rw [hb] at hcl
   repeat' (first|(apply aM;first|(apply aE;rfl;rfl)|(apply aK;rfl;rfl;rfl;rfl)|(first|(apply bR;rfl;rfl;omega;rfl)|(apply aR;rfl;rfl;rfl;rfl))|(apply aC;rfl;rfl)|(apply a6;(case hx|hi => rfl);(case hm => (assumption));(case hml => (rfl));(case hα | hf|hg => infer_instance);(case hN => rfl))|((with_reducible apply gF);(case hx|hcl => rfl);(case hc => infer_instance);(case ha => rfl);(case h => (apply hcl <;> (fail)));(case hp => (exact Pur.pf));(case hN => rfl))|(apply aF;kernel_rfl))|(apply aN;first|apply aH|apply aB|(apply cH;rfl;(rfl))|(apply aO;rfl;all_goals intro hc;have hq:=hc;(try simp only [cK] at hq);try exfalso;omega)|apply aL|apply aS)|with_reducible apply aA|with_reducible apply aV)
   (apply dV (k + 1);focus (refine Le.ren [] rfl (by decide) ?_ ?_ <;> repeat' (first|exact trivial|refine And.intro ⟨_, rfl, ?_⟩ ?_|refine Or.inl ⟨?_, (by first|rfl|exact aZ _ _|exact Pur.pf)⟩|rfl)))
   ·refine ⟨by omega, fun j hj => ?_⟩
    by_cases e : j = k
    ·subst e;exact hb
    ·exact hall j (by omega)
   ·omega
  ·rw [hb] at hcl
   repeat' (first|(apply aM;first|(apply aE;rfl;rfl)|(apply aK;rfl;rfl;rfl;rfl)|(apply aR;rfl;rfl;rfl;rfl)|(apply aC;rfl;rfl)|(apply a6;(case hx|hi => rfl);(case hm => (assumption));(case hml => (rfl));(case hα | hf|hg => infer_instance);(case hN => rfl))|((with_reducible apply gF);(case hx|hcl => rfl);(case hc => infer_instance);(case ha => rfl);(case h => (apply hcl <;> (fail)));(case hp => (exact Pur.pf));(case hN => rfl))|(apply aF;kernel_rfl))|(apply aN;first|apply aH|apply aB|(apply b8;rfl;(rfl))|(apply aO;rfl;all_goals intro hc;have hq:=hc;(try simp only [cK] at hq);try exfalso;omega)|apply aL|apply aS|apply aQ)|with_reducible apply aA|with_reducible apply bJ|with_reducible apply cY)
   refine aP rfl ⟨?_, rfl⟩
   have : xs.findIdx? (fun v => decide (v ∈ Y)) = some k := by
    rw [List.findIdx?_eq_some_iff_getElem]
    refine ⟨hkn, by rw [← cL xs k hkn]; exact hb, fun j hj => ?_⟩
    have := hall j hj;rw [cL xs j (by omega)] at this;rw [this]; decide
   simp only [KV, this]; rfl
 ·repeat' (first | (apply aM; first | (apply aR;rfl;rfl;rfl;rfl) | (apply aC;rfl;rfl) | (apply aF;kernel_rfl)) | (apply aN; first | apply aH | apply aB | (apply aO;rfl;all_goals intro hc;have hq:=hc;(try simp only [cK] at hq);try exfalso;omega) | apply bF | apply aQ) | with_reducible apply aA | with_reducible apply bE | with_reducible apply bG)
  refine aP rfl ⟨?_, rfl⟩
  have : xs.findIdx? (fun v => decide (v ∈ Y)) = none := by
   rw [List.findIdx?_eq_none_iff]
   intro x hx
   obtain ⟨j, hj, rfl⟩ := List.getElem_of_mem hx
   have := hall j (by omega);rw [cL xs j hj] at this;exact this
  simp only [KV, this]; rfl
theorem Hk (Y xs : List Int) (hl : Y.length ≤ 1000000) (hx : xs.length ≤ 1000) : PC Tryz.prog 130 [sl cI xs, .clos (.func 131) [] [.iptr [sl cI Y]]] (fun r => r = bv (decide (0 ≤ KV Y xs))) := by
 have hix := JT Y xs hl hx
 (refine aT Tryz.func130 rfl (by simp [Tryz.ntmps130]) ?_; rw [Tryz.ntmps130])
 repeat' (first|(apply aM;first|((with_reducible apply aJ (k := 171));(case ha => rfl);(case h => exact hix);(case hp => (exact Pur.pf));(case hN => rfl))|(apply aE;rfl;rfl)|(apply aR;rfl;rfl;rfl;rfl)|(apply aC;rfl;rfl)|(apply aF;kernel_rfl))|(apply aN;first|apply aH|apply aB|apply aQ)|with_reducible apply aA)
 refine aP rfl ⟨?_, rfl⟩
 rfl
theorem Cu (F : List Bool) (v : Int) (hF : F.length = 6) (h0 : 0 ≤ v) (h6 : v < 6) : MC Tryz.prog 200 [iv v, .optr 1 0] [(0, some (aI cB F)), (1, some [.optr 0 0])] 2 (fun _ : Unit => True) (fun _ => .tup [])
  (fun _ => [(0, some (aI cB (F.set v.toNat true))), (1, some [.optr 0 0])]) := by
 (refine b0 Tryz.func200 rfl (by simp [Tryz.ntmps200]) ?_; rw [Tryz.ntmps200])
 repeat' (first|(apply aM;first|(apply aE;rfl;rfl)|(apply aK;rfl;rfl;rfl;rfl)|(apply gO;rfl;rfl;(omega);rfl;rfl)|((with_reducible apply aJ (k := 50));(case ha => rfl);(case h => (apply dO <;> (fail)));(case hp => (rfl));(case hN => rfl))|(apply aF;kernel_rfl)|(apply bU;rfl;rfl;rfl)|(apply aW;rfl;rfl;rfl;rfl;rfl;(rw [aU]; simp only [hZ] <;> omega);(exact Dg (by (omega)))))|(apply aN;first|apply aH|apply aB|(apply aO;rfl;all_goals intro hc;have hq:=hc;(try simp only [cK] at hq);try exfalso;omega))|with_reducible apply aA)
 refine Bl (l := []) rfl ?_
 exact bV () trivial rfl ⟨.inr rfl, .inr rfl, trivial⟩
theorem Gm {op x y n : Int} {N : Nat} {Q : Exit → AS → Prop} {all : Array Oper} {rest : List Oper} {tsl : List (Nat × AV)} {hsl : List (Nat × Option (List AV))} {nidl : Nat} {z0 : Lo} {md : Md} {d : Nat} {ty : TypeId} {pos : String} {af : Array Edge} {tys : Array TypeId} {x0 x1 : Operand} {i0 : Nat} (ha0 : ev (lk tsl) x0 = some (dH (.mk op x y n [] []))) (ha1 : ev (lk tsl) x1 = some (.optr i0 0)) (hH0 : cE hsl i0 = some (aI cB (List.replicate 6 false))) (hmc : MC Tryz.prog 170 [dH (.mk op x y n [] []), .optr 0 0] [(0, some (aI cB (List.replicate 6 false)))] 1 (fun _ : Unit => True) (fun _ => .tup []) (fun _ => [(0, some (aI cB (wG op x y)))])) (hM : Nat.ble (nidl + 0) fD = true) (hN : Nat.blt d N = true) {md' : Md} [hmd : MdA md (gS [x0, x1] ++ [.inr i0]) (List.map Sum.inr (List.map Prod.fst ([(i0, some (aI cB (wG op x y)))] : List (Nat × Option (List AV)))) ++ [.inl d]) md'] (kk : RW Tryz.prog N all Q md' rest ⟨(d, .tup []) :: tsl, iK hsl [(i0, some (aI cB (wG op x y)))], nidl + 0, z0⟩) : RW Tryz.prog N all Q md (⟨some d, .call ⟨.value (.func 170), #[x0, x1], tys⟩, ty, pos, af, none⟩ :: rest) ⟨tsl, hsl, nidl, z0⟩ := by
 refine cJ [i0] 1 [(i0, some (aI cB (wG op x y)))] hmc (avs := [dH (.mk op x y n [] []), .optr i0 0]) ?_ rfl ?_ rfl ?_ (by simpa using hM) ?_ ?_ ?_ hN (md' := md') (hmd := hmd) kk
 ·show evL (lk tsl) [x0, x1] = _
  simp only [evL, ha0, ha1]
 ·exact ⟨⟨_, _, rfl, hH0, by (repeat' (exact RnL.purI inferInstance))⟩, trivial⟩
 ·(repeat' (first|exact RnL.purI inferInstance|exact RnV.purI inferInstance|exact RnV.optr rfl|refine RnL.cons ?_ ?_))
 ·(repeat' (exact RnV.purI inferInstance))
 ·simp [dQ]
 ·(repeat' (first|exact trivial|(refine And.intro ⟨0, _, rfl, rfl, ?_⟩ ?_)|exact RnL.purI inferInstance))
theorem Dh (op x y n : Int) (h : zV op x y) : MC Tryz.prog 170 [dH (.mk op x y n [] []), .optr 0 0] [(0, some (aI cB (List.replicate 6 false)))] 1 (fun _ : Unit => True) (fun _ => .tup []) (fun _ => [(0, some (aI cB (wG op x y)))]) := by
 obtain ⟨ho, hx, hy0, hy⟩ := h
 have h1 := Cu (List.replicate 6 false) x (by simp) hx.1 hx.2
 have hop : op < 9 := by omega
 by_cases hc : 3 ≤ op ∧ op ≤ 7
 ·have hv : wG op x y = ((List.replicate 6 false).set x.toNat true).set y.toNat true := if_pos hc
  have h2 := Cu ((List.replicate 6 false).set x.toNat true) y (by simp) hy0 (hy hc.1 hc.2)
  (refine b0 Tryz.func170 rfl (by simp [Tryz.ntmps170]) ?_; rw [Tryz.ntmps170])
  rw [hv]
  repeat' (first|(apply aM;first|(apply aE;rfl;rfl)|(apply aK;rfl;rfl;rfl;rfl)|(apply aD;rfl;rfl;rfl)|(apply aR;rfl;rfl;rfl;rfl)|(apply aC;rfl;rfl)|((with_reducible apply aJ (k := 50));(case ha => rfl);(case h => (apply dO <;> (fail)));(case hp => (rfl));(case hN => rfl))|(apply a9;rfl;rfl;rfl)|(apply aF;kernel_rfl)|(apply gN;rfl;rfl;rfl)|(apply bW;rfl;rfl;rfl;rfl))|(apply aN;first|apply aH|apply aB|(apply aO;rfl;all_goals intro hc;have hq:=hc;(try simp only [cK] at hq);try exfalso;omega)|apply aL|apply aS)|with_reducible apply aA)
  ·refine pC (k := 200) (avs := [iv x]) (avs0 := [iv x, .optr 1 0]) (rr' := .tup []) [0, 2] 2 [(0, some (aI cB ((List.replicate 6 false).set x.toNat true))), (2, some [.optr 0 0])] h1 rfl rfl rfl rfl ⟨⟨_, _, rfl, rfl, RnL.purI inferInstance⟩, ⟨_, _, rfl, rfl, RnL.cons (RnV.optr rfl) .nil⟩, trivial⟩ rfl (RnL.cons (RnV.purI inferInstance) (RnL.cons (RnV.optr rfl) .nil)) rfl (RnV.purI inferInstance) rfl ⟨⟨0, _, rfl, rfl, RnL.purI inferInstance⟩, ⟨1, _, rfl, rfl, RnL.cons (RnV.optr rfl) .nil⟩, trivial⟩ rfl ?_
   repeat' (first|(apply aM;first|(apply aE;rfl;rfl)|(apply aK;rfl;rfl;rfl;rfl)|(apply aD;rfl;rfl;rfl)|((with_reducible apply aJ (k := 50));(case ha => rfl);(case h => (apply dO <;> (fail)));(case hp => (rfl));(case hN => rfl))|(apply a9;rfl;rfl;rfl)|(apply aF;kernel_rfl))|(apply aN;first|apply aH|apply aB|(apply aO;rfl;all_goals intro hc;have hq:=hc;(try simp only [cK] at hq);try exfalso;omega)|apply aL|apply aS)|with_reducible apply aA)
   ·refine pC (k := 200) (avs := [iv y]) (avs0 := [iv y, .optr 1 0]) (rr' := .tup []) [0, 2] 2 [(0, some (aI cB (((List.replicate 6 false).set x.toNat true).set y.toNat true))), (2, some [.optr 0 0])] h2 rfl rfl rfl rfl ⟨⟨_, _, rfl, rfl, RnL.purI inferInstance⟩, ⟨_, _, rfl, rfl, RnL.cons (RnV.optr rfl) .nil⟩, trivial⟩ rfl (RnL.cons (RnV.purI inferInstance) (RnL.cons (RnV.optr rfl) .nil)) rfl (RnV.purI inferInstance) rfl ⟨⟨0, _, rfl, rfl, RnL.purI inferInstance⟩, ⟨1, _, rfl, rfl, RnL.cons (RnV.optr rfl) .nil⟩, trivial⟩ rfl ?_
    repeat' (first|(apply aM;first|(apply aE;rfl;rfl)|(apply aK;rfl;rfl;rfl;rfl)|(apply aD;rfl;rfl;rfl)|(apply a9;rfl;rfl;rfl)|(apply aF;kernel_rfl))|(apply aN;first|apply aH|apply aB|apply aL)|with_reducible apply aA)
    refine a7 (σ := Unit) [2, 3, 25, 26] [(2, _), (3, _), (25, _), (26, _)] [0, 1, 2] [(0, some _), (1, some _), (2, some _)] (fun u => [(27, iv 0)]) (fun u => []) (fun u => True) (fun u => 0) () trivial rfl rfl (by repeat' (first|exact trivial|refine And.intro rfl ?_)) (by repeat' (exact trivial)) ?_
    intro u _
    repeat' (first|(apply aM;first|(apply aE;rfl;rfl)|(apply aK;rfl;rfl;rfl;rfl)|(apply aD;rfl;rfl;rfl)|(apply aR;rfl;rfl;rfl;rfl)|(apply a9;rfl;rfl;rfl)|(apply aF;kernel_rfl))|(apply aN;first|apply aH|apply aB|(apply cH;rfl;(rfl))|apply aL|apply bF)|with_reducible apply aA|with_reducible apply bE|with_reducible apply bG)
    refine a7 (σ := Unit) [3, 36, 37] [(3, _), (36, _), (37, _)] [0, 1, 2] [(0, some _), (1, some _), (2, some _)] (fun u => [(38, iv 0)]) (fun u => []) (fun u => True) (fun u => 0) () trivial rfl rfl (by repeat' (first|exact trivial|refine And.intro rfl ?_)) (by repeat' (exact trivial)) ?_
    intro u _
    repeat' (first|(apply aM;first|(apply aR;rfl;rfl;rfl;rfl)|(apply aF;kernel_rfl))|(apply aN;first|apply aH|apply aB|(apply cH;rfl;(rfl))|apply bF)|with_reducible apply aA|with_reducible apply bE|with_reducible apply bG)
    refine Bl (l := []) rfl ?_
    exact bV () trivial rfl ⟨.inr rfl, trivial⟩
   ·exfalso;dsimp only [AL.Stmt.op] at *; omega
  ·exfalso;dsimp only [AL.Stmt.op] at *; omega
 ·have hv : wG op x y = (List.replicate 6 false).set x.toNat true := if_neg hc
  (refine b0 Tryz.func170 rfl (by simp [Tryz.ntmps170]) ?_; rw [Tryz.ntmps170])
  rw [hv]
  repeat' (first|(apply aM;first|(apply aE;rfl;rfl)|(apply aK;rfl;rfl;rfl;rfl)|(apply aD;rfl;rfl;rfl)|(apply aR;rfl;rfl;rfl;rfl)|(apply aC;rfl;rfl)|((with_reducible apply aJ (k := 50));(case ha => rfl);(case h => (apply dO <;> (fail)));(case hp => (rfl));(case hN => rfl))|(apply a9;rfl;rfl;rfl)|(apply aF;kernel_rfl)|(apply gN;rfl;rfl;rfl)|(apply bW;rfl;rfl;rfl;rfl))|(apply aN;first|apply aH|apply aB|(apply aO;rfl;all_goals intro hc;have hq:=hc;(try simp only [cK] at hq);try exfalso;omega)|apply aL|apply aS)|with_reducible apply aA)
  ·refine pC (k := 200) (avs := [iv x]) (avs0 := [iv x, .optr 1 0]) (rr' := .tup []) [0, 2] 2 [(0, some (aI cB ((List.replicate 6 false).set x.toNat true))), (2, some [.optr 0 0])] h1 rfl rfl rfl rfl ⟨⟨_, _, rfl, rfl, RnL.purI inferInstance⟩, ⟨_, _, rfl, rfl, RnL.cons (RnV.optr rfl) .nil⟩, trivial⟩ rfl (RnL.cons (RnV.purI inferInstance) (RnL.cons (RnV.optr rfl) .nil)) rfl (RnV.purI inferInstance) rfl ⟨⟨0, _, rfl, rfl, RnL.purI inferInstance⟩, ⟨1, _, rfl, rfl, RnL.cons (RnV.optr rfl) .nil⟩, trivial⟩ rfl ?_
   repeat' (first|(apply aM;first|(apply aE;rfl;rfl)|(apply aK;rfl;rfl;rfl;rfl)|(apply aD;rfl;rfl;rfl)|((with_reducible apply aJ (k := 50));(case ha => rfl);(case h => (apply dO <;> (fail)));(case hp => (rfl));(case hN => rfl))|(apply a9;rfl;rfl;rfl)|(apply aF;kernel_rfl))|(apply aN;first|apply aH|apply aB|(apply aO;rfl;all_goals intro hc;have hq:=hc;(try simp only [cK] at hq);try exfalso;omega)|apply aL|apply aS)|with_reducible apply aA)
   ·exfalso;dsimp only [AL.Stmt.op] at *; omega
   ·refine a7 (σ := Unit) [2, 3, 25, 26] [(2, _), (3, _), (25, _), (26, _)] [0, 1, 2] [(0, some _), (1, some _), (2, some _)] (fun u => [(27, iv 0)]) (fun u => []) (fun u => True) (fun u => 0) () trivial rfl rfl (by repeat' (first | exact trivial | refine And.intro rfl ?_)) (by repeat' (exact trivial)) ?_
    intro u _
    repeat' (first|(apply aM;first|(apply aE;rfl;rfl)|(apply aK;rfl;rfl;rfl;rfl)|(apply aD;rfl;rfl;rfl)|(apply aR;rfl;rfl;rfl;rfl)|(apply a9;rfl;rfl;rfl)|(apply aF;kernel_rfl))|(apply aN;first|apply aH|apply aB|(apply cH;rfl;(rfl))|apply aL|apply bF)|with_reducible apply aA|with_reducible apply bE|with_reducible apply bG)
    refine a7 (σ := Unit) [3, 36, 37] [(3, _), (36, _), (37, _)] [0, 1, 2] [(0, some _), (1, some _), (2, some _)] (fun u => [(38, iv 0)]) (fun u => []) (fun u => True) (fun u => 0) () trivial rfl rfl (by repeat' (first|exact trivial|refine And.intro rfl ?_)) (by repeat' (exact trivial)) ?_
    intro u _
    repeat' (first|(apply aM;first|(apply aR;rfl;rfl;rfl;rfl)|(apply aF;kernel_rfl))|(apply aN;first|apply aH|apply aB|(apply cH;rfl;(rfl))|apply bF)|with_reducible apply aA|with_reducible apply bE|with_reducible apply bG)
    refine Bl (l := []) rfl ?_
    exact bV () trivial rfl ⟨.inr rfl, trivial⟩
  ·exfalso;dsimp only [AL.Stmt.op] at *; omega
end Go.Proofs.YtjcpngimjdckmaaGreat
namespace Go.AL
open Go.RowKit
theorem rY (xs : List Bool) : (aI cB xs).length = xs.length := by rw [aU cB (e := 1)]; omega
section
variable {P : Program} {N : Nat} {Q : Exit → AS → Prop} {all : Array Oper} {rest : List Oper} {ts : List (Nat × AV)} {hs : List (Nat × Option (List AV))} {n : Nat} {z0 : Lo} {md : Md}
variable {d : Nat} {ty : TypeId} {pos : String} {af : Array Edge}
theorem B6 {t el z : Nat} {x i : Operand} {xs : List Bool} {k : IntKind} {m : Int} [ht : ArT P t z el] [he : SzT P el 1] [ha : AgT P el false] (hx : ev (lk ts) x = some (.agg (aI cB xs)))
  (hi : ev (lk ts) i = some (.v (.int k m))) (hl : xs.length = z) (hm : 0 ≤ m ∧ m < z) (hN : Nat.blt d N = true) {md' : Md} [hmd : MdA md (rO x ++ rO i) [.inl d] md'] (kk : RW P N all Q md' rest ⟨(d, .v (.bool xs[m.toNat]!)) :: ts, hs, n, z0⟩) :
  RW P N all Q md (⟨some d, .index t x i, ty, pos, af, none⟩ :: rest) ⟨ts, hs, n, z0⟩ := by
 refine wJ (c := .v (.bool xs[m.toNat]!)) hx hi ht.pf he.pf ha.pf hm ?_ (eG hN) (by rw [hmd.pf]; exact kk)
 have hlt : m.toNat < xs.length := by omega
 have := congrArg List.head? (F1 hlt)
 rw [List.head?_drop] at this
 rw [Nat.mul_one]; exact this
theorem yZ {id z : Nat} {t : TypeId} {x : Operand} {xs : List Bool} [ha : AgT P t true] [hz : SzT P t z] (hx : ev (lk ts) x = some (.optr id 0)) (hH : cE hs id = some (aI cB xs)) (hl : xs.length = z) (h0 : Nat.blt 0 z = true)
  (hN : Nat.blt d N = true) {md' : Md} [hmd : MdA md (rO x ++ rA (.optr id 0)) [.inl d] md'] (kk : RW P N all Q md' rest ⟨(d, .agg (aI cB xs)) :: ts, hs, n, z0⟩) : RW P N all Q md (⟨some d, .load t x, ty, pos, af, none⟩ :: rest) ⟨ts, hs, n, z0⟩ :=
 jT (cs := aI cB xs) hx ha.pf hz.pf (by simp only [deref, hH, Option.map_some, List.drop_zero]) (List.take_of_length_le (by rw [rY, hl]; exact Nat.le_refl _)) (by rw [rY, hl]) (by have := eG h0;omega) (eG hN) (by rw [hmd.pf]; exact kk)
end
end Go.AL
namespace Go.Proofs.YtjcpngimjdckmaaGreat
open Go.AL Go.RowKit
theorem vI (op x y n : Int) (h : zV op x y) : PC Tryz.prog 129 [dH (.mk op x y n [] [])] (fun r => r = sl cI (Db op x y)) := by
 have hvl := CB op x y
 have hc := Dh op x y n h
 (refine aT Tryz.func129 rfl (by simp [Tryz.ntmps129]) ?_; rw [Tryz.ntmps129])
 repeat' (first|(apply aM;first|((apply fU (d := 4) (e := 1));(case hM|hN => rfl))|(apply Gm;rfl;rfl;rfl;(exact Dh op x y n h);rfl;rfl)|((apply yZ (xs := wG op x y));(case hx|hH => rfl);(case hl => exact hvl);(case h0|hN => rfl))|(apply aE;rfl;rfl)|(apply aX;rfl;rfl;(exact (rfl:_=[_, _, _, _, _, _]));rfl;rfl;rfl)|(apply aC;rfl;rfl)|(apply aF;kernel_rfl)|(apply bW;rfl;rfl;rfl;rfl)|(apply bH;rfl;rfl))|(apply aN;first|apply aH|apply aB|apply aL)|with_reducible apply aA)
 unfold Db
 clear h hc
 generalize wG op x y = F at *
 refine a7 (σ := Nat × List Int × Nat) [9] [(9, _)] [0, 1] [(0, some _), (1, some _)] (fun k => [(10, iv (k.1 : Int)), (4, .own 2 0 k.2.2 1)]) (fun k => [(2, some (aI cI k.2.1))]) (fun k => k.1 ≤ 6 ∧ k.2.1 = o3 F k.1 ∧ k.2.2 = k.2.1.length) (fun k => 6 - k.1) (0, [], 0) ⟨by omega, rfl, rfl⟩ rfl rfl (by repeat' (first|exact trivial|refine And.intro rfl ?_)) (by repeat' (first|exact trivial|refine And.intro (.inr rfl) ?_)) ?_
 rintro ⟨k, xs, m⟩ ⟨hk, hxs, hm⟩
 dsimp only at hk hxs hm ⊢
 have hlen := rU F k
 rw [← hxs] at hlen
 have hsc := vK (F := F) (k := k)
 by_cases hk6 : k < 6
 ·repeat' (first | (apply aM; first | ((apply B6 (xs := F)); (case hx | hi => rfl); (case hl => exact hvl); (case hm => omega); (case hN => rfl)) | (apply aE;rfl;rfl) | (first | (apply bR;rfl;rfl;omega;rfl) | (apply aR;rfl;rfl;rfl;rfl)) | (apply aC;rfl;rfl) | (apply cF;rfl;rfl;rfl;rfl;rfl;(rw [aU]; omega);(rfl);omega;omega;(exact jD (by (assumption)));rfl;rfl) | (apply aF;kernel_rfl) | ((apply bQ (t := _)); (case hze | hsm | hl => rfl); (case hfl => exact (rfl:_=some [_])); (case hM | hN => rfl))) | (apply aN; first | apply aH | apply aB | (apply aO;rfl;all_goals intro hc;have hq:=hc;(try simp only [cK] at hq);try exfalso;omega) | apply aL | apply aS) | with_reducible apply aA | with_reducible apply aV)
  ·have hb' : F[k]! = true := show F[((k : Nat) : Int).toNat]! = true by assumption
   rw [if_pos hb'] at hsc
   (apply dV (k + 1, _, m + 1);focus (refine Le.ren [(0, 0), (1, 1), (2, 4)] rfl (by decide) ?_ ?_ <;> repeat' (first|exact trivial|refine And.intro ⟨_, rfl, ?_⟩ ?_|refine And.intro ⟨_, _, rfl, rfl, ?_⟩ ?_|exact Or.inr rfl|refine Or.inl ⟨?_, (by first|rfl|exact aZ _ _)⟩|rfl)))
   ·refine ⟨by dsimp only; omega, ?_, ?_⟩
    ·dsimp only;rw [hxs, hsc]
    ·dsimp only;rw [List.length_append, hm]; rfl
   ·dsimp only;omega
  ·have hb2 : F[k]! = false := show F[((k : Nat) : Int).toNat]! = false by assumption
   have hb' : ¬ F[k]! = true := by rw [hb2]; decide
   rw [if_neg hb'] at hsc
   (apply dV (k + 1, xs, m);focus (refine Le.ren [(0, 0), (1, 1), (2, 2)] rfl (by decide) ?_ ?_ <;> repeat' (first|exact trivial|refine And.intro ⟨_, rfl, ?_⟩ ?_|refine And.intro ⟨_, _, rfl, rfl, ?_⟩ ?_|exact Or.inr rfl|refine Or.inl ⟨?_, (by first|rfl|exact aZ _ _)⟩|rfl)))
   ·refine ⟨by dsimp only; omega, ?_, ?_⟩
    ·dsimp only;rw [hxs, hsc]
    ·dsimp only;exact hm
   ·dsimp only;omega
 ·repeat' (first | (apply aM; first | (apply aE;rfl;rfl) | (apply aR;rfl;rfl;rfl;rfl) | (apply aC;rfl;rfl) | (apply aF;kernel_rfl)) | (apply aN; first | apply aH | apply aB | (apply aO;rfl;all_goals intro hc;have hq:=hc;(try simp only [cK] at hq);try exfalso;omega) | apply bF | apply aQ) | with_reducible apply aA | with_reducible apply bE | with_reducible apply bG)
  have hk : k = 6 := by omega
  subst hk
  subst hxs
  refine cC (Le.frzD (d := 2) (i := 2) rfl rfl) ?_
  refine aP rfl ⟨?_, (by (exact aZ _ _))⟩
  simp only [bX]
  rw [show m = (o3 F 6).length from hm]
theorem xL (op x y n op' x' y' n' : Int) (h1 : zV op x y) (h2 : zV op' x' y') : PC Tryz.prog 81 [dH (.mk op x y n [] []), dH (.mk op' x' y' n' [] [])] (fun r => r = bv (Dx (Db op x y) (Db op' x' y'))) := by
 have e1 := vI op x y n h1
 have e2 := vI op' x' y' n' h2
 have hX := rD op x y
 have hY := rD op' x' y'
 generalize Db op x y = X at *
 generalize Db op' x' y' = Y at *
 clear h1 h2
 have hct := Hk Y X (by omega) (by omega)
 have hge := Ke Y X
 (refine aT Tryz.func81 rfl (by simp [Tryz.ntmps81]) ?_; rw [Tryz.ntmps81])
 repeat' (first|(apply aM;first|((with_reducible apply aJ (k := 129));(case ha => rfl);(case h => first|exact e1|exact e2);(case hp => (rfl));(case hN => rfl))|(apply lO;rfl;rfl;rfl)|((with_reducible apply aJ (k := 130));(case ha => rfl);(case h => exact hct);(case hp => (exact Pur.pf));(case hN => rfl))|(apply aX;rfl;rfl;(exact (rfl:_=[_, _, _, _, _, _]));rfl;rfl;rfl)|(apply aC;rfl;rfl)|(apply aF;kernel_rfl)|(apply cQ;rfl;rfl)|(apply bW;rfl;rfl;rfl;rfl)|(apply bH;rfl;rfl)|(apply aW;rfl;rfl;rfl;rfl;rfl;(case hl => (simp;done));(exact (rfl:_=[_]))))|(apply aN;first|apply aH|apply aB|apply aQ)|with_reducible apply aA)
 refine aP rfl ⟨?_, rfl⟩
 simp only [bX]
 rw [← hge]
theorem K1 (mm : Nat) (ol_ih : ∀ l, bT l < mm → PC Tryz.prog 132 [sl aY l] (fun r => r = sl aY l)) (s : AL.Stmt) (hs : dK s ≤ mm) : PC Tryz.prog 172 [dH s] (fun r => r = dH s) := by
 have hct := iL s
 (refine aT Tryz.func172 rfl (by simp [Tryz.ntmps172]) ?_; rw [Tryz.ntmps172])
 repeat' (first|(apply aM;first|(first|(apply aK;rfl;rfl;rfl;rfl)|(apply aX;rfl;rfl;(exact (rfl:_=[_, _, _, _, _, _]));rfl;rfl;rfl))|(apply aD;rfl;rfl;rfl)|((with_reducible apply aJ (k := 132));(case ha => rfl);(case h => (apply ol_ih <;> (omega)));(case hp => (exact Pur.pf));(case hN => rfl))|(apply aF;kernel_rfl)|(apply bW;rfl;rfl;rfl;rfl)|(apply bH;rfl;rfl)|(apply aW;rfl;rfl;rfl;rfl;rfl;(case hl => (simp;done));(exact (rfl:_=[_, _, _, _, _, _]))))|(apply aN;first|apply aH|apply aB|apply aQ)|with_reducible apply aA)
 exact aP (l := [dH s]) rfl ⟨rfl, Pur.pf⟩
theorem Jn (mm : Nat) (hmm : mm ≤ 1000000) (ol_ih : ∀ l, bT l < mm → PC Tryz.prog 132 [sl aY l] (fun r => r = sl aY l)) (l : List AL.Stmt) (hs : bT l ≤ mm) : PC Tryz.prog 132 [sl aY l] (fun r => r = sl aY l) := by
 have hlen := dL l
 (refine aT Tryz.func132 rfl (by simp [Tryz.ntmps132]) ?_; rw [Tryz.ntmps132])
 repeat' (first|(apply aM;first|(apply aE;rfl;rfl)|(apply aC;rfl;rfl)|(apply a9;rfl;rfl;rfl)|(apply aF;kernel_rfl)|(apply cA;rfl;rfl;rfl;(rfl);rfl;rfl))|(apply aN;first|apply aH|apply aB|apply aL)|with_reducible apply aA)
 refine a7 (σ := Nat × List AL.Stmt) [7, 8] [(7, _), (8, _)] [] [] (fun k => [(9, iv (k.1 : Int)), (3, .own 0 0 k.1 6)]) (fun k => [(0, some (aI aY k.2))]) (fun k => k.1 ≤ l.length ∧ k.2 = l.take k.1) (fun k => l.length - k.1) (0, []) ⟨by omega, rfl⟩ rfl rfl (by repeat' (first|exact trivial|refine And.intro rfl ?_)) (by repeat' (first|exact trivial|refine And.intro (.inr rfl) ?_)) ?_
 rintro ⟨k, xs⟩ ⟨hk, hxs⟩
 dsimp only at hk hxs ⊢
 have hck := fY l k
 have hln : xs.length = k := by rw [hxs, List.length_take]; omega
 have hcs := fun h => K1 mm ol_ih l[k]! (Nat.le_trans (n6 (bY l k h)) hs)
 repeat' (first|(apply aM;first|((with_reducible apply aJ (k := 172));(case ha => rfl);(case h => exact (hcs (by omega)));(case hp => (exact Pur.pf));(case hN => rfl))|(apply aE;rfl;rfl)|(apply aX;rfl;rfl;(exact (rfl:_=[_, _, _, _, _, _]));rfl;rfl;rfl)|(first|(apply bR;rfl;rfl;omega;rfl)|(apply aR;rfl;rfl;rfl;rfl))|(apply aC;rfl;rfl)|(apply a6;(case hx|hi => rfl);(case hm => (omega));(case hml => (rfl));(case hα | hf|hg => infer_instance);(case hN => rfl))|(apply cF;rfl;rfl;rfl;rfl;rfl;(rw [aU]; omega);(rfl);omega;omega;(exact gV (by (omega)));rfl;rfl)|(apply aF;kernel_rfl)|(apply bH;rfl;rfl)|((apply bQ (t := _));(case hze|hsm|hl => rfl);(case hfl => (exact (rfl:_=some [_, _, _, _, _, _])));(case hM|hN => rfl))|(apply aW;rfl;rfl;rfl;rfl;rfl;(case hl => (simp;done));(exact (rfl:_=[_, _, _, _, _, _]))))|(apply aN;first|apply aH|apply aB|(apply aO;rfl;all_goals intro hc;have hq:=hc;(try simp only [cK] at hq);try exfalso;omega)|apply aL|apply aS|apply bF|apply aQ)|with_reducible apply aA|with_reducible apply bE|with_reducible apply aV|with_reducible apply bG)
 ·(apply dV (k + 1, _); focus (refine Le.ren [(0, 3)] rfl (by decide) ?_ ?_ <;> repeat' (first | exact trivial | refine And.intro ⟨_, rfl, ?_⟩ ?_ | refine And.intro ⟨_, _, rfl, rfl, ?_⟩ ?_ | exact Or.inr rfl | refine Or.inl ⟨?_, (by first | rfl | exact aZ _ _)⟩ | rfl)))
  ·exact ⟨by dsimp only;omega, by dsimp only;rw [hxs, c9 l k (by omega)]⟩
  ·dsimp only;omega
 ·have hke : k = l.length := by omega
  (refine cC (Le.frzD (d := 2) (i := 0) rfl rfl) ?_; refine aP rfl ?_)
  refine ⟨?_, Pur.pf⟩
  rw [hxs, hke, List.take_length]; rfl
theorem Mi (l : List AL.Stmt) (hb : bT l ≤ 1000000) : PC Tryz.prog 132 [sl aY l] (fun r => r = sl aY l) := by
 have key : ∀ m, m ≤ 1000000 → ∀ l, bT l ≤ m → PC Tryz.prog 132 [sl aY l] (fun r => r = sl aY l) := by
  intro m
  induction m with
  | zero => intro hm l hl;exact Jn 0 hm (fun l h => by omega) l hl
  | succ m ih => intro hm l hl;exact Jn (m + 1) hm (fun l h => ih (by omega) l (by omega)) l hl
 exact key (bT l) hb l (Nat.le_refl _)
theorem H2 (q : Prg) (hs : bT q.body ≤ 1000000) (ht : q.types.length ≤ 1000000) : PC Tryz.prog 82 [dS q] (fun r => r = dS q) := by
 have h2 := Mi q.body hs
 (refine aT Tryz.func82 rfl (by simp [Tryz.ntmps82]) ?_; rw [Tryz.ntmps82])
 repeat' (first|(apply aM;first|(with_reducible apply dG (d := 7))|(apply aK;rfl;rfl;rfl;rfl)|(apply aD;rfl;rfl;rfl)|(apply cF;rfl;rfl;rfl;rfl;rfl;(case hl => (simp [aU]; done));(exact sC (by (rfl)));omega;omega;(exact kH (by (omega)));rfl;rfl)|(apply aF;kernel_rfl)|(apply bW;rfl;rfl;rfl;rfl)|(apply bH;rfl;rfl)|(apply cA;rfl;rfl;rfl;(rfl);rfl;rfl))|(apply aN;first|apply aH|apply aB)|with_reducible apply aA)
 refine fA (kI ?_ (Le.frzD (d := 6) (i := 3) rfl rfl))
 repeat' (first|(apply aM;first|((with_reducible apply aJ (k := 132));(case ha => rfl);(case h => exact h2);(case hp => (exact Pur.pf));(case hN => rfl))|(first|(apply aK;rfl;rfl;rfl;rfl)|(apply aX;rfl;rfl;(exact (rfl:_=[_, _]));rfl;rfl;rfl))|(apply aD;rfl;rfl;rfl)|(apply aF;kernel_rfl)|(apply aW;rfl;rfl;rfl;rfl;rfl;(case hl => (simp;done));(exact (rfl:_=[_, _]))))|(apply aN;first|apply aH|apply aB|apply aQ)|with_reducible apply aA)
 have e : AV.agg [AV.imm (0 + q.types.length) (aI cI q.types), sl aY q.body] = dS q := by rw [Nat.zero_add]
 rw [← e]
 exact aP (l := [AV.agg [AV.imm (0 + q.types.length) (aI cI q.types), sl aY q.body]]) rfl ⟨rfl, by rw [e]; exact Pur.pf⟩
def EG (s : AL.Stmt) : List Int := Db s.op s.x s.y
structure SmS (s : AL.Stmt) : Prop where
 n : zV s.op s.x s.y
 t : s.th = []
 e : s.el = []
theorem SmS.eq {s : AL.Stmt} (h : SmS s) : s = .mk s.op s.x s.y s.n [] [] := by
 obtain ⟨_, h1, h2⟩ := h
 cases s
 simp only [AL.Stmt.th, AL.Stmt.el] at h1 h2
 subst h1;subst h2;rfl
theorem G0 (s t : AL.Stmt) (h1 : SmS s) (h2 : SmS t) : PC Tryz.prog 81 [dH s, dH t] (fun r => r = bv (Dx (EG s) (EG t))) := by
 have h := xL s.op s.x s.y s.n t.op t.x t.y t.n h1.n h2.n
 rw [← h1.eq, ← h2.eq] at h
 exact h
theorem AJ (s t : AL.Stmt) (h1 : SmS s) (h2 : SmS t) : PC Tryz.prog 84 [dH s, dH t] (fun r => r = bv (Dx (EG s) (EG t))) := by
 have h := xE s.op s.x s.y s.n t.op t.x t.y t.n h1.n h2.n
 rw [← h1.eq, ← h2.eq] at h
 exact h
def JM (p : Prg) (k : Nat) : Prop := k + 1 < p.body.length ∧ (p.body[k]!.op ≠ 9 ∧ p.body[k]!.op ≠ 10) ∧ (p.body[k + 1]!.op ≠ 9 ∧ p.body[k + 1]!.op ≠ 10) ∧ Dx (EG p.body[k]!) (EG p.body[k + 1]!) = true
def DD (p : Prg) (k : Nat) : Prg := ⟨p.types, (p.body.set k p.body[k + 1]!).set (k + 1) p.body[k]!⟩
instance (p : Prg) (k : Nat) : Decidable (JM p k) := by unfold JM; infer_instance
def yV (p : Prg) (k : Int) : Option Prg := if dC p = true ∧ 0 ≤ k ∧ JM p k.toNat then some (DD p k.toNat) else none
theorem SmS.of {ts : List Int} (ht : dB ts = true) {s : AL.Stmt} {d : Nat} (h : oP ts d s = true) (h1 : s.op ≠ 9 ∧ s.op ≠ 10) : SmS s := by
 obtain ⟨q0, q1, q2⟩ := kY h h1
 have hl := gM ht
 obtain ⟨u1, u2, u3, u4, u5, u6⟩ := lE ht q0
 exact ⟨⟨⟨u1, u2⟩, ⟨u3, by omega⟩, u5, fun a b => by have := u6 a b;omega⟩, q1, q2⟩
theorem Jb {p : Prg} {k : Nat} (h : (p.body[k]!.op ≠ 9 ∧ p.body[k]!.op ≠ 10) → (p.body[k + 1]!.op ≠ 9 ∧ p.body[k + 1]!.op ≠ 10) → Dx (EG p.body[k]!) (EG p.body[k + 1]!) = true → False) : yV p (k : Int) = none := by
 unfold yV JM
 rw [if_neg]
 rintro ⟨_, _, _, h1, h2, h3⟩
 rw [Int.toNat_natCast] at h1 h2 h3
 exact h h1 h2 h3
theorem FJ {p : Prg} {k : Nat} (hv : dC p = true) (hk : k + 1 < p.body.length) (h1 : p.body[k]!.op ≠ 9 ∧ p.body[k]!.op ≠ 10) (h2 : p.body[k + 1]!.op ≠ 9 ∧ p.body[k + 1]!.op ≠ 10) (h3 : Dx (EG p.body[k]!) (EG p.body[k + 1]!) = true) : yV p (k : Int) = some (DD p k) := by
 unfold yV JM
 rw [Int.toNat_natCast, if_pos ⟨hv, by omega, hk, h1, h2, h3⟩]
theorem C8 {xs : List AL.Stmt} {k : Nat} (s : AL.Stmt) (hk : k < xs.length) : iR (aI aY xs) (0 + k * 6) [iv s.op, iv s.x, iv s.y, iv s.n, sl aY s.th, sl aY s.el] = aI aY (xs.set k s) := jP hk (dW s).symm
theorem A7 {xs : List AL.Stmt} {k i : Nat} (s t : AL.Stmt) (hk : k < xs.length) : iR (aI aY (xs.set i t)) (0 + k * 6) [iv s.op, iv s.x, iv s.y, iv s.n, sl aY s.th, sl aY s.el] = aI aY ((xs.set i t).set k s) := jP (by rw [List.length_set]; exact hk) (dW s).symm
theorem zU {xs : List AL.Stmt} {k i : Nat} (t : AL.Stmt) (hk : k < xs.length) : k * 6 + 6 ≤ (aI aY (xs.set i t)).length := by rw [aU aY (e := 6), List.length_set]; omega
theorem Je {xs : List AL.Stmt} {k : Nat} (hk : k < xs.length) : k * 6 + 6 ≤ (aI aY xs).length := by rw [aU aY (e := 6)]; omega
theorem L4 (p : Prg) (k : Int) (hl : p.types.length ≤ 1000000) (hs : bT p.body ≤ 1000000) : PC Tryz.prog 33 [dS p, iv k] (fun r => r = HM (yV p k)) := by
 have hlen := dL p.body
 have hp := Eu p k hl hs
 by_cases h : dC p = true ∧ 0 ≤ k ∧ k ≤ (p.body.length : Int) - 2
 ·rw [decide_eq_true h] at hp
  obtain ⟨k, rfl⟩ : ∃ j : Nat, k = j := ⟨k.toNat, by omega⟩
  obtain ⟨t1, t2, t3⟩ := fP h.1
  have e1 : ((k : Int) + 1).toNat = k + 1 := by omega
  have hap := fun a b => G0 p.body[k]! p.body[k + 1]! (SmS.of t1 (lP h.1 (by omega)) a) (SmS.of t1 (lP h.1 (by omega)) b)
  rw [← e1] at hap
  (refine aT Tryz.func33 rfl (by simp [Tryz.ntmps33]) ?_; rw [Tryz.ntmps33])
  repeat' (first|(apply aM;first|((with_reducible apply aJ (k := 69));(case ha => rfl);(case h => exact hp);(case hp => (exact Pur.pf));(case hN => rfl))|((with_reducible apply aJ (k := 81));(case ha => rfl);(case h => exact hap (by grind) (by grind));(case hp => (exact Pur.pf));(case hN => rfl))|(apply IW;rfl;(apply Ku <;> omega);rfl;rfl)|(apply aW;rfl;rfl;rfl;rfl;rfl;(rw [Nat.zero_add]; first|exact Je (by omega)|exact zU _ (by omega));(first|exact C8 _ (by omega)|exact A7 _ _ (by omega)))|(apply aE;rfl;rfl)|(first|(apply gQ;(case hx|hH => rfl);(case hf|hg|hα => infer_instance);(case hk => omega);(case h0|hN => rfl))|(apply aK;rfl;rfl;rfl;rfl)|(apply aX;rfl;rfl;(first|exact (rfl:_=[_, _])|exact (rfl:_=[_, _, _, _, _, _]));rfl;rfl;rfl))|(apply aD;rfl;rfl;rfl)|(first|(apply bB;rfl;rfl;rfl;(first|rfl|assumption))|(apply bC;rfl;rfl;rfl;(first|rfl|assumption))|(apply bK;(case hj|hb|hN => rfl);all_goals (intro hg;have hq := hg;(try simp only [cK] at hq);(try (exfalso;omega)))))|(apply bR;rfl;rfl;omega;rfl)|(apply aC;rfl;rfl)|(first|(apply bS;rfl;(first|rfl|assumption);rfl;rfl)|(apply bI;rfl;(first|rfl|assumption);rfl;rfl))|(first|(apply a6;(case hx|hi => rfl);(case hm => (omega));(case hml => (rfl));(case hα | hf|hg => infer_instance);(case hN => rfl))|(apply cG;rfl;rfl;(omega);rfl)|(apply dA;(case hx|hi => rfl);(case hm => (omega));(case hml => (rfl));(case hα | hf|hg => infer_instance);(case hN => rfl))|(apply cM;rfl;rfl;(omega);rfl))|((with_reducible apply aJ (k := 80));(case ha => rfl);(case h => (apply tV <;> (fail)));(case hp => (rfl));(case hN => rfl))|(apply aF;kernel_rfl)|(apply b9;rfl;(exact (rfl:_=some [_, _]));(exact (rfl:_=[_, _]));rfl)|(apply cQ;rfl;rfl)|(apply bW;rfl;rfl;rfl;rfl)|(apply bH;rfl;rfl)|(apply aW;rfl;rfl;rfl;rfl;rfl;(case hl => (first|decide|(simp;done)));(exact (rfl:_=[_, _]))))|(apply aN;first|apply aH|apply aB|(apply bZ;kernel_rfl)|(apply b8;rfl;(rfl))|(apply aO;rfl;all_goals intro hc;have hq:=hc;(try simp only [cK] at hq);try exfalso;omega)|apply aS|apply aQ)|with_reducible apply aA|with_reducible apply bJ)
  all_goals rw [show ((k : Int) + 1).toNat = k + 1 by omega] at *
  all_goals first
   | (refine aP (l := [.agg [.imm 0 [], .imm 0 []], bv false]) rfl ⟨?_, rfl⟩
      have : yV p k = none := Jb fun h1 h2 h3 => by grind
      rw [this]; rfl)
   | skip
  have : yV p k = some (DD p k) := FJ h.1 (by omega) (by grind) (by grind) (by assumption)
  rw [this]
  refine cC (Le.frzC (j := 1) (i := 4) [sl cI p.types] rfl rfl (by decide)) ?_
  have e : bX [AV.agg [sl cI p.types, .imm p.body.length (aI aY ((p.body.set k p.body[k + 1]!).set (k + 1) p.body[k]!))], bv true] = HM (some (DD p k)) := by
   show AV.tup [_, _] = AV.tup [dS (DD p k), bv true]
   unfold DD;dsimp only [dS]; unfold sl;rw [List.length_set, List.length_set]
  refine Jm ?_ e
  rfl
 ·rw [decide_eq_false h] at hp
  (refine aT Tryz.func33 rfl (by simp [Tryz.ntmps33]) ?_; rw [Tryz.ntmps33])
  repeat' (first|(apply aM;first|((with_reducible apply aJ (k := 69));(case ha => rfl);(case h => exact hp);(case hp => (exact Pur.pf));(case hN => rfl))|(apply aE;rfl;rfl)|(apply aX;rfl;rfl;(exact (rfl:_=[_, _]));rfl;rfl;rfl)|(apply bC;rfl;rfl;rfl;(rfl))|(apply aC;rfl;rfl)|(apply bS;rfl;(rfl);rfl;rfl)|(apply aF;kernel_rfl)|(apply b9;rfl;(exact (rfl:_=some [_, _]));(exact (rfl:_=[_, _]));rfl)|(apply cQ;rfl;rfl)|(apply bW;rfl;rfl;rfl;rfl)|(apply bH;rfl;rfl)|(apply aW;rfl;rfl;rfl;rfl;rfl;(decide);(exact (rfl:_=[_, _]))))|(apply aN;first|apply aH|apply aB|(apply bZ;kernel_rfl)|(apply b8;rfl;(rfl))|apply aQ)|with_reducible apply aA|with_reducible apply bJ)
  refine aP (l := [.agg [.imm 0 [], .imm 0 []], bv false]) rfl ⟨?_, rfl⟩
  have : yV p k = none := by unfold yV;rw [if_neg]; rintro ⟨h1, h2, h3⟩; unfold JM at h3;exact h ⟨h1, h2, by omega⟩
  rw [this]; rfl
theorem LD (p : Prg) (k : Int) (hl : p.types.length ≤ 1000000) (hs : bT p.body ≤ 1000000) : PC Tryz.prog 34 [dS p, iv k] (fun r => r = HM (yV p k)) := by
 have hlen := dL p.body
 have hval := yX p hl (by omega)
 have how := H2 p (by omega) (by omega)
 by_cases h : dC p = true ∧ 0 ≤ k ∧ k ≤ (p.body.length : Int) - 2
 ·rw [h.1] at hval
  obtain ⟨k, rfl⟩ : ∃ j : Nat, k = j := ⟨k.toNat, by omega⟩
  obtain ⟨t1, t2, t3⟩ := fP h.1
  have e1 : ((k : Int) + 1).toNat = k + 1 := by omega
  have hap := fun a b => AJ p.body[k]! p.body[k + 1]! (SmS.of t1 (lP h.1 (by omega)) a) (SmS.of t1 (lP h.1 (by omega)) b)
  rw [← e1] at hap
  (refine aT Tryz.func34 rfl (by simp [Tryz.ntmps34]) ?_; rw [Tryz.ntmps34])
  repeat' (first|(apply aM;first|((with_reducible apply aJ (k := 82));(case ha => rfl);(case h => exact how);(case hp => (exact Pur.pf));(case hN => rfl))|((with_reducible apply aJ (k := 57));(case ha => rfl);(case h => exact hval);(case hp => (exact Pur.pf));(case hN => rfl))|((with_reducible apply aJ (k := 83));(case ha => rfl);(case h => apply p8);(case hp => (exact Pur.pf));(case hN => rfl))|((with_reducible apply aJ (k := 84));(case ha => rfl);(case h => exact hap (by grind) (by grind));(case hp => (exact Pur.pf));(case hN => rfl))|(apply pI;rfl;(apply sI <;> omega);rfl;rfl)|(apply aW;rfl;rfl;rfl;rfl;rfl;(rw [Nat.zero_add]; first|exact Je (by omega)|exact zU _ (by omega));(first|exact C8 _ (by omega)|exact A7 _ _ (by omega)))|(apply aE;rfl;rfl)|(first|(apply aK;rfl;rfl;rfl;rfl)|(apply aX;rfl;rfl;(first|exact (rfl:_=[_, _])|exact (rfl:_=[_, _, _, _, _, _]));rfl;rfl;rfl))|(apply aD;rfl;rfl;rfl)|(first|(apply bB;rfl;rfl;rfl;(first|rfl|assumption))|(apply bC;rfl;rfl;rfl;(first|rfl|assumption))|(apply bK;(case hj|hb|hN => rfl);all_goals (intro hg;have hq := hg;(try simp only [cK] at hq);(try (exfalso;omega)))))|(first|(apply bR;rfl;rfl;omega;rfl)|(apply fO;rfl;rfl;omega;rfl)|(apply aR;rfl;rfl;rfl;rfl))|(apply aC;rfl;rfl)|(first|(apply bS;rfl;(first|rfl|assumption);rfl;rfl)|(apply bI;rfl;(first|rfl|assumption);rfl;rfl))|(first|(apply a6;(case hx|hi => rfl);(case hm => (omega));(case hml => (rfl));(case hα | hf|hg => infer_instance);(case hN => rfl))|(apply cG;rfl;rfl;(omega);rfl)|(apply dA;(case hx|hi => rfl);(case hm => (omega));(case hml => (rfl));(case hα | hf|hg => infer_instance);(case hN => rfl))|(apply cM;rfl;rfl;(omega);rfl))|(apply a9;rfl;rfl;rfl)|(apply aF;kernel_rfl)|(apply b9;rfl;(exact (rfl:_=some [_, _]));(exact (rfl:_=[_, _]));rfl)|(apply cQ;rfl;rfl)|(apply bW;rfl;rfl;rfl;rfl)|(apply bH;rfl;rfl)|(apply aW;rfl;rfl;rfl;rfl;rfl;(case hl => (first|decide|omega|(simp;done)));(first|exact (rfl:_=[_, _])|exact (rfl:_=[_, _, _, _, _, _]))))|(apply aN;first|apply aH|apply aB|(apply b8;rfl;(rfl))|(apply aO;rfl;all_goals intro hc;have hq:=hc;(try simp only [cK] at hq);try exfalso;omega)|apply aS|apply aQ)|with_reducible apply aA|with_reducible apply bJ)
  all_goals rw [show ((k : Int) + 1).toNat = k + 1 by omega] at *
  all_goals first
   | (exfalso;omega)
   | (refine aP (l := [.agg [.imm 0 [], .imm 0 []], bv false]) rfl ⟨?_, rfl⟩
      have : yV p k = none := Jb fun h1 h2 h3 => by grind
      rw [this]; rfl)
   | skip
  have : yV p k = some (DD p k) := FJ h.1 (by omega) (by assumption) (by assumption) (by assumption)
  rw [this]
  refine cC (Le.frzC (j := 1) (i := 7) [] rfl rfl (by decide)) ?_
  refine cC (Le.frzC (j := 1) (i := 8) [.imm _ _] rfl rfl (by decide)) ?_
  have e : bX [AV.agg [sl cI p.types, .imm p.body.length (aI aY ((p.body.set k p.body[k + 1]!).set (k + 1) p.body[k]!))], bv true] = HM (some (DD p k)) := by
   show AV.tup [_, _] = AV.tup [dS (DD p k), bv true]
   unfold DD;dsimp only [dS]; unfold sl;rw [List.length_set, List.length_set]
  refine Jm ?_ e
  rfl
 ·have : yV p k = none := by unfold yV; rw [if_neg]; rintro ⟨h1, h2, h3⟩; unfold JM at h3; exact h ⟨h1, h2, by omega⟩
  rw [this]
  cases hv : dC p
  ·rw [hv] at hval
   (refine aT Tryz.func34 rfl (by simp [Tryz.ntmps34]) ?_; rw [Tryz.ntmps34])
   repeat' (first|(apply aM;first|((with_reducible apply aJ (k := 82));(case ha => rfl);(case h => exact how);(case hp => (exact Pur.pf));(case hN => rfl))|((with_reducible apply aJ (k := 57));(case ha => rfl);(case h => exact hval);(case hp => (exact Pur.pf));(case hN => rfl))|(apply aE;rfl;rfl)|(apply aX;rfl;rfl;(exact (rfl:_=[_, _]));rfl;rfl;rfl)|(apply bC;rfl;rfl;rfl;(rfl))|(apply aC;rfl;rfl)|(apply bS;rfl;(rfl);rfl;rfl)|(apply aF;kernel_rfl)|(apply b9;rfl;(exact (rfl:_=some [_, _]));(exact (rfl:_=[_, _]));rfl)|(apply cQ;rfl;rfl)|(apply bW;rfl;rfl;rfl;rfl)|(apply bH;rfl;rfl)|(apply aW;rfl;rfl;rfl;rfl;rfl;(first|decide|omega);(exact (rfl:_=[_, _]))))|(apply aN;first|apply aH|apply aB|(apply b8;rfl;(rfl))|apply aQ)|with_reducible apply aA|with_reducible apply bJ)
   exact aP (l := [.agg [.imm 0 [], .imm 0 []], bv false]) rfl ⟨rfl, rfl⟩
  ·rw [hv] at hval
   (refine aT Tryz.func34 rfl (by simp [Tryz.ntmps34]) ?_; rw [Tryz.ntmps34])
   repeat' (first|(apply aM;first|((with_reducible apply aJ (k := 82));(case ha => rfl);(case h => exact how);(case hp => (exact Pur.pf));(case hN => rfl))|((with_reducible apply aJ (k := 57));(case ha => rfl);(case h => exact hval);(case hp => (exact Pur.pf));(case hN => rfl))|(apply aE;rfl;rfl)|(first|(apply aK;rfl;rfl;rfl;rfl)|(apply aX;rfl;rfl;(first|exact (rfl:_=[_, _])|exact (rfl:_=[_, _, _, _, _, _]));rfl;rfl;rfl))|(apply aD;rfl;rfl;rfl)|(first|(apply bB;rfl;rfl;rfl;(first|rfl|assumption))|(apply bC;rfl;rfl;rfl;(first|rfl|assumption))|(apply bK;(case hj|hb|hN => rfl);all_goals (intro hg;have hq := hg;(try simp only [cK] at hq);(try (exfalso;omega)))))|(first|(apply bR;rfl;rfl;omega;rfl)|(apply fO;rfl;rfl;omega;rfl)|(apply aR;rfl;rfl;rfl;rfl))|(apply aC;rfl;rfl)|(first|(apply bS;rfl;(first|rfl|assumption);rfl;rfl)|(apply bI;rfl;(first|rfl|assumption);rfl;rfl))|(first|(apply dA;(case hx|hi => rfl);(case hm => (omega));(case hml => (rfl));(case hα | hf|hg => infer_instance);(case hN => rfl))|(apply cM;rfl;rfl;(omega);rfl))|(first|(apply pI;rfl;(apply sI <;> (assumption));rfl;rfl)|((with_reducible apply aJ (k := 83));(case ha => rfl);(case h => (apply p8 <;> (fail)));(case hp => (exact Pur.pf));(case hN => rfl))|((with_reducible apply aJ (k := 84));(case ha => rfl);(case h => (apply AJ <;> (grind)));(case hp => (exact Pur.pf));(case hN => rfl)))|(apply a9;rfl;rfl;rfl)|(apply aF;kernel_rfl)|(apply b9;rfl;(exact (rfl:_=some [_, _]));(exact (rfl:_=[_, _]));rfl)|(apply cQ;rfl;rfl)|(apply bW;rfl;rfl;rfl;rfl)|(apply bH;rfl;rfl)|(apply aW;rfl;rfl;rfl;rfl;rfl;(case hl => (first|decide|(rw [aU]; simp only [hZ] <;> omega)|omega|(simp;done)));(first|exact (rfl:_=[_, _])|exact (rfl:_=[_, _, _, _, _, _])|rfl)))|(apply aN;first|apply aH|apply aB|(apply b8;rfl;(rfl))|(apply aO;rfl;all_goals intro hc;have hq:=hc;(try simp only [cK] at hq);try exfalso;omega)|apply aS|apply aQ)|with_reducible apply aA|with_reducible apply bJ)
   all_goals first
    | exact aP (l := [.agg [.imm 0 [], .imm 0 []], bv false]) rfl ⟨rfl, rfl⟩
    | (exfalso;exact h ⟨hv, by omega, by omega⟩)
theorem Fz {s : AL.Stmt} (h : SmS s) {v : Nat} (hs : Mh s v) : (v : Int) ∈ EG s := by
 obtain ⟨o, ⟨x0, x6⟩, y0, y6⟩ := h.n
 unfold EG Db o3
 have hv : v < 6 := by rcases hs with h | ⟨h1, h2, h3⟩; omega;have := y6 h1 h2;omega
 refine List.mem_map.2 ⟨v, List.mem_filter.2 ⟨List.mem_range.2 hv, ?_⟩, rfl⟩
 unfold wG
 rcases hs with h | ⟨h1, h2, h3⟩
 ·split
  ·rw [c8]; split
   ·rfl
   ·rw [c8, if_pos ⟨by omega, by simp;omega⟩]
  ·rw [c8, if_pos ⟨by omega, by simp;omega⟩]
 ·rw [if_pos ⟨h1, h2⟩, c8, if_pos ⟨by omega, by simp;omega⟩]
theorem Ky (p : Prg) (k : Int) (Q : Prg) (h : yV p k = some Q) : dC p = true ∧ Q.types = p.types ∧ dC Q = true ∧ ∀ (w : WG p.types (dF p)) (f : Flows p.types (dF p)) (w' : WG p.types (dF Q)) (g : Flows p.types (dF Q)), f.iss = [] → g.iss = [] →
  ∀ (cs : List Int), (dZ p.types (dF p) cs 80).2.1 = (dZ p.types (dF Q) cs 80).2.1 ∧ ((dZ p.types (dF p) cs 80).2.1 = 0 → ∀ v, v < p.types.length → p.types[v]! = 1 → (dZ p.types (dF p) cs 80).1.slots[v]! = (dZ p.types (dF Q) cs 80).1.slots[v]!) := by
 unfold yV at h
 split at h
 ·rename_i hc
  obtain ⟨hv, hk, hkl, h1, h2, h3⟩ := hc
  cases h
  obtain ⟨t1, t2, t3⟩ := fP hv
  have s1 := SmS.of t1 (lP hv (show k.toNat < p.body.length by omega)) h1
  have s2 := SmS.of t1 (lP hv hkl) h2
  obtain ⟨F, hvQ⟩ := Sw.of hv hkl h1 h2 (fun v a b => by
   have h4 := List.all_eq_true.1 h3 _ (Fz s1 a)
   rw [decide_eq_true (Fz s2 b)] at h4;cases h4)
  refine ⟨hv, rfl, hvQ, fun w f w' g hf hg cs => ?_⟩
  have A := WA.of_valid hv
  have A' : WA p.types (dF (DD p k.toNat)) := WA.of_valid hvQ
  change Sw p.types (dF p) (dF (DD p k.toNat)) _ at F
  generalize dF (DD p k.toNat) = QQ at *
  have N := (NoI.iff w f).1 hf
  have r1 := wK w A f cs 80 (by decide) hf
  have r2 := wK w' A' g cs 80 (by decide) hg
  have he : (dZ p.types (dF p) cs 80).2.1 = (dZ p.types QQ cs 80).2.1 := I1 (ts := p.types) F.o11 (fun i => (F.nx i).symm) 80 0 cs (mc0 p.types.length) (mc0 p.types.length) 0 0 (by show 0 + 80 ≤ 199;decide) (by show 0 + 80 ≤ 199;decide) r1 r2
  exact ⟨he, fun h0 v hv1 ht => F.run w A N cs 80 80 (by decide) h0 (by rw [← he]; exact h0) v hv1 ht⟩
 ·cases h
theorem uJ (bs ms : List UInt8) : PC Tryz.prog 8 [sl cU bs, sl cU ms] (fun r => r = bv true) := by
 rcases Nat.lt_or_ge 1048576 bs.length with hb|hb
 ·(refine aT Tryz.func8 rfl (by simp [Tryz.ntmps8]) ?_; rw [Tryz.ntmps8])
  repeat' (first|(apply aM;first|(apply aE;rfl;rfl)|(first|(apply bC;rfl;rfl;rfl;(assumption))|(apply bK;(case hj|hb|hN => rfl);all_goals (intro hg;have hq := hg;(try simp only [cK] at hq);(try (exfalso;omega)))))|(apply aR;rfl;rfl;rfl;rfl)|(apply aC;rfl;rfl)|(apply bS;rfl;(assumption);rfl;rfl)|(apply a9;rfl;rfl;rfl)|(apply aF;kernel_rfl))|(apply aN;first|apply aH|apply aB|(apply b8;rfl;(rfl))|apply aQ)|with_reducible apply aA|with_reducible apply bJ)
  all_goals exact aP rfl ⟨rfl, rfl⟩
 rcases Nat.lt_or_ge 1048576 ms.length with hm|hm
 ·(refine aT Tryz.func8 rfl (by simp [Tryz.ntmps8]) ?_; rw [Tryz.ntmps8])
  repeat' (first|(apply aM;first|(apply aE;rfl;rfl)|(first|(apply bB;rfl;rfl;rfl;(assumption))|(apply bK;(case hj|hb|hN => rfl);all_goals (intro hg;have hq := hg;(try simp only [cK] at hq);(try (exfalso;omega)))))|(apply aR;rfl;rfl;rfl;rfl)|(apply aC;rfl;rfl)|(apply bI;rfl;(assumption);rfl;rfl)|(apply a9;rfl;rfl;rfl)|(apply aF;kernel_rfl))|(apply aN;first|apply aH|apply aB|(apply aO;rfl;all_goals intro hc;have hq:=hc;(try simp only [cK] at hq);try exfalso;omega)|apply aQ)|with_reducible apply aA|with_reducible apply bJ)
  all_goals exact aP rfl ⟨rfl, rfl⟩
 (refine aT Tryz.func8 rfl (by simp [Tryz.ntmps8]) ?_; rw [Tryz.ntmps8])
 repeat' (first|(apply aM;first|((with_reducible apply gI (k := 32));(case ha => rfl);(case h => exact BH bs hb);(case hp => (exact Pur.pf));(case hN => rfl);(rintro _ ⟨p, k, rfl, hq1, hq2, hq3, hq4⟩ _))|(with_reducible apply dG (d := 33))|(apply aE;rfl;rfl)|(first|(apply bB;rfl;rfl;rfl;(assumption))|(apply bK;(case hj|hb|hN => rfl);all_goals (intro hg;have hq := hg;(try simp only [cK] at hq);(try (exfalso;omega)))))|(apply aR;rfl;rfl;rfl;rfl)|(apply aC;rfl;rfl)|(apply bI;rfl;(assumption);rfl;rfl)|(apply a9;rfl;rfl;rfl)|(apply aF;kernel_rfl)|(apply bH;rfl;rfl)|(apply cD;rfl;rfl;rfl)|(apply aW;rfl;rfl;rfl;rfl;rfl;(case hl => (simp;done));(exact (rfl:_=[_, _]))))|(apply aN;first|apply aH|apply aB|(apply aO;rfl;all_goals intro hc;have hq:=hc;(try simp only [cK] at hq);try exfalso;omega)|apply aS)|with_reducible apply aA)
 refine fA ?_
 have h1 := L4 p k (by omega) (by omega)
 have h2 := LD p k (by omega) (by omega)
 unfold HM at h1 h2
 cases hR : yV p k with
 | none =>
  rw [hR] at h1 h2
  have v1 := rW ⟨[], []⟩ (by simp [bT]) (by simp)
  repeat' (first|(apply aM;first|((with_reducible apply aJ (k := 33));(case ha => rfl);(case h => exact h1);(case hp => (exact Pur.pf));(case hN => rfl))|((with_reducible apply aJ (k := 34));(case ha => rfl);(case h => exact h2);(case hp => (exact Pur.pf));(case hN => rfl))|((with_reducible apply aJ (k := 14));(case ha => rfl);(case h => exact v1);(case hp => (rfl));(case hN => rfl))|(apply aE;rfl;rfl)|(apply aX;rfl;rfl;(exact (rfl:_=[_, _]));rfl;rfl;rfl)|(first|(apply bB;rfl;rfl;rfl;(rfl))|(apply bC;rfl;rfl;rfl;(rfl)))|(apply qW;rfl;rfl;rfl;rfl)|(apply aC;rfl;rfl)|(first|(apply bS;rfl;(rfl);rfl;rfl)|(apply bI;rfl;(rfl);rfl;rfl))|(apply aF;kernel_rfl)|(apply cQ;rfl;rfl)|(apply bH;rfl;rfl)|(apply cD;rfl;rfl;rfl)|(apply aW;rfl;rfl;rfl;rfl;rfl;(decide);(exact (rfl:_=[_, _]))))|(apply aN;first|apply aH|apply aB|(apply b8;rfl;(rfl))|apply aQ)|with_reducible apply aA|with_reducible apply bJ)
  all_goals first
   | exact aP rfl ⟨rfl, rfl⟩
   | (exfalso;exact (by assumption : ¬ True) trivial)
 | some Q =>
  obtain ⟨hv, hT, hvQ, law⟩ := Ky p k Q hR
  rw [hR] at h1 h2
  dsimp only [Option.getD, Option.isSome] at h1 h2
  obtain ⟨t, body⟩ := Q
  dsimp only at hT
  subst hT
  have hcQ := (fP hvQ).2.2
  have v1 := rW ⟨p.types, body⟩ (by omega) (by show p.types.length ≤ _; omega)
  have w := WG.of_valid hv
  have w' : WG p.types (dF ⟨p.types, body⟩) := WG.of_valid hvQ
  obtain ⟨f⟩ := Flows.ex w
  obtain ⟨g⟩ := Flows.ex w'
  obtain ⟨_, a1⟩ := Jp p hv (by omega) (by omega) f
  obtain ⟨_, a2⟩ := Jp ⟨p.types, body⟩ hvQ (by show p.types.length ≤ _; omega) (by omega) g
  have lw := law w f w' g
  clear law
  cases hf : f.iss.isEmpty with
  | false =>
   rw [hf] at a1
   clear lw
   repeat' (first|(apply aM;first|((with_reducible apply aJ (k := 33));(case ha => rfl);(case h => exact h1);(case hp => (exact Pur.pf));(case hN => rfl))|((with_reducible apply aJ (k := 34));(case ha => rfl);(case h => exact h2);(case hp => (exact Pur.pf));(case hN => rfl))|((with_reducible apply aJ (k := 14));(case ha => rfl);(case h => exact v1);(case hp => (exact Pur.pf));(case hN => rfl))|((with_reducible apply aJ (k := 19));(case ha => rfl);(case h => exact a1);(case hp => (exact Pur.pf));(case hN => rfl))|(apply aE;rfl;rfl)|(apply aX;rfl;rfl;(exact (rfl:_=[_, _]));rfl;rfl;rfl)|(first|(apply bB;rfl;rfl;rfl;(rfl))|(apply bC;rfl;rfl;rfl;(rfl)))|(apply qW;rfl;rfl;rfl;rfl)|(apply aC;rfl;rfl)|(first|(apply bS;rfl;(rfl);rfl;rfl)|(apply bI;rfl;(rfl);rfl;rfl))|(apply aF;kernel_rfl)|(apply cQ;rfl;rfl)|(apply bH;rfl;rfl)|(apply cD;rfl;rfl;rfl)|(apply aW;rfl;rfl;rfl;rfl;rfl;(case hl => (simp;done));(exact (rfl:_=[_, _]))))|(apply aN;first|apply aH|apply aB|(apply b8;rfl;(rfl))|apply aQ)|with_reducible apply aA|with_reducible apply bJ)
   all_goals first
    | exact aP rfl ⟨rfl, rfl⟩
    | (exfalso;exact (by assumption : ¬ True) trivial)
  | true =>
   rw [hf] at a1
   cases hg : g.iss.isEmpty with
   | false =>
    rw [hg] at a2
    clear lw
    repeat' (first|(apply aM;first|((with_reducible apply aJ (k := 33));(case ha => rfl);(case h => exact h1);(case hp => (exact Pur.pf));(case hN => rfl))|((with_reducible apply aJ (k := 34));(case ha => rfl);(case h => exact h2);(case hp => (exact Pur.pf));(case hN => rfl))|((with_reducible apply aJ (k := 14));(case ha => rfl);(case h => exact v1);(case hp => (exact Pur.pf));(case hN => rfl))|((with_reducible apply aJ (k := 19));(case ha => rfl);(case h => first|exact a1|exact a2);(case hp => (exact Pur.pf));(case hN => rfl))|(apply aE;rfl;rfl)|(apply aX;rfl;rfl;(exact (rfl:_=[_, _]));rfl;rfl;rfl)|(apply bB;rfl;rfl;rfl;(rfl))|(apply qW;rfl;rfl;rfl;rfl)|(apply aC;rfl;rfl)|(first|(apply bS;rfl;(rfl);rfl;rfl)|(apply bI;rfl;(rfl);rfl;rfl))|(apply aF;kernel_rfl)|(apply cQ;rfl;rfl)|(apply bH;rfl;rfl)|(apply cD;rfl;rfl;rfl)|(apply aW;rfl;rfl;rfl;rfl;rfl;(case hl => (simp;done));(exact (rfl:_=[_, _]))))|(apply aN;first|apply aH|apply aB|(apply b8;rfl;(rfl))|apply aQ)|with_reducible apply aA|with_reducible apply bJ)
    all_goals first
     | exact aP rfl ⟨rfl, rfl⟩
     | (exfalso;exact (by assumption : ¬ True) trivial)
   | true =>
    rw [hg] at a2
    have run := lw (List.isEmpty_iff.1 hf) (List.isEmpty_iff.1 hg)
    clear lw
    repeat' (first|(apply aM;first|((with_reducible apply aJ (k := 33));(case ha => rfl);(case h => exact h1);(case hp => (exact Pur.pf));(case hN => rfl))|((with_reducible apply aJ (k := 34));(case ha => rfl);(case h => exact h2);(case hp => (exact Pur.pf));(case hN => rfl))|((with_reducible apply aJ (k := 14));(case ha => rfl);(case h => exact v1);(case hp => (exact Pur.pf));(case hN => rfl))|((with_reducible apply aJ (k := 19));(case ha => rfl);(case h => first|exact a1|exact a2);(case hp => (exact Pur.pf));(case hN => rfl))|((with_reducible apply gI (k := 16));(case ha => rfl);(case h => exact Et ms hm);(case hp => (exact Pur.pf));(case hN => rfl);(rintro _ ⟨q', cs, n', rfl, hr1, hr2, hr3, hr4, hr5⟩ _))|(with_reducible apply dG (d := 82))|(apply aE;rfl;rfl)|(apply aX;rfl;rfl;(exact (rfl:_=[_, _]));rfl;rfl;rfl)|(apply bB;rfl;rfl;rfl;(rfl))|(apply qW;rfl;rfl;rfl;rfl)|(apply aC;rfl;rfl)|(apply bI;rfl;(rfl);rfl;rfl)|(apply aF;kernel_rfl)|(apply cQ;rfl;rfl)|(apply bH;rfl;rfl)|(apply cD;rfl;rfl;rfl)|(apply aW;rfl;rfl;rfl;rfl;rfl;(case hl => (simp;done));(exact (rfl:_=[_, _]))))|(apply aN;first|apply aH|apply aB|(apply cH;rfl;(rfl))|apply aS)|with_reducible apply aA)
    refine fA ?_
    obtain ⟨he, hsl⟩ := run cs
    clear run
    have n1 := Ji p hv (by omega) (by omega) cs (by omega) 80 (by decide)
    have n2 := Ji ⟨p.types, body⟩ hvQ (by show p.types.length ≤ _; omega) (by omega) cs (by omega) 80 (by decide)
    change PC _ _ _ (fun r => r = .tup [sl eV (dZ p.types (dF ⟨p.types, body⟩) cs 80).1.slots, iv (dZ p.types (dF ⟨p.types, body⟩) cs 80).2.1]) at n2
    rw [← he] at n2
    have l1 : (dZ p.types (dF p) cs 80).1.slots.length = p.types.length := vS _ _ _ _
    have l2 : (dZ p.types (dF ⟨p.types, body⟩) cs 80).1.slots.length = p.types.length := vS _ _ _ _
    generalize (dZ p.types (dF p) cs 80).2.1 = en at *
    generalize (dZ p.types (dF p) cs 80).1.slots = s1 at *
    generalize (dZ p.types (dF ⟨p.types, body⟩) cs 80).1.slots = s2 at *
    repeat' (first|(apply aM;first|((with_reducible apply aJ (k := 24));(case ha => rfl);(case h => exact n1);(case hp => (exact Pur.pf));(case hN => rfl))|((with_reducible apply aJ (k := 24));(case ha => rfl);(case h => exact n2);(case hp => (exact Pur.pf));(case hN => rfl))|(apply aE;rfl;rfl)|(apply aX;rfl;rfl;(exact (rfl:_=[_, _]));rfl;rfl;rfl)|(apply aC;rfl;rfl)|(apply aF;kernel_rfl)|(apply cD;rfl;rfl;rfl))|(apply aN;first|apply aH|apply aB|apply aL)|with_reducible apply aA)
    refine a7 (σ := Nat) [5, 14, 15, 16, 17] [(5, _), (14, _), (15, _), (16, _), (17, _)] [0, 1] [(0, some _), (1, some _)] (fun v => [(18, iv (v : Int))]) (fun v => []) (fun v => v ≤ p.types.length) (fun v => p.types.length - v) (0) (Nat.zero_le _) rfl rfl (by repeat' (first|exact trivial|refine And.intro rfl ?_)) (by repeat' (exact trivial)) ?_
    intro v hvl
    by_cases hvn : v < p.types.length
    ·by_cases h0 : en = 0
     ·by_cases ht : p.types[v]! = 1
      ·have e := hsl h0 v hvn ht
       repeat' (first|(apply aM;first|((apply I6 [.bool s1[v]!.set, .int .i64 s1[v]!.num, .int .i64 s1[v]!.ptr.cell, .int .i64 s1[v]!.ptr.tag]);(case hx => rfl);(case hy => (rw [e] <;> rfl));(case hc => rfl);(case hS => exact ⟨_, _, _, _, rfl⟩);(case hN => rfl))|(apply aE;rfl;rfl)|(first|(apply aK;rfl;rfl;rfl;rfl)|(apply aX;rfl;rfl;(exact (rfl:_=[_, _, _, _]));rfl;rfl;rfl))|(apply aD;rfl;rfl;rfl)|(first|(apply bB;rfl;rfl;rfl;(assumption))|(apply bK;(case hj|hb|hN => rfl);all_goals (intro hg;have hq := hg;(try simp only [cK] at hq);(try (exfalso;omega)))))|(first|(apply bR;rfl;rfl;omega;rfl)|(apply aR;rfl;rfl;rfl;rfl))|(apply aC;rfl;rfl)|(apply bS;rfl;(assumption);rfl;rfl)|(apply a6;(case hx|hi => rfl);(case hm => (first|assumption|omega));(case hml => (rfl));(case hα | hf|hg => infer_instance);(case hN => rfl))|(apply a9;rfl;rfl;rfl)|(apply aF;kernel_rfl))|(apply aN;first|apply aH|apply aB|(apply bZ;kernel_rfl)|(apply cH;rfl;(rfl))|(apply aO;rfl;all_goals intro hc;have hq:=hc;(try simp only [cK] at hq);try exfalso;omega)|apply aL|apply aS)|with_reducible apply aA|with_reducible apply aV)
       all_goals first
        | (exfalso;omega)
        | ((apply dV (v + 1); focus (refine Le.ren [(0, 0), (1, 1)] rfl (by decide) ?_ ?_ <;> repeat' (first | exact trivial | refine And.intro ⟨_, rfl, ?_⟩ ?_ | refine And.intro ⟨_, _, rfl, rfl, ?_⟩ ?_ | exact Or.inr rfl | refine Or.inl ⟨?_, (by first | rfl | exact aZ _ _ | exact Pur.pf)⟩ | rfl)))
           ·exact hvn
           ·omega)
      ·repeat' (first | (apply aM; first | (apply aE;rfl;rfl) | (apply aK;rfl;rfl;rfl;rfl) | (apply aD;rfl;rfl;rfl) | (first | (apply bB;rfl;rfl;rfl;(assumption)) | (apply bC;rfl;rfl;rfl;(assumption)) | (apply bK; (case hj | hb | hN => rfl); all_goals (intro hg; have hq := hg; (try simp only [cK] at hq); (try (exfalso; omega))))) | (first | (apply bR;rfl;rfl;omega;rfl) | (apply aR;rfl;rfl;rfl;rfl)) | (apply aC;rfl;rfl) | (first | (apply bS;rfl;(assumption);rfl;rfl) | (apply bI;rfl;(assumption);rfl;rfl)) | (apply a6; (case hx | hi => rfl); (case hm => (assumption)); (case hml => (rfl)); (case hα | hf | hg => infer_instance); (case hN => rfl)) | (apply a9;rfl;rfl;rfl) | (apply aF;kernel_rfl)) | (apply aN; first | apply aH | apply aB | (apply bZ;kernel_rfl) | (apply cH;rfl;(rfl)) | (apply aO;rfl;all_goals intro hc;have hq:=hc;(try simp only [cK] at hq);try exfalso;omega) | apply aL | apply aS) | with_reducible apply aA | with_reducible apply aV)
       all_goals first
        | (exfalso;omega)
        | ((apply dV (v + 1); focus (refine Le.ren [(0, 0), (1, 1)] rfl (by decide) ?_ ?_ <;> repeat' (first | exact trivial | refine And.intro ⟨_, rfl, ?_⟩ ?_ | refine And.intro ⟨_, _, rfl, rfl, ?_⟩ ?_ | exact Or.inr rfl | refine Or.inl ⟨?_, (by first | rfl | exact aZ _ _ | exact Pur.pf)⟩ | rfl)))
           ·exact hvn
           ·omega)
     ·repeat' (first | (apply aM; first | (apply aE;rfl;rfl) | (apply aK;rfl;rfl;rfl;rfl) | (apply aD;rfl;rfl;rfl) | (first | (apply bB;rfl;rfl;rfl;(assumption)) | (apply bK; (case hj | hb | hN => rfl); all_goals (intro hg; have hq := hg; (try simp only [cK] at hq); (try (exfalso; omega))))) | (apply aR;rfl;rfl;rfl;rfl) | (apply aC;rfl;rfl) | (apply bS;rfl;(assumption);rfl;rfl) | (apply a9;rfl;rfl;rfl) | (apply aF;kernel_rfl)) | (apply aN; first | apply aH | apply aB | (apply aO;rfl;all_goals intro hc;have hq:=hc;(try simp only [cK] at hq);try exfalso;omega) | apply bF | apply aQ) | with_reducible apply aA | with_reducible apply bE | with_reducible apply bG)
      all_goals first
       | (exfalso;omega)
       | (refine aP rfl ⟨?_, rfl⟩
          simp only [bX, decide_true])
    ·repeat' (first | (apply aM; first | (apply aE;rfl;rfl) | (apply aK;rfl;rfl;rfl;rfl) | (apply aD;rfl;rfl;rfl) | (first | (apply bC;rfl;rfl;rfl;(assumption)) | (apply bK; (case hj | hb | hN => rfl); all_goals (intro hg; have hq := hg; (try simp only [cK] at hq); (try (exfalso; omega))))) | (apply aR;rfl;rfl;rfl;rfl) | (apply aC;rfl;rfl) | (apply bI;rfl;(assumption);rfl;rfl) | (apply a9;rfl;rfl;rfl) | (apply aF;kernel_rfl)) | (apply aN; first | apply aH | apply aB | (apply cH;rfl;(rfl)) | apply bF | apply aQ) | with_reducible apply aA | with_reducible apply bE | with_reducible apply bG)
     all_goals first
      | (exfalso;omega)
      | (refine aP rfl ⟨?_, rfl⟩
         simp only [bX, decide_true])
end Go.Proofs.YtjcpngimjdckmaaGreat
