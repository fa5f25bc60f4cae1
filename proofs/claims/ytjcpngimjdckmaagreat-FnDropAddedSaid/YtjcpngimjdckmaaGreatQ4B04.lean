/-
 A part of the proofs over this program: rules and contracts of its functions (the contracts).
-/
import Derived.Test.YtjcpngimjdckmaaGreatQ4B03
set_option linter.unusedVariables false
set_option linter.unusedSimpArgs false
set_option maxHeartbeats 8000000
set_option maxRecDepth 4000
attribute [local irreducible] Go.AL.RW Go.AL.AW Go.AL.Stop
namespace Go.Proofs.YtjcpngimjdckmaaGreat
open Go.AL Go.RowKit
theorem B9 {a b : List Bool} {m m2 : Nat} {N : Nat} {Q : Exit → AS → Prop} {all : Array Oper} {rest : List Oper} {tsl : List (Nat × AV)} {hsl : List (Nat × Option (List AV))} {nidl : Nat} {z0 : Lo} {md : Md} {d : Nat} {ty : TypeId} {pos : String} {af : Array Edge} {tys : Array TypeId} {x0 x1 : Operand} {i0 i1 : Nat} (ha0 : ev (lk tsl) x0 = some (.own i0 0 m 1)) (ha1 : ev (lk tsl) x1 = some (.own i1 0 m2 1)) (hH0 : bU hsl i0 = some (flat cB a)) (hH1 : bU hsl i1 = some (flat cB b)) (hdd : Go.AL.distinct [i0, i1] = true) (hmc : MC Tryz.prog 202 [.own 0 0 m 1, .own 1 0 m2 1] [(0, some (flat cB a)), (1, some (flat cB b))] 2 (fun _ : Unit => True) (fun _ => .tup []) (fun _ => [(0, some (flat cB (gW a b))), (1, some (flat cB b))])) (hM : Nat.ble (nidl + 0) bZ = true) (hN : Nat.blt d N = true) {md' : Md} [hmd : MdA md (jH [x0, x1] ++ [.inr i0, .inr i1]) (List.map Sum.inr (List.map Prod.fst ([(i0, some (flat cB (gW a b))), (i1, some (flat cB b))] : List (Nat × Option (List AV)))) ++ [.inl d]) md'] (kk : RW Tryz.prog N all Q md' rest ⟨(d, .tup []) :: tsl, lE hsl [(i0, some (flat cB (gW a b))), (i1, some (flat cB b))], nidl + 0, z0⟩) : RW Tryz.prog N all Q md (⟨some d, .call ⟨.value (.func 202), #[x0, x1], tys⟩, ty, pos, af, none⟩ :: rest) ⟨tsl, hsl, nidl, z0⟩ := by
 refine c5 [i0, i1] 2 [(i0, some (flat cB (gW a b))), (i1, some (flat cB b))] hmc (avs := [.own i0 0 m 1, .own i1 0 m2 1]) ?_ hdd ?_ rfl ?_ (by simpa using hM) ?_ ?_ ?_ hN (md' := md') (hmd := hmd) kk
 ·show evL (lk tsl) [x0, x1] = _
  simp only [evL, ha0, ha1]
 ·exact ⟨⟨_, _, rfl, hH0, by (repeat' (exact RnL.purI inferInstance))⟩, ⟨⟨_, _, rfl, hH1, by (repeat' (exact RnL.purI inferInstance))⟩, trivial⟩⟩
 ·(repeat' (first|exact RnL.purI inferInstance|exact RnV.own rfl|refine RnL.cons ?_ ?_))
 ·(repeat' (exact RnV.purI inferInstance))
 ·simp [e7]
 ·(repeat' (first|exact trivial|(refine And.intro ⟨0, _, rfl, rfl, ?_⟩ ?_)|(refine And.intro ⟨1, _, rfl, rfl, ?_⟩ ?_)|exact RnL.purI inferInstance))
theorem DD (a b : List Bool) (m m2 : Nat) (hm : m = a.length) (hm' : m2 = b.length) (hab : b.length ≤ a.length) (hl : a.length ≤ 1000000) : MC Tryz.prog 202 [.own 0 0 m 1, .own 1 0 m2 1] [(0, some (flat cB a)), (1, some (flat cB b))] 2 (fun _ : Unit => True) (fun _ => .tup []) (fun _ => [(0, some (flat cB (gW a b))), (1, some (flat cB b))]) := by
 subst hm hm'
 (refine dB Tryz.func202 rfl (by simp [Tryz.ntmps202]) ?_; rw [Tryz.ntmps202])
 repeat' (first|(apply aM;first|(apply aC;rfl;rfl)|(apply aF;kernel_rfl))|(apply aO;first|apply aH|apply aB|apply aJ)|with_reducible apply aA)
 refine bG (σ := Nat × List Bool) [0, 1] [(0, _), (1, _)] [1] [(1, some _)] (fun k => [(4, iv (k.1 : Int))]) (fun k => [(0, some (flat cB k.2))]) (fun k => k.1 ≤ b.length ∧ k.2.length = a.length ∧ (∀ l, l < a.length → k.2[l]! = (a[l]! || (decide (l < k.1) && b[l]!)))) (fun k => b.length - k.1) (0, a) ⟨by omega, rfl, fun l hl => by simp⟩ rfl rfl (by repeat' (first|exact trivial|refine And.intro rfl ?_)) (by repeat' (first|exact trivial|refine And.intro (.inr rfl) ?_)) ?_
 rintro ⟨k, u⟩ ⟨hk, hul, hu⟩
 dsimp only at hk hul hu
 try dsimp only
 repeat' (first|(apply aM;first|(apply aD;rfl;rfl)|(apply dE;(case hx|hH => rfl);(case hf|hg|hα => infer_instance);(case hk => omega);(case hc|hN => rfl))|(first|(apply a9;rfl;rfl;rfl;(assumption))|(apply aZ;rfl;rfl;rfl;(assumption))|(apply bC;(case hj|hb|hN => rfl);all_goals (intro hg;have hq := hg;(try simp only [cD] at hq);(try (exfalso;omega)))))|(first|(apply bO;rfl;rfl;omega;rfl)|(apply aV;rfl;rfl;rfl;rfl))|(apply aC;rfl;rfl)|(first|(apply bI;rfl;(assumption);rfl;rfl)|(apply bH;rfl;(assumption);rfl;rfl))|(apply cL;rfl;rfl;(omega);rfl)|(apply a8;rfl;rfl;rfl)|(apply aF;kernel_rfl)|(apply a7;rfl;rfl;rfl;rfl;rfl;(rw [aK]; simp only [fD] <;> omega);(exact fT (by (omega)))))|(apply aO;first|apply aH|apply aB|(apply aP;rfl;all_goals intro hc;have hq:=hc;(try simp only [cD] at hq);try exfalso;omega)|apply aJ|apply aS|apply bF)|with_reducible apply aA|with_reducible apply bE|with_reducible apply aT|with_reducible apply bD)
 ·(apply c6 (k + 1, _); focus (refine Le.ren [] rfl (by decide) ?_ ?_ <;> repeat' (first | exact trivial | refine And.intro ⟨_, rfl, ?_⟩ ?_ | refine And.intro ⟨_, _, rfl, rfl, ?_⟩ ?_ | exact Or.inr rfl | refine Or.inl ⟨?_, (by first | rfl | exact aX _ _)⟩ | rfl)))
  ·refine ⟨(by show k + 1 ≤ b.length; omega), (by show (u.set k _).length = a.length; rw [List.length_set]; exact hul), fun l hl => ?_⟩
   show (u.set k _)[l]! = (a[l]! || (decide (l < k + 1) && b[l]!))
   have h1 := hu l hl
   have h2 := hu k (by omega)
   rw [bY]
   clear hu
   grind
  ·show b.length - (k + 1) < b.length - k;omega
 ·(apply c6 (k + 1, _); focus (refine Le.ren [] rfl (by decide) ?_ ?_ <;> repeat' (first | exact trivial | refine And.intro ⟨_, rfl, ?_⟩ ?_ | refine And.intro ⟨_, _, rfl, rfl, ?_⟩ ?_ | exact Or.inr rfl | refine Or.inl ⟨?_, (by first | rfl | exact aX _ _)⟩ | rfl)))
  ·refine ⟨(by show k + 1 ≤ b.length; omega), (by show (u.set k _).length = a.length; rw [List.length_set]; exact hul), fun l hl => ?_⟩
   show (u.set k _)[l]! = (a[l]! || (decide (l < k + 1) && b[l]!))
   have h1 := hu l hl
   have h2 := hu k (by omega)
   rw [bY]
   clear hu
   grind
  ·show b.length - (k + 1) < b.length - k;omega
 ·refine z8 (l := []) rfl ?_
  refine dA () trivial rfl ⟨.inr (Eq.trans (b := some _) rfl ?_), .inr rfl, trivial⟩
  have e : u = gW a b := cZ (by rw [gL, hul]) fun l hl => by
   rw [fH _ _ _ (by omega), hu l (by omega)]
   clear hu
   grind
  rw [e]
theorem Ab {a : List Bool} {R : List (List Bool)} {k m m2 : Nat} {N : Nat} {Q : Exit → AS → Prop} {all : Array Oper} {rest : List Oper} {tsl : List (Nat × AV)} {hsl : List (Nat × Option (List AV))} {nidl : Nat} {z0 : Lo} {d : Nat} {ty : TypeId} {pos : String} {af : Array Edge} {tys : Array TypeId} {x0 x1 : Operand} {i0 : Nat} (ha0 : ev (lk tsl) x0 = some (.own i0 0 m 1)) (ha1 : ev (lk tsl) x1 = some (.own (k + bZ) 0 m2 1))
  (hH0 : bU hsl i0 = some (flat cB a)) (hF : FamR R R hsl hsl) (hk : k < R.length) (hi : Nat.blt i0 bZ = true) (hm : m = a.length) (hm2 : m2 = R[k]!.length) (hab : R[k]!.length ≤ a.length) (hl : a.length ≤ 1000000) (hM : Nat.ble (nidl + 0) bZ = true) (hN : Nat.blt d N = true)
  (kk : RW Tryz.prog N all Q .txt rest ⟨(d, .tup []) :: tsl, (i0, some (flat cB (gW a R[k]!))) :: hsl, nidl + 0, z0⟩) : RW Tryz.prog N all Q .txt (⟨some d, .call ⟨.value (.func 202), #[x0, x1], tys⟩, ty, pos, af, none⟩ :: rest) ⟨tsl, hsl, nidl, z0⟩ :=
 B9 (a := a) (b := R[k]!) (i0 := i0) (i1 := k + bZ) ha0 ha1 hH0 (hF.get hk) (IB hi) (DD a R[k]! m m2 hm hm2 hab hl) hM hN (md' := .txt) (fN kk (Le.fdrop (FamR.cons hi hF) hk))
theorem CE (ts : List Int) (pts : List Pnt) (w : WG ts pts) (i : Nat) (hi : i < pts.length) (R0 : List (List Bool)) (hl : R0.length = ts.length + 1) (hr : ∀ k, k < ts.length + 1 → R0[k]!.length = pts.length) : IZ Tryz.prog 206 [sl cI ts, sl dF pts, iv (i : Int), HA 0 ts.length pts.length] R0 (.agg [sl hJ (n8 ts pts i (R0.take ts.length)), sl cB (oA ts pts i R0[ts.length]!)]) [] := by
 have hrn := hr ts.length (by omega)
 have htl := w.tl
 have hpl := w.pl
 have hy := w.y i hi
 have hset := w.set i hi
 (refine y7 Tryz.func206 rfl (by simp [Tryz.ntmps206]) ?_; rw [Tryz.ntmps206])
 repeat' (first|(apply aM;first|(with_reducible apply dR (d := 19))|(apply aD;rfl;rfl)|(apply a6;rfl;rfl;(first|exact (rfl:_=[_, _])|exact (rfl:_=[_, _, _, _, _]));rfl;rfl;rfl)|(apply bB;(case hx|hi => rfl);(case hm => (assumption));(case hml => (rfl));(case hα | hf|hg => infer_instance);(case hN => rfl))|(apply aF;kernel_rfl)|(apply bW;rfl;rfl;rfl;rfl)|(apply bT;rfl;rfl)|(apply a7;rfl;rfl;rfl;rfl;rfl;(case hl => (simp;done));(exact (rfl:_=[_, _, _, _, _]))))|(apply aO;first|apply aH|apply aB)|with_reducible apply aA)
 refine gK ?_
 refine yI (R := R0) (R0 := R0) (avs := [HA 0 ts.length pts.length]) (b := 0) (n1 := 2) (D := (List.range R0.length).map fun k => 0 + k + bZ) (ws := [(3, some (flat hJ (R0.take ts.length))), (4, some (flat cB R0[ts.length]!))]) (rr' := .agg [.own 3 0 ts.length 1, .own 4 0 pts.length 1]) (md' := .txt) rfl (DC ts.length pts.length R0 htl hpl hl hr) (by (repeat' (first|exact FamR.here|(apply FamR.cons;focus rfl)))) (by omega) (fun k hk => by rw [Nat.zero_add]) (fun k hk => List.mem_map.2 ⟨k, by rw [List.mem_range]; exact hk, rfl⟩) ?_ rfl ?_ ?_ rfl rfl ?_
 ·refine .cons (.agg (.cons (.imm (rn_rows fun k hk => ?_)) (.cons (.own ?_) .nil))) .nil
  ·rw [Nat.zero_add, mJ (by omega), Nat.zero_add]
  ·rw [Nat.zero_add, mJ (by omega), Nat.zero_add]
 ·exact .agg (.cons (.own (pP (j := 0) (by decide) (by decide))) (.cons (.own (pP (j := 1) (by decide) (by decide))) .nil))
 ·exact ⟨⟨0, _, pP (j := 0) (by decide) (by decide), rfl, RnL.purI inferInstance⟩, ⟨1, _, pP (j := 1) (by decide) (by decide), rfl, RnL.purI inferInstance⟩, trivial⟩
 have hfr : ∀ v, v < ts.length → (R0.take ts.length)[v]! = R0[v]! := fun v hv => by rw [dG _ _ (by rw [List.length_take]; omega), dG _ _ (by omega), List.getElem_take]
 have hY : ∀ l, l < pts.length → pts[i]!.op = 3 ∨ pts[i]!.op = 4 ∨ pts[i]!.op = 5 → (R0.take ts.length)[pts[i]!.y.toNat]![l]! = R0[0 + pts[i]!.y.toNat]![l]! ∧ R0[0 + pts[i]!.y.toNat]!.length = pts.length := fun l hl h => by
  rw [Nat.zero_add]; exact ⟨by rw [hfr _ (by omega)], hr _ (by omega)⟩
 have eA : pts[i]!.op = 3 → gW (List.replicate pts.length false) R0[0 + pts[i]!.y.toNat]! = qE ts pts i (R0.take ts.length) := fun h => cZ (by rw [gL, jA]; simp) fun l hl => by
  rw [gL, List.length_replicate] at hl
  have h1 := hY l hl (.inl h)
  rw [fH _ _ _ (by simpa using hl), iZ _ _ _ _ _ hl, if_pos h, eH _ _ _ hl, h1.1, decide_eq_true (by omega)]; rfl
 have eB : pts[i]!.op = 4 ∨ pts[i]!.op = 5 → jW ts[pts[i]!.y.toNat]! = true → gW ((List.replicate pts.length false).set i true) R0[0 + pts[i]!.y.toNat]! = qE ts pts i (R0.take ts.length) := fun h h' => cZ (by rw [gL, jA]; simp) fun l hl => by
  rw [gL, List.length_set, List.length_replicate] at hl
  have h1 := hY l hl (.inr h)
  have h2 : c9 pts[i]! = true := by unfold c9;rcases h with h|h <;> rw [h] <;> rfl
  rw [fH _ _ _ (by simpa using hl), iZ _ _ _ _ _ hl, if_neg (by omega), h1.1, h2, h', bY, eH _ _ _ hl, decide_eq_true (by omega)]
  by_cases e : l = i
  ·subst e;simp [hl]
  ·rw [if_neg (fun q => e q.1.symm), decide_eq_false e]; simp
 have eC : pts[i]!.op = 4 ∨ pts[i]!.op = 5 → jW ts[pts[i]!.y.toNat]! = false → (List.replicate pts.length false).set i true = qE ts pts i (R0.take ts.length) := fun h h' => cZ (by rw [jA]; simp) fun l hl => by
  rw [List.length_set, List.length_replicate] at hl
  have h2 : c9 pts[i]! = true := by unfold c9;rcases h with h|h <;> rw [h] <;> rfl
  rw [iZ _ _ _ _ _ hl, if_neg (by omega), h2, h', bY, eH _ _ _ hl]
  by_cases e : l = i
  ·subst e;simp [hl]
  ·rw [if_neg (fun q => e q.1.symm), decide_eq_false e]; simp
 have eD : ¬ pts[i]!.op = 3 → ¬ pts[i]!.op = 4 → ¬ pts[i]!.op = 5 → List.replicate pts.length false = qE ts pts i (R0.take ts.length) := fun h3 h4 h5 => cZ (by rw [jA]; simp) fun l hl => by
  rw [List.length_replicate] at hl
  have h2 : c9 pts[i]! = false := by unfold c9;rw [decide_eq_false h4, decide_eq_false h5]; rfl
  rw [iZ _ _ _ _ _ hl, if_neg h3, h2, eH _ _ _ hl]; rfl
 have hvl := jA ts pts i (R0.take ts.length)
 have hneg : bR pts[i]! < 0 → ¬ pts[i]!.op = 4 ∧ ¬ pts[i]!.op = 5 := fun h => by
  have h1 := w.x i hi
  unfold bR at h
  split at h
  ·omega
  ·omega
 have hQ0 : ∀ (v : Nat) (q : List Bool), ts.length ≤ v → (∀ l, l < pts.length → q[l]! = (R0[ts.length]![l]! && !(c9 pts[l]! && (decide (pts[l]!.y < v) && decide (cE ts pts[i]! pts[l]!.y = 2))))) → ∀ l, l < pts.length → q[l]! = (R0[ts.length]![l]! && !(c9 pts[l]! && decide (cE ts pts[i]! pts[l]!.y = 2))) := fun v q hv h l hl => by
  rw [h l hl]
  cases hln : c9 pts[l]! with
  | false => rfl
  | true => have := m7 w hl hln;rw [decide_eq_true (by omega : pts[l]!.y < (v : Int))]; rfl
 apply cut
 case' main =>
  intro key
  repeat' (first|(apply aM;first|(apply Ab;rfl;rfl;rfl;(case hF => (repeat' (first|exact FamR.here|(apply FamR.cons;focus rfl))));(simp only [Nat.zero_add] <;> omega);rfl;(case hm => (simp;done));(simp only [Nat.zero_add]; symm;exact hr _ (by omega));(simp only [Nat.zero_add]; rw [hr _ (by omega)]; simp);(simp;omega);rfl;rfl)|(apply aD;rfl;rfl)|(apply aL;rfl;rfl;rfl;rfl)|(apply aE;rfl;rfl;rfl)|(apply aV;rfl;rfl;rfl;rfl)|(apply aC;rfl;rfl)|(first|(apply jY;rfl;rfl;(omega);rfl;infer_instance;infer_instance;rfl)|(apply cL;rfl;rfl;(assumption);rfl)|(apply cC;(case hx|hi => rfl);(case hm => (omega));(case hml => (rfl));(case hα | hf|hg => infer_instance);(case hN => rfl)))|((with_reducible apply aI (k := 217));(case ha => rfl);(case h => (apply Dk <;> (fail)));(case hp => (rfl));(case hN => rfl))|(apply a8;rfl;rfl;rfl)|(apply aF;kernel_rfl)|(apply bT;rfl;rfl)|(apply a7;rfl;rfl;rfl;rfl;rfl;(case hl => (first|(rw [aK]; simp only [fD] <;> omega)|(simp;done)));(first|exact fT (by (simp only [fD] <;> omega))|exact (rfl:_=[_, _])))|(apply cR;rfl;rfl;rfl;omega;omega;(exact iP);rfl;rfl))|(apply aO;first|apply aH|apply aB|(apply bX;rfl;(assumption))|(apply aP;rfl;all_goals intro hc;have hq:=hc;(try simp only [cD] at hq);try exfalso;omega)|apply aJ|apply aS)|with_reducible apply aA|with_reducible apply aT)
  all_goals first
   | rw [eA (by assumption)]
   | rw [eB (.inl (by assumption)) (by assumption)]
   | rw [eB (.inr (by assumption)) (by assumption)]
   | rw [eC (.inl (by assumption)) (by assumption)]
   | rw [eC (.inr (by assumption)) (by assumption)]
   | rw [eD (by assumption) (by assumption) (by assumption)]
  all_goals refine eR (σ := Nat × List (List Bool) × List Bool) 0 (fun s => R0) [0, 1, 2, 8, 9, 10, 11] [(0, _), (1, _), (2, _), (8, _), (9, _), (10, _), (11, _)] [6, 5, 2, 1, 0] [(6, some _), (5, some _), (2, some _), (1, some _), (0, some _)] (fun s => [(12, iv (s.1 : Int))]) (fun s => [(3, some (flat hJ s.2.1)), (4, some (flat cB s.2.2))]) (fun s => s.1 ≤ ts.length ∧ s.2.1.length = ts.length ∧ (∀ v, v < ts.length → s.2.1[v]! = if v < s.1 ∧ cE ts pts[i]! v = 2 then List.replicate pts.length false else R0[v]!) ∧ s.2.2.length = pts.length ∧ (∀ l, l < pts.length → s.2.2[l]! = (R0[ts.length]![l]! && !(c9 pts[l]! && (decide (pts[l]!.y < s.1) && decide (cE ts pts[i]! pts[l]!.y = 2)))))) (fun s => ts.length - s.1) (0, R0.take ts.length, R0[ts.length]!) ⟨by omega, (by show (R0.take ts.length).length = _; rw [List.length_take]; omega), fun v hv => (by show (R0.take ts.length)[v]! = _; rw [hfr v hv, if_neg (by omega)]), hrn, fun l hl => (by
    show R0[ts.length]![l]! = _
    cases hln : c9 pts[l]! with
    | false => simp
    | true => have := m7 w hl hln;rw [decide_eq_false (by omega : ¬ pts[l]!.y < ((0 : Nat) : Int))]; simp)⟩ rfl rfl (by repeat' (first|exact trivial|refine And.intro rfl ?_)) (by repeat' (first|exact trivial|refine And.intro (.inr rfl) ?_)) (by (repeat' (first|exact FamR.here|(apply FamR.cons;focus rfl)))) (by (rfl)) key.pf
 rintro ⟨v, u, q⟩ ⟨hv, hul, hu, hql, hq'⟩
 dsimp only at hv hul hu hql hq'
 try dsimp only
 repeat' (first|(apply aM;first|(with_reducible apply dR (d := 73))|(with_reducible apply dR (d := 86))|(apply aD;rfl;rfl)|(first|(apply aL;rfl;rfl;rfl;rfl)|(apply a6;rfl;rfl;(first|exact (rfl:_=[_, _])|exact (rfl:_=[_, _, _, _, _]));rfl;rfl;rfl))|(apply aE;rfl;rfl;rfl)|(first|(apply a9;rfl;rfl;rfl;(assumption))|(apply bC;(case hj|hb|hN => rfl);all_goals (intro hg;have hq := hg;(try simp only [cD] at hq);(try (exfalso;omega)))))|(first|(apply bO;rfl;rfl;omega;rfl)|(apply aV;rfl;rfl;rfl;rfl))|(apply aC;rfl;rfl)|(apply bH;rfl;(assumption);rfl;rfl)|(first|(apply cL;rfl;rfl;(omega);rfl)|(apply dO;rfl;rfl;(omega);rfl))|(first|((with_reducible apply aI (k := 136));(case ha => rfl);(case h => (apply mL <;> (omega)));(case hp => (exact Pur.pf));(case hN => rfl))|((with_reducible apply aI (k := 137));(case ha => rfl);(case h => (apply nV <;> (fail)));(case hp => (exact Pur.pf));(case hN => rfl)))|(apply a8;rfl;rfl;rfl)|(apply aF;kernel_rfl)|(apply a7;rfl;rfl;rfl;rfl;rfl;(case hl => (first|(rw [aK]; simp only [fD] <;> omega)|(simp;done)));(first|exact (rfl:_=[_, _])|rfl))|(apply cR;rfl;rfl;rfl;omega;omega;(exact iP);rfl;rfl))|(apply aO;first|apply aH|apply aB|(apply b9;kernel_rfl)|(apply aP;rfl;all_goals intro hc;have hq:=hc;(try simp only [cD] at hq);try exfalso;omega)|apply aJ|apply aS|apply bF|apply aW)|with_reducible apply aA|with_reducible apply bE|with_reducible apply aT|with_reducible apply bD)
 ·refine gK (fN ?_ (Le.frzRow (j := 3) (q := 7) (v := v) (u := u) (r := List.replicate pts.length false) rfl rfl (by simp) (by omega) (by decide)))
  repeat' (first|(apply aM;first|(apply aD;rfl;rfl)|(apply a6;rfl;rfl;(exact (rfl:_=[_, _]));rfl;rfl;rfl)|(apply bO;rfl;rfl;omega;rfl)|(apply aC;rfl;rfl)|(apply uJ;rfl;rfl;rfl;(rfl);(rfl);rfl;(apply xL <;> (first|assumption|omega));rfl;rfl)|(apply aF;kernel_rfl))|(apply aO;(apply aB))|with_reducible apply aA|with_reducible apply aT)
  (apply c6 (v + 1, u.set v (List.replicate pts.length false), rI pts v q);focus (refine Le.renF0 [(0, 0), (1, 1), (2, 2), (3, 3), (4, 4), (5, 5), (6, 6)] (R := ?qA3) (hF := ?qF3) (hz := ?qz3) (hm := ?qm3) (hn := ?qn3) (h1 := ?q13) (h2 := ?q23);(case qF3 => (repeat' (first|exact FamR.here|(apply FamR.cons;focus rfl))));(case qz3 => (rfl));(case qm3 => rfl);(case qn3 => decide);all_goals (repeat' (first|exact trivial|refine And.intro ⟨_, rfl, ?_⟩ ?_|refine And.intro ⟨_, _, rfl, rfl, ?_⟩ ?_|exact RnL.purI inferInstance|exact RnV.purI inferInstance|exact RnV.own rfl|exact RnV.optr rfl|exact RnL.nil|refine RnL.cons ?_ ?_|exact RnV.imm (dV (by (simp only [List.length_replicate, List.length_set, List.length_append, List.length_singleton] at * <;> omega)))|exact RnV.own (hU (by omega) (by show _ < bZ + _; (omega)))))))
  ·refine ⟨(by show v + 1 ≤ ts.length; omega), (by show (u.set v _).length = ts.length; rw [List.length_set]; exact hul), fun v' hv' => ?_, (by show (rI pts v q).length = pts.length; rw [wC]; exact hql), fun l hl => ?_⟩
   ·show (u.set v (List.replicate pts.length false))[v']! = if v' < v + 1 ∧ cE ts pts[i]! v' = 2 then _ else _
    rw [bY, hu v' hv']
    by_cases e : v = v'
    ·subst e;rw [if_pos ⟨rfl, by omega⟩, if_pos ⟨by omega, by assumption⟩]
    ·rw [if_neg (fun h => e h.1)]
     by_cases e2 : v' < v ∧ cE ts pts[i]! v' = 2
     ·rw [if_pos e2, if_pos ⟨by omega, e2.2⟩]
     ·rw [if_neg e2, if_neg (fun h => e2 ⟨by omega, h.2⟩)]
   ·show (rI pts v q)[l]! = _
    have hu2 : cE ts pts[i]! v = 2 := by assumption
    rw [uW _ _ _ _ (by omega), hq' l hl]
    clear hu hq'
    by_cases hln : c9 pts[l]! = true
    ·rw [hln]
     by_cases e : pts[l]!.y = v
     ·rw [e, hu2, decide_eq_true (by omega : (v : Int) < ((v + 1 : Nat) : Int))]; simp
     ·rw [decide_eq_false e]
      have e3 : decide (pts[l]!.y < ((v + 1 : Nat) : Int)) = decide (pts[l]!.y < (v : Int)) := by
       have : (pts[l]!.y < ((v + 1 : Nat) : Int)) ↔ (pts[l]!.y < (v : Int)) := by omega
       simp only [this]
      rw [e3]; simp
    ·rw [Bool.not_eq_true] at hln;rw [hln]; simp
  ·show ts.length - (v + 1) < ts.length - v;omega
 ·(apply c6 (v + 1, u, q); focus (refine Le.renF0 [(0, 0), (1, 1), (2, 2), (3, 3), (4, 4), (5, 5), (6, 6)] (R := ?qA4) (hF := ?qF4) (hz := ?qz4) (hm := ?qm4) (hn := ?qn4) (h1 := ?q14) (h2 := ?q24); (case qF4 => (repeat' (first | exact FamR.here | (apply FamR.cons; focus rfl)))); (case qz4 => (rfl)); (case qm4 => rfl); (case qn4 => decide); all_goals (repeat' (first | exact trivial | refine And.intro ⟨_, rfl, ?_⟩ ?_ | refine And.intro ⟨_, _, rfl, rfl, ?_⟩ ?_ | exact RnL.purI inferInstance | exact RnV.purI inferInstance | exact RnV.own rfl | exact RnV.optr rfl | exact RnL.nil | refine RnL.cons ?_ ?_ | exact RnV.imm (dV (by (simp only [List.length_replicate, List.length_set, List.length_append, List.length_singleton] at * <;> omega))) | exact RnV.own (hU (by omega) (by show _ < bZ + _; (omega)))))))
  ·refine ⟨(by show v + 1 ≤ ts.length; omega), hul, fun v' hv' => ?_, hql, fun l hl => ?_⟩
   ·show u[v']! = if v' < v + 1 ∧ cE ts pts[i]! v' = 2 then _ else _
    rw [hu v' hv']
    have hu2 : ¬ cE ts pts[i]! v = 2 := by assumption
    by_cases e2 : v' < v ∧ cE ts pts[i]! v' = 2
    ·rw [if_pos e2, if_pos ⟨by omega, e2.2⟩]
    ·rw [if_neg e2, if_neg (fun h => (by
      by_cases e : v = v'
      ·subst e;exact hu2 h.2
      ·exact e2 ⟨by omega, h.2⟩))]
   ·show q[l]! = _
    have hu2 : ¬ cE ts pts[i]! v = 2 := by assumption
    rw [hq' l hl]
    clear hu hq'
    by_cases e : pts[l]!.y = v
    ·rw [e, decide_eq_false hu2]; simp
    ·have e3 : decide (pts[l]!.y < ((v + 1 : Nat) : Int)) = decide (pts[l]!.y < (v : Int)) := by
      have : (pts[l]!.y < ((v + 1 : Nat) : Int)) ↔ (pts[l]!.y < (v : Int)) := by omega
      simp only [this]
     rw [e3]
  ·show ts.length - (v + 1) < ts.length - v;omega
 ·refine gK (fN ?_ (Le.frzRow (j := 3) (q := 6) (v := (bR pts[i]!).toNat) (u := u) (r := qE ts pts i (R0.take ts.length)) rfl rfl (by omega) (by omega) (by decide)))
  have hlo : (rI pts (bR pts[i]!) q).length = pts.length := by rw [wC]; exact hql
  have hQ := fun l hl => hQ0 v q (by omega) hq' l hl
  have eU : u.set (bR pts[i]!).toNat (qE ts pts i (R0.take ts.length)) = n8 ts pts i (R0.take ts.length) := cZ (by rw [eY]; simp; omega) fun v' hv' => by
   rw [List.length_set] at hv'
   rw [bY, kY _ _ _ _ _ (by omega), hu v' (by omega), hfr v' (by omega)]
   by_cases e : bR pts[i]! = v'
   ·rw [if_pos ⟨by omega, hv'⟩, if_pos e]
   ·rw [if_neg (fun h => e (by omega)), if_neg e]
    by_cases e2 : cE ts pts[i]! v' = 2
    ·rw [if_pos ⟨by omega, e2⟩, if_pos e2]
    ·rw [if_neg (fun h => e2 h.2), if_neg e2]
  have eL : ∀ l, l < pts.length → (rI pts (bR pts[i]!) q)[l]! = (R0[ts.length]![l]! && !(c9 pts[l]! && (decide (cE ts pts[i]! pts[l]!.y = 2) || decide (bR pts[i]! = pts[l]!.y)))) := fun l hl => by
   rw [uW _ _ _ _ (by omega), hQ l hl]
   have : decide (pts[l]!.y = bR pts[i]!) = decide (bR pts[i]! = pts[l]!.y) := by simp only [eq_comm]
   rw [this]
   cases R0[ts.length]![l]! <;> cases c9 pts[l]! <;> cases decide (cE ts pts[i]! pts[l]!.y = 2) <;> cases decide (bR pts[i]! = pts[l]!.y) <;> rfl
  have eQ1 : c9 pts[i]! = true → (rI pts (bR pts[i]!) q).set i true = oA ts pts i R0[ts.length]! := fun h => cZ (by rw [dP, List.length_set, hlo]) fun l hl => by
   rw [List.length_set, hlo] at hl
   rw [bY, mG _ _ _ _ _ hl, eL l hl, h, hlo]
   by_cases e : l = i
   ·subst e;rw [if_pos ⟨rfl, hl⟩, decide_eq_true rfl]; rfl
   ·rw [if_neg (fun q => e q.1.symm), decide_eq_false e]; rfl
  have eQ0 : c9 pts[i]! = false → rI pts (bR pts[i]!) q = oA ts pts i R0[ts.length]! := fun h => cZ (by rw [dP, hlo]) fun l hl => by
   rw [hlo] at hl
   rw [mG _ _ _ _ _ hl, eL l hl, h]; rfl
  repeat' (first|(apply aM;first|(apply aD;rfl;rfl)|(first|(apply aL;rfl;rfl;rfl;rfl)|(apply a6;rfl;rfl;(exact (rfl:_=[_, _]));rfl;rfl;rfl))|(apply aE;rfl;rfl;rfl)|(first|(apply a9;rfl;rfl;rfl;(assumption))|(apply aZ;rfl;rfl;rfl;(assumption))|(apply bC;(case hj|hb|hN => rfl);all_goals (intro hg;have hq := hg;(try simp only [cD] at hq);(try (exfalso;omega)))))|(apply aV;rfl;rfl;rfl;rfl)|(first|(apply bI;rfl;(assumption);rfl;rfl)|(apply bH;rfl;(assumption);rfl;rfl))|(apply cL;rfl;rfl;(assumption);rfl)|(apply uJ;rfl;rfl;rfl;(rfl);(rfl);rfl;(apply xL <;> (first|assumption|omega));rfl;rfl)|(apply aF;kernel_rfl)|(apply a7;rfl;rfl;rfl;rfl;rfl;(case hl => (first|(rw [aK]; simp only [fD] <;> omega)|(simp;done)));(first|exact fT (by (omega))|exact (rfl:_=[_, _]))))|(apply aO;first|apply aH|apply aB|(apply bX;rfl;(rfl))|(apply aP;rfl;all_goals intro hc;have hq:=hc;(try simp only [cD] at hq);try exfalso;omega)|apply aS|apply aW)|with_reducible apply aA)
  ·refine cA ((Le.frzC (j := 1) (i := 3) [] rfl rfl (by decide)).trans (Le.frzC (j := 1) (i := 4) [_] rfl rfl (by decide))) ?_
   refine aU (l := [.agg [_, _]]) rfl ?_
   refine oS ?_ trivial (by (repeat' (first|exact FamR.here|(apply FamR.cons;focus rfl))))
   simp only [bQ]
   rw [eU, eQ1 (by unfold c9;rw [decide_eq_true ‹pts[i]!.op = 5›]; simp)]
   simp only [sl, eY, dP]
  ·refine cA ((Le.frzC (j := 1) (i := 3) [] rfl rfl (by decide)).trans (Le.frzC (j := 1) (i := 4) [_] rfl rfl (by decide))) ?_
   refine aU (l := [.agg [_, _]]) rfl ?_
   refine oS ?_ trivial (by (repeat' (first|exact FamR.here|(apply FamR.cons;focus rfl))))
   simp only [bQ]
   rw [eU, eQ0 (by unfold c9;rw [decide_eq_false ‹¬ pts[i]!.op = 4›, decide_eq_false ‹¬ pts[i]!.op = 5›]; rfl)]
   simp only [sl, eY, dP]
  ·refine cA ((Le.frzC (j := 1) (i := 3) [] rfl rfl (by decide)).trans (Le.frzC (j := 1) (i := 4) [_] rfl rfl (by decide))) ?_
   refine aU (l := [.agg [_, _]]) rfl ?_
   refine oS ?_ trivial (by (repeat' (first|exact FamR.here|(apply FamR.cons;focus rfl))))
   simp only [bQ]
   rw [eU, eQ1 (by unfold c9;rw [decide_eq_true ‹pts[i]!.op = 4›]; rfl)]
   simp only [sl, eY, dP]
 ·have hQ := fun l hl => hQ0 v q (by omega) hq' l hl
  have eU : u = n8 ts pts i (R0.take ts.length) := cZ (by rw [eY]; omega) fun v' hv' => by
   rw [kY _ _ _ _ _ (by omega), hu v' (by omega), hfr v' (by omega), if_neg (by omega : ¬ bR pts[i]! = (v' : Int))]
   by_cases e2 : cE ts pts[i]! v' = 2
   ·rw [if_pos ⟨by omega, e2⟩, if_pos e2]
   ·rw [if_neg (fun h => e2 h.2), if_neg e2]
  have eQ0 : c9 pts[i]! = false → q = oA ts pts i R0[ts.length]! := fun h => cZ (by rw [dP, hql]) fun l hl => by
   rw [hql] at hl
   rw [mG _ _ _ _ _ hl, hQ l hl, h]
   cases hln : c9 pts[l]! with
   | false => simp
   | true => have := m7 w hl hln;rw [decide_eq_false (by omega : ¬ bR pts[i]! = pts[l]!.y)]; simp
  refine cA ((Le.frzC (j := 1) (i := 3) [] rfl rfl (by decide)).trans (Le.frzC (j := 1) (i := 4) [_] rfl rfl (by decide))) ?_
  refine aU (l := [.agg [_, _]]) rfl ?_
  refine oS ?_ trivial (by (repeat' (first|exact FamR.here|(apply FamR.cons;focus rfl))))
  simp only [bQ]
  rw [eU, eQ0 (by unfold c9;rw [decide_eq_false ‹¬ pts[i]!.op = 4›, decide_eq_false ‹¬ pts[i]!.op = 5›]; rfl)]
  simp only [sl, eY, dP]
def Df (nv N : Nat) (i : Nat) : List AV := [.imm nv (flat (wP (i * (nv + 1)) N) (List.range nv)), .own (i * (nv + 1) + nv + bZ) 0 N 1]
instance (nv N : Nat) : FlT (Df nv N) 2 := ⟨fun _ => rfl⟩
instance (nv N : Nat) : FE (Df nv N) (fun i => [.imm nv (flat (wP (i * (nv + 1)) N) (List.range nv)), .own (i * (nv + 1) + nv + bZ) 0 N 1]) := ⟨fun _ => rfl⟩
theorem oI {m : List (Nat × Nat)} {lo : Lo} {pn : Option Nat} {nv N k M : Nat} (hk : k ≤ M) (h : lo.fb = bZ + M * (nv + 1)) : RnL (jI m lo pn) (flat (Df nv N) (List.range k)) (flat (Df nv N) (List.range k)) :=
 RnL.flt fun i hi => by
  rw [List.mem_range] at hi
  have h1 : i * (nv + 1) + nv < M * (nv + 1) := gP (by omega) (by omega)
  exact .cons (.imm (dV (by rw [h]; omega))) (.cons (.own (hU (by omega) (by rw [h]; omega))) .nil)
theorem Dz {m : List (Nat × Nat)} {lo : Lo} {pn : Option Nat} {nv N k : Nat} (h : lo.fb = bZ + (k + 1) * (nv + 1)) : RnL (jI m lo pn) (flat (Df nv N) (List.range (k + 1))) (((flat (Df nv N) (List.range k)).drop 0).take (k * 2) ++ Df nv N k) := by
 have e : ((flat (Df nv N) (List.range k)).drop 0).take (k * 2) = flat (Df nv N) (List.range k) := List.take_of_length_le (by rw [List.drop_zero, aK (Df nv N) (e := 2)]; simp)
 have := oI (m := m) (pn := pn) (N := N) (Nat.le_refl (k + 1)) h
 rw [e]
 rw [List.range_succ, ← cT, lP] at this ⊢
 exact this
def IG (s : List (List Bool) × List Bool) : List AV := [sl hJ s.1, sl cB s.2]
instance : FlT IG 2 := ⟨fun _ => rfl⟩
instance : FE IG (fun s => [sl hJ s.1, sl cB s.2]) := ⟨fun _ => rfl⟩
theorem Hh {D : List Nat} {hs : List (Nat × Option (List AV))} {R : List (List Bool)} {nv N M n : Nat} (hF : FamR R R hs hs) (hD : ∀ k, k < nv + 1 → n * (nv + 1) + k + bZ ∈ D) (hlo : R.length = M * (nv + 1)) (hn : n < M) (hro : ∀ q, q < R.length → R[q]!.length = N) :
  LdL D (bU hs) (Df nv N n) [sl hJ (j8 nv R n), sl cB (kP nv R n)] := by
 have h1 : n * (nv + 1) + nv < M * (nv + 1) := gP hn (by omega)
 have h2 : (j8 nv R n).length = nv := pY hlo hn
 have h3 : (kP nv R n).length = N := hro _ (by omega)
 have e1 : sl hJ (j8 nv R n) = .imm nv (flat hJ ((R.drop (n * (nv + 1))).take nv)) := by unfold sl;rw [h2]; rfl
 have e2 : sl cB (kP nv R n) = .imm N (flat cB (kP nv R n)) := by unfold sl;rw [h3]
 rw [e1, e2]
 exact .cons (.imm (LdL.rows hF (fun k hk => hD k (by omega)) (by omega) (fun k hk => hro _ (by omega)))) (.cons (.own (hD nv (by omega)) (hF.get (by omega)) (.pur (inferInstance : Pur (flat cB _)).pf)) .nil)
def Gc (b : Nat) : List Nat := [b + 0 + bZ, b + 1 + bZ, b + 2 + bZ, b + 3 + bZ, b + 4 + bZ, b + 5 + bZ, b + 6 + bZ]
theorem wZ {b k : Nat} (h : k < 7) : b + k + bZ ∈ Gc b := by
 unfold Gc
 match k, h with
 | 0, _ => simp
 | 1, _ => simp
 | 2, _ => simp
 | 3, _ => simp
 | 4, _ => simp
 | 5, _ => simp
 | 6, _ => simp
theorem qV {nv N n k : Nat} {R : List (List Bool)} (hlo : R.length = N * (nv + 1)) (hn : n < N) (hk : k < nv + 1) : ((R.drop (n * (nv + 1))).take (nv + 1))[k]! = R[n * (nv + 1) + k]! := by
 have h1 := gP hn hk
 have h2 : n * (nv + 1) + nv < N * (nv + 1) := gP hn (by omega)
 rw [dG _ _ (by rw [List.length_take, List.length_drop]; omega), dG _ _ (by omega), List.getElem_take, List.getElem_drop]
theorem kL {nv N n : Nat} {R : List (List Bool)} (hlo : R.length = N * (nv + 1)) (hn : n < N) : ((R.drop (n * (nv + 1))).take (nv + 1)).length = nv + 1 := by
 have h2 : n * (nv + 1) + nv < N * (nv + 1) := gP hn (by omega)
 rw [List.length_take, List.length_drop]; omega
theorem Cd (ts : List Int) (pts : List Pnt) (w : WG ts pts) (i : Nat) (hi : i < pts.length) (R : List (List Bool)) (h : FSd ts pts R) :
  IZ Tryz.prog 206 [sl cI ts, sl dF pts, iv (i : Int), HA 0 ts.length pts.length] ((R.drop (i * (ts.length + 1))).take (ts.length + 1)) (.agg [sl hJ (n8 ts pts i (j8 ts.length R i)), sl cB (oA ts pts i (kP ts.length R i))]) [] := by
 have h1 := CE ts pts w i hi ((R.drop (i * (ts.length + 1))).take (ts.length + 1)) (kL h.lo hi) (fun k hk => by rw [qV h.lo hi hk]; exact h.ro _ (by rw [h.lo]; exact gP hi hk))
 rw [qV h.lo hi (by omega), List.take_take, show min ts.length (ts.length + 1) = ts.length from by omega] at h1
 exact h1
theorem BA {ts : List Int} {pts : List Pnt} (w : WG ts pts) {R : List (List Bool)} (h : FSd ts pts R) {i v : Nat} (hi : i < pts.length) (hv : v < ts.length) : (n8 ts pts i (j8 ts.length R i))[v]!.length = pts.length := by
 rw [kY _ _ _ _ _ hv]
 split
 ·exact jA _ _ _ _
 ·split
  ·simp
  ·rw [gX h.lo hi hv]; exact h.ro _ (by rw [h.lo]; exact gP hi (by omega))
theorem rQ {b : List Bool} {R : List (List Bool)} {k m : Nat} {N : Nat} {Q : Exit → AS → Prop} {all : Array Oper} {rest : List Oper} {tsl : List (Nat × AV)} {hsl : List (Nat × Option (List AV))} {nidl : Nat} {z0 : Lo} {md : Md} {d : Nat} {ty : TypeId} {pos : String} {af : Array Edge} {tys : Array TypeId} {x0 x1 : Operand} (ha0 : ev (lk tsl) x0 = some (.own (k + bZ) 0 m 1)) (ha1 : ev (lk tsl) x1 = some (sl cB b))
  (hF : FamR R R hsl hsl) (hk : k < R.length) (hm : m = R[k]!.length) (hab : b.length ≤ R[k]!.length) (hl : R[k]!.length ≤ 1000000) (hM : Nat.ble (nidl + 0) bZ = true) (hN : Nat.blt d N = true) {md' : Md} [hmd : MdA md (jH [x0, x1] ++ [.inr (k + bZ)]) [.inr (k + bZ), .inl d] md']
  (kk : RW Tryz.prog N all Q md' rest ⟨(d, .tup []) :: tsl, (k + bZ, some (flat cB (gW R[k]! b))) :: hsl, nidl + 0, z0⟩) : RW Tryz.prog N all Q md (⟨some d, .call ⟨.value (.func 202), #[x0, x1], tys⟩, ty, pos, af, none⟩ :: rest) ⟨tsl, hsl, nidl, z0⟩ :=
 x9 (a := R[k]!) (b := b) (i0 := k + bZ) ha0 ha1 (hF.get hk) (A1 R[k]! b m hm hab hl) hM hN (md' := md') (hmd := hmd) kk
theorem Dt (p : Prg) (Af Ap : List Nat) (hs : bJ p.body ≤ 1000000) (w : WG p.types (aR p)) (hAf : pE p.types (aR p) Af) (hAp : pC p.types (aR p) Ap) : PC Tryz.prog 183 [c8 p] (fun r => r = sl IG ((List.range (aR p).length).map (lF p.types.length (aR p).length Af Ap))) := by
 have hpl := w.pl
 have hp0 := w.p0
 have htl := w.tl
 (refine aQ Tryz.func183 rfl (by simp [Tryz.ntmps183]) ?_; rw [Tryz.ntmps183])
 repeat' (first|(apply aM;first|((with_reducible apply aI (k := 110));(case ha => rfl);(case h => exact kX p hs);(case hp => (exact Pur.pf));(case hN => rfl))|(apply a6;rfl;rfl;(exact (rfl:_=[_, _]));rfl;rfl;rfl)|(apply aC;rfl;rfl)|(apply aF;kernel_rfl)|(apply bW;rfl;rfl;rfl;rfl)|(apply bK;rfl;rfl;rfl;(rfl);rfl;rfl))|(apply aO;first|apply aH|apply aB|apply aJ)|with_reducible apply aA)
 refine eR (σ := Nat) 0 (fun k => List.replicate ((p.types.length + 1) * k) (List.replicate (aR p).length false)) [1, 3] [(1, _), (3, _)] [0] [(0, some _)] (fun k => [(5, iv (k : Int)), (4, .own 1 0 k 2)]) (fun k => [(1, some (flat (Df p.types.length (aR p).length) (List.range k)))]) (fun k => k ≤ (aR p).length) (fun k => (aR p).length - k) (0) (Nat.zero_le _) rfl rfl (by repeat' (first|exact trivial|refine And.intro rfl ?_)) (by repeat' (first|exact trivial|refine And.intro (.inr rfl) ?_)) (by (repeat' (first|exact FamR.here|(apply FamR.cons;focus rfl)))) (by (rfl)) ?_
 intro k hk
 try dsimp only
 repeat' (first|(apply aM;first|(with_reducible apply dR (d := 27))|(with_reducible apply dR (d := 6))|(apply aD;rfl;rfl)|(apply aL;rfl;rfl;rfl;rfl)|(apply aE;rfl;rfl;rfl)|(apply aV;rfl;rfl;rfl;rfl)|(apply a8;rfl;rfl;rfl)|(apply aF;kernel_rfl))|(apply aO;first|apply aH|apply aB|(apply aP;rfl;all_goals intro hc;have hq:=hc;(try simp only [cD] at hq);try exfalso;omega)|apply aJ|apply aS|apply bF)|with_reducible apply aA|with_reducible apply bE|with_reducible apply bD)
 ·have hrep : List.replicate ((p.types.length + 1) * k) (List.replicate (aR p).length false) ++ List.replicate (p.types.length + 1) (List.replicate (aR p).length false) = List.replicate ((p.types.length + 1) * (k + 1)) (List.replicate (aR p).length false) := by
   rw [List.replicate_append_replicate, Nat.mul_succ]
  refine gK ?_
  have hst := Ck p.types.length (aR p).length htl hpl
  apply D0 (R := List.replicate ((p.types.length + 1) * k) (List.replicate (aR p).length false)) (avs := [iv (p.types.length : Int), iv ((aR p).length : Int)]) (rr' := HA (k * (p.types.length + 1)) p.types.length (aR p).length) (h := hst)
  case ha => rfl
  case hp => rfl
  case hF => (repeat' (first|exact FamR.here|(apply FamR.cons;focus rfl)))
  case hz => rfl
  case hM => rfl
  case hN => rfl
  case hr =>
   refine .agg (.cons (.imm (rn_rows fun j hj => ?_)) (.cons (.own ?_) .nil))
   ·rw [if_pos (by rw [List.length_replicate]; omega)]; congr 1;rw [List.length_replicate, Nat.mul_comm]; omega
   ·rw [if_pos (by rw [List.length_replicate]; omega)]; congr 1;rw [List.length_replicate, Nat.mul_comm]; omega
  rw [hrep]
  repeat' (first|(apply aM;first|(apply aD;rfl;rfl)|(apply bO;rfl;rfl;omega;rfl)|(apply aC;rfl;rfl)|(apply bV;rfl;rfl;rfl;rfl;rfl;(case hl => (simp [aK]; done));(rfl);omega;omega;(rfl);rfl;rfl)|(apply aF;kernel_rfl)|(apply bK;rfl;rfl;rfl;(exact (rfl:_=some [_, _]));rfl;rfl))|(apply aO;(apply aB))|with_reducible apply aA|with_reducible apply aT)
  (apply c6 (k + 1);focus (refine Le.renF0 [(0, 0), (1, 3)] (R := ?qA1) (hF := ?qF1) (hz := ?qz1) (hm := ?qm1) (hn := ?qn1) (h1 := ?q11) (h2 := ?q21);(case qF1 => (repeat' (first|exact FamR.here|(apply FamR.cons;focus rfl))));(case qz1 => (rfl));(case qm1 => rfl);(case qn1 => decide);all_goals (repeat' (first|exact trivial|refine And.intro ⟨_, rfl, ?_⟩ ?_|refine And.intro ⟨_, _, rfl, rfl, ?_⟩ ?_|exact RnL.purI inferInstance|exact RnV.purI inferInstance|exact RnV.own rfl|exact RnV.optr rfl|exact Dz (by show bZ + (List.replicate ((p.types.length + 1) * (k + 1)) (List.replicate (aR p).length false)).length = _; rw [List.length_replicate, Nat.mul_comm])))))
  ·show k + 1 ≤ (aR p).length;omega
  ·show (aR p).length - (k + 1) < (aR p).length - k;omega
 ·have hkN : k = (aR p).length := by omega
  subst hkN
  refine gK (fN ?_ (Le.frzD (d := 4) (i := 1) rfl rfl))
  rw [Nat.mul_comm]
  repeat' (first|(apply aM;first|(apply aC;rfl;rfl)|(apply aF;kernel_rfl))|(apply aO;first|apply aH|apply aJ)|with_reducible apply aA)
  refine eR (σ := List (List Bool) × Bool) 0 (fun s => s.1) [1, 3, 4] [(1, _), (3, _), (4, _)] [0] [(0, some _)] (fun s => [(6, bv s.2)]) (fun s => []) (fun s => FH p.types (aR p) s.1 s.2) (fun s => I9 p.types (aR p) s.1 s.2) (List.replicate ((aR p).length * (p.types.length + 1)) (List.replicate (aR p).length false), true) (FH.init _ _) rfl rfl (by repeat' (first|exact trivial|refine And.intro rfl ?_)) (by repeat' (exact trivial)) (by (repeat' (first|exact FamR.here|(apply FamR.cons;focus rfl)))) (by (rfl)) ?_
  rintro ⟨R, c⟩ hFH
  try dsimp only at hFH
  try dsimp only
  have hRl := hFH.d.lo
  have hRr := hFH.d.ro
  cases c with
  | false =>
   repeat' (first|(apply aM;first|(apply aD;rfl;rfl)|(apply aC;rfl;rfl)|(apply aF;kernel_rfl))|(apply aO;first|apply aH|apply aB|(apply cF;rfl;(rfl))|apply bF|apply aW)|with_reducible apply aA|with_reducible apply bE|with_reducible apply bD)
   have hfin := hFH.final w hAf hAp
   refine cA (Le.frzAll (d := 2) (D := (List.range R.length).map fun k => k + bZ) rfl (.imm (LdL.flt fun n hn => Hh (R := R) (M := (aR p).length) (by (repeat' (first|exact FamR.here|(apply FamR.cons;focus rfl)))) (fun k hk => List.mem_map.2 ⟨n * (p.types.length + 1) + k, by rw [List.mem_range, hRl]; exact gP (List.mem_range.1 hn) hk, rfl⟩) hRl (List.mem_range.1 hn) hRr))) ?_
   refine aU rfl ⟨?_, (by (exact aX _ _))⟩
   simp only [bQ]
   have e1 : (List.range (aR p).length).map (fun n => (j8 p.types.length R n, kP p.types.length R n)) = (List.range (aR p).length).map (lF p.types.length (aR p).length Af Ap) := List.map_congr_left fun n hn => by
    have := hfin n (List.mem_range.1 hn)
    rw [this.1, this.2]
   have e2 : flat (fun n => [sl hJ (j8 p.types.length R n), sl cB (kP p.types.length R n)]) (List.range (aR p).length) = flat IG ((List.range (aR p).length).map (lF p.types.length (aR p).length Af Ap)) := by
    rw [← e1, flat, flat, List.flatMap_map]; rfl
   rw [e2]
   simp only [sl, List.length_map, List.length_range]
  | true =>
   have hst := hFH.start
   repeat' (first|(apply aM;first|(apply aD;rfl;rfl)|(apply aC;rfl;rfl)|(apply aF;kernel_rfl))|(apply aO;first|apply aH|apply aB|(apply bX;rfl;(rfl))|apply aJ|apply aS)|with_reducible apply aA)
   refine eR (σ := Nat × List (List Bool) × Bool) 0 (fun s => s.2.1) [1, 3, 4] [(1, _), (3, _), (4, _)] [0] [(0, some _)] (fun s => [(6, bv s.2.2), (7, iv (s.1 : Int))]) (fun s => []) (fun s => s.1 ≤ (aR p).length ∧ FS p.types (aR p) R s.2.1 s.2.2 (DF s.1 0)) (fun s => (aR p).length - s.1) (0, R, false) ⟨Nat.zero_le _, hst⟩ rfl rfl (by repeat' (first|exact trivial|refine And.intro rfl ?_)) (by repeat' (exact trivial)) (by (repeat' (first|exact FamR.here|(apply FamR.cons;focus rfl)))) (by (rfl)) ?_
   rintro ⟨j, R1, c1⟩ ⟨hj, hS1⟩
   dsimp only at hj hS1
   have hl1 := hS1.d.lo
   try dsimp only
   by_cases hjn : j < (aR p).length
   ·have hnl := w.nl j hjn
    repeat' (first|(apply aM;first|((apply yI (k := 206) (R := R1) (avs0 := [sl cI p.types, sl dF (aR p), iv (j : Int), HA 0 p.types.length (aR p).length]) (b := j * (p.types.length + 1)) (n1 := 0) (D := Gc (j * (p.types.length + 1))) (ws := []) (h := Cd p.types (aR p) w j hjn R1 hS1.d) (rr' := .agg [sl hJ (n8 p.types (aR p) j (j8 p.types.length R1 j)), sl cB (oA p.types (aR p) j (kP p.types.length R1 j))]));(case ha => rfl);(case hF => (repeat' (first|exact FamR.here|(apply FamR.cons;focus rfl))));(case hb => (rw [kL hl1 hjn]; have := gP (v := p.types.length) hjn (Nat.lt_succ_self _);omega));(case hR => exact fun k hk => qV hl1 hjn (by rwa [kL hl1 hjn] at hk));(case hD => exact fun k hk => wZ (by rw [kL hl1 hjn] at hk;omega));(case har => exact .cons (RnV.purI inferInstance) (.cons (RnV.purI inferInstance) (.cons (RnV.purI inferInstance) (.cons (.agg (.cons (.imm (rn_rows fun k hk => (by rw [Nat.zero_add, mJ (by rw [kL hl1 hjn]; omega)]))) (.cons (.own (by rw [Nat.zero_add, mJ (by rw [kL hl1 hjn]; omega)])) .nil))) .nil))));(case hk => rfl);(case hr => exact RnV.purI inferInstance);(case hw => exact trivial);(case hM|hN => rfl))|(apply aD;rfl;rfl)|(first|(apply aL;rfl;rfl;rfl;rfl)|(apply a6;rfl;rfl;(exact (rfl:_=[_, _]));rfl;rfl;rfl))|(apply aE;rfl;rfl;rfl)|(apply aV;rfl;rfl;rfl;rfl)|(apply aC;rfl;rfl)|(apply nC;rfl;rfl;(assumption);rfl;infer_instance;infer_instance;rfl)|(apply a8;rfl;rfl;rfl)|(apply aF;kernel_rfl)|(apply bT;rfl;rfl)|(apply a7;rfl;rfl;rfl;rfl;rfl;(case hl => (simp;done));(exact (rfl:_=[_, _]))))|(apply aO;first|apply aH|apply aB|(apply b9;kernel_rfl)|(apply aP;rfl;all_goals intro hc;have hq:=hc;(try simp only [cD] at hq);try exfalso;omega)|apply aJ|apply aS)|with_reducible apply aA)
    refine eR (σ := Nat × List (List Bool) × Bool) 0 (fun s => s.2.1) [1, 3, 4, 7, 8] [(1, _), (3, _), (4, _), (7, _), (8, _)] [0, 2] [(0, some _), (2, some _)] (fun s => [(6, bv s.2.2), (9, iv (s.1 : Int))]) (fun s => []) (fun s => s.1 ≤ (aR p)[j]!.next.length ∧ FS p.types (aR p) R s.2.1 s.2.2 (DF j s.1) ∧ (s.2.2 = false → s.2.1 = R1)) (fun s => (aR p)[j]!.next.length - s.1) (0, R1, c1) ⟨Nat.zero_le _, hS1, fun _ => rfl⟩ rfl rfl (by repeat' (first|exact trivial|refine And.intro rfl ?_)) (by repeat' (exact trivial)) (by (repeat' (first|exact FamR.here|(apply FamR.cons;focus rfl)))) (by (rfl)) ?_
    rintro ⟨kk, R2, c2⟩ ⟨hk, hS2, hc2⟩
    dsimp only at hk hS2 hc2
    have hl2 := hS2.d.lo
    have hr2 := hS2.d.ro
    try dsimp only
    by_cases hkn : kk < (aR p)[j]!.next.length
    ·have hnx := w.nx j hjn _ (dD _ _ hkn)
     have hnn : ((aR p)[j]!.next[kk]!).toNat < (aR p).length := by omega
     have hix : ((aR p)[j]!.next[kk]!).toNat * (p.types.length + 1) + p.types.length < R2.length := by rw [hl2]; exact gP hnn (by omega)
     have hrix := hr2 _ hix
     have hqa := dP p.types (aR p) j (kP p.types.length R1 j)
     have hw1 := z9 (n8 p.types (aR p) j (j8 p.types.length R1 j)) (j8 p.types.length R2 ((aR p)[j]!.next[kk]!).toNat) (oA p.types (aR p) j (kP p.types.length R1 j)) (kP p.types.length R2 ((aR p)[j]!.next[kk]!).toNat) (by rw [dP]; exact hpl) (by rw [eY]; exact htl)
      (by rw [dP]; exact hr2 _ (by rw [hl2]; exact gP hnn (by omega))) (by rw [eY]; exact pY hl2 hnn) (fun v hv => by rw [eY] at hv;rw [dP]; exact BA w hS1.d hjn hv) (fun v hv => by rw [eY] at hv;rw [dP, gX hl2 hnn hv]; exact hr2 _ (by rw [hl2]; exact gP hnn (by omega)))
     repeat' (first|(apply aM;first|((with_reducible apply EF (k := 207) (D := Gc (((aR p)[j]!.next[kk]!).toNat * (p.types.length + 1))) (h := hw1));(case ha => rfl);(case hl => exact .cons (.pur (PurV.pf)) (.cons (.agg (Hh (R := R2) (M := (aR p).length) (by (repeat' (first|exact FamR.here|(apply FamR.cons;focus rfl)))) (fun k hk => wZ (by omega)) hl2 hnn hr2)) .nil));(case hfr|hN => rfl))|(apply rQ;rfl;rfl;(case hF => (repeat' (first|exact FamR.here|(apply FamR.cons;focus rfl))));omega;omega;omega;omega;rfl;rfl)|(with_reducible apply dR (d := 11))|(apply aD;rfl;rfl)|(first|(apply aL;rfl;rfl;rfl;rfl)|(apply a6;rfl;rfl;(exact (rfl:_=[_, _]));rfl;rfl;rfl))|(apply aE;rfl;rfl;rfl)|(first|(apply bO;rfl;rfl;omega;rfl)|(apply aV;rfl;rfl;rfl;rfl))|(apply aC;rfl;rfl)|(first|(apply jY;rfl;rfl;(assumption);rfl;infer_instance;infer_instance;rfl)|(apply bB;(case hx|hi => rfl);(case hm => (assumption));(case hml => (rfl));(case hα | hf|hg => infer_instance);(case hN => rfl)))|(apply a8;rfl;rfl;rfl)|(apply aF;kernel_rfl)|(apply cK;rfl;rfl))|(apply aO;first|apply aH|apply aB|(apply b9;kernel_rfl)|(apply aP;rfl;all_goals intro hc;have hq:=hc;(try simp only [cD] at hq);try exfalso;omega)|apply aJ|apply aS)|with_reducible apply aA|with_reducible apply aT)
     ·refine gK ?_
      apply fN
      case k =>
       apply Le.fset (R := R2) (hk := hix)
       (repeat' (first|exact FamR.here|(apply FamR.cons;focus rfl)))
      rw [E7 hix]
      repeat' (first|(apply aM;first|(apply aC;rfl;rfl)|(apply aF;kernel_rfl))|(apply aO;(apply aJ))|with_reducible apply aA)
      refine eR (σ := Nat) 0 (fun v => yH R2 (((aR p)[j]!.next[kk]!).toNat * (p.types.length + 1)) p.types.length (n8 p.types (aR p) j (j8 p.types.length R1 j)) (oA p.types (aR p) j (kP p.types.length R1 j)) v) [1, 3, 4, 7, 8, 9, 10] [(1, _), (3, _), (4, _), (7, _), (8, _), (9, _), (10, _)] [0, 2] [(0, some _), (2, some _)] (fun v => [(11, iv (v : Int))]) (fun v => []) (fun v => v ≤ p.types.length) (fun v => p.types.length - v) (0) (Nat.zero_le _) rfl rfl (by repeat' (first|exact trivial|refine And.intro rfl ?_)) (by repeat' (exact trivial)) (by (repeat' (first|exact FamR.here|(apply FamR.cons;focus rfl)))) (by (simp only [fR])) ?_
      intro v hv
      try dsimp only
      have hjl := fR R2 (((aR p)[j]!.next[kk]!).toNat * (p.types.length + 1)) p.types.length (n8 p.types (aR p) j (j8 p.types.length R1 j)) (oA p.types (aR p) j (kP p.types.length R1 j)) v
      have hal := eY p.types (aR p) j (j8 p.types.length R1 j)
      by_cases hvn : v < p.types.length
      ·have hav := BA w hS1.d hjn hvn
       have hjr : (yH R2 (((aR p)[j]!.next[kk]!).toNat * (p.types.length + 1)) p.types.length (n8 p.types (aR p) j (j8 p.types.length R1 j)) (oA p.types (aR p) j (kP p.types.length R1 j)) v)[((aR p)[j]!.next[kk]!).toNat * (p.types.length + 1) + v]!.length = (aR p).length := by
        rw [gJ _ _ _ _ _ _ _ (by omega), if_neg (by omega), if_neg (by omega)]; exact hr2 _ (by omega)
       repeat' (first|(apply aM;first|(apply rQ;rfl;rfl;(case hF => (repeat' (first|exact FamR.here|(apply FamR.cons;focus rfl))));omega;omega;omega;omega;rfl;rfl)|(with_reducible apply dR (d := 84))|(apply aD;rfl;rfl)|(apply aL;rfl;rfl;rfl;rfl)|(apply aE;rfl;rfl;rfl)|(apply aV;rfl;rfl;rfl;rfl)|(first|(apply nC;rfl;rfl;(assumption);rfl;infer_instance;infer_instance;rfl)|(apply jY;rfl;rfl;(assumption);rfl;infer_instance;infer_instance;rfl)|(apply bB;(case hx|hi => rfl);(case hm => (omega));(case hml => (rfl));(case hα | hf|hg => infer_instance);(case hN => rfl)))|(apply a8;rfl;rfl;rfl)|(apply aF;kernel_rfl))|(apply aO;first|apply aH|apply aB|(apply b9;kernel_rfl)|(apply aP;rfl;all_goals intro hc;have hq:=hc;(try simp only [cD] at hq);try exfalso;omega)|apply aJ|apply aS)|with_reducible apply aA|with_reducible apply aT)
       refine gK ?_
       apply fN
       case k =>
        apply Le.fset (R := yH R2 (((aR p)[j]!.next[kk]!).toNat * (p.types.length + 1)) p.types.length (n8 p.types (aR p) j (j8 p.types.length R1 j)) (oA p.types (aR p) j (kP p.types.length R1 j)) v) (hk := (by omega))
        (repeat' (first|exact FamR.here|(apply FamR.cons;focus rfl)))
       rw [ET hix hvn]
       repeat' (first|(apply aM;first|(apply aD;rfl;rfl)|(apply bO;rfl;rfl;omega;rfl)|(apply aC;rfl;rfl)|(apply aF;kernel_rfl))|with_reducible apply aA)
       (apply c6 (v + 1);focus (refine Le.renF0 [(0, 0), (2, 2)] (R := ?qA2) (hF := ?qF2) (hz := ?qz2) (hm := ?qm2) (hn := ?qn2) (h1 := ?q12) (h2 := ?q22);(case qF2 => (repeat' (first|exact FamR.here|(apply FamR.cons;focus rfl))));(case qz2 => (simp only [fR]));(case qm2 => rfl);(case qn2 => decide);all_goals (repeat' (first|exact trivial|refine And.intro ⟨_, rfl, ?_⟩ ?_|refine And.intro ⟨_, _, rfl, rfl, ?_⟩ ?_|exact RnL.purI inferInstance|exact RnV.purI inferInstance|exact RnV.optr rfl|exact RnV.imm (oI (M := (aR p).length) (Nat.le_refl _) (by show bZ + (yH _ _ _ _ _ _).length = _; rw [fR, hl2]))))))
       ·show v + 1 ≤ p.types.length;omega
       ·show p.types.length - (v + 1) < p.types.length - v;omega
      ·repeat' (first | (apply aM; first | (apply aD;rfl;rfl) | (apply aL;rfl;rfl;rfl;rfl) | (apply aE;rfl;rfl;rfl) | (first | (apply bO;rfl;rfl;omega;rfl) | (apply aV;rfl;rfl;rfl;rfl)) | (apply aC;rfl;rfl) | (apply a8;rfl;rfl;rfl) | (apply aF;kernel_rfl)) | (apply aO; first | apply aH | apply aB | (apply aP;rfl;all_goals intro hc;have hq:=hc;(try simp only [cD] at hq);try exfalso;omega) | apply bF) | with_reducible apply aA | with_reducible apply bE | with_reducible apply aT | with_reducible apply bD)
       have hvN : v = p.types.length := by omega
       subst hvN
       have hw3 : BV (n8 p.types (aR p) j (j8 p.types.length R1 j)) (j8 p.types.length R2 ((aR p)[j]!.next[kk]!).toNat) (oA p.types (aR p) j (kP p.types.length R1 j)) (kP p.types.length R2 ((aR p)[j]!.next[kk]!).toNat) = false := by assumption
       (apply c6 (kk + 1, _, true);focus (refine Le.renF0 [(0, 0), (2, 2)] (R := ?qA3) (hF := ?qF3) (hz := ?qz3) (hm := ?qm3) (hn := ?qn3) (h1 := ?q13) (h2 := ?q23);(case qF3 => (repeat' (first|exact FamR.here|(apply FamR.cons;focus rfl))));(case qz3 => (rfl));(case qm3 => rfl);(case qn3 => decide);all_goals (repeat' (first|exact trivial|refine And.intro ⟨_, rfl, ?_⟩ ?_|refine And.intro ⟨_, _, rfl, rfl, ?_⟩ ?_|exact RnL.purI inferInstance|exact RnV.purI inferInstance|exact RnV.optr rfl|exact RnV.imm (oI (M := (aR p).length) (Nat.le_refl _) (by show bZ + (yH _ _ _ _ _ _).length = _; rw [fR, hl2]))))))
       ·exact ⟨(by show kk + 1 ≤ (aR p)[j]!.next.length;omega), hS2.hit w (DF j (kk + 1)) hS1.d hjn hkn hw3, fun h => (by cases h)⟩
       ·show (aR p)[j]!.next.length - (kk + 1) < (aR p)[j]!.next.length - kk;omega
     ·(apply c6 (kk + 1, R2, c2); focus (refine Le.renF0 [(0, 0), (2, 2)] (R := ?qA4) (hF := ?qF4) (hz := ?qz4) (hm := ?qm4) (hn := ?qn4) (h1 := ?q14) (h2 := ?q24); (case qF4 => (repeat' (first | exact FamR.here | (apply FamR.cons; focus rfl)))); (case qz4 => (rfl)); (case qm4 => rfl); (case qn4 => decide); all_goals (repeat' (first | exact trivial | refine And.intro ⟨_, rfl, ?_⟩ ?_ | refine And.intro ⟨_, _, rfl, rfl, ?_⟩ ?_ | exact RnL.purI inferInstance | exact RnV.purI inferInstance | exact RnV.optr rfl | exact RnV.imm (oI (M := (aR p).length) (Nat.le_refl _) (by show bZ + R2.length = _; rw [hl2]))))))
      ·refine ⟨(by show kk + 1 ≤ (aR p)[j]!.next.length;omega), hS2.skip (i := j) (k := kk) hc2 (by assumption) (fun i' k' _ _ hd => by unfold DF at hd ⊢; omega), hc2⟩
      ·show (aR p)[j]!.next.length - (kk + 1) < (aR p)[j]!.next.length - kk;omega
    ·repeat' (first | (apply aM; first | (apply aD;rfl;rfl) | (apply aL;rfl;rfl;rfl;rfl) | (apply aE;rfl;rfl;rfl) | (first | (apply bO;rfl;rfl;omega;rfl) | (apply aV;rfl;rfl;rfl;rfl)) | (apply aC;rfl;rfl) | (apply bB; (case hx | hi => rfl); (case hm => (assumption)); (case hml => (rfl)); (case hα | hf | hg => infer_instance); (case hN => rfl)) | (apply a8;rfl;rfl;rfl) | (apply aF;kernel_rfl)) | (apply aO; first | apply aH | apply aB | (apply aP;rfl;all_goals intro hc;have hq:=hc;(try simp only [cD] at hq);try exfalso;omega) | apply bF) | with_reducible apply aA | with_reducible apply bE | with_reducible apply aT | with_reducible apply bD)
     (apply c6 (j + 1, R2, c2);focus (refine Le.renF0 [(0, 0)] (R := ?qA5) (hF := ?qF5) (hz := ?qz5) (hm := ?qm5) (hn := ?qn5) (h1 := ?q15) (h2 := ?q25);(case qF5 => (repeat' (first|exact FamR.here|(apply FamR.cons;focus rfl))));(case qz5 => (rfl));(case qm5 => rfl);(case qn5 => decide);all_goals (repeat' (first|exact trivial|refine And.intro ⟨_, rfl, ?_⟩ ?_|refine And.intro ⟨_, _, rfl, rfl, ?_⟩ ?_|exact RnL.purI inferInstance|exact RnV.purI inferInstance|exact RnV.optr rfl|exact RnV.imm (oI (M := (aR p).length) (Nat.le_refl _) (by show bZ + R2.length = _; rw [hl2]))))))
     ·refine ⟨(by show j + 1 ≤ (aR p).length; omega), hS2.mono fun i' k' _ hk' hd => ?_⟩
      unfold DF at hd ⊢
      by_cases e : i' = j
      ·subst e;omega
      ·omega
     ·show (aR p).length - (j + 1) < (aR p).length - j;omega
   ·repeat' (first | (apply aM; first | (apply aD;rfl;rfl) | (apply aV;rfl;rfl;rfl;rfl) | (apply a8;rfl;rfl;rfl) | (apply aF;kernel_rfl)) | (apply aO; first | apply aH | apply aB | (apply aP;rfl;all_goals intro hc;have hq:=hc;(try simp only [cD] at hq);try exfalso;omega) | apply bF) | with_reducible apply aA | with_reducible apply bE | with_reducible apply aT | with_reducible apply bD)
    (apply c6 (R1, c1);focus (refine Le.renF0 [(0, 0)] (R := ?qA6) (hF := ?qF6) (hz := ?qz6) (hm := ?qm6) (hn := ?qn6) (h1 := ?q16) (h2 := ?q26);(case qF6 => (repeat' (first|exact FamR.here|(apply FamR.cons;focus rfl))));(case qz6 => (rfl));(case qm6 => rfl);(case qn6 => decide);all_goals (repeat' (first|exact trivial|refine And.intro ⟨_, rfl, ?_⟩ ?_|refine And.intro ⟨_, _, rfl, rfl, ?_⟩ ?_|exact RnL.purI inferInstance|exact RnV.purI inferInstance|exact RnV.optr rfl|exact RnV.imm (oI (M := (aR p).length) (Nat.le_refl _) (by show bZ + R1.length = _; rw [hl1]))))))
    ·exact (hS1.fin (by omega)).1
    ·exact (hS1.fin (by omega)).2
instance (s : List (List Bool) × List Bool) : Pur (IG s) := ⟨by show ((sl hJ s.1).pur && ((sl cB s.2).pur && true)) = true; rw [aX, aX]; rfl⟩
def HM (ts : List Int) (pts : List Pnt) (Aa : List Nat) (i k : Nat) : List Iss := ((List.range k).filter (Dh ts pts Aa i)).map (fun (v : Nat) => ⟨i, 1, v⟩)
def Ir (pts : List Pnt) (cf : List Bool) (i k : Nat) : List Iss := ((List.range k).filter (fun (l : Nat) => cf[l]!)).map (fun (l : Nat) => ⟨i, Ie pts l, l⟩)
theorem FQ {ts : List Int} {pts : List Pnt} {Aa : List Nat} {i k : Nat} (h : Dh ts pts Aa i k = true) : HM ts pts Aa i (k + 1) = HM ts pts Aa i k ++ [⟨i, 1, k⟩] := by
 unfold HM;rw [iU, if_pos h, List.map_append]; rfl
theorem yW {ts : List Int} {pts : List Pnt} {Aa : List Nat} {i k : Nat} (h : Dh ts pts Aa i k = false) : HM ts pts Aa i (k + 1) = HM ts pts Aa i k := by
 unfold HM;rw [iU, if_neg (by rw [h]; decide), List.append_nil]
theorem Bu {pts : List Pnt} {cf : List Bool} {i k : Nat} (h : cf[k]! = true) : Ir pts cf i (k + 1) = Ir pts cf i k ++ [⟨i, Ie pts k, k⟩] := by
 unfold Ir;rw [iU, if_pos h, List.map_append]; rfl
theorem DZ {pts : List Pnt} {cf : List Bool} {i k : Nat} (h : cf[k]! = false) : Ir pts cf i (k + 1) = Ir pts cf i k := by
 unfold Ir;rw [iU, if_neg (by rw [h]; decide), List.append_nil]
theorem CT (p : Prg) (f : Flows p.types (aR p)) (hs : bJ p.body ≤ 1000000) (w : WG p.types (aR p)) (hr : Rch (aR p)) : PC Tryz.prog 149 [c8 p, sl hJ (eG p.types.length (aR p).length f.Al)] (fun r => r = sl kW f.iss) := by
 have hpl := w.pl
 have hp0 := w.p0
 have htl := w.tl
 have hfa := lJ p true f.Aa hs w hr (by unfold oM;exact f.ga)
 have hfm := lJ p false f.Am hs w hr (by unfold oM;exact f.gm)
 have hfl := Dt p f.Af f.Ap hs w f.gf f.gp
 have hra := gB p.types.length (aR p).length f.Aa
 have hrm := gB p.types.length (aR p).length f.Am
 have hrl := gB p.types.length (aR p).length f.Al
 have hfll : ((List.range (aR p).length).map (lF p.types.length (aR p).length f.Af f.Ap)).length = (aR p).length := by simp
 (refine aQ Tryz.func149 rfl (by simp [Tryz.ntmps149]) ?_; rw [Tryz.ntmps149])
 repeat' (first|(apply aM;first|((with_reducible apply aI (k := 110));(case ha => rfl);(case h => exact kX p hs);(case hp => (exact Pur.pf));(case hN => rfl))|((with_reducible apply aI (k := 60) (d := 20));(case ha => rfl);(case h => exact hfa);(case hp => (exact Pur.pf));(case hN => rfl))|((with_reducible apply aI (k := 60) (d := 22));(case ha => rfl);(case h => exact hfm);(case hp => (exact Pur.pf));(case hN => rfl))|((with_reducible apply aI (k := 183));(case ha => rfl);(case h => exact hfl);(case hp => (exact Pur.pf));(case hN => rfl))|(apply a6;rfl;rfl;(exact (rfl:_=[_, _]));rfl;rfl;rfl)|(apply aC;rfl;rfl)|(apply aF;kernel_rfl)|(apply bW;rfl;rfl;rfl;rfl)|(apply bK;rfl;rfl;rfl;(rfl);rfl;rfl))|(apply aO;first|apply aH|apply aB|apply aJ)|with_reducible apply aA)
 refine bG (σ := Nat × List Iss × Nat) [1, 2, 6, 7, 8, 9] [(1, _), (2, _), (6, _), (7, _), (8, _), (9, _)] [0] [(0, some _)] (fun s => [(10, iv (s.1 : Int)), (5, .own 1 0 s.2.2 3)]) (fun s => [(1, some (flat kW s.2.1))]) (fun s => s.1 ≤ (aR p).length ∧ s.2.1 = yJ p.types (aR p) f.Aa f.Am f.Al f.Af f.Ap s.1 ∧ s.2.2 = s.2.1.length ∧ s.2.2 ≤ 67 * s.1) (fun s => (aR p).length - s.1) (0, [], 0) ⟨Nat.zero_le _, rfl, rfl, Nat.le_refl _⟩ rfl rfl (by repeat' (first|exact trivial|refine And.intro rfl ?_)) (by repeat' (first|exact trivial|refine And.intro (.inr rfl) ?_)) ?_
 rintro ⟨i, L, m⟩ ⟨hi, hL, hm, hmb⟩
 dsimp only at hi hL hm hmb
 try dsimp only
 by_cases hin : i < (aR p).length
 ·repeat' (first | (apply aM; first | (apply aD;rfl;rfl) | (apply aV;rfl;rfl;rfl;rfl) | (apply aC;rfl;rfl) | (apply a8;rfl;rfl;rfl) | (apply aF;kernel_rfl)) | (apply aO; first | apply aH | apply aB | (apply aP;rfl;all_goals intro hc;have hq:=hc;(try simp only [cD] at hq);try exfalso;omega) | apply aJ | apply aS) | with_reducible apply aA)
  refine bG (σ := Nat × List Iss × Nat) [1, 2, 6, 7, 8, 9, 10] [(1, _), (2, _), (6, _), (7, _), (8, _), (9, _), (10, _)] [0] [(0, some _)] (fun s => [(11, iv (s.1 : Int)), (5, .own 1 0 s.2.2 3)]) (fun s => [(1, some (flat kW s.2.1))]) (fun s => s.1 ≤ p.types.length ∧ s.2.1 = L ++ HM p.types (aR p) f.Aa i s.1 ∧ s.2.2 = s.2.1.length ∧ s.2.2 ≤ 67 * i + s.1) (fun s => p.types.length - s.1) (0, L, m) ⟨Nat.zero_le _, (List.append_nil L).symm, hm, hmb⟩ rfl rfl (by repeat' (first|exact trivial|refine And.intro rfl ?_)) (by repeat' (first|exact trivial|refine And.intro (.inr rfl) ?_)) ?_
  rintro ⟨v, L2, m2⟩ ⟨hv, hL2, hm2, hmb2⟩
  dsimp only at hv hL2 hm2 hmb2
  try dsimp only
  by_cases hvn : v < p.types.length
  ·have hga := kO p.types.length (aR p).length f.Aa i v hin hvn
   have hgl : (eG p.types.length (aR p).length f.Aa)[i]!.length = p.types.length := by rw [gD _ _ _ _ hin]; simp
   repeat' (first|(apply aM;first|(apply aD;rfl;rfl)|(first|(apply aL;rfl;rfl;rfl;rfl)|(apply a6;rfl;rfl;(exact (rfl:_=[_, _, _, _, _]));rfl;rfl;rfl))|(apply aE;rfl;rfl;rfl)|(first|(apply a9;rfl;rfl;rfl;(assumption))|(apply aZ;rfl;rfl;rfl;(assumption))|(apply bC;(case hj|hb|hN => rfl);all_goals (intro hg;have hq := hg;(try simp only [cD] at hq);(try (exfalso;omega)))))|(first|(apply bO;rfl;rfl;omega;rfl)|(apply aV;rfl;rfl;rfl;rfl))|(apply aC;rfl;rfl)|(first|(apply bI;rfl;(assumption);rfl;rfl)|(apply bH;rfl;(assumption);rfl;rfl))|(apply bB;(case hx|hi => rfl);(case hm => (first|assumption|omega));(case hml => (rfl));(case hα | hf|hg => infer_instance);(case hN => rfl))|((with_reducible apply aI (k := 136));(case ha => rfl);(case h => (apply mL <;> (omega)));(case hp => (exact Pur.pf));(case hN => rfl))|(first|(apply a8;rfl;rfl;rfl)|(apply bV;rfl;rfl;rfl;rfl;rfl;(rw [aK]; omega);(rfl);omega;omega;(exact pQ (by (assumption)));rfl;rfl))|(apply aF;kernel_rfl)|(apply b8;rfl;(exact (rfl:_=some [_, _, _]));(exact (rfl:_=[_, _, _]));rfl)|(apply cK;rfl;rfl)|(apply bK;rfl;rfl;rfl;(exact (rfl:_=some [_, _, _]));rfl;rfl))|(apply aO;first|apply aH|apply aB|(apply b9;kernel_rfl)|(apply cF;rfl;(rfl))|(apply aP;rfl;all_goals intro hc;have hq:=hc;(try simp only [cD] at hq);try exfalso;omega)|apply aJ|apply aS)|with_reducible apply aA|with_reducible apply aT)
   ·(apply c6 (v + 1, L2 ++ [⟨i, 1, v⟩], m2 + 1); focus (refine Le.ren [(0, 0), (1, 3)] rfl (by decide) ?_ ?_ <;> repeat' (first | exact trivial | refine And.intro ⟨_, rfl, ?_⟩ ?_ | refine And.intro ⟨_, _, rfl, rfl, ?_⟩ ?_ | exact Or.inr rfl | refine Or.inl ⟨?_, (by first | rfl | exact aX _ _ | exact Pur.pf)⟩ | rfl)))
    ·have hu : Dh p.types (aR p) f.Aa i v = true := by
      unfold Dh;rw [← hga, decide_eq_false (by assumption), (by assumption : (eG p.types.length (aR p).length f.Aa)[i]![v]! = false)]; rfl
     exact ⟨(by show v + 1 ≤ p.types.length;omega), (by show L2 ++ [⟨i, 1, v⟩] = _; rw [hL2, List.append_assoc, ← FQ hu]), (by show m2 + 1 = (L2 ++ [_]).length;rw [List.length_append, List.length_singleton, hm2]), (by show m2 + 1 ≤ 67 * i + (v + 1);omega)⟩
    ·show p.types.length - (v + 1) < p.types.length - v;omega
   ·(apply c6 (v + 1, L2, m2); focus (refine Le.ren [(0, 0), (1, 1)] rfl (by decide) ?_ ?_ <;> repeat' (first | exact trivial | refine And.intro ⟨_, rfl, ?_⟩ ?_ | refine And.intro ⟨_, _, rfl, rfl, ?_⟩ ?_ | exact Or.inr rfl | refine Or.inl ⟨?_, (by first | rfl | exact aX _ _ | exact Pur.pf)⟩ | rfl)))
    ·have hu : Dh p.types (aR p) f.Aa i v = false := by
      unfold Dh;rw [← hga, (by assumption : (eG p.types.length (aR p).length f.Aa)[i]![v]! = true)]; simp
     exact ⟨(by show v + 1 ≤ p.types.length;omega), (by show L2 = _; rw [yW hu]; exact hL2), hm2, (by show m2 ≤ 67 * i + (v + 1);omega)⟩
    ·show p.types.length - (v + 1) < p.types.length - v;omega
   ·(apply c6 (v + 1, L2, m2); focus (refine Le.ren [(0, 0), (1, 1)] rfl (by decide) ?_ ?_ <;> repeat' (first | exact trivial | refine And.intro ⟨_, rfl, ?_⟩ ?_ | refine And.intro ⟨_, _, rfl, rfl, ?_⟩ ?_ | exact Or.inr rfl | refine Or.inl ⟨?_, (by first | rfl | exact aX _ _ | exact Pur.pf)⟩ | rfl)))
    ·have hu : Dh p.types (aR p) f.Aa i v = false := by
      unfold Dh;rw [decide_eq_true (by assumption)]; rfl
     exact ⟨(by show v + 1 ≤ p.types.length;omega), (by show L2 = _; rw [yW hu]; exact hL2), hm2, (by show m2 ≤ 67 * i + (v + 1);omega)⟩
    ·show p.types.length - (v + 1) < p.types.length - v;omega
  ·have hvN : v = p.types.length := by omega
   have hset := w.set i hin
   have hy := w.y i hin
   have hfi : ((List.range (aR p).length).map (lF p.types.length (aR p).length f.Af f.Ap))[i]! = lF p.types.length (aR p).length f.Af f.Ap i := cV _ _ _ hin
   have hgm : (eG p.types.length (aR p).length f.Am)[i]!.length = p.types.length := by rw [gD _ _ _ _ hin]; simp
   have hgl : (eG p.types.length (aR p).length f.Al)[i]!.length = p.types.length := by rw [gD _ _ _ _ hin]; simp
   have hf2 : (lF p.types.length (aR p).length f.Af f.Ap i).2.length = (aR p).length := by simp [lF]
   have hf1 : (lF p.types.length (aR p).length f.Af f.Ap i).1.length = p.types.length := by simp [lF]
   have hf3 : ∀ v, v < p.types.length → (lF p.types.length (aR p).length f.Af f.Ap i).1[v]!.length = (lF p.types.length (aR p).length f.Af f.Ap i).2.length := fun v hv => by
    rw [hf2]; unfold lF;dsimp only;rw [cV _ _ _ hv]; simp
   have hacc := uV p.types (aR p)[i]! (eG p.types.length (aR p).length f.Am)[i]! htl hgm hset.1 hy
   have hlv := Ff p.types (aR p)[i]! ((List.range (aR p).length).map (lF p.types.length (aR p).length f.Af f.Ap))[i]!.1 ((List.range (aR p).length).map (lF p.types.length (aR p).length f.Af f.Ap))[i]!.2 (eG p.types.length (aR p).length f.Al)[i]! htl (by rw [hfi, hf2]; exact hpl) hgl (by rw [hfi]; exact hf1) (by rw [hfi]; exact hf3)
   have hlvl : (CR p.types (aR p)[i]! ((List.range (aR p).length).map (lF p.types.length (aR p).length f.Af f.Ap))[i]!.1 (eG p.types.length (aR p).length f.Al)[i]! ((List.range (aR p).length).map (lF p.types.length (aR p).length f.Af f.Ap))[i]!.2.length).length = (aR p).length := by unfold CR;rw [List.length_map, List.length_range, hfi, hf2]
   have hcn := tH (aR p) (iH p.types (aR p)[i]! (eG p.types.length (aR p).length f.Am)[i]![(bR (aR p)[i]!).toNat]!) ((List.range (aR p).length).map (lF p.types.length (aR p).length f.Af f.Ap))[i]!.1 ((List.range (aR p).length).map (lF p.types.length (aR p).length f.Af f.Ap))[i]!.2 (CR p.types (aR p)[i]! ((List.range (aR p).length).map (lF p.types.length (aR p).length f.Af f.Ap))[i]!.1 (eG p.types.length (aR p).length f.Al)[i]! ((List.range (aR p).length).map (lF p.types.length (aR p).length f.Af f.Ap))[i]!.2.length) hpl (by have := yP p.types (aR p)[i]! (eG p.types.length (aR p).length f.Am)[i]![(bR (aR p)[i]!).toNat]!; omega) (by rw [hfi]; exact hf2) hlvl
   have hcf : HC (aR p) (iH p.types (aR p)[i]! (eG p.types.length (aR p).length f.Am)[i]![(bR (aR p)[i]!).toNat]!) ((List.range (aR p).length).map (lF p.types.length (aR p).length f.Af f.Ap))[i]!.2 (CR p.types (aR p)[i]! ((List.range (aR p).length).map (lF p.types.length (aR p).length f.Af f.Ap))[i]!.1 (eG p.types.length (aR p).length f.Al)[i]! ((List.range (aR p).length).map (lF p.types.length (aR p).length f.Af f.Ap))[i]!.2.length) = Hc p.types (aR p) f.Am f.Al f.Af f.Ap i := by
    rw [hfi, hf2]; rfl
   have hcl : (Hc p.types (aR p) f.Am f.Al f.Af f.Ap i).length = (aR p).length := by unfold Hc;rw [v3]
   repeat' (first|(apply aM;first|((with_reducible apply aI (k := 184));(case ha => rfl);(case h => exact hacc);(case hp => (exact Pur.pf));(case hN => rfl))|((with_reducible apply aI (k := 186));(case ha => rfl);(case h => exact hlv);(case hp => (exact Pur.pf));(case hN => rfl))|((with_reducible apply aI (k := 185));(case ha => rfl);(case h => exact hcn);(case hp => (exact Pur.pf));(case hN => rfl))|(with_reducible apply dR (d := 14))|(apply aD;rfl;rfl)|(first|(apply aL;rfl;rfl;rfl;rfl)|(apply a6;rfl;rfl;(first|exact (rfl:_=[_, _])|exact (rfl:_=[_, _, _, _, _]));rfl;rfl;rfl))|(apply aE;rfl;rfl;rfl)|(apply aV;rfl;rfl;rfl;rfl)|(apply aC;rfl;rfl)|(apply bB;(case hx|hi => rfl);(case hm => (first|assumption|omega));(case hml => (rfl));(case hα | hf|hg => infer_instance);(case hN => rfl))|(apply a8;rfl;rfl;rfl)|(apply aF;kernel_rfl))|(apply aO;first|apply aH|apply aB|(apply b9;kernel_rfl)|(apply aP;rfl;all_goals intro hc;have hq:=hc;(try simp only [cD] at hq);try exfalso;omega)|apply bF)|with_reducible apply aA|with_reducible apply bE|with_reducible apply bD)
   refine gK ?_
   rw [hcf]
   repeat' (first|(apply aM;first|(apply aC;rfl;rfl)|(apply aF;kernel_rfl))|(apply aO;(apply aJ))|with_reducible apply aA)
   refine bG (σ := Nat × List Iss × Nat) [1, 2, 6, 7, 8, 9, 10, 13] [(1, _), (2, _), (6, _), (7, _), (8, _), (9, _), (10, _), (13, _)] [0] [(0, some _)] (fun s => [(14, iv (s.1 : Int)), (5, .own 1 0 s.2.2 3)]) (fun s => [(1, some (flat kW s.2.1))]) (fun s => s.1 ≤ (aR p).length ∧ s.2.1 = L2 ++ Ir (aR p) (Hc p.types (aR p) f.Am f.Al f.Af f.Ap i) i s.1 ∧ s.2.2 = s.2.1.length ∧ s.2.2 ≤ 67 * i + 6 + s.1) (fun s => (aR p).length - s.1) (0, L2, m2) ⟨Nat.zero_le _, (List.append_nil L2).symm, hm2, by show m2 ≤ 67 * i + 6 + 0;omega⟩ rfl rfl (by repeat' (first|exact trivial|refine And.intro rfl ?_)) (by repeat' (first|exact trivial|refine And.intro (.inr rfl) ?_)) ?_
   rintro ⟨l, L3, m3⟩ ⟨hl, hL3, hm3, hmb3⟩
   dsimp only at hl hL3 hm3 hmb3
   try dsimp only
   by_cases hln : l < (aR p).length
   ·repeat' (first | (apply aM; first | (apply aD;rfl;rfl) | (apply aL;rfl;rfl;rfl;rfl) | (apply aE;rfl;rfl;rfl) | (first | (apply bO;rfl;rfl;omega;rfl) | (apply aV;rfl;rfl;rfl;rfl)) | (apply aC;rfl;rfl) | (apply bB; (case hx | hi => rfl); (case hm => (first | assumption | omega)); (case hml => (rfl)); (case hα | hf | hg => infer_instance); (case hN => rfl)) | (first | (apply a8;rfl;rfl;rfl) | (apply bV;rfl;rfl;rfl;rfl;rfl;(rw [aK]; omega);(rfl);omega;omega;(exact pQ (by (assumption)));rfl;rfl)) | (apply aF;kernel_rfl) | (apply b8;rfl;(exact (rfl:_=some [_, _, _]));(exact (rfl:_=[_, _, _]));rfl) | (apply cK;rfl;rfl) | (apply bK;rfl;rfl;rfl;(exact (rfl:_=some [_, _, _]));rfl;rfl)) | (apply aO; first | apply aH | apply aB | (apply aP;rfl;all_goals intro hc;have hq:=hc;(try simp only [cD] at hq);try exfalso;omega) | apply aJ | apply aS | apply bF) | with_reducible apply aA | with_reducible apply bE | with_reducible apply aT | with_reducible apply bD)
    ·(apply c6 (l + 1, L3, m3); focus (refine Le.ren [(0, 0), (1, 1)] rfl (by decide) ?_ ?_ <;> repeat' (first | exact trivial | refine And.intro ⟨_, rfl, ?_⟩ ?_ | refine And.intro ⟨_, _, rfl, rfl, ?_⟩ ?_ | exact Or.inr rfl | refine Or.inl ⟨?_, (by first | rfl | exact aX _ _ | exact Pur.pf)⟩ | rfl)))
     ·exact ⟨(by show l + 1 ≤ (aR p).length;omega), (by show L3 = _; rw [DZ (by assumption)]; exact hL3), hm3, (by show m3 ≤ 67 * i + 6 + (l + 1);omega)⟩
     ·show (aR p).length - (l + 1) < (aR p).length - l;omega
    ·(apply c6 (l + 1, L3 ++ [⟨i, 3, l⟩], m3 + 1); focus (refine Le.ren [(0, 0), (1, 3)] rfl (by decide) ?_ ?_ <;> repeat' (first | exact trivial | refine And.intro ⟨_, rfl, ?_⟩ ?_ | refine And.intro ⟨_, _, rfl, rfl, ?_⟩ ?_ | exact Or.inr rfl | refine Or.inl ⟨?_, (by first | rfl | exact aX _ _ | exact Pur.pf)⟩ | rfl)))
     ·have hk : Ie (aR p) l = 3 := by unfold Ie; rw [if_pos (by assumption)]
      exact ⟨(by show l + 1 ≤ (aR p).length;omega), (by show L3 ++ [⟨i, 3, l⟩] = _; rw [hL3, List.append_assoc, ← hk, ← Bu (by assumption)]), (by show m3 + 1 = (L3 ++ [_]).length;rw [List.length_append, List.length_singleton, hm3]), (by show m3 + 1 ≤ 67 * i + 6 + (l + 1);omega)⟩
     ·show (aR p).length - (l + 1) < (aR p).length - l;omega
    ·(apply c6 (l + 1, L3 ++ [⟨i, 2, l⟩], m3 + 1); focus (refine Le.ren [(0, 0), (1, 3)] rfl (by decide) ?_ ?_ <;> repeat' (first | exact trivial | refine And.intro ⟨_, rfl, ?_⟩ ?_ | refine And.intro ⟨_, _, rfl, rfl, ?_⟩ ?_ | exact Or.inr rfl | refine Or.inl ⟨?_, (by first | rfl | exact aX _ _ | exact Pur.pf)⟩ | rfl)))
     ·have hk : Ie (aR p) l = 2 := by unfold Ie; rw [if_neg (by assumption)]
      exact ⟨(by show l + 1 ≤ (aR p).length;omega), (by show L3 ++ [⟨i, 2, l⟩] = _; rw [hL3, List.append_assoc, ← hk, ← Bu (by assumption)]), (by show m3 + 1 = (L3 ++ [_]).length;rw [List.length_append, List.length_singleton, hm3]), (by show m3 + 1 ≤ 67 * i + 6 + (l + 1);omega)⟩
     ·show (aR p).length - (l + 1) < (aR p).length - l;omega
   ·repeat' (first | (apply aM; first | (apply aD;rfl;rfl) | (first | (apply bO;rfl;rfl;omega;rfl) | (apply aV;rfl;rfl;rfl;rfl)) | (apply aC;rfl;rfl) | (apply a8;rfl;rfl;rfl) | (apply aF;kernel_rfl)) | (apply aO; first | apply aH | apply aB | (apply aP;rfl;all_goals intro hc;have hq:=hc;(try simp only [cD] at hq);try exfalso;omega) | apply bF) | with_reducible apply aA | with_reducible apply bE | with_reducible apply aT | with_reducible apply bD)
    (apply c6 (i + 1, L3, m3);focus (refine Le.ren [(0, 0), (1, 1)] rfl (by decide) ?_ ?_ <;> repeat' (first|exact trivial|refine And.intro ⟨_, rfl, ?_⟩ ?_|refine And.intro ⟨_, _, rfl, rfl, ?_⟩ ?_|exact Or.inr rfl|refine Or.inl ⟨?_, (by first|rfl|exact aX _ _|exact Pur.pf)⟩|rfl)))
    ·refine ⟨(by show i + 1 ≤ (aR p).length; omega), ?_, hm3, (by show m3 ≤ 67 * (i + 1); omega)⟩
     show L3 = yJ p.types (aR p) f.Aa f.Am f.Al f.Af f.Ap (i + 1)
     rw [tW, ← HL w f hin, hL3, hL2, hL, hvN, show l = (aR p).length by omega, List.append_assoc]
     rfl
    ·show (aR p).length - (i + 1) < (aR p).length - i;omega
 ·repeat' (first | (apply aM; first | (apply aD;rfl;rfl) | (apply aV;rfl;rfl;rfl;rfl) | (apply aC;rfl;rfl) | (apply a8;rfl;rfl;rfl) | (apply aF;kernel_rfl)) | (apply aO; first | apply aH | apply aB | (apply aP;rfl;all_goals intro hc;have hq:=hc;(try simp only [cD] at hq);try exfalso;omega) | apply bF | apply aW) | with_reducible apply aA | with_reducible apply bE | with_reducible apply bD)
  have hiN : i = (aR p).length := by omega
  refine cA (Le.frzD (d := 4) (i := 1) rfl rfl) ?_
  refine aU rfl ⟨?_, (by (exact aX _ _))⟩
  simp only [bQ]
  rw [hm, hL, hiN]; rfl
theorem Eh (p : Prg) (f : Flows p.types (aR p)) (hl : p.types.length ≤ 1000000) (hs : bJ p.body ≤ 1000000) : PC Tryz.prog 114 [c8 p] (fun r => r = sl kW (tN p f)) := by
 unfold tN
 cases hv : cM p
 ·have hval := gZ p hl (by omega)
  rw [hv] at hval
  (refine aQ Tryz.func114 rfl (by simp [Tryz.ntmps114]) ?_; rw [Tryz.ntmps114])
  repeat' (first|(apply aM;first|((with_reducible apply aI (k := 57));(case ha => rfl);(case h => exact hval);(case hp => (exact Pur.pf));(case hN => rfl))|(apply a6;rfl;rfl;(exact (rfl:_=[_, _]));rfl;rfl;rfl)|(apply aC;rfl;rfl)|(apply aF;kernel_rfl)|(apply cK;rfl;rfl)|(apply bW;rfl;rfl;rfl;rfl)|((apply bS (t := _));(case hze|hsm|hl => rfl);(case hfl => (rfl));(case hM|hN => rfl)))|(apply aO;first|apply aH|apply aB|(apply bX;rfl;(rfl))|apply aW)|with_reducible apply aA|with_reducible apply b0)
  exact aU rfl ⟨rfl, rfl⟩
 ·have w := WG.of_valid hv
  have hr := Rch.of p
  have hval := gZ p hl (by omega)
  rw [hv] at hval
  have hlv := DX p f.Al hs w f.gl
  have hck := CT p f hs w hr
  (refine aQ Tryz.func114 rfl (by simp [Tryz.ntmps114]) ?_; rw [Tryz.ntmps114])
  repeat' (first|(apply aM;first|((with_reducible apply aI (k := 57));(case ha => rfl);(case h => exact hval);(case hp => (exact Pur.pf));(case hN => rfl))|((with_reducible apply aI (k := 86));(case ha => rfl);(case h => exact hlv);(case hp => (exact Pur.pf));(case hN => rfl))|((with_reducible apply aI (k := 149));(case ha => rfl);(case h => exact hck);(case hp => (exact Pur.pf));(case hN => rfl))|(apply a6;rfl;rfl;(exact (rfl:_=[_, _]));rfl;rfl;rfl)|(apply aC;rfl;rfl)|(apply aF;kernel_rfl)|(apply cK;rfl;rfl)|(apply bW;rfl;rfl;rfl;rfl))|(apply aO;first|apply aH|apply aB|(apply b9;kernel_rfl)|(apply cF;rfl;(rfl))|apply aS|apply aW)|with_reducible apply aA)
  exact aU rfl ⟨rfl, (by (exact aX _ _))⟩
theorem zY (p : Prg) (f : Flows p.types (aR p)) (hl : p.types.length ≤ 1000000) (hs : bJ p.body ≤ 1000000) : PC Tryz.prog 61 [c8 p] (fun r => r = bv (cM p && (tN p f).isEmpty)) := by
 have hval := gZ p hl (by omega)
 (refine aQ Tryz.func61 rfl (by simp [Tryz.ntmps61]) ?_; rw [Tryz.ntmps61])
 repeat' (first|(apply aM;first|((with_reducible apply aI (k := 114));(case ha => rfl);(case h => exact Eh p f hl hs);(case hp => (exact Pur.pf));(case hN => rfl))|((with_reducible apply aI (k := 57));(case ha => rfl);(case h => exact hval);(case hp => (exact Pur.pf));(case hN => rfl))|(apply aD;rfl;rfl)|(apply a6;rfl;rfl;(exact (rfl:_=[_, _]));rfl;rfl;rfl)|(first|(apply a9;rfl;rfl;rfl;(assumption))|(apply aZ;rfl;rfl;rfl;(assumption))|(apply bC;(case hj|hb|hN => rfl);all_goals (intro hg;have hq := hg;(try simp only [cD] at hq);(try (exfalso;omega)))))|(apply aV;rfl;rfl;rfl;rfl)|(apply aC;rfl;rfl)|(first|(apply bI;rfl;(assumption);rfl;rfl)|(apply bH;rfl;(assumption);rfl;rfl))|(apply a8;rfl;rfl;rfl)|(apply aF;kernel_rfl)|(apply bW;rfl;rfl;rfl;rfl))|(apply aO;first|apply aH|apply aB|apply aW)|with_reducible apply aA)
 all_goals generalize tN p f = L at *
 all_goals refine aU rfl ⟨?_, rfl⟩
 all_goals simp only [bQ]
 ·rw [show cM p = true by assumption]
  cases L with
  | nil => rfl
  | cons a b => simp;omega
 ·rw [show cM p = false by assumption]; rfl
abbrev e8 (bs : List UInt8) (p : Nat) : List AV := [sl cU bs, iv (p : Int)]
def Hd (bs : List UInt8) (q : Int) : Int := ((bs[(q % (bs.length : Int)).toNat]!).toNat : Int) * 131 + ((bs[((q * 7 + 3) % (bs.length : Int)).toNat]!).toNat : Int) * 1117 + q * 29 + q / (bs.length : Int) * 53
def cG (bs : List UInt8) (p : Nat) (n : Int) : Int :=
 if n < 1 then 0 else if (bs.length : Int) = 0 then 0 else
 if (p : Int) + 1 - 1 < (bs.length : Int) then ((bs[((p : Int) + 1 - 1).toNat]!).toNat : Int) % n
 else (((Hd bs ((p : Int) + 1 - 1)).toNat ^^^ (Hd bs ((p : Int) + 1 - 1) / 64).toNat : Nat) : Int) % n
theorem fC (bs : List UInt8) (p : Nat) (n : Int) : 0 ≤ cG bs p n ∧ (cG bs p n < n ∨ n < 1 ∧ cG bs p n = 0) := by
 unfold cG
 split
 ·omega
 ·split
  ·omega
  ·split
   ·exact ⟨Int.emod_nonneg _ (by omega), .inl (Int.emod_lt_of_pos _ (by omega))⟩
   ·exact ⟨Int.emod_nonneg _ (by omega), .inl (Int.emod_lt_of_pos _ (by omega))⟩
def iD (bs : List UInt8) (p : Nat) (xs : List Int) : Int := xs[(cG bs p (xs.length : Int)).toNat]!
class NumL (cs : List AV) (xs : outParam (List Int)) : Prop where h : cs = flat cI xs
instance NumL.nil : NumL [] [] := ⟨rfl⟩
instance NumL.cons {n : Int} {cs : List AV} {xs : List Int} [h : NumL cs xs] : NumL (.v (.int .i64 n) :: cs) (n :: xs) := ⟨by rw [h.h]; rfl⟩
theorem jV {bs : List UInt8} {p : Nat} {n : Int} {N : Nat} {Q : Exit → AS → Prop} {all : Array Oper} {rest : List Oper} {tsl : List (Nat × AV)} {hsl : List (Nat × Option (List AV))} {nidl : Nat} {z0 : Lo} {md : Md} {d : Nat} {ty : TypeId} {pos : String} {af : Array Edge} {tys : Array TypeId} {x0 x1 : Operand} {i0 : Nat} (ha0 : ev (lk tsl) x0 = some (.optr i0 0)) (ha1 : ev (lk tsl) x1 = some (iv n)) (hH0 : bU hsl i0 = some (e8 bs p)) (hmc : MC Tryz.prog 47 [.optr 0 0, iv n] [(0, some (e8 bs p))] 1 (fun _ : Unit => True) (fun _ => iv (cG bs p n)) (fun _ => [(0, some (e8 bs (p + 1)))])) (hM : Nat.ble (nidl + 0) bZ = true) (hN : Nat.blt d N = true) {md' : Md} [hmd : MdA md (jH [x0, x1] ++ [.inr i0]) (List.map Sum.inr (List.map Prod.fst ([(i0, some (e8 bs (p + 1)))] : List (Nat × Option (List AV)))) ++ [.inl d]) md'] (kk : RW Tryz.prog N all Q md' rest ⟨(d, iv (cG bs p n)) :: tsl, lE hsl [(i0, some (e8 bs (p + 1)))], nidl + 0, z0⟩) : RW Tryz.prog N all Q md (⟨some d, .call ⟨.value (.func 47), #[x0, x1], tys⟩, ty, pos, af, none⟩ :: rest) ⟨tsl, hsl, nidl, z0⟩ := by
 refine c5 [i0] 1 [(i0, some (e8 bs (p + 1)))] hmc (avs := [.optr i0 0, iv n]) ?_ rfl ?_ rfl ?_ (by simpa using hM) ?_ ?_ ?_ hN (md' := md') (hmd := hmd) kk
 ·show evL (lk tsl) [x0, x1] = _
  simp only [evL, ha0, ha1]
 ·exact ⟨⟨_, _, rfl, hH0, by (repeat' (exact RnL.purI inferInstance))⟩, trivial⟩
 ·(repeat' (first|exact RnL.purI inferInstance|exact RnV.optr rfl|refine RnL.cons ?_ ?_))
 ·(repeat' (exact RnV.purI inferInstance))
 ·simp [e7]
 ·(repeat' (first|exact trivial|(refine And.intro ⟨0, _, rfl, rfl, ?_⟩ ?_)|exact RnL.purI inferInstance))
theorem GS {bs : List UInt8} {p : Nat} {xs : List Int} {N : Nat} {Q : Exit → AS → Prop} {all : Array Oper} {rest : List Oper} {tsl : List (Nat × AV)} {hsl : List (Nat × Option (List AV))} {nidl : Nat} {z0 : Lo} {md : Md} {d : Nat} {ty : TypeId} {pos : String} {af : Array Edge} {tys : Array TypeId} {x0 x1 : Operand} {i0 : Nat} (ha0 : ev (lk tsl) x0 = some (.optr i0 0)) (ha1 : ev (lk tsl) x1 = some (sl cI xs)) (hH0 : bU hsl i0 = some (e8 bs p)) (hmc : MC Tryz.prog 48 [.optr 0 0, sl cI xs] [(0, some (e8 bs p))] 1 (fun _ : Unit => True) (fun _ => iv (iD bs p xs)) (fun _ => [(0, some (e8 bs (p + 1)))])) (hM : Nat.ble (nidl + 0) bZ = true) (hN : Nat.blt d N = true) {md' : Md} [hmd : MdA md (jH [x0, x1] ++ [.inr i0]) (List.map Sum.inr (List.map Prod.fst ([(i0, some (e8 bs (p + 1)))] : List (Nat × Option (List AV)))) ++ [.inl d]) md'] (kk : RW Tryz.prog N all Q md' rest ⟨(d, iv (iD bs p xs)) :: tsl, lE hsl [(i0, some (e8 bs (p + 1)))], nidl + 0, z0⟩) : RW Tryz.prog N all Q md (⟨some d, .call ⟨.value (.func 48), #[x0, x1], tys⟩, ty, pos, af, none⟩ :: rest) ⟨tsl, hsl, nidl, z0⟩ := by
 refine c5 [i0] 1 [(i0, some (e8 bs (p + 1)))] hmc (avs := [.optr i0 0, sl cI xs]) ?_ rfl ?_ rfl ?_ (by simpa using hM) ?_ ?_ ?_ hN (md' := md') (hmd := hmd) kk
 ·show evL (lk tsl) [x0, x1] = _
  simp only [evL, ha0, ha1]
 ·exact ⟨⟨_, _, rfl, hH0, by (repeat' (exact RnL.purI inferInstance))⟩, trivial⟩
 ·(repeat' (first|exact RnL.purI inferInstance|exact RnV.optr rfl|refine RnL.cons ?_ ?_))
 ·(repeat' (exact RnV.purI inferInstance))
 ·simp [e7]
 ·(repeat' (first|exact trivial|(refine And.intro ⟨0, _, rfl, rfl, ?_⟩ ?_)|exact RnL.purI inferInstance))
theorem DO {bs : List UInt8} {p : Nat} {xs : List Int} {N : Nat} {Q : Exit → AS → Prop} {all : Array Oper} {rest : List Oper} {tsl : List (Nat × AV)} {hsl : List (Nat × Option (List AV))} {nidl : Nat} {z0 : Lo} {md : Md} {d : Nat} {ty : TypeId} {pos : String} {af : Array Edge} {tys : Array TypeId} {x0 x1 : Operand} {i0 i1 : Nat} (ha0 : ev (lk tsl) x0 = some (.optr i0 0)) (ha1 : ev (lk tsl) x1 = some (.own i1 0 xs.length 1)) (hH0 : bU hsl i0 = some (e8 bs p)) (hH1 : bU hsl i1 = some (flat cI xs)) (hdd : Go.AL.distinct [i0, i1] = true) (hmc : MC Tryz.prog 48 [.optr 0 0, .own 1 0 xs.length 1] [(0, some (e8 bs p)), (1, some (flat cI xs))] 2 (fun _ : Unit => True) (fun _ => iv (iD bs p xs)) (fun _ => [(0, some (e8 bs (p + 1)))])) (hM : Nat.ble (nidl + 0) bZ = true) (hN : Nat.blt d N = true) {md' : Md} [hmd : MdA md (jH [x0, x1] ++ [.inr i0, .inr i1]) (List.map Sum.inr (List.map Prod.fst ([(i0, some (e8 bs (p + 1))), (i1, none)] : List (Nat × Option (List AV)))) ++ [.inl d]) md'] (kk : RW Tryz.prog N all Q md' rest ⟨(d, iv (iD bs p xs)) :: tsl, lE hsl [(i0, some (e8 bs (p + 1))), (i1, none)], nidl + 0, z0⟩) : RW Tryz.prog N all Q md (⟨some d, .call ⟨.value (.func 48), #[x0, x1], tys⟩, ty, pos, af, none⟩ :: rest) ⟨tsl, hsl, nidl, z0⟩ := by
 refine c5 [i0, i1] 2 [(i0, some (e8 bs (p + 1))), (i1, none)] hmc (avs := [.optr i0 0, .own i1 0 xs.length 1]) ?_ hdd ?_ rfl ?_ (by simpa using hM) ?_ ?_ ?_ hN (md' := md') (hmd := hmd) kk
 ·show evL (lk tsl) [x0, x1] = _
  simp only [evL, ha0, ha1]
 ·exact ⟨⟨_, _, rfl, hH0, by (repeat' (exact RnL.purI inferInstance))⟩, ⟨⟨_, _, rfl, hH1, by (repeat' (exact RnL.purI inferInstance))⟩, trivial⟩⟩
 ·(repeat' (first|exact RnL.purI inferInstance|exact RnV.own rfl|exact RnV.optr rfl|refine RnL.cons ?_ ?_))
 ·(repeat' (exact RnV.purI inferInstance))
 ·simp [e7]
 ·(repeat' (first|exact trivial|(refine And.intro ⟨0, _, rfl, rfl, ?_⟩ ?_)|exact RnL.purI inferInstance))
theorem l8 (bs : List UInt8) (p : Nat) (n : Int) (hb : bs.length ≤ 2000) (hp : p ≤ 1000000) (hn0 : 0 ≤ n) (hn : n ≤ 1000000) : MC Tryz.prog 47 [.optr 0 0, iv n] [(0, some (e8 bs p))] 1 (fun _ : Unit => True) (fun _ => iv (cG bs p n)) (fun _ => [(0, some (e8 bs (p + 1)))]) := by
 have hdiv : 0 ≤ ((p : Int) + 1 - 1) / (bs.length : Int) ∧ ((p : Int) + 1 - 1) / (bs.length : Int) ≤ p + 1 - 1 := ⟨Int.ediv_nonneg (by omega) (by omega), Int.ediv_le_self _ (by omega)⟩
 (refine dB Tryz.func47 rfl (by simp [Tryz.ntmps47]) ?_; rw [Tryz.ntmps47])
 repeat' (first|(apply aM;first|(apply aD;rfl;rfl)|(apply aL;rfl;rfl;rfl;rfl)|(apply aE;rfl;rfl;rfl)|(first|(apply a9;rfl;rfl;rfl;(assumption))|(apply aZ;rfl;rfl;rfl;(assumption))|(apply bC;(case hj|hb|hN => rfl);all_goals (intro hg;have hq := hg;(try simp only [cD] at hq);(try (exfalso;omega)))))|(first|(apply bO;rfl;rfl;omega;rfl)|(apply gT;rfl;rfl;omega;rfl)|(apply H6;rfl;rfl;omega;omega;rfl)|(apply HN;rfl;rfl;omega;rfl)|(apply Hz;rfl;rfl;omega;rfl)|(apply HI;rfl;rfl;omega;rfl)|(apply aV;rfl;rfl;rfl;rfl))|(apply aC;rfl;rfl)|(first|(apply bI;rfl;(assumption);rfl;rfl)|(apply bH;rfl;(assumption);rfl;rfl))|(apply cC;(case hx|hi => rfl);(case hm => (first|omega|exact ⟨Int.emod_nonneg _ (by omega), Int.emod_lt_of_pos _ (by omega)⟩));(case hml => (rfl));(case hα | hf|hg => infer_instance);(case hN => rfl))|(apply a8;rfl;rfl;rfl)|(apply aF;kernel_rfl)|(apply DV;rfl;rfl;(case' kk => intro hbd))|(apply dJ;rfl;rfl;rfl)|(apply a7;rfl;rfl;rfl;rfl;rfl;(case hl => (simp;done));(exact (rfl:_=[_, _]))))|(apply aO;first|apply aH|apply aB|(apply b9;kernel_rfl)|(apply bX;rfl;(rfl))|(apply aP;rfl;all_goals intro hc;have hq:=hc;(try simp only [cD] at hq);try exfalso;omega)|apply aS|apply aW)|with_reducible apply aA|with_reducible apply b0)
 all_goals (refine aU rfl ?_; refine dA () trivial ?_ ⟨.inr (Eq.trans (b := some _) rfl ?_), trivial⟩)
 all_goals first|rfl|skip
 all_goals simp only [bQ, AV.v.injEq, Value.int.injEq, true_and, cG]
 ·rw [if_neg (by omega), if_pos (by omega)]
 ·rw [if_neg (by omega), if_neg (by omega), if_pos (by omega)]
 ·rw [if_neg (by omega), if_neg (by omega), if_neg (by omega)]; rfl
 ·rw [if_pos (by omega)]
theorem Hy (bs : List UInt8) (p : Nat) (xs : List Int) (hb : bs.length ≤ 2000) (hp : p ≤ 1000000) (h0 : 0 < xs.length) (hn : xs.length ≤ 1000000) : MC Tryz.prog 48 [.optr 0 0, sl cI xs] [(0, some (e8 bs p))] 1 (fun _ : Unit => True) (fun _ => iv (iD bs p xs)) (fun _ => [(0, some (e8 bs (p + 1)))]) := by
 have hpf := fC bs p xs.length
 (refine dB Tryz.func48 rfl (by simp [Tryz.ntmps48]) ?_; rw [Tryz.ntmps48])
 repeat' (first|(apply aM;first|(apply aD;rfl;rfl)|(apply aL;rfl;rfl;rfl;rfl)|(apply aC;rfl;rfl)|(apply cC;(case hx|hi => rfl);(case hm => (omega));(case hml => (rfl));(case hα | hf|hg => infer_instance);(case hN => rfl))|(apply jV;rfl;rfl;(rfl);(apply l8 <;> (first|assumption|omega));rfl;rfl)|(apply a8;rfl;rfl;rfl)|(apply aF;kernel_rfl))|(apply aO;first|apply aH|apply aB|apply aW)|with_reducible apply aA)
 (refine aU rfl ?_; refine dA () trivial ?_ ⟨.inr (Eq.trans (b := some _) rfl ?_), trivial⟩)
 ·rfl
 ·rfl
theorem HK {Q : Exit → AS → Prop} {all : Array Oper} {rest : List Oper} {N : Nat} {tsl : List (Nat × AV)} {hsl : List (Nat × Option (List AV))} {nidl : Nat} {z0 : Lo} {md : Md} {d : Nat} {ty : TypeId} {pos : String} {af : Array Edge} {tys : Array TypeId}
  {bs : List UInt8} {p m : Nat} {cs : List AV} {xs : List Int} {x0 x1 : Operand} {i0 : Nat} (ha0 : ev (lk tsl) x0 = some (.optr i0 0)) (ha1 : ev (lk tsl) x1 = some (.imm m cs)) (hcs : NumL cs xs) (hH0 : bU hsl i0 = some (e8 bs p))
  (hm : m = xs.length) (hb : bs.length ≤ 2000) (hp : p ≤ 1000000) (h0 : 0 < xs.length) (hn : xs.length ≤ 1000000) (hM : Nat.ble (nidl + 0) bZ = true) (hN : Nat.blt d N = true) {md' : Md}
  [hmd : MdA md (jH [x0, x1] ++ [.inr i0]) [.inr i0, .inl d] md']
  (kk : RW Tryz.prog N all Q md' rest ⟨(d, iv (iD bs p xs)) :: tsl, (i0, some (e8 bs (p + 1))) :: hsl, nidl + 0, z0⟩) : RW Tryz.prog N all Q md (⟨some d, .call ⟨.value (.func 48), #[x0, x1], tys⟩, ty, pos, af, none⟩ :: rest) ⟨tsl, hsl, nidl, z0⟩ := by
 have h := hcs.h
 subst hm h
 exact GS ha0 ha1 hH0 (Hy bs p xs hb hp h0 hn) hM hN (hmd := hmd) kk
theorem F4 (bs : List UInt8) (p : Nat) (xs : List Int) (hb : bs.length ≤ 2000) (hp : p ≤ 1000000) (h0 : 0 < xs.length) (hn : xs.length ≤ 1000000) : MC Tryz.prog 48 [.optr 0 0, .own 1 0 xs.length 1] [(0, some (e8 bs p)), (1, some (flat cI xs))] 2 (fun _ : Unit => True) (fun _ => iv (iD bs p xs)) (fun _ => [(0, some (e8 bs (p + 1)))]) := by
 have hpf := fC bs p xs.length
 (refine dB Tryz.func48 rfl (by simp [Tryz.ntmps48]) ?_; rw [Tryz.ntmps48])
 repeat' (first|(apply aM;first|(apply aD;rfl;rfl)|(apply dE;(case hx|hH => rfl);(case hf|hg|hα => infer_instance);(case hk => omega);(case hc|hN => rfl))|(apply aC;rfl;rfl)|(apply dO;rfl;rfl;(omega);rfl)|(apply jV;rfl;rfl;(rfl);(apply l8 <;> (first|assumption|omega));rfl;rfl)|(apply a8;rfl;rfl;rfl)|(apply aF;kernel_rfl))|(apply aO;first|apply aH|apply aB|apply aW)|with_reducible apply aA)
 (refine aU rfl ?_; refine dA () trivial ?_ ⟨.inr (Eq.trans (b := some _) rfl ?_), trivial⟩)
 ·rfl
 ·rfl
theorem pV {Q : Exit → AS → Prop} {all : Array Oper} {rest : List Oper} {N : Nat} {tsl : List (Nat × AV)} {hsl : List (Nat × Option (List AV))} {nidl : Nat} {z0 : Lo} {md : Md} {d : Nat} {ty : TypeId} {pos : String} {af : Array Edge} {tys : Array TypeId}
  {bs : List UInt8} {p m : Nat} {cs : List AV} {xs : List Int} {x0 x1 : Operand} {i0 i1 : Nat} (ha0 : ev (lk tsl) x0 = some (.optr i0 0)) (ha1 : ev (lk tsl) x1 = some (.own i1 0 m 1)) (hH0 : bU hsl i0 = some (e8 bs p)) (hH1 : bU hsl i1 = some cs) (hcs : NumL cs xs)
  (hdd : Go.AL.distinct [i0, i1] = true) (hm : m = xs.length) (hb : bs.length ≤ 2000) (hp : p ≤ 1000000) (h0 : 0 < xs.length) (hn : xs.length ≤ 1000000) (hM : Nat.ble (nidl + 0) bZ = true) (hN : Nat.blt d N = true) {md' : Md}
  [hmd : MdA md (jH [x0, x1] ++ [.inr i0, .inr i1]) [.inr i0, .inr i1, .inl d] md']
  (kk : RW Tryz.prog N all Q md' rest ⟨(d, iv (iD bs p xs)) :: tsl, lE hsl [(i0, some (e8 bs (p + 1))), (i1, none)], nidl + 0, z0⟩) : RW Tryz.prog N all Q md (⟨some d, .call ⟨.value (.func 48), #[x0, x1], tys⟩, ty, pos, af, none⟩ :: rest) ⟨tsl, hsl, nidl, z0⟩ := by
 have h := hcs.h
 subst hm h
 exact DO ha0 ha1 hH0 hH1 hdd (F4 bs p xs hb hp h0 hn) hM hN (hmd := hmd) kk
theorem Hq (bs : List UInt8) (hb : bs.length ≤ 1048576) : MC Tryz.prog 46 [sl cU bs] [] 0 (fun _ : Unit => True) (fun _ => .optr 0 0) (fun _ => [(0, some (e8 (bs.take 2000) 0))]) := by
 (refine dB Tryz.func46 rfl (by simp [Tryz.ntmps46]) ?_; rw [Tryz.ntmps46])
 repeat' (first|(apply aM;first|(apply aD;rfl;rfl)|(apply aV;rfl;rfl;rfl;rfl)|(apply aC;rfl;rfl)|(apply a8;rfl;rfl;rfl)|(apply aF;kernel_rfl)|(apply b8;rfl;(exact (rfl:_=some [_, _]));(exact (rfl:_=[_, _]));rfl)|(apply oN;rfl;infer_instance;rfl;rfl;(omega);rfl)|(apply bW;rfl;rfl;rfl;rfl))|(apply aO;first|apply aH|apply aB|(apply aP;rfl;all_goals intro hc;have hq:=hc;(try simp only [cD] at hq);try exfalso;omega)|apply aS|apply aW)|with_reducible apply aA)
 ·(refine aU rfl ?_; refine dA () trivial ?_ ⟨.inr (Eq.trans (b := some _) rfl ?_), trivial⟩)
  ·rfl
  ·rfl
 ·(refine aU rfl ?_; refine dA () trivial ?_ ⟨.inr (Eq.trans (b := some _) rfl ?_), trivial⟩)
  ·rfl
  ·rw [List.take_of_length_le (by omega)]; rfl
end Go.Proofs.YtjcpngimjdckmaaGreat
