/-
 A part of the proofs over this program: rules and contracts of its functions (the contracts).
-/
import Derived.Test.YtckihjkcgfphmaaGreatP4A07
import Derived.Test.YtckihjkcgfphmaaGreatRows
set_option linter.unusedVariables false
set_option linter.unusedSimpArgs false
set_option maxHeartbeats 8000000
set_option maxRecDepth 4000
attribute [local irreducible] Go.AL.RW Go.AL.AW Go.AL.Stop
namespace Go.Proofs.YtckihjkcgfphmaaGreat
open Go.AL
theorem eF (a b c : Int) : PC Tryz.prog 84 [iv a, iv b, iv c] (fun r => r = bv (decide (b ≤ a) && decide (a ≤ c))) := by
 (refine aS Tryz.func84 rfl (by simp [Tryz.ntmps84]) ?_; rw [Tryz.ntmps84])
 repeat' (first|(apply aK;first|(apply aE;rfl;rfl)|(first|(apply a6;rfl;rfl;rfl;(assumption))|(apply bB;rfl;rfl;rfl;(assumption))|(apply bR;(case hj|hb|hN => rfl);all_goals (intro hg;have hq := hg;(try simp only [cH] at hq);(try (exfalso;omega)))))|(apply aU;rfl;rfl;rfl;rfl)|(apply aC;rfl;rfl)|(first|(apply bU;rfl;(assumption);rfl;rfl)|(apply bG;rfl;(assumption);rfl;rfl))|(apply aF;kernel_rfl))|(apply aL;first|apply aH|apply aB|apply aQ)|with_reducible apply aA|((with_reducible apply aO);case hr => rfl))
 all_goals (refine ⟨?_, rfl⟩; simp only [bW, AV.v.injEq, Value.bool.injEq, Value.int.injEq, true_and])
 all_goals grind
theorem A8 (t : Int) : PC Tryz.prog 208 [iv t] (fun r => r = bv (nH t)) := by
 (refine aS Tryz.func208 rfl (by simp [Tryz.ntmps208]) ?_; rw [Tryz.ntmps208])
 repeat' (first|(apply aK;first|(apply aE;rfl;rfl)|(first|(apply a6;rfl;rfl;rfl;(assumption))|(apply bB;rfl;rfl;rfl;(assumption))|(apply bR;(case hj|hb|hN => rfl);all_goals (intro hg;have hq := hg;(try simp only [cH] at hq);(try (exfalso;omega)))))|(apply aU;rfl;rfl;rfl;rfl)|(apply aC;rfl;rfl)|(first|(apply bU;rfl;(assumption);rfl;rfl)|(apply bG;rfl;(assumption);rfl;rfl))|(apply aF;kernel_rfl))|(apply aL;first|apply aH|apply aB|apply aQ)|with_reducible apply aA|((with_reducible apply aO);case hr => rfl))
 all_goals (refine ⟨?_, rfl⟩; simp only [bW, AV.v.injEq, Value.bool.injEq, Value.int.injEq, true_and])
 all_goals grind [nH]
theorem Bh (t : Int) : PC Tryz.prog 204 [iv t] (fun r => r = bv (decide (t = 2) || nH t)) := by
 (refine aS Tryz.func204 rfl (by simp [Tryz.ntmps204]) ?_; rw [Tryz.ntmps204])
 repeat' (first|(apply aK;first|(apply aE;rfl;rfl)|(first|(apply a6;rfl;rfl;rfl;(assumption))|(apply bB;rfl;rfl;rfl;(assumption))|(apply bR;(case hj|hb|hN => rfl);all_goals (intro hg;have hq := hg;(try simp only [cH] at hq);(try (exfalso;omega)))))|(apply aU;rfl;rfl;rfl;rfl)|(apply aC;rfl;rfl)|(first|(apply bU;rfl;(assumption);rfl;rfl)|(apply bG;rfl;(assumption);rfl;rfl))|((with_reducible apply aJ (k := 208));(case ha => rfl);(case h => (apply A8 <;> (fail)));(case hp => (rfl));(case hN => rfl))|(apply aF;kernel_rfl))|(apply aL;first|apply aH|apply aB|apply aQ)|with_reducible apply aA|((with_reducible apply aO);case hr => rfl))
 all_goals (refine ⟨?_, rfl⟩; simp only [bW, AV.v.injEq, Value.bool.injEq, Value.int.injEq, true_and])
 all_goals grind
theorem B5 (t : Int) : PC Tryz.prog 162 [iv t] (fun r => r = bv (decide (t = 9) || decide (t = 10))) := by
 (refine aS Tryz.func162 rfl (by simp [Tryz.ntmps162]) ?_; rw [Tryz.ntmps162])
 repeat' (first|(apply aK;first|(apply aE;rfl;rfl)|(first|(apply a6;rfl;rfl;rfl;(assumption))|(apply bB;rfl;rfl;rfl;(assumption))|(apply bR;(case hj|hb|hN => rfl);all_goals (intro hg;have hq := hg;(try simp only [cH] at hq);(try (exfalso;omega)))))|(apply aU;rfl;rfl;rfl;rfl)|(apply aC;rfl;rfl)|(first|(apply bU;rfl;(assumption);rfl;rfl)|(apply bG;rfl;(assumption);rfl;rfl))|(apply aF;kernel_rfl))|(apply aL;first|apply aH|apply aB|apply aQ)|with_reducible apply aA|((with_reducible apply aO);case hr => rfl))
 all_goals (refine ⟨?_, rfl⟩; simp only [bW, AV.v.injEq, Value.bool.injEq, Value.int.injEq, true_and])
 all_goals grind
theorem EU (ts : List Int) (v : Int) : PC Tryz.prog 250 [sl cI ts, iv v] (fun r => r = iv (gB ts v)) := by
 (refine aS Tryz.func250 rfl (by simp [Tryz.ntmps250]) ?_; rw [Tryz.ntmps250])
 repeat' (first|(apply aK;first|(apply aE;rfl;rfl)|(apply aN;rfl;rfl;rfl;rfl)|(first|(apply a6;rfl;rfl;rfl;(assumption))|(apply bB;rfl;rfl;rfl;(assumption))|(apply bR;(case hj|hb|hN => rfl);all_goals (intro hg;have hq := hg;(try simp only [cH] at hq);(try (exfalso;omega)))))|(apply aU;rfl;rfl;rfl;rfl)|(apply aC;rfl;rfl)|(first|(apply bU;rfl;(assumption);rfl;rfl)|(apply bG;rfl;(assumption);rfl;rfl))|(apply cP;(case hx|hi => rfl);(case hm => (omega));(case hml => (rfl));(case hα | hf|hg => infer_instance);(case hN => rfl))|(apply bQ;rfl;rfl;rfl)|(apply aF;kernel_rfl))|(apply aL;first|apply aH|apply aB|(apply bZ;rfl;(rfl))|(apply aP;rfl;all_goals intro hc;have hq:=hc;(try simp only [cH] at hq);try exfalso;omega)|apply aT|apply aQ)|with_reducible apply aA|with_reducible apply bE|((with_reducible apply aO);case hr => rfl))
 all_goals (refine ⟨?_, rfl⟩; simp only [bW, AV.v.injEq, Value.bool.injEq, Value.int.injEq, true_and])
 all_goals grind [gB]
theorem GR (ts : List Int) (v : Int) (hl : ts.length ≤ 1000000) : PC Tryz.prog 203 [sl cI ts, iv v] (fun r => r = iv (gB ts v)) := by
 (refine aS Tryz.func203 rfl (by simp [Tryz.ntmps203]) ?_; rw [Tryz.ntmps203])
 repeat' (first|(apply aK;first|(apply aE;rfl;rfl)|(apply aN;rfl;rfl;rfl;rfl)|(apply hU;rfl;rfl;omega;rfl)|(apply aC;rfl;rfl)|(apply cP;(case hx|hi => rfl);(case hm => (omega));(case hml => (rfl));(case hα | hf|hg => infer_instance);(case hN => rfl))|((with_reducible apply aJ (k := 84));(case ha => rfl);(case h => (apply eF <;> (fail)));(case hp => (rfl));(case hN => rfl))|(apply bQ;rfl;rfl;rfl)|(apply aF;kernel_rfl)|(apply cF;rfl;rfl))|(apply aL;first|apply aH|apply aB|(apply aP;rfl;all_goals intro hc;have hq:=hc;(try simp only [cH] at hq);try exfalso;omega)|apply aT|apply aQ)|with_reducible apply aA|with_reducible apply bE|((with_reducible apply aO);case hr => rfl))
 all_goals (refine ⟨?_, rfl⟩; simp only [bW, AV.v.injEq, Value.bool.injEq, Value.int.injEq, true_and])
 all_goals grind [gB]
theorem B6 (ts : List Int) (s : AL.Stmt) (hl : dB ts = true) : PC Tryz.prog 163 [sl cI ts, fQ s] (fun r => r = bv (s.th.isEmpty && s.el.isEmpty && eQ ts s)) := by
 have hl2 := iU hl
 have hx := jO hl s.x
 have hy := jO hl s.y
 (refine aS Tryz.func163 rfl (by simp [Tryz.ntmps163]) ?_; rw [Tryz.ntmps163])
 repeat' (first|(apply aK;first|(apply aE;rfl;rfl)|(apply aN;rfl;rfl;rfl;rfl)|(apply aD;rfl;rfl;rfl)|(first|(apply nF;rfl;rfl;rfl)|(apply a6;rfl;rfl;rfl;(first|rfl|assumption))|(apply bB;rfl;rfl;rfl;(first|rfl|assumption))|(apply bR;(case hj|hb|hN => rfl);all_goals (intro hg;have hq := hg;(try simp only [cH] at hq);(try (exfalso;omega)))))|(apply aU;rfl;rfl;rfl;rfl)|(apply aC;rfl;rfl)|(first|(apply bU;rfl;(first|rfl|assumption);rfl;rfl)|(apply bG;rfl;(first|rfl|assumption);rfl;rfl))|(first|((with_reducible apply aJ (k := 84));(case ha => rfl);(case h => (apply eF <;> (fail)));(case hp => (rfl));(case hN => rfl))|((with_reducible apply aJ (k := 203));(case ha => rfl);(case h => (apply GR <;> (omega)));(case hp => (exact Pur.pf));(case hN => rfl))|((with_reducible apply aJ (k := 204));(case ha => rfl);(case h => (apply Bh <;> (fail)));(case hp => (rfl));(case hN => rfl)))|(apply bQ;rfl;rfl;rfl)|(apply aF;kernel_rfl)|(apply cF;rfl;rfl)|(apply bH;rfl;rfl;rfl;rfl))|(apply aL;first|apply aH|apply aB|(apply b9;kernel_rfl)|(apply bZ;rfl;(first|rfl|assumption))|(apply cG;rfl;(assumption))|(apply aP;rfl;all_goals intro hc;have hq:=hc;(try simp only [cH] at hq);try exfalso;omega)|apply aM|apply aT|apply aQ)|with_reducible apply aA|with_reducible apply bE|with_reducible apply aX|with_reducible apply cO|((with_reducible apply aO);case hr => rfl))
 all_goals (refine ⟨?_, rfl⟩; simp only [bW, AV.v.injEq, Value.bool.injEq, Value.int.injEq, true_and])
 all_goals (cases hth : s.th <;> cases hel : s.el <;> simp only [hth, hel, List.length_nil, List.length_cons, List.isEmpty_nil, List.isEmpty_cons, Bool.true_and, Bool.false_and] at *)
 all_goals (try unfold eQ)
 all_goals (try simp only [nH, Bool.or_eq_true, Bool.or_eq_false_iff, decide_eq_true_eq, decide_eq_false_iff_not] at *)
 all_goals grind
theorem Bl (ts : List Int) (s : AL.Stmt) (hl : dB ts = true) : PC Tryz.prog 234 [sl cI ts, fQ s] (fun r => r = bv (eQ ts s)) := by
 have hl2 := iU hl
 have hx := jO hl s.x
 have hy := jO hl s.y
 (refine aS Tryz.func234 rfl (by simp [Tryz.ntmps234]) ?_; rw [Tryz.ntmps234])
 repeat' (first|(apply aK;first|(apply aE;rfl;rfl)|(apply aN;rfl;rfl;rfl;rfl)|(apply aD;rfl;rfl;rfl)|(first|(apply nF;rfl;rfl;rfl)|(apply a6;rfl;rfl;rfl;(first|rfl|assumption))|(apply bB;rfl;rfl;rfl;(first|rfl|assumption))|(apply bR;(case hj|hb|hN => rfl);all_goals (intro hg;have hq := hg;(try simp only [cH] at hq);(try (exfalso;omega)))))|(apply aU;rfl;rfl;rfl;rfl)|(apply aC;rfl;rfl)|(first|(apply bU;rfl;(first|rfl|assumption);rfl;rfl)|(apply bG;rfl;(first|rfl|assumption);rfl;rfl))|((with_reducible apply aJ (k := 250));(case ha => rfl);(case h => (apply EU <;> (fail)));(case hp => (exact Pur.pf));(case hN => rfl))|(apply aF;kernel_rfl)|(apply bH;rfl;rfl;rfl;rfl))|(apply aL;first|apply aH|apply aB|(apply cG;rfl;(rfl))|(apply aP;rfl;all_goals intro hc;have hq:=hc;(try simp only [cH] at hq);try exfalso;omega)|apply aM|apply aT|apply aQ)|with_reducible apply aA|with_reducible apply bE|with_reducible apply aX|with_reducible apply cO|((with_reducible apply aO);case hr => rfl))
 all_goals (refine ⟨?_, rfl⟩; simp only [bW, AV.v.injEq, Value.bool.injEq, Value.int.injEq, true_and])
 all_goals (try unfold eQ)
 all_goals grind
theorem Eh (ts : List Int) (hl : dB ts = true) (m : Nat) (ih : ∀ l (d : Int), cA l < m → 0 ≤ d → d ≤ 1000 → PC Tryz.prog 139 [sl cI ts, sl bO l, iv d] (fun r => r = bv (okL ts d.toNat l))) (s : AL.Stmt) (d : Int) (hs : dP s ≤ m) (hd0 : 0 ≤ d) (hd : d ≤ 1000) :
  PC Tryz.prog 189 [sl cI ts, fQ s, iv d] (fun r => r = bv (sR ts d.toNat s)) := by
 rw [HE ts d hd0]
 (refine aS Tryz.func189 rfl (by simp [Tryz.ntmps189]) ?_; rw [Tryz.ntmps189])
 repeat' (first|(apply aK;first|(apply aE;rfl;rfl)|(first|(apply aN;rfl;rfl;rfl;rfl)|(apply aV;rfl;rfl;(exact (rfl:_=[_, _, _, _, _, _]));rfl;rfl;rfl))|(apply aD;rfl;rfl;rfl)|(first|(apply nF;rfl;rfl;rfl)|(apply a6;rfl;rfl;rfl;(assumption))|(apply bB;rfl;rfl;rfl;(first|rfl|assumption))|(apply bR;(case hj|hb|hN => rfl);all_goals (intro hg;have hq := hg;(try simp only [cH] at hq);(try (exfalso;omega)))))|(first|(apply hU;rfl;rfl;omega;rfl)|(apply aU;rfl;rfl;rfl;rfl))|(apply aC;rfl;rfl)|(first|(apply bU;rfl;(first|rfl|assumption);rfl;rfl)|(apply bG;rfl;(first|rfl|assumption);rfl;rfl))|(first|((with_reducible apply aJ (k := 139));(case ha => rfl);(case h => (apply ih <;> (first|omega|(have := lL s;omega))));(case hp => (exact Pur.pf));(case hN => rfl))|((with_reducible apply aJ (k := 234));(case ha => rfl);(case h => (apply Bl <;> (assumption)));(case hp => (exact Pur.pf));(case hN => rfl)))|(apply bQ;rfl;rfl;rfl)|(apply aF;kernel_rfl)|(apply bH;rfl;rfl;rfl;rfl))|(apply aL;first|apply aH|apply aB|(apply bZ;rfl;(rfl))|(apply cG;rfl;(rfl))|(apply aP;rfl;all_goals intro hc;have hq:=hc;(try simp only [cH] at hq);try exfalso;omega)|apply aT|apply aQ)|with_reducible apply aA|with_reducible apply bE|((with_reducible apply aO);case hr => rfl))
 all_goals (refine ⟨?_, rfl⟩; simp only [bW, AV.v.injEq, Value.bool.injEq, Value.int.injEq, true_and])
 all_goals (cases hth : s.th <;> cases hel : s.el <;> simp only [hth, hel, List.length_nil, List.length_cons, List.isEmpty_nil, List.isEmpty_cons, Bool.true_and, Bool.false_and] at *)
 all_goals grind
theorem Ee (ts : List Int) (hl : dB ts = true) (m : Nat) (ih : ∀ s (d : Int), dP s ≤ m → 0 ≤ d → d ≤ 1000 → PC Tryz.prog 189 [sl cI ts, fQ s, iv d] (fun r => r = bv (sR ts d.toNat s))) (l : List AL.Stmt) (d : Int) (hs : cA l ≤ m) (hm : m ≤ 100000000) (hd0 : 0 ≤ d) (hd : d ≤ 1000) :
  PC Tryz.prog 139 [sl cI ts, sl bO l, iv d] (fun r => r = bv (okL ts d.toNat l)) := by
 have hlen := eY l
 (refine aS Tryz.func139 rfl (by simp [Tryz.ntmps139]) ?_; rw [Tryz.ntmps139])
 repeat' (first|(apply aK;first|(apply aC;rfl;rfl)|(apply aF;kernel_rfl))|(apply aL;first|apply aH|apply aB|apply aM)|with_reducible apply aA)
 refine a8 (σ := Nat) [0, 1, 2] [(0, _), (1, _), (2, _)] [] [] (fun k => [(7, iv (k : Int))]) (fun k => []) (fun k => k ≤ l.length ∧ ∀ i, i < k → sR ts d.toNat l[i]! = true) (fun k => l.length - k) (0) ⟨by omega, by omega⟩ rfl rfl (by repeat' (first|exact trivial|refine And.intro rfl ?_)) (by repeat' (exact trivial)) ?_
 intro k ⟨hk, hall⟩
 have hck := gX l k
 repeat' (first|(apply aK;first|((with_reducible apply aJ (k := 189));(case ha => rfl);(case h => (apply ih _ d (Nat.le_trans (hck (by omega)) hs) hd0 hd));(case hp => (exact Pur.pf));(case hN => rfl))|(apply aE;rfl;rfl)|(apply aV;rfl;rfl;(exact (rfl:_=[_, _, _, _, _, _]));rfl;rfl;rfl)|(first|(apply bS;rfl;rfl;omega;rfl)|(apply aU;rfl;rfl;rfl;rfl))|(apply aC;rfl;rfl)|(apply aZ;(case hx|hi => rfl);(case hm => (omega));(case hml => (rfl));(case hα | hf|hg => infer_instance);(case hN => rfl))|(apply bQ;rfl;rfl;rfl)|(apply aF;kernel_rfl)|(apply cF;rfl;rfl))|(apply aL;first|apply aH|apply aB|(apply aP;rfl;all_goals intro hc;have hq:=hc;(try simp only [cH] at hq);try exfalso;omega)|apply aM|apply aT|apply bK|apply aQ)|with_reducible apply aA|with_reducible apply bE|with_reducible apply bI|with_reducible apply aX|with_reducible apply cO|with_reducible apply bJ|((with_reducible apply aO);case hr => rfl))
 ·(refine ⟨?_, rfl⟩; simp only [bW, AV.v.injEq, Value.bool.injEq, Value.int.injEq, true_and])
  rw [F9 (k := k) (by omega) hq]
 ·(apply dJ (k + 1); focus (refine Le.ren [] rfl (by decide) ?_ ?_ <;> repeat' (first | exact trivial | refine And.intro ⟨_, rfl, ?_⟩ ?_ | refine Or.inl ⟨?_, (by first | rfl | exact aY _ _)⟩ | rfl)))
  ·grind
  ·omega
 ·(refine ⟨?_, rfl⟩; simp only [bW, AV.v.injEq, Value.bool.injEq, Value.int.injEq, true_and])
  rw [HQ (fun i hi => hall i (by omega))]
theorem Jj (ts : List Int) (hl : dB ts = true) : ∀ (m : Nat), m ≤ 100000000 → (∀ s (d : Int), dP s ≤ m → 0 ≤ d → d ≤ 1000 → PC Tryz.prog 189 [sl cI ts, fQ s, iv d] (fun r => r = bv (sR ts d.toNat s))) ∧
  (∀ l (d : Int), cA l ≤ m → 0 ≤ d → d ≤ 1000 → PC Tryz.prog 139 [sl cI ts, sl bO l, iv d] (fun r => r = bv (okL ts d.toNat l))) := by
 intro m
 induction m using Nat.strongRecOn with
 | ind m ih =>
  intro hm
  have h1 : ∀ s (d : Int), dP s ≤ m → 0 ≤ d → d ≤ 1000 → PC Tryz.prog 189 [sl cI ts, fQ s, iv d] (fun r => r = bv (sR ts d.toNat s)) :=
   fun s d h1 h2 h3 => Eh ts hl m (fun l d' g1 g2 g3 => (ih (cA l) g1 (by omega)).2 l d' (Nat.le_refl _) g2 g3) s d h1 h2 h3
  exact ⟨h1, fun l d g1 g2 g3 => Ee ts hl m h1 l d g1 hm g2 g3⟩
theorem BO (m0 : Nat) (ih : ∀ l (most : Int), cA l < m0 → -1 ≤ most → most ≤ 1000 → PC Tryz.prog 140 [sl bO l, iv most] (fun r => r = iv (nG most 0 l))) (l : List AL.Stmt) (most : Int) (hs : cA l ≤ m0) (hm : m0 ≤ 100000000) (hd0 : -1 ≤ most) (hd : most ≤ 1000) :
  PC Tryz.prog 140 [sl bO l, iv most] (fun r => r = iv (nG most 0 l)) := by
 have hlen := eY l
 have hall := mA l most 0
 (refine aS Tryz.func140 rfl (by simp [Tryz.ntmps140]) ?_; rw [Tryz.ntmps140])
 repeat' (first|(apply aK;first|(apply aC;rfl;rfl)|(apply aF;kernel_rfl))|(apply aL;first|apply aH|apply aB|apply aM)|with_reducible apply aA)
 refine a8 (σ := Nat × Int) [0, 1] [(0, _), (1, _)] [] [] (fun k => [(6, iv (k.1 : Int)), (5, iv k.2)]) (fun k => []) (fun k => k.1 ≤ l.length ∧ nG most k.2 (l.drop k.1) = nG most 0 l ∧ 0 ≤ k.2 ∧ k.2 ≤ cA l) (fun k => l.length - k.1) (0, 0) ⟨by omega, rfl, by omega, by omega⟩ rfl rfl (by repeat' (first|exact trivial|refine And.intro rfl ?_)) (by repeat' (exact trivial)) ?_
 rintro ⟨k, n⟩ ⟨hk, hn, hn0, hn1⟩
 dsimp only at hk hn hn0 hn1 ⊢
 have hck := gX l k
 have hct := lL l[k]!
 have b1 := mA l[k]!.th (most - n) 0
 have b2 := fun z => mA l[k]!.el z 0
 have b3 := Gq l[k]! most n
 have b4 := mA (l.drop (k + 1)) most (GV most n l[k]!)
 have b5 := Fv most n l k
 rw [HI] at b3 b4 b5
 repeat' (first|(apply aK;first|((with_reducible apply aJ (k := 140));(case ha => rfl);(case h => (apply ih <;> omega));(case hp => (exact Pur.pf));(case hN => rfl))|(apply aE;rfl;rfl)|(apply aN;rfl;rfl;rfl;rfl)|(apply aD;rfl;rfl;rfl)|(first|(apply a6;rfl;rfl;rfl;(assumption))|(apply bB;rfl;rfl;rfl;(assumption))|(apply bR;(case hj|hb|hN => rfl);all_goals (intro hg;have hq := hg;(try simp only [cH] at hq);(try (exfalso;omega)))))|(first|(apply bS;rfl;rfl;omega;rfl)|(apply hU;rfl;rfl;omega;rfl)|(apply aU;rfl;rfl;rfl;rfl))|(apply aC;rfl;rfl)|(first|(apply bU;rfl;(assumption);rfl;rfl)|(apply bG;rfl;(assumption);rfl;rfl))|(apply aZ;(case hx|hi => rfl);(case hm => (omega));(case hml => (rfl));(case hα | hf|hg => infer_instance);(case hN => rfl))|(apply bQ;rfl;rfl;rfl)|(apply aF;kernel_rfl))|(apply aL;first|apply aH|apply aB|(apply cG;rfl;(rfl))|(apply aP;rfl;all_goals intro hc;have hq:=hc;(try simp only [cH] at hq);try exfalso;omega)|apply aM|apply aT|apply bK|apply aQ)|with_reducible apply aA|with_reducible apply bI|with_reducible apply aX|with_reducible apply bJ|((with_reducible apply aO);case hr => rfl))
 ·(apply Exists.intro (k + 1, n + 1 + nG (most - n) 0 l[k]!.th + nG (most - (n + 1 + nG (most - n) 0 l[k]!.th)) 0 l[k]!.el); refine And.intro ?_ (And.intro ?_ ?_); rotate_left 2; focus (refine Le.ren [] rfl (by decide) ?_ ?_ <;> repeat' (first | exact trivial | refine And.intro ⟨_, rfl, ?_⟩ ?_ | refine Or.inl ⟨?_, (by first | rfl | exact aY _ _)⟩ | rfl)))
  ·dsimp only;grind
  ·dsimp only;omega
 ·(apply dJ (k + 1, n + 1 + nG (most - n) 0 l[k]!.th); focus (refine Le.ren [] rfl (by decide) ?_ ?_ <;> repeat' (first | exact trivial | refine And.intro ⟨_, rfl, ?_⟩ ?_ | refine Or.inl ⟨?_, (by first | rfl | exact aY _ _)⟩ | rfl)))
  ·dsimp only;grind
  ·dsimp only;omega
 ·(refine ⟨?_, rfl⟩; simp only [bW, AV.v.injEq, Value.bool.injEq, Value.int.injEq, true_and])
  rw [← hn, Hi _ _ _ (by omega)]
 ·(refine ⟨?_, rfl⟩; simp only [bW, AV.v.injEq, Value.bool.injEq, Value.int.injEq, true_and])
  rw [← hn, I8 _ _ _ _ (by omega)]
theorem D9 (l : List AL.Stmt) (most : Int) (hs : cA l ≤ 100000000) (hd0 : -1 ≤ most) (hd : most ≤ 1000) :
  PC Tryz.prog 140 [sl bO l, iv most] (fun r => r = iv (nG most 0 l)) := by
 have h : ∀ (m : Nat), m ≤ 100000000 → ∀ l (most : Int), cA l ≤ m → -1 ≤ most → most ≤ 1000 → PC Tryz.prog 140 [sl bO l, iv most] (fun r => r = iv (nG most 0 l)) := by
  intro m
  induction m using Nat.strongRecOn with
  | ind m ih =>
   intro hm l most h1 h2 h3
   exact BO m (fun l' most' g1 g2 g3 => ih _ g1 (by omega) l' most' (Nat.le_refl _) g2 g3) l most h1 hm h2 h3
 exact h _ hs l most (Nat.le_refl _) hd0 hd
theorem E6 (ts : List Int) (l : List AL.Stmt) (d : Int) (hl : dB ts = true) (hs : cA l ≤ 100000000) (hd0 : 0 ≤ d) (hd : d ≤ 1000) : PC Tryz.prog 139 [sl cI ts, sl bO l, iv d] (fun r => r = bv (okL ts d.toNat l)) :=
 (Jj ts hl _ hs).2 l d (Nat.le_refl _) hd0 hd
theorem wK (ts : List Int) (hl : ts.length ≤ 1000000) : PC Tryz.prog 138 [sl cI ts] (fun r => r = bv (dB ts)) := by
 (refine aS Tryz.func138 rfl (by simp [Tryz.ntmps138]) ?_; rw [Tryz.ntmps138])
 repeat' (first|(apply aK;first|(apply aC;rfl;rfl)|(apply aF;kernel_rfl))|(apply aL;first|apply aH|apply aB|apply aM)|with_reducible apply aA)
 refine a8 (σ := Nat) [0] [(0, _)] [] [] (fun k => [(3, iv (k : Int))]) (fun k => []) (fun k => k ≤ ts.length ∧ ∀ i, i < k → 1 ≤ ts[i]! ∧ ts[i]! ≤ 4) (fun k => ts.length - k) (0) ⟨by omega, by omega⟩ rfl rfl (by repeat' (first|exact trivial|refine And.intro rfl ?_)) (by repeat' (exact trivial)) ?_
 intro k ⟨hk, hall⟩
 repeat' (first|(apply aK;first|(apply aE;rfl;rfl)|(apply aN;rfl;rfl;rfl;rfl)|(first|(apply a6;rfl;rfl;rfl;(assumption))|(apply bB;rfl;rfl;rfl;(assumption))|(apply bR;(case hj|hb|hN => rfl);all_goals (intro hg;have hq := hg;(try simp only [cH] at hq);(try (exfalso;omega)))))|(first|(apply bS;rfl;rfl;omega;rfl)|(apply aU;rfl;rfl;rfl;rfl))|(apply aC;rfl;rfl)|(first|(apply bU;rfl;(assumption);rfl;rfl)|(apply bG;rfl;(assumption);rfl;rfl))|(apply aZ;(case hx|hi => rfl);(case hm => (omega));(case hml => (rfl));(case hα | hf|hg => infer_instance);(case hN => rfl))|(apply bQ;rfl;rfl;rfl)|(apply aF;kernel_rfl))|(apply aL;first|apply aH|apply aB|(apply bZ;rfl;(rfl))|(apply aP;rfl;all_goals intro hc;have hq:=hc;(try simp only [cH] at hq);try exfalso;omega)|apply aM|apply aT|apply bK|apply aQ)|with_reducible apply aA|with_reducible apply bE|with_reducible apply bI|with_reducible apply aX|with_reducible apply cO|with_reducible apply bJ|((with_reducible apply aO);case hr => rfl))
 ·(refine ⟨?_, rfl⟩; simp only [bW, AV.v.injEq, Value.bool.injEq, Value.int.injEq, true_and])
  unfold dB;grind [m3, kJ]
 ·(apply dJ (k + 1); focus (refine Le.ren [] rfl (by decide) ?_ ?_ <;> repeat' (first | exact trivial | refine And.intro ⟨_, rfl, ?_⟩ ?_ | refine Or.inl ⟨?_, (by first | rfl | exact aY _ _)⟩ | rfl)))
  ·grind
  ·omega
 ·(refine ⟨?_, rfl⟩; simp only [bW, AV.v.injEq, Value.bool.injEq, Value.int.injEq, true_and])
  unfold dB;grind [m3, kJ]
 ·(refine ⟨?_, rfl⟩; simp only [bW, AV.v.injEq, Value.bool.injEq, Value.int.injEq, true_and])
  unfold dB;grind [m3, kJ]
theorem oL (p : Prg) (hl : p.types.length ≤ 1000000) (hs : cA p.body ≤ 100000000) : PC Tryz.prog 87 [dM p] (fun r => r = bv (c8 p)) := by
 unfold c8
 cases ht : dB p.types
 ·(refine aS Tryz.func87 rfl (by simp [Tryz.ntmps87]) ?_; rw [Tryz.ntmps87])
  repeat' (first|(apply aK;first|(apply aE;rfl;rfl)|(apply aN;rfl;rfl;rfl;rfl)|(apply aD;rfl;rfl;rfl)|(apply bB;rfl;rfl;rfl;(first|rfl|assumption))|(apply aC;rfl;rfl)|(apply bG;rfl;(first|rfl|assumption);rfl;rfl)|((with_reducible apply aJ (k := 138));(case ha => rfl);(case h => (apply wK <;> (assumption)));(case hp => (exact Pur.pf));(case hN => rfl))|(apply aF;kernel_rfl)|(apply bH;rfl;rfl;rfl;rfl))|(apply aL;first|apply aH|apply aB|apply aQ)|with_reducible apply aA|((with_reducible apply aO);case hr => rfl))
  (refine ⟨?_, rfl⟩; simp only [bW, AV.v.injEq, Value.bool.injEq, Value.int.injEq, true_and])
  rfl
 ·(refine aS Tryz.func87 rfl (by simp [Tryz.ntmps87]) ?_; rw [Tryz.ntmps87])
  repeat' (first|(apply aK;first|(apply aE;rfl;rfl)|(apply aN;rfl;rfl;rfl;rfl)|(apply aD;rfl;rfl;rfl)|(first|(apply a6;rfl;rfl;rfl;(assumption))|(apply bB;rfl;rfl;rfl;(assumption))|(apply bR;(case hj|hb|hN => rfl);all_goals (intro hg;have hq := hg;(try simp only [cH] at hq);(try (exfalso;omega)))))|(apply aU;rfl;rfl;rfl;rfl)|(apply aC;rfl;rfl)|(first|(apply bU;rfl;(assumption);rfl;rfl)|(apply bG;rfl;(assumption);rfl;rfl))|(first|((with_reducible apply aJ (k := 138));(case ha => rfl);(case h => (apply wK <;> (assumption)));(case hp => (exact Pur.pf));(case hN => rfl))|((with_reducible apply aJ (k := 139));(case ha => rfl);(case h => (apply E6 <;> (first|assumption|omega)));(case hp => (exact Pur.pf));(case hN => rfl))|((with_reducible apply aJ (k := 140));(case ha => rfl);(case h => (apply D9 <;> (first|assumption|omega)));(case hp => (exact Pur.pf));(case hN => rfl)))|(apply aF;kernel_rfl)|(apply bH;rfl;rfl;rfl;rfl))|(apply aL;first|apply aH|apply aB|apply aQ)|with_reducible apply aA|((with_reducible apply aO);case hr => rfl))
  ·(refine ⟨?_, rfl⟩; simp only [bW, AV.v.injEq, Value.bool.injEq, Value.int.injEq, true_and])
   rw [show okL p.types 4 p.body = true from hq]; simp only [Bool.true_and, Kf, decide_eq_decide]; omega
  ·(refine ⟨?_, rfl⟩; simp only [bW, AV.v.injEq, Value.bool.injEq, Value.int.injEq, true_and])
   rw [show okL p.types 4 p.body = false from hq]; rfl
end Go.Proofs.YtckihjkcgfphmaaGreat
namespace Go.Proofs.YtckihjkcgfphmaaGreat
open Go.AL Go.RowKit
theorem H3 {ts : List Int} {s : AL.Stmt} {nest c : Int} {N : Nat} {Q : Exit → AS → Prop} {all : Array Oper} {rest : List Oper} {tsl : List (Nat × AV)} {hsl : List (Nat × Option (List AV))} {nidl : Nat} {z0 : Lo} {md : Md} {d : Nat} {ty : TypeId} {pos : String} {af : Array Edge} {tys : Array TypeId} {x0 x1 x2 x3 : Operand} {i0 : Nat} (ha0 : ev (lk tsl) x0 = some (sl cI ts)) (ha1 : ev (lk tsl) x1 = some (fQ s)) (ha2 : ev (lk tsl) x2 = some (iv nest)) (ha3 : ev (lk tsl) x3 = some (.optr i0 0)) (hH0 : cK hsl i0 = some ([iv c])) (hmc : MC Tryz.prog 99 [sl cI ts, fQ s, iv nest, .optr 0 0] [(0, some ([iv c]))] 1 (fun _ : Unit => True) (fun _ => bv (mK ts nest c s).1) (fun _ => [(0, some ([iv (mK ts nest c s).2]))])) (hM : Nat.ble (nidl + 0) eR = true) (hN : Nat.blt d N = true) {md' : Md} [hmd : MdA md (gL [x0, x1, x2, x3] ++ [.inr i0]) (List.map Sum.inr (List.map Prod.fst ([(i0, some ([iv (mK ts nest c s).2]))] : List (Nat × Option (List AV)))) ++ [.inl d]) md'] (kk : RW Tryz.prog N all Q md' rest ⟨(d, bv (mK ts nest c s).1) :: tsl, iF hsl [(i0, some ([iv (mK ts nest c s).2]))], nidl + 0, z0⟩) : RW Tryz.prog N all Q md (⟨some d, .call ⟨.value (.func 99), #[x0, x1, x2, x3], tys⟩, ty, pos, af, none⟩ :: rest) ⟨tsl, hsl, nidl, z0⟩ := by
 refine cB [i0] 1 [(i0, some ([iv (mK ts nest c s).2]))] hmc (avs := [sl cI ts, fQ s, iv nest, .optr i0 0]) ?_ rfl ?_ rfl ?_ (by simpa using hM) ?_ ?_ ?_ hN (md' := md') (hmd := hmd) kk
 ·show evL (lk tsl) [x0, x1, x2, x3] = _
  simp only [evL, ha0, ha1, ha2, ha3]
 ·exact ⟨⟨_, _, rfl, hH0, by (repeat' (exact RnL.purI inferInstance))⟩, trivial⟩
 ·(repeat' (first|exact RnL.purI inferInstance|exact RnV.purI inferInstance|exact RnV.optr rfl|refine RnL.cons ?_ ?_))
 ·(repeat' (exact RnV.purI inferInstance))
 ·simp [dI]
 ·(repeat' (first|exact trivial|(refine And.intro ⟨0, _, rfl, rfl, ?_⟩ ?_)|exact RnL.purI inferInstance))
theorem tL {ts : List Int} {l : List AL.Stmt} {nest c : Int} {N : Nat} {Q : Exit → AS → Prop} {all : Array Oper} {rest : List Oper} {tsl : List (Nat × AV)} {hsl : List (Nat × Option (List AV))} {nidl : Nat} {z0 : Lo} {md : Md} {d : Nat} {ty : TypeId} {pos : String} {af : Array Edge} {tys : Array TypeId} {x0 x1 x2 x3 : Operand} {i0 : Nat} (ha0 : ev (lk tsl) x0 = some (sl cI ts)) (ha1 : ev (lk tsl) x1 = some (sl bO l)) (ha2 : ev (lk tsl) x2 = some (iv nest)) (ha3 : ev (lk tsl) x3 = some (.optr i0 0)) (hH0 : cK hsl i0 = some ([iv c])) (hmc : MC Tryz.prog 59 [sl cI ts, sl bO l, iv nest, .optr 0 0] [(0, some ([iv c]))] 1 (fun _ : Unit => True) (fun _ => bv (kT ts nest c l).1) (fun _ => [(0, some ([iv (kT ts nest c l).2]))])) (hM : Nat.ble (nidl + 0) eR = true) (hN : Nat.blt d N = true) {md' : Md} [hmd : MdA md (gL [x0, x1, x2, x3] ++ [.inr i0]) (List.map Sum.inr (List.map Prod.fst ([(i0, some ([iv (kT ts nest c l).2]))] : List (Nat × Option (List AV)))) ++ [.inl d]) md'] (kk : RW Tryz.prog N all Q md' rest ⟨(d, bv (kT ts nest c l).1) :: tsl, iF hsl [(i0, some ([iv (kT ts nest c l).2]))], nidl + 0, z0⟩) : RW Tryz.prog N all Q md (⟨some d, .call ⟨.value (.func 59), #[x0, x1, x2, x3], tys⟩, ty, pos, af, none⟩ :: rest) ⟨tsl, hsl, nidl, z0⟩ := by
 refine cB [i0] 1 [(i0, some ([iv (kT ts nest c l).2]))] hmc (avs := [sl cI ts, sl bO l, iv nest, .optr i0 0]) ?_ rfl ?_ rfl ?_ (by simpa using hM) ?_ ?_ ?_ hN (md' := md') (hmd := hmd) kk
 ·show evL (lk tsl) [x0, x1, x2, x3] = _
  simp only [evL, ha0, ha1, ha2, ha3]
 ·exact ⟨⟨_, _, rfl, hH0, by (repeat' (exact RnL.purI inferInstance))⟩, trivial⟩
 ·(repeat' (first|exact RnL.purI inferInstance|exact RnV.purI inferInstance|exact RnV.optr rfl|refine RnL.cons ?_ ?_))
 ·(repeat' (exact RnV.purI inferInstance))
 ·simp [dI]
 ·(repeat' (first|exact trivial|(refine And.intro ⟨0, _, rfl, rfl, ?_⟩ ?_)|exact RnL.purI inferInstance))
theorem Iv (ts : List Int) (htO : dB ts = true) (m : Nat) (scanAll_ih : ∀ l nest c, cA l < m → 0 ≤ nest → nest ≤ 4 → 0 ≤ c → c ≤ 30 → MC Tryz.prog 59 [sl cI ts, sl bO l, iv nest, .optr 0 0] [(0, some ([iv c]))] 1 (fun _ : Unit => True) (fun _ => bv (kT ts nest c l).1) (fun _ => [(0, some ([iv (kT ts nest c l).2]))])) (s : AL.Stmt) (nest c : Int) (hs : dP s ≤ m) (hn0 : 0 ≤ nest) (hn : nest ≤ 4) (hc0 : 0 ≤ c) (hc : c ≤ 30) : MC Tryz.prog 99 [sl cI ts, fQ s, iv nest, .optr 0 0] [(0, some ([iv c]))] 1 (fun _ : Unit => True) (fun _ => bv (mK ts nest c s).1) (fun _ => [(0, some ([iv (mK ts nest c s).2]))]) := by
 have ct := lL s
 have hb1 := Km ts s.th (nest + 1) (c + 1)
 (refine bX Tryz.func99 rfl (by simp [Tryz.ntmps99]) ?_; rw [Tryz.ntmps99])
 repeat' (first|(apply aK;first|(apply aE;rfl;rfl)|(first|(apply aN;rfl;rfl;rfl;rfl)|(apply aV;rfl;rfl;(exact (rfl:_=[_, _, _, _, _, _]));rfl;rfl;rfl))|(apply aD;rfl;rfl;rfl)|(first|(apply nF;rfl;rfl;rfl)|(apply a6;rfl;rfl;rfl;(assumption))|(apply bB;rfl;rfl;rfl;(first|rfl|assumption))|(apply bR;(case hj|hb|hN => rfl);all_goals (intro hg;have hq := hg;(try simp only [cH] at hq);(try (exfalso;omega)))))|(first|(apply bS;rfl;rfl;omega;rfl)|(apply aU;rfl;rfl;rfl;rfl))|(apply aC;rfl;rfl)|(first|(apply bU;rfl;(first|rfl|assumption);rfl;rfl)|(apply bG;rfl;(assumption);rfl;rfl))|(first|(apply tL;rfl;rfl;rfl;rfl;(rfl);(apply scanAll_ih <;> (first|assumption|omega|grind));rfl;rfl)|((with_reducible apply aJ (k := 162));(case ha => rfl);(case h => (apply B5 <;> (fail)));(case hp => (rfl));(case hN => rfl))|((with_reducible apply aJ (k := 163));(case ha => rfl);(case h => (apply B6 <;> (assumption)));(case hp => (exact Pur.pf));(case hN => rfl)))|(apply bQ;rfl;rfl;rfl)|(apply aF;kernel_rfl)|(apply cF;rfl;rfl)|(apply b8;rfl;rfl;rfl)|(apply bH;rfl;rfl;rfl;rfl)|(apply aW;rfl;rfl;rfl;rfl;rfl;(case hl => (simp;done));(exact (rfl:_=[_]))))|(apply aL;first|apply aH|apply aB|(apply bZ;rfl;(rfl))|(apply cG;rfl;(rfl))|(apply aP;rfl;all_goals intro hc;have hq:=hc;(try simp only [cH] at hq);try exfalso;omega)|apply aT|apply aQ)|with_reducible apply aA|with_reducible apply bE)
 all_goals (refine aO rfl ?_; refine bV () trivial ?_ ⟨.inr (Eq.trans (b := some _) rfl ?_), trivial⟩)
 all_goals (try simp only [bW, AV.v.injEq, Value.bool.injEq, Value.int.injEq, true_and, iV, List.take, List.drop, List.length, List.append, List.nil_append, List.append_nil, Option.some.injEq, List.cons.injEq, and_true])
 all_goals rw [Ja]
 all_goals clear scanAll_ih
 all_goals (cases hel : s.el <;> simp only [hel, List.length_nil, List.length_cons] at * <;> grind)
theorem BR (ts : List Int) (m : Nat) (hm : m ≤ 100000000) (scan_ih : ∀ s nest c, dP s ≤ m → 0 ≤ nest → nest ≤ 4 → 0 ≤ c → c ≤ 30 → MC Tryz.prog 99 [sl cI ts, fQ s, iv nest, .optr 0 0] [(0, some ([iv c]))] 1 (fun _ : Unit => True) (fun _ => bv (mK ts nest c s).1) (fun _ => [(0, some ([iv (mK ts nest c s).2]))])) (l : List AL.Stmt) (nest c : Int) (hs : cA l ≤ m) (hn0 : 0 ≤ nest) (hn : nest ≤ 4) (hc0 : 0 ≤ c) (hc : c ≤ 30) : MC Tryz.prog 59 [sl cI ts, sl bO l, iv nest, .optr 0 0] [(0, some ([iv c]))] 1 (fun _ : Unit => True) (fun _ => bv (kT ts nest c l).1) (fun _ => [(0, some ([iv (kT ts nest c l).2]))]) := by
 have hlen := eY l
 (refine bX Tryz.func59 rfl (by simp [Tryz.ntmps59]) ?_; rw [Tryz.ntmps59])
 repeat' (first|(apply aK;first|(apply aE;rfl;rfl)|(apply aC;rfl;rfl)|(apply bQ;rfl;rfl;rfl)|(apply aF;kernel_rfl))|(apply aL;first|apply aH|apply aB|apply aM)|with_reducible apply aA)
 refine a8 (σ := Nat × Int) [0, 2, 3, 11, 12] [(0, _), (2, _), (3, _), (11, _), (12, _)] [] [] (fun k => [(13, iv (k.1 : Int))]) (fun k => [(0, some [iv k.2])]) (fun k => k.1 ≤ l.length ∧ kT ts nest k.2 (l.drop k.1) = kT ts nest c l ∧ 0 ≤ k.2 ∧ k.2 ≤ 30) (fun k => l.length - k.1) (0, c) ⟨by omega, rfl, by omega, by omega⟩ rfl rfl (by repeat' (first|exact trivial|refine And.intro rfl ?_)) (by repeat' (first|exact trivial|refine And.intro (.inr rfl) ?_)) ?_
 rintro ⟨k, c'⟩ ⟨hk, hn, hn0, hn1⟩
 dsimp only at hk hn hn0 hn1 ⊢
 have hck := gX l k
 have hb1 := JQ ts l[k]! nest c'
 have hst := @scL_stop ts nest c' l k
 repeat' (first|(apply aK;first|(apply aE;rfl;rfl)|(apply aV;rfl;rfl;(exact (rfl:_=[_, _, _, _, _, _]));rfl;rfl;rfl)|(first|(apply bS;rfl;rfl;omega;rfl)|(apply aU;rfl;rfl;rfl;rfl))|(apply aC;rfl;rfl)|(apply aZ;(case hx|hi => rfl);(case hm => (omega));(case hml => (rfl));(case hα | hf|hg => infer_instance);(case hN => rfl))|(apply H3;rfl;rfl;rfl;rfl;(rfl);(apply scan_ih <;> (first|assumption|omega));rfl;rfl)|(apply aF;kernel_rfl)|(apply cF;rfl;rfl)|(apply bD;rfl;rfl)|(apply aW;rfl;rfl;rfl;rfl;rfl;(case hl => (simp;done));(exact (rfl:_=[_, _, _, _, _, _]))))|(apply aL;first|apply aH|apply aB|(apply aP;rfl;all_goals intro hc;have hq:=hc;(try simp only [cH] at hq);try exfalso;omega)|apply aM|apply aT|apply bK|apply aQ)|with_reducible apply aA|with_reducible apply bE|with_reducible apply bI|with_reducible apply aX|with_reducible apply cO|with_reducible apply bJ)
 ·(refine aO rfl ?_; refine bV () trivial ?_ ⟨.inr (Eq.trans (b := some _) rfl ?_), trivial⟩)
  all_goals (try simp only [bW, AV.v.injEq, Value.bool.injEq, Value.int.injEq, true_and, iV, List.take, List.drop, List.length, List.append, List.nil_append, List.append_nil, Option.some.injEq, List.cons.injEq, and_true])
  all_goals (rw [← hn, hst (by omega)]; grind)
 ·(apply dJ (k + 1, (mK ts nest c' l[k]!).2); focus (refine Le.ren [] rfl (by decide) ?_ ?_ <;> repeat' (first | exact trivial | refine And.intro ⟨_, rfl, ?_⟩ ?_ | refine And.intro ⟨_, _, rfl, rfl, ?_⟩ ?_ | exact Or.inr rfl | refine Or.inl ⟨?_, (by first | rfl | exact aY _ _)⟩ | rfl)))
  ·dsimp only;grind
  ·dsimp only;omega
 ·(refine aO rfl ?_; refine bV () trivial ?_ ⟨.inr (Eq.trans (b := some _) rfl ?_), trivial⟩)
  all_goals (try simp only [bW, AV.v.injEq, Value.bool.injEq, Value.int.injEq, true_and, iV, List.take, List.drop, List.length, List.append, List.nil_append, List.append_nil, Option.some.injEq, List.cons.injEq, and_true])
  all_goals (rw [← hn, List.drop_of_length_le (by omega), kT])
theorem Ey (ts : List Int) (hl : dB ts = true) : ∀ (m : Nat), m ≤ 100000000 → (∀ s (nest c : Int), dP s ≤ m → 0 ≤ nest → nest ≤ 4 → 0 ≤ c → c ≤ 30 → MC Tryz.prog 99 [sl cI ts, fQ s, iv nest, .optr 0 0] [(0, some ([iv c]))] 1 (fun _ : Unit => True) (fun _ => bv (mK ts nest c s).1) (fun _ => [(0, some ([iv (mK ts nest c s).2]))])) ∧
  (∀ l (nest c : Int), cA l ≤ m → 0 ≤ nest → nest ≤ 4 → 0 ≤ c → c ≤ 30 → MC Tryz.prog 59 [sl cI ts, sl bO l, iv nest, .optr 0 0] [(0, some ([iv c]))] 1 (fun _ : Unit => True) (fun _ => bv (kT ts nest c l).1) (fun _ => [(0, some ([iv (kT ts nest c l).2]))])) := by
 intro m
 induction m using Nat.strongRecOn with
 | ind m ih =>
  intro hm
  have h1 : ∀ s (nest c : Int), dP s ≤ m → 0 ≤ nest → nest ≤ 4 → 0 ≤ c → c ≤ 30 → MC Tryz.prog 99 [sl cI ts, fQ s, iv nest, .optr 0 0] [(0, some ([iv c]))] 1 (fun _ : Unit => True) (fun _ => bv (mK ts nest c s).1) (fun _ => [(0, some ([iv (mK ts nest c s).2]))]) :=
   fun s nest c h1 h2 h3 h4 h5 => Iv ts hl m (fun l nest c g1 g2 g3 g4 g5 => (ih (cA l) g1 (by omega)).2 l nest c (Nat.le_refl _) g2 g3 g4 g5) s nest c h1 h2 h3 h4 h5
  exact ⟨h1, fun l nest c g1 g2 g3 g4 g5 => BR ts m hm h1 l nest c g1 g2 g3 g4 g5⟩
theorem D5 (ts : List Int) (l : List AL.Stmt) (nest c : Int) (hl : dB ts = true) (hs : cA l ≤ 100000000) (hn0 : 0 ≤ nest) (hn : nest ≤ 4) (hc0 : 0 ≤ c) (hc : c ≤ 30) : MC Tryz.prog 59 [sl cI ts, sl bO l, iv nest, .optr 0 0] [(0, some ([iv c]))] 1 (fun _ : Unit => True) (fun _ => bv (kT ts nest c l).1) (fun _ => [(0, some ([iv (kT ts nest c l).2]))]) :=
 (Ey ts hl _ hs).2 l nest c (Nat.le_refl _) hn0 hn hc0 hc
theorem Bk (t : Int) : PC Tryz.prog 98 [iv t] (fun r => r = bv (!(decide (1 ≤ t) && decide (t ≤ 4)))) := by
 (refine aS Tryz.func98 rfl (by simp [Tryz.ntmps98]) ?_; rw [Tryz.ntmps98])
 repeat' (first|(apply aK;first|(apply aE;rfl;rfl)|(apply aC;rfl;rfl)|((with_reducible apply aJ (k := 84));(case ha => rfl);(case h => (apply eF <;> (fail)));(case hp => (rfl));(case hN => rfl))|(apply aF;kernel_rfl)|(apply cF;rfl;rfl))|(apply aL;first|apply aH|apply aB|apply aQ)|with_reducible apply aA|((with_reducible apply aO);case hr => rfl))
 all_goals (refine ⟨?_, rfl⟩; simp only [bW, AV.v.injEq, Value.bool.injEq, Value.int.injEq, true_and])
def uE (ts : List Int) : Int := match ts.findIdx? (fun t => !(decide (1 ≤ t) && decide (t ≤ 4))) with | some i => i | none => -1
theorem Ga (ts : List Int) (hl : ts.length ≤ 1000000) : PC Tryz.prog 161 [sl cI ts, .v (.func (.func 98) #[] #[])] (fun r => r = iv (uE ts)) := by
 (refine aS Tryz.func161 rfl (by simp [Tryz.ntmps161]) ?_; rw [Tryz.ntmps161])
 repeat' (first|(apply aK;first|(apply aE;rfl;rfl)|(apply aC;rfl;rfl)|(apply bQ;rfl;rfl;rfl)|(apply aF;kernel_rfl))|(apply aL;first|apply aH|apply aB|apply aM)|with_reducible apply aA)
 refine a8 (σ := Nat) [0, 1, 7] [(0, _), (1, _), (7, _)] [] [] (fun k => [(8, iv (k : Int))]) (fun k => []) (fun k => k ≤ ts.length ∧ ∀ i, i < k → 1 ≤ ts[i]! ∧ ts[i]! ≤ 4) (fun k => ts.length - k) (0) ⟨by omega, by omega⟩ rfl rfl (by repeat' (first|exact trivial|refine And.intro rfl ?_)) (by repeat' (exact trivial)) ?_
 intro k ⟨hk, hall⟩
 repeat' (first|(apply aK;first|(apply aE;rfl;rfl)|(apply aN;rfl;rfl;rfl;rfl)|(first|(apply bS;rfl;rfl;omega;rfl)|(apply aU;rfl;rfl;rfl;rfl))|(apply aC;rfl;rfl)|(apply aZ;(case hx|hi => rfl);(case hm => (omega));(case hml => (rfl));(case hα | hf|hg => infer_instance);(case hN => rfl))|((with_reducible apply jT);(case hx|hcl => rfl);(case hc => infer_instance);(case ha => rfl);(case h => (apply Bk <;> (fail)));(case hp => (rfl));(case hN => rfl))|(apply aF;kernel_rfl))|(apply aL;first|apply aH|apply aB|(apply aP;rfl;all_goals intro hc;have hq:=hc;(try simp only [cH] at hq);try exfalso;omega)|apply aM|apply aT|apply bK|apply aQ)|with_reducible apply aA|with_reducible apply bE|with_reducible apply bI|with_reducible apply aX|with_reducible apply cO|with_reducible apply bJ|((with_reducible apply aO);case hr => rfl))
 ·(refine ⟨?_, rfl⟩; simp only [bW, AV.v.injEq, Value.bool.injEq, Value.int.injEq, true_and])
  have hlt : k < ts.length := by omega
  have : ts.findIdx? (fun t => !(decide (1 ≤ t) && decide (t ≤ 4))) = some k := by
   rw [List.findIdx?_eq_some_iff_getElem]
   refine ⟨hlt, ?_, fun j hj => ?_⟩
   ·rw [← cT ts k hlt]; grind
   ·have := hall j hj;rw [cT ts j (by omega)] at this;simp;omega
  simp only [uE, this]
 ·(apply dJ (k + 1); focus (refine Le.ren [] rfl (by decide) ?_ ?_ <;> repeat' (first | exact trivial | refine And.intro ⟨_, rfl, ?_⟩ ?_ | refine Or.inl ⟨?_, (by first | rfl | exact aY _ _)⟩ | rfl)))
  ·grind
  ·omega
 ·(refine ⟨?_, rfl⟩; simp only [bW, AV.v.injEq, Value.bool.injEq, Value.int.injEq, true_and])
  have : ts.findIdx? (fun t => !(decide (1 ≤ t) && decide (t ≤ 4))) = none := by
   rw [List.findIdx?_eq_none_iff]
   intro x hx
   obtain ⟨i, hi, rfl⟩ := List.getElem_of_mem hx
   have := hall i (by omega);rw [cT ts i hi] at this;simp;omega
  simp only [uE, this]
theorem D8 (ts : List Int) : decide (0 ≤ uE ts) = !(ts.all (fun t => decide (1 ≤ t) && decide (t ≤ 4))) := by
 unfold uE
 split
 ·rename_i i h
  obtain ⟨h1, h2, _⟩ := List.findIdx?_eq_some_iff_getElem.1 h
  have : ts.all (fun t => decide (1 ≤ t) && decide (t ≤ 4)) = false := by
   rw [List.all_eq_false]; exact ⟨ts[i], List.getElem_mem h1, by simp at h2 ⊢; omega⟩
  rw [this]; simp
 ·rename_i h
  rw [List.findIdx?_eq_none_iff] at h
  have : ts.all (fun t => decide (1 ≤ t) && decide (t ≤ 4)) = true := by
   rw [List.all_eq_true]; intro x hx;simpa using h x hx
  rw [this]; rfl
theorem DT (ts : List Int) (hl : ts.length ≤ 1000000) : PC Tryz.prog 97 [sl cI ts, .v (.func (.func 98) #[] #[])] (fun r => r = bv (!(ts.all (fun t => decide (1 ≤ t) && decide (t ≤ 4))))) := by
 (refine aS Tryz.func97 rfl (by simp [Tryz.ntmps97]) ?_; rw [Tryz.ntmps97])
 repeat' (first|(apply aK;first|(apply aE;rfl;rfl)|(apply aU;rfl;rfl;rfl;rfl)|(apply aC;rfl;rfl)|((with_reducible apply aJ (k := 161));(case ha => rfl);(case h => (apply Ga <;> (assumption)));(case hp => (exact Pur.pf));(case hN => rfl))|(apply aF;kernel_rfl))|(apply aL;first|apply aH|apply aB|apply aQ)|with_reducible apply aA|((with_reducible apply aO);case hr => rfl))
 (refine ⟨?_, rfl⟩; simp only [bW, AV.v.injEq, Value.bool.injEq, Value.int.injEq, true_and])
 exact D8 ts
theorem sO (ts : List Int) (hl : ts.length ≤ 1000000) : PC Tryz.prog 58 [sl cI ts] (fun r => r = bv (dB ts)) := by
 (refine aS Tryz.func58 rfl (by simp [Tryz.ntmps58]) ?_; rw [Tryz.ntmps58])
 repeat' (first|(apply aK;first|(apply aE;rfl;rfl)|(first|(apply a6;rfl;rfl;rfl;(assumption))|(apply bB;rfl;rfl;rfl;(assumption))|(apply bR;(case hj|hb|hN => rfl);all_goals (intro hg;have hq := hg;(try simp only [cH] at hq);(try (exfalso;omega)))))|(apply aU;rfl;rfl;rfl;rfl)|(apply aC;rfl;rfl)|(first|(apply bU;rfl;(assumption);rfl;rfl)|(apply bG;rfl;(assumption);rfl;rfl))|((with_reducible apply aJ (k := 97));(case ha => rfl);(case h => (apply DT <;> (assumption)));(case hp => (exact Pur.pf));(case hN => rfl))|(apply bQ;rfl;rfl;rfl)|(apply aF;kernel_rfl)|(apply cF;rfl;rfl))|(apply aL;first|apply aH|apply aB|apply aQ)|with_reducible apply aA|((with_reducible apply aO);case hr => rfl))
 all_goals (refine ⟨?_, rfl⟩; simp only [bW, AV.v.injEq, Value.bool.injEq, Value.int.injEq, true_and])
 all_goals (unfold dB;grind)
theorem l5 (p : Prg) (hl : p.types.length ≤ 1000000) (hs : cA p.body ≤ 100000000) : PC Tryz.prog 25 [dM p] (fun r => r = bv (c8 p)) := by
 rw [← ED]
 cases ht : dB p.types
 ·(refine aS Tryz.func25 rfl (by simp [Tryz.ntmps25]) ?_; rw [Tryz.ntmps25])
  repeat' (first|(apply aK;first|(apply aE;rfl;rfl)|(apply aN;rfl;rfl;rfl;rfl)|(apply aD;rfl;rfl;rfl)|(apply bB;rfl;rfl;rfl;(assumption))|(apply aC;rfl;rfl)|(apply bG;rfl;(assumption);rfl;rfl)|((with_reducible apply aJ (k := 58));(case ha => rfl);(case h => (apply sO <;> (assumption)));(case hp => (exact Pur.pf));(case hN => rfl))|(apply aF;kernel_rfl)|(apply bH;rfl;rfl;rfl;rfl)|(apply bD;rfl;rfl)|(apply aW;rfl;rfl;rfl;rfl;rfl;(decide);(exact (rfl:_=[_]))))|(apply aL;first|apply aH|apply aB|apply aQ)|with_reducible apply aA|((with_reducible apply aO);case hr => rfl))
  all_goals (refine ⟨?_, rfl⟩; simp only [bW, AV.v.injEq, Value.bool.injEq, Value.int.injEq, true_and])
  all_goals grind
 ·(refine aS Tryz.func25 rfl (by simp [Tryz.ntmps25]) ?_; rw [Tryz.ntmps25])
  repeat' (first|(apply aK;first|(apply aE;rfl;rfl)|(apply aN;rfl;rfl;rfl;rfl)|(apply aD;rfl;rfl;rfl)|(apply a6;rfl;rfl;rfl;(assumption))|(apply aC;rfl;rfl)|(apply bU;rfl;(assumption);rfl;rfl)|(first|((with_reducible apply aJ (k := 58));(case ha => rfl);(case h => (apply sO <;> (assumption)));(case hp => (exact Pur.pf));(case hN => rfl))|(apply tL;rfl;rfl;rfl;rfl;(rfl);(apply D5 <;> (first|assumption|omega));rfl;rfl))|(apply aF;kernel_rfl)|(apply bH;rfl;rfl;rfl;rfl)|(apply bD;rfl;rfl)|(apply aW;rfl;rfl;rfl;rfl;rfl;(decide);(exact (rfl:_=[_]))))|(apply aL;first|apply aH|apply aB|apply aQ)|with_reducible apply aA|((with_reducible apply aO);case hr => rfl))
  all_goals (refine ⟨?_, rfl⟩; simp only [bW, AV.v.injEq, Value.bool.injEq, Value.int.injEq, true_and])
  all_goals grind
theorem qC {l : List AL.Stmt} {pts : List Pnt} {m : Nat} {N : Nat} {Q : Exit → AS → Prop} {all : Array Oper} {rest : List Oper} {tsl : List (Nat × AV)} {hsl : List (Nat × Option (List AV))} {nidl : Nat} {z0 : Lo} {md : Md} {d : Nat} {ty : TypeId} {pos : String} {af : Array Edge} {tys : Array TypeId} {x0 x1 : Operand} {i0 : Nat} (ha0 : ev (lk tsl) x0 = some (sl bO l)) (ha1 : ev (lk tsl) x1 = some (.own i0 0 m 5)) (hH0 : cK hsl i0 = some (aI dT pts)) (hmc : MC Tryz.prog 107 [sl bO l, .own 0 0 m 5] [(0, some (aI dT pts))] 1 (fun _ : Unit => True) (fun _ => .own 1 0 (m + eS l) 5) (fun _ => [(1, some (aI dT (pts ++ iE pts.length l)))])) (hM : Nat.ble (nidl + 1) eR = true) (hN : Nat.blt d N = true) {md' : Md} [hmd : MdA md (gL [x0, x1] ++ [.inr i0]) (List.map Sum.inr (List.map Prod.fst ([(nidl, some (aI dT (pts ++ iE pts.length l))), (i0, none)] : List (Nat × Option (List AV)))) ++ [.inl d]) md'] (kk : RW Tryz.prog N all Q md' rest ⟨(d, .own nidl 0 (m + eS l) 5) :: tsl, iF hsl [(nidl, some (aI dT (pts ++ iE pts.length l))), (i0, none)], nidl + 1, z0⟩) : RW Tryz.prog N all Q md (⟨some d, .call ⟨.value (.func 107), #[x0, x1], tys⟩, ty, pos, af, none⟩ :: rest) ⟨tsl, hsl, nidl, z0⟩ := by
 refine cB [i0] 2 [(nidl, some (aI dT (pts ++ iE pts.length l))), (i0, none)] hmc (avs := [sl bO l, .own i0 0 m 5]) ?_ rfl ?_ rfl ?_ (by simpa using hM) ?_ ?_ ?_ hN (md' := md') (hmd := hmd) kk
 ·show evL (lk tsl) [x0, x1] = _
  simp only [evL, ha0, ha1]
 ·exact ⟨⟨_, _, rfl, hH0, by (repeat' (exact RnL.purI inferInstance))⟩, trivial⟩
 ·(repeat' (first|exact RnL.purI inferInstance|exact RnV.purI inferInstance|exact RnV.own rfl|refine RnL.cons ?_ ?_))
 ·(repeat' (exact RnV.own rfl))
 ·simp [dI]
 ·(repeat' (first|exact trivial|(refine And.intro ⟨1, _, rfl, rfl, ?_⟩ ?_)|exact RnL.purI inferInstance))
theorem Ay (mm : Nat) (hmm : mm ≤ 1000000) (pointsOf_ih : ∀ l pts m, cA l < mm → m = pts.length → m + eS l ≤ 12000000 → MC Tryz.prog 107 [sl bO l, .own 0 0 m 5] [(0, some (aI dT pts))] 1 (fun _ : Unit => True) (fun _ => .own 1 0 (m + eS l) 5) (fun _ => [(1, some (aI dT (pts ++ iE pts.length l)))])) (l : List AL.Stmt) (pts : List Pnt) (m : Nat) (hs : cA l ≤ mm) (hm : m = pts.length) (hb : m + eS l ≤ 12000000) : MC Tryz.prog 107 [sl bO l, .own 0 0 m 5] [(0, some (aI dT pts))] 1 (fun _ : Unit => True) (fun _ => .own 1 0 (m + eS l) 5) (fun _ => [(1, some (aI dT (pts ++ iE pts.length l)))]) := by
 have hlen := eY l
 subst hm
 (refine bX Tryz.func107 rfl (by simp [Tryz.ntmps107]) ?_; rw [Tryz.ntmps107])
 repeat' (first|(apply aK;first|(apply aE;rfl;rfl)|(apply aC;rfl;rfl)|(apply bQ;rfl;rfl;rfl)|(apply aF;kernel_rfl))|(apply aL;first|apply aH|apply aB|apply aM)|with_reducible apply aA)
 refine AW.le ?_ (Le.mv (d := 1) (i := 0) (cs := aI dT pts) rfl rfl (by decide))
 refine a8 (σ := Nat × List Pnt × Nat) [9, 10] [(9, _), (10, _)] [] [] (fun k => [(11, iv (k.1 : Int)), (1, .own 1 0 k.2.2 5)]) (fun k => [(1, some (aI dT k.2.1))]) (fun k => k.1 ≤ l.length ∧ k.2.1 = pts ++ iE pts.length (l.take k.1) ∧ k.2.2 = k.2.1.length ∧ k.2.2 = pts.length + eS (l.take k.1)) (fun k => l.length - k.1) (0, pts, pts.length) ⟨by omega, by simp [iE], rfl, by simp [eS]⟩ rfl rfl (by repeat' (first|exact trivial|refine And.intro rfl ?_)) (by repeat' (first|exact trivial|refine And.intro (.inr rfl) ?_)) ?_
 rintro ⟨k, xs, m1⟩ ⟨hk, hxs, hm1, hm2⟩
 dsimp only at hk hxs hm1 hm2 ⊢
 have hck := gX l k
 have hct := lL l[k]!
 have hnt := BN l k
 have n9 := GX l[k]!
 have n10 := Cs l[k]!
 have n1 := Hh l[k]!
 repeat' (first|(apply aK;first|(apply aE;rfl;rfl)|(first|(apply aN;rfl;rfl;rfl;rfl)|(apply aV;rfl;rfl;(exact (rfl:_=[_, _, _, _, _, _]));rfl;rfl;rfl))|(apply aD;rfl;rfl;rfl)|(first|(apply bS;rfl;rfl;omega;rfl)|(apply aU;rfl;rfl;rfl;rfl))|(apply aC;rfl;rfl)|(first|(apply aZ;(case hx|hi => rfl);(case hm => (omega));(case hml => (rfl));(case hα | hf|hg => infer_instance);(case hN => rfl))|(apply cM;rfl;rfl;(omega);rfl))|(apply qC;rfl;rfl;(rfl);(apply pointsOf_ih <;> (first|omega|(simp only [gA] <;> omega)));rfl;rfl)|(first|(apply bQ;rfl;rfl;rfl)|(apply bY;rfl;rfl;rfl;rfl;rfl;(first|(rw [aR]; omega)|(rw [aR]; simp only [gA] <;> omega));(rfl);omega;omega;(first|exact sF (by (first|assumption|(simp only [gA] <;> omega)))|exact mC (by (first|assumption|(simp only [gA] <;> omega))));rfl;rfl))|(apply aF;kernel_rfl)|(apply cC;rfl;(exact (rfl:_=some [_, _, _, _, _]));(exact (rfl:_=[_, _, _, _, _]));rfl)|(apply bD;rfl;rfl)|((apply bF (t := _));(case hze|hsm|hl => rfl);(case hfl => (first|exact (rfl:_=some [_])|exact (rfl:_=some [_, _])|exact (rfl:_=some [_, _, _, _, _])));(case hM|hN => rfl))|(apply aW;rfl;rfl;rfl;rfl;rfl;(case hl => (first|(rw [aR]; simp only [gA] <;> omega)|(simp;done)));(first|exact sH (by (simp only [gA] <;> omega))|exact sS (by (simp only [gA] <;> omega))|exact (rfl:_=[_, _, _, _, _, _]))))|(apply aL;first|apply aH|apply aB|(apply aP;rfl;all_goals intro hc;have hq:=hc;(try simp only [cH] at hq);try exfalso;omega)|apply aM|apply aT|apply bK|apply aQ)|with_reducible apply aA|with_reducible apply bI|with_reducible apply aX|with_reducible apply bJ)
 ·(apply dJ (k + 1, _, _); focus (refine Le.ren [(1, 8)] rfl (by decide) ?_ ?_ <;> repeat' (first | exact trivial | refine And.intro ⟨_, rfl, ?_⟩ ?_ | refine And.intro ⟨_, _, rfl, rfl, ?_⟩ ?_ | exact Or.inr rfl | refine Or.inl ⟨?_, (by first | rfl | exact aY _ _)⟩ | rfl)))
  ·dsimp only
   rw [xL hm1, yP hm1, xR (by rw [dD, hm1]), xS (by rw [dD, hm1]), gU l _ k (by omega), gE l k (by omega), jJ, if_pos hq, n9 hq]
   refine ⟨by omega, ?_, by simp [dD]; omega, by omega⟩
   have e1 : xs.length = pts.length + eS (l.take k) := by omega
   rw [← List.append_assoc pts, ← hxs, ← e1]
   simp only [List.append_assoc, List.length_append, List.length_cons, List.length_nil, dD, hm1, Nat.zero_add]
   clear pointsOf_ih hxs hck hnt n9 n10 n1
   grind
  ·dsimp only;omega
 ·(apply dJ (k + 1, _, _); focus (refine Le.ren [(1, 8)] rfl (by decide) ?_ ?_ <;> repeat' (first | exact trivial | refine And.intro ⟨_, rfl, ?_⟩ ?_ | refine And.intro ⟨_, _, rfl, rfl, ?_⟩ ?_ | exact Or.inr rfl | refine Or.inl ⟨?_, (by first | rfl | exact aY _ _)⟩ | rfl)))
  ·dsimp only
   rw [BJ hm1, Bi hm1, gU l _ k (by omega), gE l k (by omega), jJ, if_neg (by omega), if_pos hq, n10 hq]
   refine ⟨by omega, ?_, by simp [dD]; omega, by omega⟩
   have e1 : xs.length = pts.length + eS (l.take k) := by omega
   rw [← List.append_assoc pts, ← hxs, ← e1]
   simp only [List.append_assoc, List.length_append, List.length_cons, List.length_nil, dD, hm1, Nat.zero_add]
   clear pointsOf_ih hxs hck hnt n9 n10 n1
   grind
  ·dsimp only;omega
 ·(apply dJ (k + 1, _, _); focus (refine Le.ren [(1, 5)] rfl (by decide) ?_ ?_ <;> repeat' (first | exact trivial | refine And.intro ⟨_, rfl, ?_⟩ ?_ | refine And.intro ⟨_, _, rfl, rfl, ?_⟩ ?_ | exact Or.inr rfl | refine Or.inl ⟨?_, (by first | rfl | exact aY _ _)⟩ | rfl)))
  ·dsimp only
   rw [gU l _ k (by omega), gE l k (by omega), jJ, if_neg ‹¬l[k]!.op = 9›, if_neg hq, n1 ‹¬l[k]!.op = 9› hq]
   refine ⟨by omega, ?_, by simp [dD]; omega, by omega⟩
   have e1 : xs.length = pts.length + eS (l.take k) := by omega
   rw [← List.append_assoc pts, ← hxs, ← e1, hm1]
  ·dsimp only;omega
 ·refine aO rfl ?_
  have e2 : l.take k = l := List.take_of_length_le (by omega)
  rw [e2] at hxs hm2
  refine bV () trivial ?_ ⟨.inr (Eq.trans (b := some _) rfl ?_), trivial⟩
  ·simp only [bW]; rw [hm2]
  ·rw [hxs]
theorem BS (l : List AL.Stmt) (pts : List Pnt) (m : Nat) (hs : cA l ≤ 1000000) (hm : m = pts.length) (hb : m + eS l ≤ 12000000) : MC Tryz.prog 107 [sl bO l, .own 0 0 m 5] [(0, some (aI dT pts))] 1 (fun _ : Unit => True) (fun _ => .own 1 0 (m + eS l) 5) (fun _ => [(1, some (aI dT (pts ++ iE pts.length l)))]) := by
 have h : ∀ (mm : Nat), mm ≤ 1000000 → ∀ l pts m, cA l ≤ mm → m = pts.length → m + eS l ≤ 12000000 → MC Tryz.prog 107 [sl bO l, .own 0 0 m 5] [(0, some (aI dT pts))] 1 (fun _ : Unit => True) (fun _ => .own 1 0 (m + eS l) 5) (fun _ => [(1, some (aI dT (pts ++ iE pts.length l)))]) := by
  intro mm
  induction mm using Nat.strongRecOn with
  | ind mm ih =>
   intro h0 l pts m h1 h2 h3
   exact Ay mm h0 (fun l' pts' m' g1 g2 g3 => ih _ g1 (by omega) l' pts' m' (Nat.le_refl _) g2 g3) l pts m h1 h2 h3
 exact h _ hs l pts m (Nat.le_refl _) hm hb
theorem xB {l : List AL.Stmt} {N : Nat} {Q : Exit → AS → Prop} {all : Array Oper} {rest : List Oper} {tsl : List (Nat × AV)} {hsl : List (Nat × Option (List AV))} {nidl : Nat} {z0 : Lo} {md : Md} {d : Nat} {ty : TypeId} {pos : String} {af : Array Edge} {tys : Array TypeId} {x0 x1 : Operand} (ha0 : ev (lk tsl) x0 = some (sl bO l)) (ha1 : ev (lk tsl) x1 = some (.v (.slice none 0 0))) (hmc : MC Tryz.prog 107 [sl bO l, .v (.slice none 0 0)] [] 0 (fun _ : Unit => True) (fun _ => .own 0 0 (eS l) 5) (fun _ => [(0, some (aI dT (iE 0 l)))])) (hM : Nat.ble (nidl + 1) eR = true) (hN : Nat.blt d N = true) {md' : Md} [hmd : MdA md (gL [x0, x1] ++ []) (List.map Sum.inr (List.map Prod.fst ([(nidl, some (aI dT (iE 0 l)))] : List (Nat × Option (List AV)))) ++ [.inl d]) md'] (kk : RW Tryz.prog N all Q md' rest ⟨(d, .own nidl 0 (eS l) 5) :: tsl, iF hsl [(nidl, some (aI dT (iE 0 l)))], nidl + 1, z0⟩) : RW Tryz.prog N all Q md (⟨some d, .call ⟨.value (.func 107), #[x0, x1], tys⟩, ty, pos, af, none⟩ :: rest) ⟨tsl, hsl, nidl, z0⟩ := by
 refine cB [] 1 [(nidl, some (aI dT (iE 0 l)))] hmc (avs := [sl bO l, .v (.slice none 0 0)]) ?_ rfl ?_ rfl ?_ (by simpa using hM) ?_ ?_ ?_ hN (md' := md') (hmd := hmd) kk
 ·show evL (lk tsl) [x0, x1] = _
  simp only [evL, ha0, ha1]
 ·exact trivial
 ·(repeat' (exact RnL.purI inferInstance))
 ·(repeat' (exact RnV.own rfl))
 ·simp [dI]
 ·(repeat' (first|exact trivial|(refine And.intro ⟨0, _, rfl, rfl, ?_⟩ ?_)|exact RnL.purI inferInstance))
theorem A5 (l : List AL.Stmt) (hs : cA l ≤ 1000000) : MC Tryz.prog 107 [sl bO l, .v (.slice none 0 0)] [] 0 (fun _ : Unit => True) (fun _ => .own 0 0 (eS l) 5) (fun _ => [(0, some (aI dT (iE 0 l)))]) := by
 have hlen := eY l
 have hn2 := l6 l
 (refine bX Tryz.func107 rfl (by simp [Tryz.ntmps107]) ?_; rw [Tryz.ntmps107])
 repeat' (first|(apply aK;first|(apply aE;rfl;rfl)|(apply aC;rfl;rfl)|(apply bQ;rfl;rfl;rfl)|(apply aF;kernel_rfl))|(apply aL;first|apply aH|apply aB|apply aM)|with_reducible apply aA)
 refine AW.le ?_ (Le.nilOwn (d := 1) 5 rfl (by decide))
 refine a8 (σ := Nat × List Pnt × Nat) [9, 10] [(9, _), (10, _)] [] [] (fun k => [(11, iv (k.1 : Int)), (1, .own 0 0 k.2.2 5)]) (fun k => [(0, some (aI dT k.2.1))]) (fun k => k.1 ≤ l.length ∧ k.2.1 = iE 0 (l.take k.1) ∧ k.2.2 = k.2.1.length ∧ k.2.2 = eS (l.take k.1)) (fun k => l.length - k.1) (0, [], 0) ⟨by omega, by simp [iE], rfl, by simp [eS]⟩ rfl rfl (by repeat' (first|exact trivial|refine And.intro rfl ?_)) (by repeat' (first|exact trivial|refine And.intro (.inr rfl) ?_)) ?_
 rintro ⟨k, xs, m1⟩ ⟨hk, hxs, hm1, hm2⟩
 dsimp only at hk hxs hm1 hm2 ⊢
 have hck := gX l k
 have hct := lL l[k]!
 have hnt := BN l k
 have n9 := GX l[k]!
 have n10 := Cs l[k]!
 have n1 := Hh l[k]!
 repeat' (first|(apply aK;first|(apply aE;rfl;rfl)|(first|(apply aN;rfl;rfl;rfl;rfl)|(apply aV;rfl;rfl;(exact (rfl:_=[_, _, _, _, _, _]));rfl;rfl;rfl))|(apply aD;rfl;rfl;rfl)|(first|(apply bS;rfl;rfl;omega;rfl)|(apply aU;rfl;rfl;rfl;rfl))|(apply aC;rfl;rfl)|(first|(apply aZ;(case hx|hi => rfl);(case hm => (omega));(case hml => (rfl));(case hα | hf|hg => infer_instance);(case hN => rfl))|(apply cM;rfl;rfl;(omega);rfl))|(apply qC;rfl;rfl;(rfl);(apply BS <;> (first|omega|(simp only [gA] <;> omega)));rfl;rfl)|(first|(apply bQ;rfl;rfl;rfl)|(apply bY;rfl;rfl;rfl;rfl;rfl;(first|(rw [aR]; omega)|(rw [aR]; simp only [gA] <;> omega));(rfl);omega;omega;(first|exact sF (by (first|assumption|(simp only [gA] <;> omega)))|exact mC (by (first|assumption|(simp only [gA] <;> omega))));rfl;rfl))|(apply aF;kernel_rfl)|(apply cC;rfl;(exact (rfl:_=some [_, _, _, _, _]));(exact (rfl:_=[_, _, _, _, _]));rfl)|(apply bD;rfl;rfl)|((apply bF (t := _));(case hze|hsm|hl => rfl);(case hfl => (first|exact (rfl:_=some [_])|exact (rfl:_=some [_, _])|exact (rfl:_=some [_, _, _, _, _])));(case hM|hN => rfl))|(apply aW;rfl;rfl;rfl;rfl;rfl;(case hl => (first|(rw [aR]; simp only [gA] <;> omega)|(simp;done)));(first|exact sH (by (simp only [gA] <;> omega))|exact sS (by (simp only [gA] <;> omega))|exact (rfl:_=[_, _, _, _, _, _]))))|(apply aL;first|apply aH|apply aB|(apply aP;rfl;all_goals intro hc;have hq:=hc;(try simp only [cH] at hq);try exfalso;omega)|apply aM|apply aT|apply bK|apply aQ)|with_reducible apply aA|with_reducible apply bI|with_reducible apply aX|with_reducible apply bJ)
 ·(apply dJ (k + 1, _, _); focus (refine Le.ren [(0, 7)] rfl (by decide) ?_ ?_ <;> repeat' (first | exact trivial | refine And.intro ⟨_, rfl, ?_⟩ ?_ | refine And.intro ⟨_, _, rfl, rfl, ?_⟩ ?_ | exact Or.inr rfl | refine Or.inl ⟨?_, (by first | rfl | exact aY _ _)⟩ | rfl)))
  ·dsimp only
   rw [xL hm1, yP hm1, xR (by rw [dD, hm1]), xS (by rw [dD, hm1]), gU l _ k (by omega), gE l k (by omega), jJ, if_pos hq, n9 hq]
   refine ⟨by omega, ?_, by simp [dD]; omega, by omega⟩
   have e1 : eS (l.take k) = xs.length := by omega
   rw [Nat.zero_add, e1]
   rw [← hxs]
   simp only [List.append_assoc, List.length_append, List.length_cons, List.length_nil, dD, hm1, Nat.zero_add]
   clear hxs hck hnt n9 n10 n1
   grind
  ·dsimp only;omega
 ·(apply dJ (k + 1, _, _); focus (refine Le.ren [(0, 7)] rfl (by decide) ?_ ?_ <;> repeat' (first | exact trivial | refine And.intro ⟨_, rfl, ?_⟩ ?_ | refine And.intro ⟨_, _, rfl, rfl, ?_⟩ ?_ | exact Or.inr rfl | refine Or.inl ⟨?_, (by first | rfl | exact aY _ _)⟩ | rfl)))
  ·dsimp only
   rw [BJ hm1, Bi hm1, gU l _ k (by omega), gE l k (by omega), jJ, if_neg (by omega), if_pos hq, n10 hq]
   refine ⟨by omega, ?_, by simp [dD]; omega, by omega⟩
   have e1 : eS (l.take k) = xs.length := by omega
   rw [Nat.zero_add, e1]
   rw [← hxs]
   simp only [List.append_assoc, List.length_append, List.length_cons, List.length_nil, dD, hm1, Nat.zero_add]
   clear hxs hck hnt n9 n10 n1
   grind
  ·dsimp only;omega
 ·(apply dJ (k + 1, _, _); focus (refine Le.ren [(0, 4)] rfl (by decide) ?_ ?_ <;> repeat' (first | exact trivial | refine And.intro ⟨_, rfl, ?_⟩ ?_ | refine And.intro ⟨_, _, rfl, rfl, ?_⟩ ?_ | exact Or.inr rfl | refine Or.inl ⟨?_, (by first | rfl | exact aY _ _)⟩ | rfl)))
  ·dsimp only
   rw [gU l _ k (by omega), gE l k (by omega), jJ, if_neg ‹¬l[k]!.op = 9›, if_neg hq, n1 ‹¬l[k]!.op = 9› hq]
   refine ⟨by omega, ?_, by simp [dD]; omega, by omega⟩
   have e1 : eS (l.take k) = xs.length := by omega
   rw [Nat.zero_add, e1]
   rw [← hxs, hm1]
  ·dsimp only;omega
 ·refine aO rfl ?_
  have e2 : l.take k = l := List.take_of_length_le (by omega)
  rw [e2] at hxs hm2
  refine bV () trivial ?_ ⟨.inr (Eq.trans (b := some _) rfl ?_), trivial⟩
  ·simp only [bW]; rw [hm2]
  ·rw [hxs]
theorem FU (p : Prg) (hs : cA p.body ≤ 1000000) : PC Tryz.prog 96 [dM p] (fun r => r = sl dT (dE p)) := by
 have hn := l6 p.body
 (refine aS Tryz.func96 rfl (by simp [Tryz.ntmps96]) ?_; rw [Tryz.ntmps96])
 repeat' (first|(apply aK;first|(apply aN;rfl;rfl;rfl;rfl)|(apply aD;rfl;rfl;rfl)|(apply aC;rfl;rfl)|(apply xB;rfl;rfl;(apply A5 <;> (assumption));rfl;rfl)|(apply bY;rfl;rfl;rfl;rfl;rfl;(rw [aR]; simp only [gA] <;> omega);(rfl);omega;omega;(exact mC (by (simp only [gA] <;> omega)));rfl;rfl)|(apply aF;kernel_rfl)|(apply cC;rfl;(exact (rfl:_=some [_, _, _, _, _]));(exact (rfl:_=[_, _, _, _, _]));rfl)|(apply bH;rfl;rfl;rfl;rfl)|((apply bF (t := _));(case hze|hsm|hl => rfl);(case hfl => (exact (rfl:_=some [_, _, _, _, _])));(case hM|hN => rfl)))|(apply aL;first|apply aH|apply aB|apply aQ)|with_reducible apply aA)
 (refine cE (Le.frzD (d := 2) (i := 3) rfl rfl) ?_; refine aO rfl ?_)
 refine ⟨?_, ?_⟩
 ·simp only [bW, sl, dE, List.length_append, List.length_cons, List.length_nil, dD, Nat.zero_add]
 ·(exact aY _ _)
theorem AN {l : List AL.Stmt} {pts : List Pnt} {m : Nat} {N : Nat} {Q : Exit → AS → Prop} {all : Array Oper} {rest : List Oper} {tsl : List (Nat × AV)} {hsl : List (Nat × Option (List AV))} {nidl : Nat} {z0 : Lo} {md : Md} {d : Nat} {ty : TypeId} {pos : String} {af : Array Edge} {tys : Array TypeId} {x0 x1 : Operand} {i0 : Nat} (ha0 : ev (lk tsl) x0 = some (.own i0 0 m 5)) (ha1 : ev (lk tsl) x1 = some (sl bO l)) (hH0 : cK hsl i0 = some (aI dT pts)) (hmc : MC Tryz.prog 100 [.own 0 0 m 5, sl bO l] [(0, some (aI dT pts))] 1 (fun _ : Unit => True) (fun _ => .own 1 0 (m + eS l) 5) (fun _ => [(1, some (aI dT (pts ++ iE pts.length l)))])) (hM : Nat.ble (nidl + 1) eR = true) (hN : Nat.blt d N = true) {md' : Md} [hmd : MdA md (gL [x0, x1] ++ [.inr i0]) (List.map Sum.inr (List.map Prod.fst ([(nidl, some (aI dT (pts ++ iE pts.length l))), (i0, none)] : List (Nat × Option (List AV)))) ++ [.inl d]) md'] (kk : RW Tryz.prog N all Q md' rest ⟨(d, .own nidl 0 (m + eS l) 5) :: tsl, iF hsl [(nidl, some (aI dT (pts ++ iE pts.length l))), (i0, none)], nidl + 1, z0⟩) : RW Tryz.prog N all Q md (⟨some d, .call ⟨.value (.func 100), #[x0, x1], tys⟩, ty, pos, af, none⟩ :: rest) ⟨tsl, hsl, nidl, z0⟩ := by
 refine cB [i0] 2 [(nidl, some (aI dT (pts ++ iE pts.length l))), (i0, none)] hmc (avs := [.own i0 0 m 5, sl bO l]) ?_ rfl ?_ rfl ?_ (by simpa using hM) ?_ ?_ ?_ hN (md' := md') (hmd := hmd) kk
 ·show evL (lk tsl) [x0, x1] = _
  simp only [evL, ha0, ha1]
 ·exact ⟨⟨_, _, rfl, hH0, by (repeat' (exact RnL.purI inferInstance))⟩, trivial⟩
 ·(repeat' (first|exact RnL.purI inferInstance|exact RnV.own rfl|refine RnL.cons ?_ ?_))
 ·(repeat' (exact RnV.own rfl))
 ·simp [dI]
 ·(repeat' (first|exact trivial|(refine And.intro ⟨1, _, rfl, rfl, ?_⟩ ?_)|exact RnL.purI inferInstance))
theorem FH (mm : Nat) (hmm : mm ≤ 1000000) (l2Add_ih : ∀ l pts m, cA l < mm → m = pts.length → m + eS l ≤ 12000000 → MC Tryz.prog 100 [.own 0 0 m 5, sl bO l] [(0, some (aI dT pts))] 1 (fun _ : Unit => True) (fun _ => .own 1 0 (m + eS l) 5) (fun _ => [(1, some (aI dT (pts ++ iE pts.length l)))])) (l : List AL.Stmt) (pts : List Pnt) (m : Nat) (hs : cA l ≤ mm) (hm : m = pts.length) (hb : m + eS l ≤ 12000000) : MC Tryz.prog 100 [.own 0 0 m 5, sl bO l] [(0, some (aI dT pts))] 1 (fun _ : Unit => True) (fun _ => .own 1 0 (m + eS l) 5) (fun _ => [(1, some (aI dT (pts ++ iE pts.length l)))]) := by
 have hlen := eY l
 subst hm
 (refine bX Tryz.func100 rfl (by simp [Tryz.ntmps100]) ?_; rw [Tryz.ntmps100])
 repeat' (first|(apply aK;first|(apply aC;rfl;rfl)|(apply aF;kernel_rfl))|(apply aL;first|apply aH|apply aB|apply aM)|with_reducible apply aA)
 refine AW.le ?_ (Le.mv (d := 0) (i := 0) (cs := aI dT pts) rfl rfl (by decide))
 refine a8 (σ := Nat × List Pnt × Nat) [1] [(1, _)] [] [] (fun k => [(5, iv (k.1 : Int)), (0, .own 1 0 k.2.2 5)]) (fun k => [(1, some (aI dT k.2.1))]) (fun k => k.1 ≤ l.length ∧ k.2.1 = pts ++ iE pts.length (l.take k.1) ∧ k.2.2 = k.2.1.length ∧ k.2.2 = pts.length + eS (l.take k.1)) (fun k => l.length - k.1) (0, pts, pts.length) ⟨by omega, by simp [iE], rfl, by simp [eS]⟩ rfl rfl (by repeat' (first|exact trivial|refine And.intro rfl ?_)) (by repeat' (first|exact trivial|refine And.intro (.inr rfl) ?_)) ?_
 rintro ⟨k, xs, m1⟩ ⟨hk, hxs, hm1, hm2⟩
 dsimp only at hk hxs hm1 hm2 ⊢
 have hck := gX l k
 have hct := lL l[k]!
 have hnt := BN l k
 have n9 := GX l[k]!
 have n10 := Cs l[k]!
 have n1 := Hh l[k]!
 repeat' (first|(apply aK;first|(apply aE;rfl;rfl)|(first|(apply aN;rfl;rfl;rfl;rfl)|(apply aV;rfl;rfl;(exact (rfl:_=[_, _, _, _, _, _]));rfl;rfl;rfl))|(apply aD;rfl;rfl;rfl)|(first|(apply bS;rfl;rfl;omega;rfl)|(apply aU;rfl;rfl;rfl;rfl))|(apply aC;rfl;rfl)|(first|(apply aZ;(case hx|hi => rfl);(case hm => (omega));(case hml => (rfl));(case hα | hf|hg => infer_instance);(case hN => rfl))|(apply cM;rfl;rfl;(omega);rfl))|(apply AN;rfl;rfl;(rfl);(apply l2Add_ih <;> (first|omega|(simp only [gA] <;> omega)));rfl;rfl)|(first|(apply bQ;rfl;rfl;rfl)|(apply bY;rfl;rfl;rfl;rfl;rfl;(first|(rw [aR]; omega)|(rw [aR]; simp only [gA] <;> omega));(rfl);omega;omega;(first|exact sF (by (first|assumption|(simp only [gA] <;> omega)))|exact mC (by (first|assumption|(simp only [gA] <;> omega))));rfl;rfl))|(apply aF;kernel_rfl)|(apply cC;rfl;(exact (rfl:_=some [_, _, _, _, _]));(exact (rfl:_=[_, _, _, _, _]));rfl)|(apply bD;rfl;rfl)|((apply bF (t := _));(case hze|hsm|hl => rfl);(case hfl => (first|exact (rfl:_=some [_])|exact (rfl:_=some [_, _])|exact (rfl:_=some [_, _, _, _, _])));(case hM|hN => rfl))|(apply aW;rfl;rfl;rfl;rfl;rfl;(case hl => (first|(rw [aR]; simp only [gA] <;> omega)|(simp;done)));(first|exact sH (by (simp only [gA] <;> omega))|exact sS (by (simp only [gA] <;> omega))|exact (rfl:_=[_, _, _, _, _, _]))))|(apply aL;first|apply aH|apply aB|(apply aP;rfl;all_goals intro hc;have hq:=hc;(try simp only [cH] at hq);try exfalso;omega)|apply aM|apply aT|apply bK|apply aQ)|with_reducible apply aA|with_reducible apply bI|with_reducible apply aX|with_reducible apply bJ)
 ·(apply dJ (k + 1, _, _); focus (refine Le.ren [(1, 8)] rfl (by decide) ?_ ?_ <;> repeat' (first | exact trivial | refine And.intro ⟨_, rfl, ?_⟩ ?_ | refine And.intro ⟨_, _, rfl, rfl, ?_⟩ ?_ | exact Or.inr rfl | refine Or.inl ⟨?_, (by first | rfl | exact aY _ _)⟩ | rfl)))
  ·dsimp only
   rw [xR (by rw [dD, hm1]), xS (by rw [dD, hm1]), xL hm1, yP hm1, gU l _ k (by omega), gE l k (by omega), jJ, if_pos hq, n9 hq]
   refine ⟨by omega, ?_, by simp [dD]; omega, by omega⟩
   have e1 : xs.length = pts.length + eS (l.take k) := by omega
   rw [← List.append_assoc pts, ← hxs, ← e1]
   simp only [List.append_assoc, List.length_append, List.length_cons, List.length_nil, dD, hm1, Nat.zero_add]
   clear l2Add_ih hxs hck hnt n9 n10 n1
   grind
  ·dsimp only;omega
 ·(apply dJ (k + 1, _, _); focus (refine Le.ren [(1, 8)] rfl (by decide) ?_ ?_ <;> repeat' (first | exact trivial | refine And.intro ⟨_, rfl, ?_⟩ ?_ | refine And.intro ⟨_, _, rfl, rfl, ?_⟩ ?_ | exact Or.inr rfl | refine Or.inl ⟨?_, (by first | rfl | exact aY _ _)⟩ | rfl)))
  ·dsimp only
   rw [BJ hm1, Bi hm1, gU l _ k (by omega), gE l k (by omega), jJ, if_neg (by omega), if_pos hq, n10 hq]
   refine ⟨by omega, ?_, by simp [dD]; omega, by omega⟩
   have e1 : xs.length = pts.length + eS (l.take k) := by omega
   rw [← List.append_assoc pts, ← hxs, ← e1]
   simp only [List.append_assoc, List.length_append, List.length_cons, List.length_nil, dD, hm1, Nat.zero_add]
   clear l2Add_ih hxs hck hnt n9 n10 n1
   grind
  ·dsimp only;omega
 ·(apply dJ (k + 1, _, _); focus (refine Le.ren [(1, 5)] rfl (by decide) ?_ ?_ <;> repeat' (first | exact trivial | refine And.intro ⟨_, rfl, ?_⟩ ?_ | refine And.intro ⟨_, _, rfl, rfl, ?_⟩ ?_ | exact Or.inr rfl | refine Or.inl ⟨?_, (by first | rfl | exact aY _ _)⟩ | rfl)))
  ·dsimp only
   rw [gU l _ k (by omega), gE l k (by omega), jJ, if_neg ‹¬l[k]!.op = 9›, if_neg hq, n1 ‹¬l[k]!.op = 9› hq]
   refine ⟨by omega, ?_, by simp [dD]; omega, by omega⟩
   have e1 : xs.length = pts.length + eS (l.take k) := by omega
   rw [← List.append_assoc pts, ← hxs, ← e1, hm1]
  ·dsimp only;omega
 ·refine aO rfl ?_
  have e2 : l.take k = l := List.take_of_length_le (by omega)
  rw [e2] at hxs hm2
  refine bV () trivial ?_ ⟨.inr (Eq.trans (b := some _) rfl ?_), trivial⟩
  ·simp only [bW]; rw [hm2]
  ·rw [hxs]
theorem HM (l : List AL.Stmt) (pts : List Pnt) (m : Nat) (hs : cA l ≤ 1000000) (hm : m = pts.length) (hb : m + eS l ≤ 12000000) : MC Tryz.prog 100 [.own 0 0 m 5, sl bO l] [(0, some (aI dT pts))] 1 (fun _ : Unit => True) (fun _ => .own 1 0 (m + eS l) 5) (fun _ => [(1, some (aI dT (pts ++ iE pts.length l)))]) := by
 have h : ∀ (mm : Nat), mm ≤ 1000000 → ∀ l pts m, cA l ≤ mm → m = pts.length → m + eS l ≤ 12000000 → MC Tryz.prog 100 [.own 0 0 m 5, sl bO l] [(0, some (aI dT pts))] 1 (fun _ : Unit => True) (fun _ => .own 1 0 (m + eS l) 5) (fun _ => [(1, some (aI dT (pts ++ iE pts.length l)))]) := by
  intro mm
  induction mm using Nat.strongRecOn with
  | ind mm ih =>
   intro h0 l pts m h1 h2 h3
   exact FH mm h0 (fun l' pts' m' g1 g2 g3 => ih _ g1 (by omega) l' pts' m' (Nat.le_refl _) g2 g3) l pts m h1 h2 h3
 exact h _ hs l pts m (Nat.le_refl _) hm hb
theorem rW (p : Prg) (hs : cA p.body ≤ 1000000) : PC Tryz.prog 60 [dM p] (fun r => r = sl dT (dE p)) := by
 have hn := l6 p.body
 have e0 : ([] : List AV) = aI dT [] := rfl
 (refine aS Tryz.func60 rfl (by simp [Tryz.ntmps60]) ?_; rw [Tryz.ntmps60])
 repeat' (first|(apply aK;first|(apply aN;rfl;rfl;rfl;rfl)|(apply aD;rfl;rfl;rfl)|(apply aC;rfl;rfl)|(apply AN;rfl;rfl;(exact Er rfl);(apply HM <;> (first|assumption|omega|(simp only [gA] <;> omega)));rfl;rfl)|(apply bY;rfl;rfl;rfl;rfl;rfl;(rw [aR]; simp only [gA] <;> omega);(rfl);omega;omega;(exact mC (by (simp only [gA] <;> omega)));rfl;rfl)|(apply aF;kernel_rfl)|(apply cC;rfl;(exact (rfl:_=some [_, _, _, _, _]));(exact (rfl:_=[_, _, _, _, _]));rfl)|(apply bH;rfl;rfl;rfl;rfl)|(apply b0;rfl;rfl;rfl;(first|exact (rfl:_=some [_, _, _, _, _])|rfl);rfl;rfl))|(apply aL;first|apply aH|apply aB|apply aQ)|with_reducible apply aA)
 (refine cE (Le.frzD (d := 2) (i := 4) rfl rfl) ?_; refine aO rfl ?_)
 refine ⟨?_, (by (exact aY _ _))⟩
 simp only [bW, sl, dE, List.length_append, List.length_cons, List.length_nil, dD, Nat.zero_add, List.nil_append]
theorem w8 (ts : List Int) (bd : List AL.Stmt) (pts : List Pnt) (v : Int) (h : 0 ≤ v ∧ v < ts.length) : PC Tryz.prog 131 [aG ts bd pts, iv v] (fun r => r = bv (vW ts[v.toNat]!)) := by
 (refine aS Tryz.func131 rfl (by simp [Tryz.ntmps131]) ?_; rw [Tryz.ntmps131])
 repeat' (first|(apply aK;first|(apply aE;rfl;rfl)|(apply aN;rfl;rfl;rfl;rfl)|(apply aD;rfl;rfl;rfl)|(first|(apply a6;rfl;rfl;rfl;(assumption))|(apply bB;rfl;rfl;rfl;(assumption))|(apply bR;(case hj|hb|hN => rfl);all_goals (intro hg;have hq := hg;(try simp only [cH] at hq);(try (exfalso;omega)))))|(apply aU;rfl;rfl;rfl;rfl)|(apply aC;rfl;rfl)|(first|(apply bU;rfl;(assumption);rfl;rfl)|(apply bG;rfl;(assumption);rfl;rfl))|(apply cP;(case hx|hi => rfl);(case hm => (assumption));(case hml => (rfl));(case hα | hf|hg => infer_instance);(case hN => rfl))|(apply aF;kernel_rfl)|(apply b8;rfl;rfl;rfl))|(apply aL;first|apply aH|apply aB|apply aQ)|with_reducible apply aA|((with_reducible apply aO);case hr => rfl))
 all_goals (refine ⟨?_, rfl⟩; simp only [bW, AV.v.injEq, Value.bool.injEq, Value.int.injEq, true_and])
 all_goals grind [vW]
theorem Lq (ts : List Int) (bd : List AL.Stmt) (pts : List Pnt) (x : Pnt) (v : Int) (h : 0 ≤ v ∧ v < ts.length) : PC Tryz.prog 224 [aG ts bd pts, fK x, iv v] (fun r => r = iv (cD ts x v)) := by
 (refine aS Tryz.func224 rfl (by simp [Tryz.ntmps224]) ?_; rw [Tryz.ntmps224])
 repeat' (first|(apply aK;first|(apply aE;rfl;rfl)|(apply aN;rfl;rfl;rfl;rfl)|(apply aD;rfl;rfl;rfl)|(first|(apply a6;rfl;rfl;rfl;(assumption))|(apply bB;rfl;rfl;rfl;(assumption))|(apply bR;(case hj|hb|hN => rfl);all_goals (intro hg;have hq := hg;(try simp only [cH] at hq);(try (exfalso;omega)))))|(apply aU;rfl;rfl;rfl;rfl)|(apply aC;rfl;rfl)|(first|(apply bU;rfl;(assumption);rfl;rfl)|(apply bG;rfl;(assumption);rfl;rfl))|((with_reducible apply aJ (k := 131));(case ha => rfl);(case h => (apply w8 <;> (assumption)));(case hp => (exact Pur.pf));(case hN => rfl))|(apply aF;kernel_rfl)|(apply bH;rfl;rfl;rfl;rfl))|(apply aL;first|apply aH|apply aB|(apply bZ;rfl;(assumption))|(apply cG;rfl;(first|rfl|assumption))|(apply aP;rfl;all_goals intro hc;have hq:=hc;(try simp only [cH] at hq);try exfalso;omega)|apply aM|apply aT|apply aQ)|with_reducible apply aA|with_reducible apply bE|with_reducible apply aX|with_reducible apply cO|((with_reducible apply aO);case hr => rfl))
 all_goals (refine ⟨?_, rfl⟩; simp only [bW, AV.v.injEq, Value.bool.injEq, Value.int.injEq, true_and])
 all_goals grind [vW, cD]
theorem xC (x : Pnt) : PC Tryz.prog 206 [fK x] (fun r => r = iv (bT x)) := by
 (refine aS Tryz.func206 rfl (by simp [Tryz.ntmps206]) ?_; rw [Tryz.ntmps206])
 repeat' (first|(apply aK;first|(apply aN;rfl;rfl;rfl;rfl)|(apply aD;rfl;rfl;rfl)|(apply aU;rfl;rfl;rfl;rfl)|(apply aC;rfl;rfl)|(apply aF;kernel_rfl)|(apply bH;rfl;rfl;rfl;rfl))|(apply aL;first|apply aH|apply aB|(apply bZ;rfl;(assumption))|(apply aP;rfl;all_goals intro hc;have hq:=hc;(try simp only [cH] at hq);try exfalso;omega)|apply aM|apply aT|apply aQ)|with_reducible apply aA|with_reducible apply bE|with_reducible apply aX|with_reducible apply cO|((with_reducible apply aO);case hr => rfl))
 all_goals (refine ⟨?_, rfl⟩; simp only [bW, AV.v.injEq, Value.bool.injEq, Value.int.injEq, true_and])
 all_goals grind [bT]
theorem mF (x : Pnt) : PC Tryz.prog 207 [fK x] (fun r => r = bv (fB x)) := by
 (refine aS Tryz.func207 rfl (by simp [Tryz.ntmps207]) ?_; rw [Tryz.ntmps207])
 repeat' (first|(apply aK;first|(apply aE;rfl;rfl)|(apply aN;rfl;rfl;rfl;rfl)|(apply aD;rfl;rfl;rfl)|(first|(apply a6;rfl;rfl;rfl;(assumption))|(apply bB;rfl;rfl;rfl;(assumption))|(apply bR;(case hj|hb|hN => rfl);all_goals (intro hg;have hq := hg;(try simp only [cH] at hq);(try (exfalso;omega)))))|(apply aU;rfl;rfl;rfl;rfl)|(apply aC;rfl;rfl)|(first|(apply bU;rfl;(assumption);rfl;rfl)|(apply bG;rfl;(assumption);rfl;rfl))|(apply aF;kernel_rfl)|(apply bH;rfl;rfl;rfl;rfl))|(apply aL;first|apply aH|apply aB|apply aQ)|with_reducible apply aA|((with_reducible apply aO);case hr => rfl))
 all_goals (refine ⟨?_, rfl⟩; simp only [bW, AV.v.injEq, Value.bool.injEq, Value.int.injEq, true_and])
 all_goals grind [fB]
theorem oF (x : Pnt) (h : bT x < 62) : PC Tryz.prog 212 [fK x] (fun r => r = iv (jA x : Nat)) := by
 (refine aS Tryz.func212 rfl (by simp [Tryz.ntmps212]) ?_; rw [Tryz.ntmps212])
 repeat' (first|(apply aK;first|(apply aE;rfl;rfl)|(apply aV;rfl;rfl;(exact (rfl:_=[_, _, _, _, _]));rfl;rfl;rfl)|(first|(apply iK;rfl;rfl;infer_instance;omega;rfl;(case' kk => intro hsm))|(apply aU;rfl;rfl;rfl;rfl))|(apply aC;rfl;rfl)|((with_reducible apply aJ (k := 206));(case ha => rfl);(case h => (apply xC <;> (fail)));(case hp => (exact Pur.pf));(case hN => rfl))|(apply aF;kernel_rfl)|(apply bH;rfl;rfl;rfl;rfl))|(apply aL;first|apply aH|apply aB|(apply aP;rfl;all_goals intro hc;have hq:=hc;(try simp only [cH] at hq);try exfalso;omega)|apply aT|apply aQ)|with_reducible apply aA|with_reducible apply bE|((with_reducible apply aO);case hr => rfl))
 all_goals (refine ⟨?_, rfl⟩; simp only [bW, AV.v.injEq, Value.bool.injEq, Value.int.injEq, true_and])
 all_goals (unfold jA)
 ·rw [if_pos (by omega)]
 ·rw [if_neg (by omega)]; rfl
theorem LH (ts : List Int) (bd : List AL.Stmt) (pts : List Pnt) (h : ts.length ≤ 6) : PC Tryz.prog 239 [aG ts bd pts] (fun r => r = iv ((2 ^ ts.length - 1 : Nat) : Int)) := by
 have h1 : 2 ^ ts.length ≤ 2 ^ 6 := Nat.pow_le_pow_right (by decide) h
 have h2 : 0 < 2 ^ ts.length := Nat.pow_pos (by decide)
 have h3 : 2 ^ (ts.length : Int).toNat ≤ 2 ^ 6 := h1
 have h4 : 2 ^ (ts.length : Int).toNat = 2 ^ ts.length := rfl
 (refine aS Tryz.func239 rfl (by simp [Tryz.ntmps239]) ?_; rw [Tryz.ntmps239])
 repeat' (first|(apply aK;first|(apply aE;rfl;rfl)|(apply aN;rfl;rfl;rfl;rfl)|(apply aD;rfl;rfl;rfl)|(first|(apply iK;rfl;rfl;infer_instance;omega;rfl;(case' kk => intro hsm))|(apply hU;rfl;rfl;omega;rfl))|(apply aC;rfl;rfl)|(apply bQ;rfl;rfl;rfl)|(apply aF;kernel_rfl)|(apply b8;rfl;rfl;rfl))|(apply aL;first|apply aH|apply aB|apply aQ)|with_reducible apply aA|((with_reducible apply aO);case hr => rfl))
 all_goals (refine ⟨?_, rfl⟩; simp only [bW, AV.v.injEq, Value.bool.injEq, Value.int.injEq, true_and])
 omega
def Hs (xs : List Int) (v : Int) : Int := match xs.findIdx? (fun t => decide (t = v)) with | some i => i | none => -1
theorem IT (xs : List Int) (v : Int) (hl : xs.length ≤ 1000000) : PC Tryz.prog 124 [sl cI xs, iv v] (fun r => r = iv (Hs xs v)) := by
 (refine aS Tryz.func124 rfl (by simp [Tryz.ntmps124]) ?_; rw [Tryz.ntmps124])
 repeat' (first|(apply aK;first|(apply aE;rfl;rfl)|(apply aC;rfl;rfl)|(apply bQ;rfl;rfl;rfl)|(apply aF;kernel_rfl))|(apply aL;first|apply aH|apply aB|apply aM)|with_reducible apply aA)
 refine a8 (σ := Nat) [0, 1, 7] [(0, _), (1, _), (7, _)] [] [] (fun k => [(8, iv (k : Int))]) (fun k => []) (fun k => k ≤ xs.length ∧ ∀ i, i < k → xs[i]! ≠ v) (fun k => xs.length - k) (0) ⟨by omega, by omega⟩ rfl rfl (by repeat' (first|exact trivial|refine And.intro rfl ?_)) (by repeat' (exact trivial)) ?_
 intro k ⟨hk, hall⟩
 repeat' (first|(apply aK;first|(apply aE;rfl;rfl)|(apply aN;rfl;rfl;rfl;rfl)|(first|(apply bS;rfl;rfl;omega;rfl)|(apply aU;rfl;rfl;rfl;rfl))|(apply aC;rfl;rfl)|(apply aZ;(case hx|hi => rfl);(case hm => (omega));(case hml => (rfl));(case hα | hf|hg => infer_instance);(case hN => rfl))|(apply aF;kernel_rfl))|(apply aL;first|apply aH|apply aB|(apply aP;rfl;all_goals intro hc;have hq:=hc;(try simp only [cH] at hq);try exfalso;omega)|apply aM|apply aT|apply bK|apply aQ)|with_reducible apply aA|with_reducible apply bE|with_reducible apply bI|with_reducible apply aX|with_reducible apply cO|with_reducible apply bJ|((with_reducible apply aO);case hr => rfl))
 ·(refine ⟨?_, rfl⟩; simp only [bW, AV.v.injEq, Value.bool.injEq, Value.int.injEq, true_and])
  have hlt : k < xs.length := by omega
  have : xs.findIdx? (fun t => decide (t = v)) = some k := by
   rw [List.findIdx?_eq_some_iff_getElem]
   refine ⟨hlt, ?_, fun j hj => ?_⟩
   ·rw [← cT xs k hlt]; grind
   ·have := hall j hj;rw [cT xs j (by omega)] at this;simpa using this
  simp only [Hs, this]
 ·(apply dJ (k + 1); focus (refine Le.ren [] rfl (by decide) ?_ ?_ <;> repeat' (first | exact trivial | refine And.intro ⟨_, rfl, ?_⟩ ?_ | refine Or.inl ⟨?_, (by first | rfl | exact aY _ _)⟩ | rfl)))
  ·grind
  ·omega
 ·(refine ⟨?_, rfl⟩; simp only [bW, AV.v.injEq, Value.bool.injEq, Value.int.injEq, true_and])
  have : xs.findIdx? (fun t => decide (t = v)) = none := by
   rw [List.findIdx?_eq_none_iff]
   intro x hx
   obtain ⟨i, hi, rfl⟩ := List.getElem_of_mem hx
   have := hall i (by omega);rw [cT xs i hi] at this;simpa using this
  simp only [Hs, this]
theorem I5 (xs : List Int) (v : Int) : decide (0 ≤ Hs xs v) = decide (v ∈ xs) := by
 unfold Hs
 split
 ·rename_i i h
  obtain ⟨h1, h2, _⟩ := List.findIdx?_eq_some_iff_getElem.1 h
  simp only [decide_eq_true_eq] at h2
  have : v ∈ xs := by rw [← h2]; exact List.getElem_mem h1
  simp [this]
 ·rename_i h
  rw [List.findIdx?_eq_none_iff] at h
  have : v ∉ xs := fun hm => by have := h v hm;simp at this
  simp [this]
theorem BG (xs : List Int) (v : Int) (hl : xs.length ≤ 1000000) : PC Tryz.prog 78 [sl cI xs, iv v] (fun r => r = bv (decide (v ∈ xs))) := by
 (refine aS Tryz.func78 rfl (by simp [Tryz.ntmps78]) ?_; rw [Tryz.ntmps78])
 repeat' (first|(apply aK;first|(apply aE;rfl;rfl)|(apply aU;rfl;rfl;rfl;rfl)|(apply aC;rfl;rfl)|((with_reducible apply aJ (k := 124));(case ha => rfl);(case h => (apply IT <;> (assumption)));(case hp => (exact Pur.pf));(case hN => rfl))|(apply aF;kernel_rfl))|(apply aL;first|apply aH|apply aB|apply aQ)|with_reducible apply aA|((with_reducible apply aO);case hr => rfl))
 (refine ⟨?_, rfl⟩; simp only [bW, AV.v.injEq, Value.bool.injEq, Value.int.injEq, true_and])
 exact I5 xs v
theorem Db (ts : List Int) (bd : List AL.Stmt) (pts : List Pnt) (x : Pnt) (us : List Int) (h : ts.length ≤ 6) (hu : us.length ≤ 1000) : PC Tryz.prog 179 [aG ts bd pts, fK x, sl cI us] (fun r => r = iv (wS ts x us : Nat)) := by
 (refine aS Tryz.func179 rfl (by simp [Tryz.ntmps179]) ?_; rw [Tryz.ntmps179])
 repeat' (first|(apply aK;first|(apply aE;rfl;rfl)|(apply aN;rfl;rfl;rfl;rfl)|(apply aD;rfl;rfl;rfl)|(apply aC;rfl;rfl)|(apply bQ;rfl;rfl;rfl)|(apply aF;kernel_rfl)|(apply b8;rfl;rfl;rfl)|(apply bH;rfl;rfl;rfl;rfl))|(apply aL;first|apply aH|apply aB|apply aM)|with_reducible apply aA)
 refine a8 (σ := Nat × Nat) [0, 2, 4, 14] [(0, _), (2, _), (4, _), (14, _)] [0] [(0, some _)] (fun k => [(15, iv (k.1 : Int)), (7, iv (k.2 : Int))]) (fun k => []) (fun k => k.1 ≤ ts.length ∧ k.2 = fU (fun v => decide (cD ts x v ∈ us)) k.1) (fun k => ts.length - k.1) (0, 0) ⟨by omega, rfl⟩ rfl rfl (by repeat' (first|exact trivial|refine And.intro rfl ?_)) (by repeat' (exact trivial)) ?_
 rintro ⟨k, A⟩ ⟨hk, hA⟩
 dsimp only at hk hA ⊢
 have hsm : Sm A := hA ▸ dF (by omega)
 repeat' (first|(apply aK;first|(apply aE;rfl;rfl)|(apply aV;rfl;rfl;(exact (rfl:_=[_, _, _, _, _]));rfl;rfl;rfl)|(first|(apply gK;rfl;rfl;infer_instance;infer_instance;infer_instance;rfl)|(apply iK;rfl;rfl;infer_instance;omega;rfl;(case' kk => intro hsm))|(apply bS;rfl;rfl;omega;rfl)|(apply aU;rfl;rfl;rfl;rfl))|(apply aC;rfl;rfl)|(first|((with_reducible apply aJ (k := 78));(case ha => rfl);(case h => (apply BG <;> (omega)));(case hp => (exact Pur.pf));(case hN => rfl))|((with_reducible apply aJ (k := 224));(case ha => rfl);(case h => (apply Lq <;> (omega)));(case hp => (exact Pur.pf));(case hN => rfl)))|(apply aF;kernel_rfl))|(apply aL;first|apply aH|apply aB|(apply aP;rfl;all_goals intro hc;have hq:=hc;(try simp only [cH] at hq);try exfalso;omega)|apply aM|apply aT|apply bK|apply aQ)|with_reducible apply aA|with_reducible apply bI|with_reducible apply aX|with_reducible apply bJ|((with_reducible apply aO);case hr => rfl))
 ·(apply dJ (k + 1, _); focus (refine Le.ren [(0, 0)] rfl (by decide) ?_ ?_ <;> repeat' (first | exact trivial | refine And.intro ⟨_, rfl, ?_⟩ ?_ | refine And.intro ⟨_, _, rfl, rfl, ?_⟩ ?_ | exact Or.inr rfl | refine Or.inl ⟨?_, (by first | rfl | exact aY _ _ | exact Pur.pf)⟩ | rfl)))
  ·dsimp only
   rw [hA]
   exact ⟨by omega, qB _ _ (by simpa using hq)⟩
  ·dsimp only;omega
 ·(apply dJ (k + 1, _); focus (refine Le.ren [(0, 0)] rfl (by decide) ?_ ?_ <;> repeat' (first | exact trivial | refine And.intro ⟨_, rfl, ?_⟩ ?_ | refine And.intro ⟨_, _, rfl, rfl, ?_⟩ ?_ | exact Or.inr rfl | refine Or.inl ⟨?_, (by first | rfl | exact aY _ _ | exact Pur.pf)⟩ | rfl)))
  ·dsimp only
   rw [hA]
   exact ⟨by omega, mI _ _ (by simpa using hq)⟩
  ·dsimp only;omega
 ·(refine ⟨?_, rfl⟩; simp only [bW, AV.v.injEq, Value.bool.injEq, Value.int.injEq, true_and])
  rw [hA, show k = ts.length by omega]; rfl
theorem jB (ts : List Int) (bd : List AL.Stmt) (pts : List Pnt) (x : Pnt) (h : ts.length ≤ 6) : PC Tryz.prog 120 [aG ts bd pts, fK x] (fun r => r = iv (wS ts x [1, 2, 3] : Nat)) := by
 (refine aS Tryz.func120 rfl (by simp [Tryz.ntmps120]) ?_; rw [Tryz.ntmps120])
 repeat' (first|(apply aK;first|(apply aE;rfl;rfl)|(apply aV;rfl;rfl;(exact (rfl:_=[_, _, _, _, _]));rfl;rfl;rfl)|(apply aC;rfl;rfl)|((with_reducible apply aJ (k := 179));(case ha => rfl);(case h => (apply Db (us := [1, 2, 3]) <;> (first|assumption|decide)));(case hp => (exact Pur.pf));(case hN => rfl))|(apply aF;kernel_rfl)|(apply bH;rfl;rfl;rfl;rfl)|((apply bF (t := _));(case hze|hsm|hl => rfl);(case hfl => (exact (rfl:_=some [_, _, _])));(case hM|hN => rfl)))|(apply aL;first|apply aH|apply aB|apply aQ)|with_reducible apply aA|((with_reducible apply aO);case hr => rfl))
 (refine ⟨?_, rfl⟩; simp only [bW, AV.v.injEq, Value.bool.injEq, Value.int.injEq, true_and])
theorem rK (ts : List Int) (bd : List AL.Stmt) (pts : List Pnt) (x : Pnt) (h : ts.length ≤ 6) : PC Tryz.prog 205 [aG ts bd pts, fK x] (fun r => r = iv (wS ts x [2] : Nat)) := by
 (refine aS Tryz.func205 rfl (by simp [Tryz.ntmps205]) ?_; rw [Tryz.ntmps205])
 repeat' (first|(apply aK;first|(apply aE;rfl;rfl)|(apply aV;rfl;rfl;(exact (rfl:_=[_, _, _, _, _]));rfl;rfl;rfl)|(apply aC;rfl;rfl)|((with_reducible apply aJ (k := 179));(case ha => rfl);(case h => (apply Db (us := [2]) <;> (first|assumption|decide)));(case hp => (exact Pur.pf));(case hN => rfl))|(apply aF;kernel_rfl)|(apply bH;rfl;rfl;rfl;rfl)|((apply bF (t := _));(case hze|hsm|hl => rfl);(case hfl => exact (rfl:_=some [_]));(case hM|hN => rfl)))|(apply aL;first|apply aH|apply aB|apply aQ)|with_reducible apply aA|((with_reducible apply aO);case hr => rfl))
 (refine ⟨?_, rfl⟩; simp only [bW, AV.v.injEq, Value.bool.injEq, Value.int.injEq, true_and])
theorem zK (ts : List Int) (bd : List AL.Stmt) (pts : List Pnt) (i : Int) (A : Nat) (h : WG ts pts) (hi : 0 ≤ i ∧ i < pts.length) (hA : Sm A) : PC Tryz.prog 210 [aG ts bd pts, iv i, iv (A : Int)] (fun r => r = iv (iP ts pts[i.toNat]! A : Nat)) := by
 have htl := h.tl
 have hst := (h.set i.toNat (by omega)).1
 have hs1 : Sm (wS ts pts[i.toNat]! [2]) := dF (by omega)
 have hs2 : Sm (jA pts[i.toNat]!) := rD (by omega)
 (refine aS Tryz.func210 rfl (by simp [Tryz.ntmps210]) ?_; rw [Tryz.ntmps210])
 repeat' (first|(apply aK;first|(apply aE;rfl;rfl)|(first|(apply aN;rfl;rfl;rfl;rfl)|(apply aV;rfl;rfl;(exact (rfl:_=[_, _, _, _, _]));rfl;rfl;rfl))|(apply aD;rfl;rfl;rfl)|(first|(apply gK;rfl;rfl;infer_instance;infer_instance;infer_instance;rfl)|(apply o6;rfl;rfl;infer_instance;infer_instance;infer_instance;rfl))|(apply aC;rfl;rfl)|(apply cP;(case hx|hi => rfl);(case hm => (assumption));(case hml => (rfl));(case hα | hf|hg => infer_instance);(case hN => rfl))|(first|((with_reducible apply aJ (k := 205));(case ha => rfl);(case h => (apply rK <;> (assumption)));(case hp => (exact Pur.pf));(case hN => rfl))|((with_reducible apply aJ (k := 212));(case ha => rfl);(case h => (apply oF <;> (omega)));(case hp => (exact Pur.pf));(case hN => rfl)))|(apply aF;kernel_rfl)|(apply b8;rfl;rfl;rfl)|(apply bD;rfl;rfl)|(apply aW;rfl;rfl;rfl;rfl;rfl;(case hl => (simp;done));(exact (rfl:_=[_, _, _, _, _]))))|(apply aL;first|apply aH|apply aB|(apply b9;kernel_rfl)|apply aQ)|with_reducible apply aA|((with_reducible apply aO);case hr => rfl))
 (refine ⟨?_, rfl⟩; simp only [bW, AV.v.injEq, Value.bool.injEq, Value.int.injEq, true_and])
 rfl
theorem BE (ts : List Int) (bd : List AL.Stmt) (pts : List Pnt) (A : List Nat) (w : WG ts pts) (hA : uB ts pts A) : PC Tryz.prog 209 [aG ts bd pts, iv 0, bv false, .clos (.func 210) [aG ts bd pts] []] (fun r => r = .imm pts.length (aI cN A)) := by
 have hpl := w.pl
 have hp0 := w.p0
 have htl := w.tl
 have fl := Lp w
 (refine aS Tryz.func209 rfl (by simp [Tryz.ntmps209]) ?_; rw [Tryz.ntmps209])
 repeat' (first|(apply aK;first|(apply aE;rfl;rfl)|(apply aN;rfl;rfl;rfl;rfl)|(apply aD;rfl;rfl;rfl)|(apply aC;rfl;rfl)|(apply cM;rfl;rfl;(assumption);rfl)|(apply bQ;rfl;rfl;rfl)|(apply aF;kernel_rfl)|(apply b8;rfl;rfl;rfl)|(apply aW;rfl;rfl;rfl;rfl;rfl;(rw [aR]; simp only [gA] <;> omega);(exact tI (by (simp only [gA] <;> omega))))|(apply eU;rfl;rfl;rfl;omega;omega;(exact Bv);rfl;rfl))|(apply aL;first|apply aH|apply aB|(apply cG;rfl;(rfl))|apply aM|apply aT)|with_reducible apply aA)
 refine a8 (σ := List Nat × Bool) [0, 2, 3, 9] [(0, _), (2, _), (3, _), (9, _)] [] [] (fun s => [(11, bv s.2)]) (fun s => [(0, some (aI cN s.1))]) (fun s => SG pts (Lm ts pts) s.1 ∧ True ∧ (s.2 = false → lI nX (fun i A => iP ts pts[i]! A) pts s.1)) (fun s => 2 * gD (s.1.map (fun a => 2 ^ ts.length - a)) + s.2.toNat) (((List.replicate pts.length 0).set 0 0), true) ⟨by rw [mJ (by rw [cT _ _ (by simpa using hp0), List.getElem_replicate]) (by simpa using hp0)]; exact Bx fun i hi => ⟨Nat.pow_pos (by decide), fun v h => by simp at h⟩, trivial, fun h => by cases h⟩ rfl rfl (by repeat' (first|exact trivial|refine And.intro rfl ?_)) (by repeat' (first|exact trivial|refine And.intro (.inr rfl) ?_)) ?_
 rintro ⟨s, b⟩ ⟨hS, hE, hC⟩
 dsimp only at hS hE hC ⊢
 repeat' (first|(apply aK;first|(apply aE;rfl;rfl)|(apply aN;rfl;rfl;rfl;rfl)|(apply aD;rfl;rfl;rfl)|(apply aC;rfl;rfl)|(apply bQ;rfl;rfl;rfl)|(apply aF;kernel_rfl)|(apply b8;rfl;rfl;rfl))|(apply aL;first|apply aH|apply aB|(apply aP;rfl;all_goals intro hc;have hq:=hc;(try simp only [cH] at hq);try exfalso;omega)|apply aM|apply aT|apply bK|apply aQ)|with_reducible apply aA|with_reducible apply bI|with_reducible apply bJ)
 ·refine a8 (σ := Nat × (List Nat × Bool)) [0, 2, 3, 9, 43, 44] [(0, _), (2, _), (3, _), (9, _), (43, _), (44, _)] [] [] (fun k => [(45, iv (k.1 : Int)), (11, bv k.2.2)]) (fun k => [(0, some (aI cN k.2.1))]) (fun k => k.1 ≤ pts.length ∧ k.2 = (List.range k.1).foldl (yN nX (fun i A => iP ts pts[i]! A) pts) (s, false) ∧ SG pts (Lm ts pts) k.2.1 ∧ True) (fun k => pts.length - k.1) (0, (s, false)) ⟨by omega, rfl, hS, hE⟩ rfl rfl (by repeat' (first | exact trivial | refine And.intro rfl ?_)) (by repeat' (first | exact trivial | refine And.intro (.inr rfl) ?_)) ?_
  rintro ⟨k, u, c⟩ ⟨hk, hf, hS2, hE2⟩
  dsimp only at hk hf hS2 hE2 ⊢
  have hsm : ∀ z, Sm u[z]! := sW hS2 (fun i A h => h.1) htl
  have hul := hS2.1
  repeat' (first|(apply aK;first|(apply aE;rfl;rfl)|(first|(apply eZ;(case hx|hH => rfl);(case hf|hg|hα => infer_instance);(case hk => omega);(case hc|hN => rfl))|(apply aN;rfl;rfl;rfl;rfl)|(apply aV;rfl;rfl;(exact (rfl:_=[_, _, _, _, _]));rfl;rfl;rfl))|(apply aD;rfl;rfl;rfl)|(apply aU;rfl;rfl;rfl;rfl)|(apply aC;rfl;rfl)|(first|(apply aZ;(case hx|hi => rfl);(case hm => (omega));(case hml => (rfl));(case hα | hf|hg => infer_instance);(case hN => rfl))|(apply cM;rfl;rfl;(omega);rfl))|(apply bQ;rfl;rfl;rfl)|((with_reducible apply jT);(case hx|hcl => rfl);(case hc => infer_instance);(case ha => rfl);(case h => (apply zK <;> (first|assumption|omega|infer_instance)));(case hp => (exact Pur.pf));(case hN => rfl))|(apply aF;kernel_rfl)|(apply bD;rfl;rfl)|(apply aW;rfl;rfl;rfl;rfl;rfl;(case hl => (simp;done));(exact (rfl:_=[_, _, _, _, _]))))|(apply aL;first|apply aH|apply aB|(apply aP;rfl;all_goals intro hc;have hq:=hc;(try simp only [cH] at hq);try exfalso;omega)|apply aM|apply aT|apply bK)|with_reducible apply aA|with_reducible apply bI|with_reducible apply aX|with_reducible apply bJ)
  ·have hkn : k < pts.length := by omega
   have hv := rF w hkn (hS2.2 k hkn).1
   have hvs : Sm (iP ts pts[k]! u[k]!) := ⟨Nat.lt_of_lt_of_le hv (Nat.pow_le_pow_right (by decide) (by omega))⟩
   have hvs' : Sm (iP ts pts[(k : Int).toNat]! u[k]!) := hvs
   have hnl := w.nl k hkn
   refine a8 (σ := Nat × (List Nat × Bool)) [0, 2, 3, 9, 14, 43, 44, 45, 58, 59] [(0, _), (2, _), (3, _), (9, _), (14, _), (43, _), (44, _), (45, _), (58, _), (59, _)] [] [] (fun j => [(60, iv (j.1 : Int)), (11, bv j.2.2)]) (fun j => [(0, some (aI cN j.2.1))]) (fun j => j.1 ≤ pts[k]!.next.length ∧ j.2 = ((uQ pts k).take j.1).foldl (lH nX (iP ts pts[k]! u[k]!)) (u, c) ∧ SG pts (Lm ts pts) j.2.1 ∧ True) (fun j => pts[k]!.next.length - j.1) (0, (u, c)) ⟨by omega, rfl, hS2, hE2⟩ rfl rfl (by repeat' (first|exact trivial|refine And.intro rfl ?_)) (by repeat' (first|exact trivial|refine And.intro (.inr rfl) ?_)) ?_
   rintro ⟨j, u2, c2⟩ ⟨hj, hf2, hS3, hE3⟩
   dsimp only at hj hf2 hS3 hE3 ⊢
   have hsm2 : ∀ z, Sm u2[z]! := sW hS3 (fun i A h => h.1) htl
   have hul2 := hS3.1
   have hz : j < pts[k]!.next.length → 0 ≤ pts[k]!.next[j]! ∧ pts[k]!.next[j]! < pts.length := fun h => w.nx k hkn _ (cJ _ _ h)
   repeat' (first|(apply aK;first|(apply aE;rfl;rfl)|(first|(apply eZ;(case hx|hH => rfl);(case hf|hg|hα => infer_instance);(case hk => omega);(case hc|hN => rfl))|(apply aN;rfl;rfl;rfl;rfl))|(first|(apply gK;rfl;rfl;infer_instance;infer_instance;infer_instance;rfl)|(apply bS;rfl;rfl;omega;rfl)|(apply aU;rfl;rfl;rfl;rfl))|(apply aC;rfl;rfl)|(first|(apply aZ;(case hx|hi => rfl);(case hm => (omega));(case hml => (rfl));(case hα | hf|hg => infer_instance);(case hN => rfl))|(apply cQ;rfl;rfl;(omega);rfl))|(apply aF;kernel_rfl)|(apply aW;rfl;rfl;rfl;rfl;rfl;(rw [aR]; simp only [gA] <;> omega);(exact tI (by (omega)))))|(apply aL;first|apply aH|apply aB|(apply cG;rfl;(rfl))|(apply aP;rfl;all_goals intro hc;have hq:=hc;(try simp only [cH] at hq);try exfalso;omega)|apply aM|apply aT|apply bK)|with_reducible apply aA|with_reducible apply bI|with_reducible apply aX|with_reducible apply bJ)
   ·have hzz := hz (by omega)
    have hed : eT pts k (pts[k]!.next[j]!).toNat := ⟨hkn, by rw [Int.toNat_of_nonneg hzz.1]; exact cJ _ _ (by omega)⟩
    have hne : nX u2[(pts[k]!.next[j]!).toNat]! (iP ts pts[k]! u[k]!) ≠ u2[(pts[k]!.next[j]!).toNat]! := fun h => hq (congrArg Int.ofNat h)
    (apply dJ (j + 1, (_, true));focus (refine Le.ren [(0, 0)] rfl (by decide) ?_ ?_ <;> repeat' (first|exact trivial|refine And.intro ⟨_, rfl, ?_⟩ ?_|refine And.intro ⟨_, _, rfl, rfl, ?_⟩ ?_|exact Or.inr rfl|refine Or.inl ⟨?_, (by first|rfl|exact aY _ _|exact Pur.pf|exact PurV.pf)⟩|rfl)))
    ·dsimp only
     refine ⟨by omega, ?_, xP fl w (hS2.2 k hkn) hed hS3, trivial⟩
     rw [jN (by omega), ← hf2, yT hne]; rfl
    ·dsimp only;omega
   ·have hzz := hz (by omega)
    have hne : nX u2[(pts[k]!.next[j]!).toNat]! (iP ts pts[k]! u[k]!) = u2[(pts[k]!.next[j]!).toNat]! := Int.ofNat.inj hq
    (apply dJ (j + 1, (u2, c2));focus (refine Le.ren [(0, 0)] rfl (by decide) ?_ ?_ <;> repeat' (first|exact trivial|refine And.intro ⟨_, rfl, ?_⟩ ?_|refine And.intro ⟨_, _, rfl, rfl, ?_⟩ ?_|exact Or.inr rfl|refine Or.inl ⟨?_, (by first|rfl|exact aY _ _|exact Pur.pf|exact PurV.pf)⟩|rfl)))
    ·dsimp only
     refine ⟨by omega, ?_, hS3, hE3⟩
     rw [jN (by omega), ← hf2, w9 hne]
    ·dsimp only;omega
   ·(apply dJ (k + 1, (u2, c2)); focus (refine Le.ren [(0, 0)] rfl (by decide) ?_ ?_ <;> repeat' (first | exact trivial | refine And.intro ⟨_, rfl, ?_⟩ ?_ | refine And.intro ⟨_, _, rfl, rfl, ?_⟩ ?_ | exact Or.inr rfl | refine Or.inl ⟨?_, (by first | rfl | exact aY _ _ | exact Pur.pf | exact PurV.pf)⟩ | rfl)))
    ·dsimp only
     refine ⟨by omega, ?_, hS3, hE3⟩
     rw [e9, ← hf, hf2, List.take_of_length_le (by rw [lP]; omega)]; rfl
    ·dsimp only;omega
  ·have law := uM w fl s false hS
   have hfull : (u, c) = yQ nX (fun i A => iP ts pts[i]! A) pts (s, false) := by
    rw [hf, show k = pts.length by omega]; rfl
   rw [show yQ (fun a s => nX a s) (fun i A => iP ts pts[i]! A) pts (s, false) = (u, c) from hfull.symm] at law
   (apply dJ (u, c);focus (refine Le.ren [(0, 0)] rfl (by decide) ?_ ?_ <;> repeat' (first|exact trivial|refine And.intro ⟨_, rfl, ?_⟩ ?_|refine And.intro ⟨_, _, rfl, rfl, ?_⟩ ?_|exact Or.inr rfl|refine Or.inl ⟨?_, (by first|rfl|exact aY _ _|exact Pur.pf|exact PurV.pf)⟩|rfl)))
   ·dsimp only
    refine ⟨hS2, hE2, fun h => ?_⟩
    rcases law.2 with ⟨e1, e2⟩ | ⟨e1, _⟩
    ·cases e1;exact e2
    ·dsimp only at e1;rw [h] at e1;cases e1
   ·dsimp only
    have hb : b = true := by assumption
    subst hb
    rcases law.2 with ⟨e1, e2⟩ | ⟨e1, e2⟩
    ·cases e1;simp
    ·dsimp only at e1 e2;subst e1;omega
 ·have hb : b = false := by assumption
  refine cE (Le.frzD (d := 8) (i := 0) rfl rfl) ?_
  refine aO rfl ⟨?_, (by (exact aY _ _))⟩
  simp only [bW]
  rw [Ed hA (E9 w hS (hC hb))]
theorem Bz (ts : List Int) (bd : List AL.Stmt) (pts : List Pnt) (A : List Nat) (w : WG ts pts) (hA : r8 ts pts A) : PC Tryz.prog 209 [aG ts bd pts, iv 0, bv true, .clos (.func 210) [aG ts bd pts] []] (fun r => r = .imm pts.length (aI cN A)) := by
 have hpl := w.pl
 have hp0 := w.p0
 have htl := w.tl
 have fl := LJ w
 (refine aS Tryz.func209 rfl (by simp [Tryz.ntmps209]) ?_; rw [Tryz.ntmps209])
 repeat' (first|(apply aK;first|(apply aE;rfl;rfl)|(apply aN;rfl;rfl;rfl;rfl)|(apply aD;rfl;rfl;rfl)|(apply aC;rfl;rfl)|(apply bQ;rfl;rfl;rfl)|(apply aF;kernel_rfl)|(apply b8;rfl;rfl;rfl)|(apply eU;rfl;rfl;rfl;omega;omega;(exact Bv);rfl;rfl))|(apply aL;first|apply aH|apply aB|(apply bZ;rfl;(rfl))|apply aM)|with_reducible apply aA)
 refine a8 (σ := Nat × List Nat) [0, 1, 2, 3, 9, 26] [(0, _), (1, _), (2, _), (3, _), (9, _), (26, _)] [] [] (fun k => [(27, iv (k.1 : Int))]) (fun k => [(0, some (aI cN k.2))]) (fun k => k.1 ≤ pts.length ∧ k.2 = List.replicate k.1 (2 ^ ts.length - 1) ++ List.replicate (pts.length - k.1) 0) (fun k => pts.length - k.1) (0, List.replicate pts.length 0) ⟨by omega, by simp⟩ rfl rfl (by repeat' (first|exact trivial|refine And.intro rfl ?_)) (by repeat' (first|exact trivial|refine And.intro (.inr rfl) ?_)) ?_
 rintro ⟨k0, u0⟩ ⟨hk0, hu0⟩
 dsimp only at hk0 hu0 ⊢
 have hul0 : u0.length = pts.length := by rw [hu0]; simp;omega
 repeat' (first|(apply aK;first|(apply aE;rfl;rfl)|(first|(apply bS;rfl;rfl;omega;rfl)|(apply aU;rfl;rfl;rfl;rfl))|(apply aC;rfl;rfl)|(apply cM;rfl;rfl;(first|assumption|omega);rfl)|((with_reducible apply aJ (k := 239));(case ha => rfl);(case h => (apply LH <;> (assumption)));(case hp => (exact Pur.pf));(case hN => rfl))|(apply aF;kernel_rfl)|(apply aW;rfl;rfl;rfl;rfl;rfl;(rw [aR]; simp only [gA] <;> omega);(exact tI (by (first|omega|(simp only [gA] <;> omega))))))|(apply aL;first|apply aH|apply aB|(apply aP;rfl;all_goals intro hc;have hq:=hc;(try simp only [cH] at hq);try exfalso;omega)|apply aM|apply aT|apply bK)|with_reducible apply aA|with_reducible apply bI|with_reducible apply aX|with_reducible apply bJ)
 ·(apply dJ (k0 + 1, _); focus (refine Le.ren [(0, 0)] rfl (by decide) ?_ ?_ <;> repeat' (first | exact trivial | refine And.intro ⟨_, rfl, ?_⟩ ?_ | refine And.intro ⟨_, _, rfl, rfl, ?_⟩ ?_ | exact Or.inr rfl | refine Or.inl ⟨?_, (by first | rfl | exact aY _ _ | exact Pur.pf | exact PurV.pf)⟩ | rfl)))
  ·dsimp only
   exact ⟨by omega, by rw [hu0]; exact Ij (by omega)⟩
  ·dsimp only;omega
 have hk1 : k0 = pts.length := by omega
 subst hk1
 rw [Nat.sub_self, List.replicate_zero, List.append_nil] at hu0
 refine a8 (σ := List Nat × Bool) [0, 2, 3, 9] [(0, _), (2, _), (3, _), (9, _)] [] [] (fun s => [(11, bv s.2)]) (fun s => [(0, some (aI cN s.1))]) (fun s => SG pts (K5 ts pts) s.1 ∧ s.1[0]! = 0 ∧ (s.2 = false → lI Ki (fun i A => iP ts pts[i]! A) pts s.1)) (fun s => 2 * gD (s.1.map (fun a => a)) + s.2.toNat) ((u0.set 0 0), true) ⟨(Hg w hu0).1, (Hg w hu0).2, fun h => by cases h⟩ rfl rfl (by repeat' (first|exact trivial|refine And.intro rfl ?_)) (by repeat' (first|exact trivial|refine And.intro (.inr rfl) ?_)) ?_
 rintro ⟨s, b⟩ ⟨hS, hE, hC⟩
 dsimp only at hS hE hC ⊢
 repeat' (first|(apply aK;first|(apply aE;rfl;rfl)|(apply aN;rfl;rfl;rfl;rfl)|(apply aD;rfl;rfl;rfl)|(apply aC;rfl;rfl)|(apply bQ;rfl;rfl;rfl)|(apply aF;kernel_rfl)|(apply b8;rfl;rfl;rfl))|(apply aL;first|apply aH|apply aB|(apply aP;rfl;all_goals intro hc;have hq:=hc;(try simp only [cH] at hq);try exfalso;omega)|apply aM|apply aT|apply bK|apply aQ)|with_reducible apply aA|with_reducible apply bI|with_reducible apply bJ)
 ·refine a8 (σ := Nat × (List Nat × Bool)) [0, 2, 3, 9, 43, 44] [(0, _), (2, _), (3, _), (9, _), (43, _), (44, _)] [] [] (fun k => [(45, iv (k.1 : Int)), (11, bv k.2.2)]) (fun k => [(0, some (aI cN k.2.1))]) (fun k => k.1 ≤ pts.length ∧ k.2 = (List.range k.1).foldl (yN Ki (fun i A => iP ts pts[i]! A) pts) (s, false) ∧ SG pts (K5 ts pts) k.2.1 ∧ k.2.1[0]! = 0) (fun k => pts.length - k.1) (0, (s, false)) ⟨by omega, rfl, hS, hE⟩ rfl rfl (by repeat' (first | exact trivial | refine And.intro rfl ?_)) (by repeat' (first | exact trivial | refine And.intro (.inr rfl) ?_)) ?_
  rintro ⟨k, u, c⟩ ⟨hk, hf, hS2, hE2⟩
  dsimp only at hk hf hS2 hE2 ⊢
  have hsm : ∀ z, Sm u[z]! := sW hS2 (fun i A h => h.1) htl
  have hul := hS2.1
  repeat' (first|(apply aK;first|(apply aE;rfl;rfl)|(first|(apply eZ;(case hx|hH => rfl);(case hf|hg|hα => infer_instance);(case hk => omega);(case hc|hN => rfl))|(apply aN;rfl;rfl;rfl;rfl)|(apply aV;rfl;rfl;(exact (rfl:_=[_, _, _, _, _]));rfl;rfl;rfl))|(apply aD;rfl;rfl;rfl)|(apply aU;rfl;rfl;rfl;rfl)|(apply aC;rfl;rfl)|(first|(apply aZ;(case hx|hi => rfl);(case hm => (omega));(case hml => (rfl));(case hα | hf|hg => infer_instance);(case hN => rfl))|(apply cM;rfl;rfl;(omega);rfl))|(apply bQ;rfl;rfl;rfl)|((with_reducible apply jT);(case hx|hcl => rfl);(case hc => infer_instance);(case ha => rfl);(case h => (apply zK <;> (first|assumption|omega|infer_instance)));(case hp => (exact Pur.pf));(case hN => rfl))|(apply aF;kernel_rfl)|(apply bD;rfl;rfl)|(apply aW;rfl;rfl;rfl;rfl;rfl;(case hl => (simp;done));(exact (rfl:_=[_, _, _, _, _]))))|(apply aL;first|apply aH|apply aB|(apply aP;rfl;all_goals intro hc;have hq:=hc;(try simp only [cH] at hq);try exfalso;omega)|apply aM|apply aT|apply bK)|with_reducible apply aA|with_reducible apply bI|with_reducible apply aX|with_reducible apply bJ)
  ·have hkn : k < pts.length := by omega
   have hv := rF w hkn (hS2.2 k hkn).1
   have hvs : Sm (iP ts pts[k]! u[k]!) := ⟨Nat.lt_of_lt_of_le hv (Nat.pow_le_pow_right (by decide) (by omega))⟩
   have hvs' : Sm (iP ts pts[(k : Int).toNat]! u[k]!) := hvs
   have hnl := w.nl k hkn
   refine a8 (σ := Nat × (List Nat × Bool)) [0, 2, 3, 9, 14, 43, 44, 45, 58, 59] [(0, _), (2, _), (3, _), (9, _), (14, _), (43, _), (44, _), (45, _), (58, _), (59, _)] [] [] (fun j => [(60, iv (j.1 : Int)), (11, bv j.2.2)]) (fun j => [(0, some (aI cN j.2.1))]) (fun j => j.1 ≤ pts[k]!.next.length ∧ j.2 = ((uQ pts k).take j.1).foldl (lH Ki (iP ts pts[k]! u[k]!)) (u, c) ∧ SG pts (K5 ts pts) j.2.1 ∧ j.2.1[0]! = 0) (fun j => pts[k]!.next.length - j.1) (0, (u, c)) ⟨by omega, rfl, hS2, hE2⟩ rfl rfl (by repeat' (first|exact trivial|refine And.intro rfl ?_)) (by repeat' (first|exact trivial|refine And.intro (.inr rfl) ?_)) ?_
   rintro ⟨j, u2, c2⟩ ⟨hj, hf2, hS3, hE3⟩
   dsimp only at hj hf2 hS3 hE3 ⊢
   have hsm2 : ∀ z, Sm u2[z]! := sW hS3 (fun i A h => h.1) htl
   have hul2 := hS3.1
   have hz : j < pts[k]!.next.length → 0 ≤ pts[k]!.next[j]! ∧ pts[k]!.next[j]! < pts.length := fun h => w.nx k hkn _ (cJ _ _ h)
   repeat' (first|(apply aK;first|(apply aE;rfl;rfl)|(first|(apply eZ;(case hx|hH => rfl);(case hf|hg|hα => infer_instance);(case hk => omega);(case hc|hN => rfl))|(apply aN;rfl;rfl;rfl;rfl))|(first|(apply gK;rfl;rfl;infer_instance;infer_instance;infer_instance;rfl)|(apply yI;rfl;rfl;infer_instance;infer_instance;infer_instance;rfl)|(apply bS;rfl;rfl;omega;rfl)|(apply aU;rfl;rfl;rfl;rfl))|(apply aC;rfl;rfl)|(first|(apply aZ;(case hx|hi => rfl);(case hm => (omega));(case hml => (rfl));(case hα | hf|hg => infer_instance);(case hN => rfl))|(apply cQ;rfl;rfl;(omega);rfl))|(apply aF;kernel_rfl)|(apply aW;rfl;rfl;rfl;rfl;rfl;(rw [aR]; simp only [gA] <;> omega);(exact tI (by (omega)))))|(apply aL;first|apply aH|apply aB|(apply bZ;rfl;(rfl))|(apply aP;rfl;all_goals intro hc;have hq:=hc;(try simp only [cH] at hq);try exfalso;omega)|apply aM|apply aT|apply bK)|with_reducible apply aA|with_reducible apply bI|with_reducible apply aX|with_reducible apply bJ)
   ·have hzz := hz (by omega)
    have hed : eT pts k (pts[k]!.next[j]!).toNat := ⟨hkn, by rw [Int.toNat_of_nonneg hzz.1]; exact cJ _ _ (by omega)⟩
    have hne : Ki u2[(pts[k]!.next[j]!).toNat]! (iP ts pts[k]! u[k]!) ≠ u2[(pts[k]!.next[j]!).toNat]! := fun h => hq (congrArg Int.ofNat h)
    (apply dJ (j + 1, (_, true));focus (refine Le.ren [(0, 0)] rfl (by decide) ?_ ?_ <;> repeat' (first|exact trivial|refine And.intro ⟨_, rfl, ?_⟩ ?_|refine And.intro ⟨_, _, rfl, rfl, ?_⟩ ?_|exact Or.inr rfl|refine Or.inl ⟨?_, (by first|rfl|exact aY _ _|exact Pur.pf|exact PurV.pf)⟩|rfl)))
    ·dsimp only
     refine ⟨by omega, ?_, xP fl w (hS2.2 k hkn) hed hS3, (by rw [eG _ _ _ _ (by rw [hS3.1]; exact fY w hed)]; split <;> first|exact hE3|(rename_i q;rw [← q, hE3]; exact Nat.zero_and _))⟩
     rw [jN (by omega), ← hf2, yT hne]; rfl
    ·dsimp only;omega
   ·have hzz := hz (by omega)
    have hne : Ki u2[(pts[k]!.next[j]!).toNat]! (iP ts pts[k]! u[k]!) = u2[(pts[k]!.next[j]!).toNat]! := Int.ofNat.inj hq
    (apply dJ (j + 1, (u2, c2));focus (refine Le.ren [(0, 0)] rfl (by decide) ?_ ?_ <;> repeat' (first|exact trivial|refine And.intro ⟨_, rfl, ?_⟩ ?_|refine And.intro ⟨_, _, rfl, rfl, ?_⟩ ?_|exact Or.inr rfl|refine Or.inl ⟨?_, (by first|rfl|exact aY _ _|exact Pur.pf|exact PurV.pf)⟩|rfl)))
    ·dsimp only
     refine ⟨by omega, ?_, hS3, hE3⟩
     rw [jN (by omega), ← hf2, w9 hne]
    ·dsimp only;omega
   ·(apply dJ (k + 1, (u2, c2)); focus (refine Le.ren [(0, 0)] rfl (by decide) ?_ ?_ <;> repeat' (first | exact trivial | refine And.intro ⟨_, rfl, ?_⟩ ?_ | refine And.intro ⟨_, _, rfl, rfl, ?_⟩ ?_ | exact Or.inr rfl | refine Or.inl ⟨?_, (by first | rfl | exact aY _ _ | exact Pur.pf | exact PurV.pf)⟩ | rfl)))
    ·dsimp only
     refine ⟨by omega, ?_, hS3, hE3⟩
     rw [e9, ← hf, hf2, List.take_of_length_le (by rw [lP]; omega)]; rfl
    ·dsimp only;omega
  ·have law := uM w fl s false hS
   have hfull : (u, c) = yQ Ki (fun i A => iP ts pts[i]! A) pts (s, false) := by
    rw [hf, show k = pts.length by omega]; rfl
   rw [show yQ (fun a s => Ki a s) (fun i A => iP ts pts[i]! A) pts (s, false) = (u, c) from hfull.symm] at law
   (apply dJ (u, c);focus (refine Le.ren [(0, 0)] rfl (by decide) ?_ ?_ <;> repeat' (first|exact trivial|refine And.intro ⟨_, rfl, ?_⟩ ?_|refine And.intro ⟨_, _, rfl, rfl, ?_⟩ ?_|exact Or.inr rfl|refine Or.inl ⟨?_, (by first|rfl|exact aY _ _|exact Pur.pf|exact PurV.pf)⟩|rfl)))
   ·dsimp only
    refine ⟨hS2, hE2, fun h => ?_⟩
    rcases law.2 with ⟨e1, e2⟩ | ⟨e1, _⟩
    ·cases e1;exact e2
    ·dsimp only at e1;rw [h] at e1;cases e1
   ·dsimp only
    have hb : b = true := by assumption
    subst hb
    rcases law.2 with ⟨e1, e2⟩ | ⟨e1, e2⟩
    ·cases e1;simp
    ·dsimp only at e1 e2;subst e1;omega
 ·have hb : b = false := by assumption
  refine cE (Le.frzD (d := 8) (i := 0) rfl rfl) ?_
  refine aO rfl ⟨?_, (by (exact aY _ _))⟩
  simp only [bW]
  rw [DZ hA (Gu w hS hE (hC hb))]
end Go.Proofs.YtckihjkcgfphmaaGreat
