/-
 A part of the proofs over this program: rules and contracts of its functions (the contracts).
-/
import Derived.Test.YtjcpngimjdckmaaGreatQ3A07
import Derived.Test.YtjcpngimjdckmaaGreatRows
set_option linter.unusedVariables false
set_option linter.unusedSimpArgs false
set_option maxHeartbeats 8000000
set_option maxRecDepth 4000
attribute [local irreducible] Go.AL.RW Go.AL.AW Go.AL.Stop
namespace Go.Proofs.YtjcpngimjdckmaaGreat
open Go.AL
theorem dO (a b c : Int) : PC Tryz.prog 50 [iv a, iv b, iv c] (fun r => r = bv (decide (b ≤ a) && decide (a ≤ c))) := by
 (refine aT Tryz.func50 rfl (by simp [Tryz.ntmps50]) ?_; rw [Tryz.ntmps50])
 repeat' (first|(apply aM;first|(apply aE;rfl;rfl)|(first|(apply bB;rfl;rfl;rfl;(assumption))|(apply bC;rfl;rfl;rfl;(assumption))|(apply bK;(case hj|hb|hN => rfl);all_goals (intro hg;have hq := hg;(try simp only [cK] at hq);(try (exfalso;omega)))))|(apply aR;rfl;rfl;rfl;rfl)|(apply aC;rfl;rfl)|(first|(apply bS;rfl;(assumption);rfl;rfl)|(apply bI;rfl;(assumption);rfl;rfl))|(apply aF;kernel_rfl))|(apply aN;first|apply aH|apply aB|apply aQ)|with_reducible apply aA|((with_reducible apply aP);case hr => rfl))
 all_goals (refine ⟨?_, rfl⟩; simp only [bX, AV.v.injEq, Value.bool.injEq, Value.int.injEq, true_and])
 all_goals grind
theorem zP (t : Int) : PC Tryz.prog 197 [iv t] (fun r => r = bv (m6 t)) := by
 (refine aT Tryz.func197 rfl (by simp [Tryz.ntmps197]) ?_; rw [Tryz.ntmps197])
 repeat' (first|(apply aM;first|(apply aE;rfl;rfl)|(first|(apply bB;rfl;rfl;rfl;(assumption))|(apply bC;rfl;rfl;rfl;(assumption))|(apply bK;(case hj|hb|hN => rfl);all_goals (intro hg;have hq := hg;(try simp only [cK] at hq);(try (exfalso;omega)))))|(apply aR;rfl;rfl;rfl;rfl)|(apply aC;rfl;rfl)|(first|(apply bS;rfl;(assumption);rfl;rfl)|(apply bI;rfl;(assumption);rfl;rfl))|(apply aF;kernel_rfl))|(apply aN;first|apply aH|apply aB|apply aQ)|with_reducible apply aA|((with_reducible apply aP);case hr => rfl))
 all_goals (refine ⟨?_, rfl⟩; simp only [bX, AV.v.injEq, Value.bool.injEq, Value.int.injEq, true_and])
 all_goals grind [m6]
theorem BK (t : Int) : PC Tryz.prog 203 [iv t] (fun r => r = bv (decide (t = 2) || m6 t)) := by
 (refine aT Tryz.func203 rfl (by simp [Tryz.ntmps203]) ?_; rw [Tryz.ntmps203])
 repeat' (first|(apply aM;first|(apply aE;rfl;rfl)|(first|(apply bB;rfl;rfl;rfl;(assumption))|(apply bC;rfl;rfl;rfl;(assumption))|(apply bK;(case hj|hb|hN => rfl);all_goals (intro hg;have hq := hg;(try simp only [cK] at hq);(try (exfalso;omega)))))|(apply aR;rfl;rfl;rfl;rfl)|(apply aC;rfl;rfl)|(first|(apply bS;rfl;(assumption);rfl;rfl)|(apply bI;rfl;(assumption);rfl;rfl))|((with_reducible apply aJ (k := 197));(case ha => rfl);(case h => (apply zP <;> (fail)));(case hp => (rfl));(case hN => rfl))|(apply aF;kernel_rfl))|(apply aN;first|apply aH|apply aB|apply aQ)|with_reducible apply aA|((with_reducible apply aP);case hr => rfl))
 all_goals (refine ⟨?_, rfl⟩; simp only [bX, AV.v.injEq, Value.bool.injEq, Value.int.injEq, true_and])
 all_goals grind
theorem tV (t : Int) : PC Tryz.prog 80 [iv t] (fun r => r = bv (decide (t = 9) || decide (t = 10))) := by
 (refine aT Tryz.func80 rfl (by simp [Tryz.ntmps80]) ?_; rw [Tryz.ntmps80])
 repeat' (first|(apply aM;first|(apply aE;rfl;rfl)|(first|(apply bB;rfl;rfl;rfl;(assumption))|(apply bC;rfl;rfl;rfl;(assumption))|(apply bK;(case hj|hb|hN => rfl);all_goals (intro hg;have hq := hg;(try simp only [cK] at hq);(try (exfalso;omega)))))|(apply aR;rfl;rfl;rfl;rfl)|(apply aC;rfl;rfl)|(first|(apply bS;rfl;(assumption);rfl;rfl)|(apply bI;rfl;(assumption);rfl;rfl))|(apply aF;kernel_rfl))|(apply aN;first|apply aH|apply aB|apply aQ)|with_reducible apply aA|((with_reducible apply aP);case hr => rfl))
 all_goals (refine ⟨?_, rfl⟩; simp only [bX, AV.v.injEq, Value.bool.injEq, Value.int.injEq, true_and])
 all_goals grind
theorem Gg (ts : List Int) (v : Int) : PC Tryz.prog 204 [sl cI ts, iv v] (fun r => r = iv (fZ ts v)) := by
 (refine aT Tryz.func204 rfl (by simp [Tryz.ntmps204]) ?_; rw [Tryz.ntmps204])
 repeat' (first|(apply aM;first|(apply aE;rfl;rfl)|(apply aK;rfl;rfl;rfl;rfl)|(first|(apply bB;rfl;rfl;rfl;(assumption))|(apply bC;rfl;rfl;rfl;(assumption))|(apply bK;(case hj|hb|hN => rfl);all_goals (intro hg;have hq := hg;(try simp only [cK] at hq);(try (exfalso;omega)))))|(apply aR;rfl;rfl;rfl;rfl)|(apply aC;rfl;rfl)|(first|(apply bS;rfl;(assumption);rfl;rfl)|(apply bI;rfl;(assumption);rfl;rfl))|(apply dA;(case hx|hi => rfl);(case hm => (omega));(case hml => (rfl));(case hα | hf|hg => infer_instance);(case hN => rfl))|(apply a9;rfl;rfl;rfl)|(apply aF;kernel_rfl))|(apply aN;first|apply aH|apply aB|(apply b8;rfl;(rfl))|(apply aO;rfl;all_goals intro hc;have hq:=hc;(try simp only [cK] at hq);try exfalso;omega)|apply aS|apply aQ)|with_reducible apply aA|with_reducible apply bJ|((with_reducible apply aP);case hr => rfl))
 all_goals (refine ⟨?_, rfl⟩; simp only [bX, AV.v.injEq, Value.bool.injEq, Value.int.injEq, true_and])
 all_goals grind [fZ]
theorem E7 (ts : List Int) (v : Int) (hl : ts.length ≤ 1000000) : PC Tryz.prog 51 [sl cI ts, iv v] (fun r => r = iv (fZ ts v)) := by
 (refine aT Tryz.func51 rfl (by simp [Tryz.ntmps51]) ?_; rw [Tryz.ntmps51])
 repeat' (first|(apply aM;first|(apply aE;rfl;rfl)|(apply aK;rfl;rfl;rfl;rfl)|(apply fO;rfl;rfl;omega;rfl)|(apply aC;rfl;rfl)|(apply dA;(case hx|hi => rfl);(case hm => (omega));(case hml => (rfl));(case hα | hf|hg => infer_instance);(case hN => rfl))|((with_reducible apply aJ (k := 50));(case ha => rfl);(case h => (apply dO <;> (fail)));(case hp => (rfl));(case hN => rfl))|(apply a9;rfl;rfl;rfl)|(apply aF;kernel_rfl)|(apply cQ;rfl;rfl))|(apply aN;first|apply aH|apply aB|(apply aO;rfl;all_goals intro hc;have hq:=hc;(try simp only [cK] at hq);try exfalso;omega)|apply aS|apply aQ)|with_reducible apply aA|with_reducible apply bJ|((with_reducible apply aP);case hr => rfl))
 all_goals (refine ⟨?_, rfl⟩; simp only [bX, AV.v.injEq, Value.bool.injEq, Value.int.injEq, true_and])
 all_goals grind [fZ]
theorem BL (ts : List Int) (s : AL.Stmt) (hl : dB ts = true) : PC Tryz.prog 179 [sl cI ts, dH s] (fun r => r = bv (s.th.isEmpty && s.el.isEmpty && eO ts s)) := by
 have hl2 := gM hl
 have hx := jG hl s.x
 have hy := jG hl s.y
 (refine aT Tryz.func179 rfl (by simp [Tryz.ntmps179]) ?_; rw [Tryz.ntmps179])
 repeat' (first|(apply aM;first|(apply aE;rfl;rfl)|(apply aK;rfl;rfl;rfl;rfl)|(apply aD;rfl;rfl;rfl)|(first|(apply mK;rfl;rfl;rfl)|(apply bB;rfl;rfl;rfl;(first|rfl|assumption))|(apply bC;rfl;rfl;rfl;(first|rfl|assumption))|(apply bK;(case hj|hb|hN => rfl);all_goals (intro hg;have hq := hg;(try simp only [cK] at hq);(try (exfalso;omega)))))|(apply aR;rfl;rfl;rfl;rfl)|(apply aC;rfl;rfl)|(first|(apply bS;rfl;(first|rfl|assumption);rfl;rfl)|(apply bI;rfl;(first|rfl|assumption);rfl;rfl))|(first|((with_reducible apply aJ (k := 50));(case ha => rfl);(case h => (apply dO <;> (fail)));(case hp => (rfl));(case hN => rfl))|((with_reducible apply aJ (k := 51));(case ha => rfl);(case h => (apply E7 <;> (omega)));(case hp => (exact Pur.pf));(case hN => rfl))|((with_reducible apply aJ (k := 203));(case ha => rfl);(case h => (apply BK <;> (fail)));(case hp => (rfl));(case hN => rfl)))|(apply a9;rfl;rfl;rfl)|(apply aF;kernel_rfl)|(apply cQ;rfl;rfl)|(apply bW;rfl;rfl;rfl;rfl))|(apply aN;first|apply aH|apply aB|(apply bZ;kernel_rfl)|(apply b8;rfl;(first|rfl|assumption))|(apply cH;rfl;(assumption))|(apply aO;rfl;all_goals intro hc;have hq:=hc;(try simp only [cK] at hq);try exfalso;omega)|apply aL|apply aS|apply aQ)|with_reducible apply aA|with_reducible apply bJ|with_reducible apply aV|with_reducible apply cY|((with_reducible apply aP);case hr => rfl))
 all_goals (refine ⟨?_, rfl⟩; simp only [bX, AV.v.injEq, Value.bool.injEq, Value.int.injEq, true_and])
 all_goals (cases hth : s.th <;> cases hel : s.el <;> simp only [hth, hel, List.length_nil, List.length_cons, List.isEmpty_nil, List.isEmpty_cons, Bool.true_and, Bool.false_and] at *)
 all_goals (try unfold eO)
 all_goals (try simp only [m6, Bool.or_eq_true, Bool.or_eq_false_iff, decide_eq_true_eq, decide_eq_false_iff_not] at *)
 all_goals grind
theorem B7 (ts : List Int) (s : AL.Stmt) (hl : dB ts = true) : PC Tryz.prog 182 [sl cI ts, dH s] (fun r => r = bv (eO ts s)) := by
 have hl2 := gM hl
 have hx := jG hl s.x
 have hy := jG hl s.y
 (refine aT Tryz.func182 rfl (by simp [Tryz.ntmps182]) ?_; rw [Tryz.ntmps182])
 repeat' (first|(apply aM;first|(apply aE;rfl;rfl)|(apply aK;rfl;rfl;rfl;rfl)|(apply aD;rfl;rfl;rfl)|(first|(apply mK;rfl;rfl;rfl)|(apply bB;rfl;rfl;rfl;(first|rfl|assumption))|(apply bC;rfl;rfl;rfl;(first|rfl|assumption))|(apply bK;(case hj|hb|hN => rfl);all_goals (intro hg;have hq := hg;(try simp only [cK] at hq);(try (exfalso;omega)))))|(apply aR;rfl;rfl;rfl;rfl)|(apply aC;rfl;rfl)|(first|(apply bS;rfl;(first|rfl|assumption);rfl;rfl)|(apply bI;rfl;(first|rfl|assumption);rfl;rfl))|((with_reducible apply aJ (k := 204));(case ha => rfl);(case h => (apply Gg <;> (fail)));(case hp => (exact Pur.pf));(case hN => rfl))|(apply aF;kernel_rfl)|(apply bW;rfl;rfl;rfl;rfl))|(apply aN;first|apply aH|apply aB|(apply cH;rfl;(rfl))|(apply aO;rfl;all_goals intro hc;have hq:=hc;(try simp only [cK] at hq);try exfalso;omega)|apply aL|apply aS|apply aQ)|with_reducible apply aA|with_reducible apply bJ|with_reducible apply aV|with_reducible apply cY|((with_reducible apply aP);case hr => rfl))
 all_goals (refine ⟨?_, rfl⟩; simp only [bX, AV.v.injEq, Value.bool.injEq, Value.int.injEq, true_and])
 all_goals (try unfold eO)
 all_goals grind
theorem EB (ts : List Int) (hl : dB ts = true) (m : Nat) (ih : ∀ l (d : Int), bT l < m → 0 ≤ d → d ≤ 1000 → PC Tryz.prog 107 [sl cI ts, sl aY l, iv d] (fun r => r = bv (okL ts d.toNat l))) (s : AL.Stmt) (d : Int) (hs : dK s ≤ m) (hd0 : 0 ≤ d) (hd : d ≤ 1000) :
  PC Tryz.prog 148 [sl cI ts, dH s, iv d] (fun r => r = bv (oP ts d.toNat s)) := by
 rw [H5 ts d hd0]
 (refine aT Tryz.func148 rfl (by simp [Tryz.ntmps148]) ?_; rw [Tryz.ntmps148])
 repeat' (first|(apply aM;first|(apply aE;rfl;rfl)|(first|(apply aK;rfl;rfl;rfl;rfl)|(apply aX;rfl;rfl;(exact (rfl:_=[_, _, _, _, _, _]));rfl;rfl;rfl))|(apply aD;rfl;rfl;rfl)|(first|(apply mK;rfl;rfl;rfl)|(apply bB;rfl;rfl;rfl;(assumption))|(apply bC;rfl;rfl;rfl;(first|rfl|assumption))|(apply bK;(case hj|hb|hN => rfl);all_goals (intro hg;have hq := hg;(try simp only [cK] at hq);(try (exfalso;omega)))))|(first|(apply fO;rfl;rfl;omega;rfl)|(apply aR;rfl;rfl;rfl;rfl))|(apply aC;rfl;rfl)|(first|(apply bS;rfl;(first|rfl|assumption);rfl;rfl)|(apply bI;rfl;(first|rfl|assumption);rfl;rfl))|(first|((with_reducible apply aJ (k := 107));(case ha => rfl);(case h => (apply ih <;> (first|omega|(have := iL s;omega))));(case hp => (exact Pur.pf));(case hN => rfl))|((with_reducible apply aJ (k := 182));(case ha => rfl);(case h => (apply B7 <;> (assumption)));(case hp => (exact Pur.pf));(case hN => rfl)))|(apply a9;rfl;rfl;rfl)|(apply aF;kernel_rfl)|(apply bW;rfl;rfl;rfl;rfl))|(apply aN;first|apply aH|apply aB|(apply b8;rfl;(rfl))|(apply cH;rfl;(rfl))|(apply aO;rfl;all_goals intro hc;have hq:=hc;(try simp only [cK] at hq);try exfalso;omega)|apply aS|apply aQ)|with_reducible apply aA|with_reducible apply bJ|((with_reducible apply aP);case hr => rfl))
 all_goals (refine ⟨?_, rfl⟩; simp only [bX, AV.v.injEq, Value.bool.injEq, Value.int.injEq, true_and])
 all_goals (cases hth : s.th <;> cases hel : s.el <;> simp only [hth, hel, List.length_nil, List.length_cons, List.isEmpty_nil, List.isEmpty_cons, Bool.true_and, Bool.false_and] at *)
 all_goals grind
theorem Ex (ts : List Int) (hl : dB ts = true) (m : Nat) (ih : ∀ s (d : Int), dK s ≤ m → 0 ≤ d → d ≤ 1000 → PC Tryz.prog 148 [sl cI ts, dH s, iv d] (fun r => r = bv (oP ts d.toNat s))) (l : List AL.Stmt) (d : Int) (hs : bT l ≤ m) (hm : m ≤ 100000000) (hd0 : 0 ≤ d) (hd : d ≤ 1000) :
  PC Tryz.prog 107 [sl cI ts, sl aY l, iv d] (fun r => r = bv (okL ts d.toNat l)) := by
 have hlen := dL l
 (refine aT Tryz.func107 rfl (by simp [Tryz.ntmps107]) ?_; rw [Tryz.ntmps107])
 repeat' (first|(apply aM;first|(apply aC;rfl;rfl)|(apply aF;kernel_rfl))|(apply aN;first|apply aH|apply aB|apply aL)|with_reducible apply aA)
 refine a7 (σ := Nat) [0, 1, 2] [(0, _), (1, _), (2, _)] [] [] (fun k => [(7, iv (k : Int))]) (fun k => []) (fun k => k ≤ l.length ∧ ∀ i, i < k → oP ts d.toNat l[i]! = true) (fun k => l.length - k) (0) ⟨by omega, by omega⟩ rfl rfl (by repeat' (first|exact trivial|refine And.intro rfl ?_)) (by repeat' (exact trivial)) ?_
 intro k ⟨hk, hall⟩
 have hck := fY l k
 repeat' (first|(apply aM;first|((with_reducible apply aJ (k := 148));(case ha => rfl);(case h => (apply ih _ d (Nat.le_trans (hck (by omega)) hs) hd0 hd));(case hp => (exact Pur.pf));(case hN => rfl))|(apply aE;rfl;rfl)|(apply aX;rfl;rfl;(exact (rfl:_=[_, _, _, _, _, _]));rfl;rfl;rfl)|(first|(apply bR;rfl;rfl;omega;rfl)|(apply aR;rfl;rfl;rfl;rfl))|(apply aC;rfl;rfl)|(apply a6;(case hx|hi => rfl);(case hm => (omega));(case hml => (rfl));(case hα | hf|hg => infer_instance);(case hN => rfl))|(apply a9;rfl;rfl;rfl)|(apply aF;kernel_rfl)|(apply cQ;rfl;rfl))|(apply aN;first|apply aH|apply aB|(apply aO;rfl;all_goals intro hc;have hq:=hc;(try simp only [cK] at hq);try exfalso;omega)|apply aL|apply aS|apply bF|apply aQ)|with_reducible apply aA|with_reducible apply bJ|with_reducible apply bE|with_reducible apply aV|with_reducible apply cY|with_reducible apply bG|((with_reducible apply aP);case hr => rfl))
 ·(refine ⟨?_, rfl⟩; simp only [bX, AV.v.injEq, Value.bool.injEq, Value.int.injEq, true_and])
  rw [F9 (k := k) (by omega) hq]
 ·(apply dV (k + 1); focus (refine Le.ren [] rfl (by decide) ?_ ?_ <;> repeat' (first | exact trivial | refine And.intro ⟨_, rfl, ?_⟩ ?_ | refine Or.inl ⟨?_, (by first | rfl | exact aZ _ _)⟩ | rfl)))
  ·grind
  ·omega
 ·(refine ⟨?_, rfl⟩; simp only [bX, AV.v.injEq, Value.bool.injEq, Value.int.injEq, true_and])
  rw [Ia (fun i hi => hall i (by omega))]
theorem Iw (ts : List Int) (hl : dB ts = true) : ∀ (m : Nat), m ≤ 100000000 → (∀ s (d : Int), dK s ≤ m → 0 ≤ d → d ≤ 1000 → PC Tryz.prog 148 [sl cI ts, dH s, iv d] (fun r => r = bv (oP ts d.toNat s))) ∧
  (∀ l (d : Int), bT l ≤ m → 0 ≤ d → d ≤ 1000 → PC Tryz.prog 107 [sl cI ts, sl aY l, iv d] (fun r => r = bv (okL ts d.toNat l))) := by
 intro m
 induction m using Nat.strongRecOn with
 | ind m ih =>
  intro hm
  have h1 : ∀ s (d : Int), dK s ≤ m → 0 ≤ d → d ≤ 1000 → PC Tryz.prog 148 [sl cI ts, dH s, iv d] (fun r => r = bv (oP ts d.toNat s)) :=
   fun s d h1 h2 h3 => EB ts hl m (fun l d' g1 g2 g3 => (ih (bT l) g1 (by omega)).2 l d' (Nat.le_refl _) g2 g3) s d h1 h2 h3
  exact ⟨h1, fun l d g1 g2 g3 => Ex ts hl m h1 l d g1 hm g2 g3⟩
theorem BQ (m0 : Nat) (ih : ∀ l (most : Int), bT l < m0 → -1 ≤ most → most ≤ 1000 → PC Tryz.prog 108 [sl aY l, iv most] (fun r => r = iv (mZ most 0 l))) (l : List AL.Stmt) (most : Int) (hs : bT l ≤ m0) (hm : m0 ≤ 100000000) (hd0 : -1 ≤ most) (hd : most ≤ 1000) :
  PC Tryz.prog 108 [sl aY l, iv most] (fun r => r = iv (mZ most 0 l)) := by
 have hlen := dL l
 have hall := mD l most 0
 (refine aT Tryz.func108 rfl (by simp [Tryz.ntmps108]) ?_; rw [Tryz.ntmps108])
 repeat' (first|(apply aM;first|(apply aC;rfl;rfl)|(apply aF;kernel_rfl))|(apply aN;first|apply aH|apply aB|apply aL)|with_reducible apply aA)
 refine a7 (σ := Nat × Int) [0, 1] [(0, _), (1, _)] [] [] (fun k => [(6, iv (k.1 : Int)), (5, iv k.2)]) (fun k => []) (fun k => k.1 ≤ l.length ∧ mZ most k.2 (l.drop k.1) = mZ most 0 l ∧ 0 ≤ k.2 ∧ k.2 ≤ bT l) (fun k => l.length - k.1) (0, 0) ⟨by omega, rfl, by omega, by omega⟩ rfl rfl (by repeat' (first|exact trivial|refine And.intro rfl ?_)) (by repeat' (exact trivial)) ?_
 rintro ⟨k, n⟩ ⟨hk, hn, hn0, hn1⟩
 dsimp only at hk hn hn0 hn1 ⊢
 have hck := fY l k
 have hct := iL l[k]!
 have b1 := mD l[k]!.th (most - n) 0
 have b2 := fun z => mD l[k]!.el z 0
 have b3 := GL l[k]! most n
 have b4 := mD (l.drop (k + 1)) most (Fa most n l[k]!)
 have b5 := FO most n l k
 rw [IG] at b3 b4 b5
 repeat' (first|(apply aM;first|((with_reducible apply aJ (k := 108));(case ha => rfl);(case h => (apply ih <;> omega));(case hp => (exact Pur.pf));(case hN => rfl))|(apply aE;rfl;rfl)|(apply aK;rfl;rfl;rfl;rfl)|(apply aD;rfl;rfl;rfl)|(first|(apply bB;rfl;rfl;rfl;(assumption))|(apply bC;rfl;rfl;rfl;(assumption))|(apply bK;(case hj|hb|hN => rfl);all_goals (intro hg;have hq := hg;(try simp only [cK] at hq);(try (exfalso;omega)))))|(first|(apply bR;rfl;rfl;omega;rfl)|(apply fO;rfl;rfl;omega;rfl)|(apply aR;rfl;rfl;rfl;rfl))|(apply aC;rfl;rfl)|(first|(apply bS;rfl;(assumption);rfl;rfl)|(apply bI;rfl;(assumption);rfl;rfl))|(apply a6;(case hx|hi => rfl);(case hm => (omega));(case hml => (rfl));(case hα | hf|hg => infer_instance);(case hN => rfl))|(apply a9;rfl;rfl;rfl)|(apply aF;kernel_rfl))|(apply aN;first|apply aH|apply aB|(apply cH;rfl;(rfl))|(apply aO;rfl;all_goals intro hc;have hq:=hc;(try simp only [cK] at hq);try exfalso;omega)|apply aL|apply aS|apply bF|apply aQ)|with_reducible apply aA|with_reducible apply bE|with_reducible apply aV|with_reducible apply bG|((with_reducible apply aP);case hr => rfl))
 ·(apply Exists.intro (k + 1, n + 1 + mZ (most - n) 0 l[k]!.th + mZ (most - (n + 1 + mZ (most - n) 0 l[k]!.th)) 0 l[k]!.el); refine And.intro ?_ (And.intro ?_ ?_); rotate_left 2; focus (refine Le.ren [] rfl (by decide) ?_ ?_ <;> repeat' (first | exact trivial | refine And.intro ⟨_, rfl, ?_⟩ ?_ | refine Or.inl ⟨?_, (by first | rfl | exact aZ _ _)⟩ | rfl)))
  ·dsimp only;grind
  ·dsimp only;omega
 ·(apply dV (k + 1, n + 1 + mZ (most - n) 0 l[k]!.th); focus (refine Le.ren [] rfl (by decide) ?_ ?_ <;> repeat' (first | exact trivial | refine And.intro ⟨_, rfl, ?_⟩ ?_ | refine Or.inl ⟨?_, (by first | rfl | exact aZ _ _)⟩ | rfl)))
  ·dsimp only;grind
  ·dsimp only;omega
 ·(refine ⟨?_, rfl⟩; simp only [bX, AV.v.injEq, Value.bool.injEq, Value.int.injEq, true_and])
  rw [← hn, Gj _ _ _ (by omega)]
 ·(refine ⟨?_, rfl⟩; simp only [bX, AV.v.injEq, Value.bool.injEq, Value.int.injEq, true_and])
  rw [← hn, HJ _ _ _ _ (by omega)]
theorem D7 (l : List AL.Stmt) (most : Int) (hs : bT l ≤ 100000000) (hd0 : -1 ≤ most) (hd : most ≤ 1000) :
  PC Tryz.prog 108 [sl aY l, iv most] (fun r => r = iv (mZ most 0 l)) := by
 have h : ∀ (m : Nat), m ≤ 100000000 → ∀ l (most : Int), bT l ≤ m → -1 ≤ most → most ≤ 1000 → PC Tryz.prog 108 [sl aY l, iv most] (fun r => r = iv (mZ most 0 l)) := by
  intro m
  induction m using Nat.strongRecOn with
  | ind m ih =>
   intro hm l most h1 h2 h3
   exact BQ m (fun l' most' g1 g2 g3 => ih _ g1 (by omega) l' most' (Nat.le_refl _) g2 g3) l most h1 hm h2 h3
 exact h _ hs l most (Nat.le_refl _) hd0 hd
theorem Gu (ts : List Int) (l : List AL.Stmt) (d : Int) (hl : dB ts = true) (hs : bT l ≤ 100000000) (hd0 : 0 ≤ d) (hd : d ≤ 1000) : PC Tryz.prog 107 [sl cI ts, sl aY l, iv d] (fun r => r = bv (okL ts d.toNat l)) :=
 (Iw ts hl _ hs).2 l d (Nat.le_refl _) hd0 hd
theorem wI (ts : List Int) (hl : ts.length ≤ 1000000) : PC Tryz.prog 106 [sl cI ts] (fun r => r = bv (dB ts)) := by
 (refine aT Tryz.func106 rfl (by simp [Tryz.ntmps106]) ?_; rw [Tryz.ntmps106])
 repeat' (first|(apply aM;first|(apply aC;rfl;rfl)|(apply aF;kernel_rfl))|(apply aN;first|apply aH|apply aB|apply aL)|with_reducible apply aA)
 refine a7 (σ := Nat) [0] [(0, _)] [] [] (fun k => [(3, iv (k : Int))]) (fun k => []) (fun k => k ≤ ts.length ∧ ∀ i, i < k → 1 ≤ ts[i]! ∧ ts[i]! ≤ 4) (fun k => ts.length - k) (0) ⟨by omega, by omega⟩ rfl rfl (by repeat' (first|exact trivial|refine And.intro rfl ?_)) (by repeat' (exact trivial)) ?_
 intro k ⟨hk, hall⟩
 repeat' (first|(apply aM;first|(apply aE;rfl;rfl)|(apply aK;rfl;rfl;rfl;rfl)|(first|(apply bB;rfl;rfl;rfl;(assumption))|(apply bC;rfl;rfl;rfl;(assumption))|(apply bK;(case hj|hb|hN => rfl);all_goals (intro hg;have hq := hg;(try simp only [cK] at hq);(try (exfalso;omega)))))|(first|(apply bR;rfl;rfl;omega;rfl)|(apply aR;rfl;rfl;rfl;rfl))|(apply aC;rfl;rfl)|(first|(apply bS;rfl;(assumption);rfl;rfl)|(apply bI;rfl;(assumption);rfl;rfl))|(apply a6;(case hx|hi => rfl);(case hm => (omega));(case hml => (rfl));(case hα | hf|hg => infer_instance);(case hN => rfl))|(apply a9;rfl;rfl;rfl)|(apply aF;kernel_rfl))|(apply aN;first|apply aH|apply aB|(apply b8;rfl;(rfl))|(apply aO;rfl;all_goals intro hc;have hq:=hc;(try simp only [cK] at hq);try exfalso;omega)|apply aL|apply aS|apply bF|apply aQ)|with_reducible apply aA|with_reducible apply bJ|with_reducible apply bE|with_reducible apply aV|with_reducible apply cY|with_reducible apply bG|((with_reducible apply aP);case hr => rfl))
 ·(refine ⟨?_, rfl⟩; simp only [bX, AV.v.injEq, Value.bool.injEq, Value.int.injEq, true_and])
  unfold dB;grind [mS, j5]
 ·(apply dV (k + 1); focus (refine Le.ren [] rfl (by decide) ?_ ?_ <;> repeat' (first | exact trivial | refine And.intro ⟨_, rfl, ?_⟩ ?_ | refine Or.inl ⟨?_, (by first | rfl | exact aZ _ _)⟩ | rfl)))
  ·grind
  ·omega
 ·(refine ⟨?_, rfl⟩; simp only [bX, AV.v.injEq, Value.bool.injEq, Value.int.injEq, true_and])
  unfold dB;grind [mS, j5]
 ·(refine ⟨?_, rfl⟩; simp only [bX, AV.v.injEq, Value.bool.injEq, Value.int.injEq, true_and])
  unfold dB;grind [mS, j5]
theorem yX (p : Prg) (hl : p.types.length ≤ 1000000) (hs : bT p.body ≤ 100000000) : PC Tryz.prog 57 [dS p] (fun r => r = bv (dC p)) := by
 unfold dC
 cases ht : dB p.types
 ·(refine aT Tryz.func57 rfl (by simp [Tryz.ntmps57]) ?_; rw [Tryz.ntmps57])
  repeat' (first|(apply aM;first|(apply aE;rfl;rfl)|(apply aK;rfl;rfl;rfl;rfl)|(apply aD;rfl;rfl;rfl)|(apply bC;rfl;rfl;rfl;(first|rfl|assumption))|(apply aC;rfl;rfl)|(apply bI;rfl;(first|rfl|assumption);rfl;rfl)|((with_reducible apply aJ (k := 106));(case ha => rfl);(case h => (apply wI <;> (assumption)));(case hp => (exact Pur.pf));(case hN => rfl))|(apply aF;kernel_rfl)|(apply bW;rfl;rfl;rfl;rfl))|(apply aN;first|apply aH|apply aB|apply aQ)|with_reducible apply aA|((with_reducible apply aP);case hr => rfl))
  (refine ⟨?_, rfl⟩; simp only [bX, AV.v.injEq, Value.bool.injEq, Value.int.injEq, true_and])
  rfl
 ·(refine aT Tryz.func57 rfl (by simp [Tryz.ntmps57]) ?_; rw [Tryz.ntmps57])
  repeat' (first|(apply aM;first|(apply aE;rfl;rfl)|(apply aK;rfl;rfl;rfl;rfl)|(apply aD;rfl;rfl;rfl)|(first|(apply bB;rfl;rfl;rfl;(assumption))|(apply bC;rfl;rfl;rfl;(assumption))|(apply bK;(case hj|hb|hN => rfl);all_goals (intro hg;have hq := hg;(try simp only [cK] at hq);(try (exfalso;omega)))))|(apply aR;rfl;rfl;rfl;rfl)|(apply aC;rfl;rfl)|(first|(apply bS;rfl;(assumption);rfl;rfl)|(apply bI;rfl;(assumption);rfl;rfl))|(first|((with_reducible apply aJ (k := 106));(case ha => rfl);(case h => (apply wI <;> (assumption)));(case hp => (exact Pur.pf));(case hN => rfl))|((with_reducible apply aJ (k := 107));(case ha => rfl);(case h => (apply Gu <;> (first|assumption|omega)));(case hp => (exact Pur.pf));(case hN => rfl))|((with_reducible apply aJ (k := 108));(case ha => rfl);(case h => (apply D7 <;> (first|assumption|omega)));(case hp => (exact Pur.pf));(case hN => rfl)))|(apply aF;kernel_rfl)|(apply bW;rfl;rfl;rfl;rfl))|(apply aN;first|apply aH|apply aB|apply aQ)|with_reducible apply aA|((with_reducible apply aP);case hr => rfl))
  ·(refine ⟨?_, rfl⟩; simp only [bX, AV.v.injEq, Value.bool.injEq, Value.int.injEq, true_and])
   rw [show okL p.types 4 p.body = true from hq]; simp only [Bool.true_and, J4, decide_eq_decide]; omega
  ·(refine ⟨?_, rfl⟩; simp only [bX, AV.v.injEq, Value.bool.injEq, Value.int.injEq, true_and])
   rw [show okL p.types 4 p.body = false from hq]; rfl
end Go.Proofs.YtjcpngimjdckmaaGreat
namespace Go.Proofs.YtjcpngimjdckmaaGreat
open Go.AL Go.RowKit
theorem HL {ts : List Int} {s : AL.Stmt} {nest c : Int} {N : Nat} {Q : Exit → AS → Prop} {all : Array Oper} {rest : List Oper} {tsl : List (Nat × AV)} {hsl : List (Nat × Option (List AV))} {nidl : Nat} {z0 : Lo} {md : Md} {d : Nat} {ty : TypeId} {pos : String} {af : Array Edge} {tys : Array TypeId} {x0 x1 x2 x3 : Operand} {i0 : Nat} (ha0 : ev (lk tsl) x0 = some (sl cI ts)) (ha1 : ev (lk tsl) x1 = some (dH s)) (ha2 : ev (lk tsl) x2 = some (iv nest)) (ha3 : ev (lk tsl) x3 = some (.optr i0 0)) (hH0 : cE hsl i0 = some ([iv c])) (hmc : MC Tryz.prog 144 [sl cI ts, dH s, iv nest, .optr 0 0] [(0, some ([iv c]))] 1 (fun _ : Unit => True) (fun _ => bv (lZ ts nest c s).1) (fun _ => [(0, some ([iv (lZ ts nest c s).2]))])) (hM : Nat.ble (nidl + 0) fD = true) (hN : Nat.blt d N = true) {md' : Md} [hmd : MdA md (gS [x0, x1, x2, x3] ++ [.inr i0]) (List.map Sum.inr (List.map Prod.fst ([(i0, some ([iv (lZ ts nest c s).2]))] : List (Nat × Option (List AV)))) ++ [.inl d]) md'] (kk : RW Tryz.prog N all Q md' rest ⟨(d, bv (lZ ts nest c s).1) :: tsl, iK hsl [(i0, some ([iv (lZ ts nest c s).2]))], nidl + 0, z0⟩) : RW Tryz.prog N all Q md (⟨some d, .call ⟨.value (.func 144), #[x0, x1, x2, x3], tys⟩, ty, pos, af, none⟩ :: rest) ⟨tsl, hsl, nidl, z0⟩ := by
 refine cJ [i0] 1 [(i0, some ([iv (lZ ts nest c s).2]))] hmc (avs := [sl cI ts, dH s, iv nest, .optr i0 0]) ?_ rfl ?_ rfl ?_ (by simpa using hM) ?_ ?_ ?_ hN (md' := md') (hmd := hmd) kk
 ·show evL (lk tsl) [x0, x1, x2, x3] = _
  simp only [evL, ha0, ha1, ha2, ha3]
 ·exact ⟨⟨_, _, rfl, hH0, by (repeat' (exact RnL.purI inferInstance))⟩, trivial⟩
 ·(repeat' (first|exact RnL.purI inferInstance|exact RnV.purI inferInstance|exact RnV.optr rfl|refine RnL.cons ?_ ?_))
 ·(repeat' (exact RnV.purI inferInstance))
 ·simp [dQ]
 ·(repeat' (first|exact trivial|(refine And.intro ⟨0, _, rfl, rfl, ?_⟩ ?_)|exact RnL.purI inferInstance))
theorem sK {ts : List Int} {l : List AL.Stmt} {nest c : Int} {N : Nat} {Q : Exit → AS → Prop} {all : Array Oper} {rest : List Oper} {tsl : List (Nat × AV)} {hsl : List (Nat × Option (List AV))} {nidl : Nat} {z0 : Lo} {md : Md} {d : Nat} {ty : TypeId} {pos : String} {af : Array Edge} {tys : Array TypeId} {x0 x1 x2 x3 : Operand} {i0 : Nat} (ha0 : ev (lk tsl) x0 = some (sl cI ts)) (ha1 : ev (lk tsl) x1 = some (sl aY l)) (ha2 : ev (lk tsl) x2 = some (iv nest)) (ha3 : ev (lk tsl) x3 = some (.optr i0 0)) (hH0 : cE hsl i0 = some ([iv c])) (hmc : MC Tryz.prog 98 [sl cI ts, sl aY l, iv nest, .optr 0 0] [(0, some ([iv c]))] 1 (fun _ : Unit => True) (fun _ => bv (kE ts nest c l).1) (fun _ => [(0, some ([iv (kE ts nest c l).2]))])) (hM : Nat.ble (nidl + 0) fD = true) (hN : Nat.blt d N = true) {md' : Md} [hmd : MdA md (gS [x0, x1, x2, x3] ++ [.inr i0]) (List.map Sum.inr (List.map Prod.fst ([(i0, some ([iv (kE ts nest c l).2]))] : List (Nat × Option (List AV)))) ++ [.inl d]) md'] (kk : RW Tryz.prog N all Q md' rest ⟨(d, bv (kE ts nest c l).1) :: tsl, iK hsl [(i0, some ([iv (kE ts nest c l).2]))], nidl + 0, z0⟩) : RW Tryz.prog N all Q md (⟨some d, .call ⟨.value (.func 98), #[x0, x1, x2, x3], tys⟩, ty, pos, af, none⟩ :: rest) ⟨tsl, hsl, nidl, z0⟩ := by
 refine cJ [i0] 1 [(i0, some ([iv (kE ts nest c l).2]))] hmc (avs := [sl cI ts, sl aY l, iv nest, .optr i0 0]) ?_ rfl ?_ rfl ?_ (by simpa using hM) ?_ ?_ ?_ hN (md' := md') (hmd := hmd) kk
 ·show evL (lk tsl) [x0, x1, x2, x3] = _
  simp only [evL, ha0, ha1, ha2, ha3]
 ·exact ⟨⟨_, _, rfl, hH0, by (repeat' (exact RnL.purI inferInstance))⟩, trivial⟩
 ·(repeat' (first|exact RnL.purI inferInstance|exact RnV.purI inferInstance|exact RnV.optr rfl|refine RnL.cons ?_ ?_))
 ·(repeat' (exact RnV.purI inferInstance))
 ·simp [dQ]
 ·(repeat' (first|exact trivial|(refine And.intro ⟨0, _, rfl, rfl, ?_⟩ ?_)|exact RnL.purI inferInstance))
theorem IJ (ts : List Int) (htO : dB ts = true) (m : Nat) (scanAll_ih : ∀ l nest c, bT l < m → 0 ≤ nest → nest ≤ 4 → 0 ≤ c → c ≤ 30 → MC Tryz.prog 98 [sl cI ts, sl aY l, iv nest, .optr 0 0] [(0, some ([iv c]))] 1 (fun _ : Unit => True) (fun _ => bv (kE ts nest c l).1) (fun _ => [(0, some ([iv (kE ts nest c l).2]))])) (s : AL.Stmt) (nest c : Int) (hs : dK s ≤ m) (hn0 : 0 ≤ nest) (hn : nest ≤ 4) (hc0 : 0 ≤ c) (hc : c ≤ 30) : MC Tryz.prog 144 [sl cI ts, dH s, iv nest, .optr 0 0] [(0, some ([iv c]))] 1 (fun _ : Unit => True) (fun _ => bv (lZ ts nest c s).1) (fun _ => [(0, some ([iv (lZ ts nest c s).2]))]) := by
 have ct := iL s
 have hb1 := JC ts s.th (nest + 1) (c + 1)
 (refine b0 Tryz.func144 rfl (by simp [Tryz.ntmps144]) ?_; rw [Tryz.ntmps144])
 repeat' (first|(apply aM;first|(apply aE;rfl;rfl)|(first|(apply aK;rfl;rfl;rfl;rfl)|(apply aX;rfl;rfl;(exact (rfl:_=[_, _, _, _, _, _]));rfl;rfl;rfl))|(apply aD;rfl;rfl;rfl)|(first|(apply mK;rfl;rfl;rfl)|(apply bB;rfl;rfl;rfl;(assumption))|(apply bC;rfl;rfl;rfl;(first|rfl|assumption))|(apply bK;(case hj|hb|hN => rfl);all_goals (intro hg;have hq := hg;(try simp only [cK] at hq);(try (exfalso;omega)))))|(first|(apply bR;rfl;rfl;omega;rfl)|(apply aR;rfl;rfl;rfl;rfl))|(apply aC;rfl;rfl)|(first|(apply bS;rfl;(first|rfl|assumption);rfl;rfl)|(apply bI;rfl;(assumption);rfl;rfl))|(first|((with_reducible apply aJ (k := 80));(case ha => rfl);(case h => (apply tV <;> (fail)));(case hp => (rfl));(case hN => rfl))|(apply sK;rfl;rfl;rfl;rfl;(rfl);(apply scanAll_ih <;> (first|assumption|omega|grind));rfl;rfl)|((with_reducible apply aJ (k := 179));(case ha => rfl);(case h => (apply BL <;> (assumption)));(case hp => (exact Pur.pf));(case hN => rfl)))|(apply a9;rfl;rfl;rfl)|(apply aF;kernel_rfl)|(apply cQ;rfl;rfl)|(apply bU;rfl;rfl;rfl)|(apply bW;rfl;rfl;rfl;rfl)|(apply aW;rfl;rfl;rfl;rfl;rfl;(case hl => (simp;done));(exact (rfl:_=[_]))))|(apply aN;first|apply aH|apply aB|(apply b8;rfl;(rfl))|(apply cH;rfl;(rfl))|(apply aO;rfl;all_goals intro hc;have hq:=hc;(try simp only [cK] at hq);try exfalso;omega)|apply aS|apply aQ)|with_reducible apply aA|with_reducible apply bJ)
 all_goals (refine aP rfl ?_; refine bV () trivial ?_ ⟨.inr (Eq.trans (b := some _) rfl ?_), trivial⟩)
 all_goals (try simp only [bX, AV.v.injEq, Value.bool.injEq, Value.int.injEq, true_and, iR, List.take, List.drop, List.length, List.append, List.nil_append, List.append_nil, Option.some.injEq, List.cons.injEq, and_true])
 all_goals rw [IY]
 all_goals clear scanAll_ih
 all_goals (cases hel : s.el <;> simp only [hel, List.length_nil, List.length_cons] at * <;> grind)
theorem Bv (ts : List Int) (m : Nat) (hm : m ≤ 100000000) (scan_ih : ∀ s nest c, dK s ≤ m → 0 ≤ nest → nest ≤ 4 → 0 ≤ c → c ≤ 30 → MC Tryz.prog 144 [sl cI ts, dH s, iv nest, .optr 0 0] [(0, some ([iv c]))] 1 (fun _ : Unit => True) (fun _ => bv (lZ ts nest c s).1) (fun _ => [(0, some ([iv (lZ ts nest c s).2]))])) (l : List AL.Stmt) (nest c : Int) (hs : bT l ≤ m) (hn0 : 0 ≤ nest) (hn : nest ≤ 4) (hc0 : 0 ≤ c) (hc : c ≤ 30) : MC Tryz.prog 98 [sl cI ts, sl aY l, iv nest, .optr 0 0] [(0, some ([iv c]))] 1 (fun _ : Unit => True) (fun _ => bv (kE ts nest c l).1) (fun _ => [(0, some ([iv (kE ts nest c l).2]))]) := by
 have hlen := dL l
 (refine b0 Tryz.func98 rfl (by simp [Tryz.ntmps98]) ?_; rw [Tryz.ntmps98])
 repeat' (first|(apply aM;first|(apply aE;rfl;rfl)|(apply aC;rfl;rfl)|(apply a9;rfl;rfl;rfl)|(apply aF;kernel_rfl))|(apply aN;first|apply aH|apply aB|apply aL)|with_reducible apply aA)
 refine a7 (σ := Nat × Int) [0, 2, 3, 11, 12] [(0, _), (2, _), (3, _), (11, _), (12, _)] [] [] (fun k => [(13, iv (k.1 : Int))]) (fun k => [(0, some [iv k.2])]) (fun k => k.1 ≤ l.length ∧ kE ts nest k.2 (l.drop k.1) = kE ts nest c l ∧ 0 ≤ k.2 ∧ k.2 ≤ 30) (fun k => l.length - k.1) (0, c) ⟨by omega, rfl, by omega, by omega⟩ rfl rfl (by repeat' (first|exact trivial|refine And.intro rfl ?_)) (by repeat' (first|exact trivial|refine And.intro (.inr rfl) ?_)) ?_
 rintro ⟨k, c'⟩ ⟨hk, hn, hn0, hn1⟩
 dsimp only at hk hn hn0 hn1 ⊢
 have hck := fY l k
 have hb1 := Kl ts l[k]! nest c'
 have hst := @scL_stop ts nest c' l k
 repeat' (first|(apply aM;first|(apply aE;rfl;rfl)|(apply aX;rfl;rfl;(exact (rfl:_=[_, _, _, _, _, _]));rfl;rfl;rfl)|(first|(apply bR;rfl;rfl;omega;rfl)|(apply aR;rfl;rfl;rfl;rfl))|(apply aC;rfl;rfl)|(apply a6;(case hx|hi => rfl);(case hm => (omega));(case hml => (rfl));(case hα | hf|hg => infer_instance);(case hN => rfl))|(apply HL;rfl;rfl;rfl;rfl;(rfl);(apply scan_ih <;> (first|assumption|omega));rfl;rfl)|(apply aF;kernel_rfl)|(apply cQ;rfl;rfl)|(apply bH;rfl;rfl)|(apply aW;rfl;rfl;rfl;rfl;rfl;(case hl => (simp;done));(exact (rfl:_=[_, _, _, _, _, _]))))|(apply aN;first|apply aH|apply aB|(apply aO;rfl;all_goals intro hc;have hq:=hc;(try simp only [cK] at hq);try exfalso;omega)|apply aL|apply aS|apply bF|apply aQ)|with_reducible apply aA|with_reducible apply bJ|with_reducible apply bE|with_reducible apply aV|with_reducible apply cY|with_reducible apply bG)
 ·(refine aP rfl ?_; refine bV () trivial ?_ ⟨.inr (Eq.trans (b := some _) rfl ?_), trivial⟩)
  all_goals (try simp only [bX, AV.v.injEq, Value.bool.injEq, Value.int.injEq, true_and, iR, List.take, List.drop, List.length, List.append, List.nil_append, List.append_nil, Option.some.injEq, List.cons.injEq, and_true])
  all_goals (rw [← hn, hst (by omega)]; grind)
 ·(apply dV (k + 1, (lZ ts nest c' l[k]!).2); focus (refine Le.ren [] rfl (by decide) ?_ ?_ <;> repeat' (first | exact trivial | refine And.intro ⟨_, rfl, ?_⟩ ?_ | refine And.intro ⟨_, _, rfl, rfl, ?_⟩ ?_ | exact Or.inr rfl | refine Or.inl ⟨?_, (by first | rfl | exact aZ _ _)⟩ | rfl)))
  ·dsimp only;grind
  ·dsimp only;omega
 ·(refine aP rfl ?_; refine bV () trivial ?_ ⟨.inr (Eq.trans (b := some _) rfl ?_), trivial⟩)
  all_goals (try simp only [bX, AV.v.injEq, Value.bool.injEq, Value.int.injEq, true_and, iR, List.take, List.drop, List.length, List.append, List.nil_append, List.append_nil, Option.some.injEq, List.cons.injEq, and_true])
  all_goals (rw [← hn, List.drop_of_length_le (by omega), kE])
theorem EC (ts : List Int) (hl : dB ts = true) : ∀ (m : Nat), m ≤ 100000000 → (∀ s (nest c : Int), dK s ≤ m → 0 ≤ nest → nest ≤ 4 → 0 ≤ c → c ≤ 30 → MC Tryz.prog 144 [sl cI ts, dH s, iv nest, .optr 0 0] [(0, some ([iv c]))] 1 (fun _ : Unit => True) (fun _ => bv (lZ ts nest c s).1) (fun _ => [(0, some ([iv (lZ ts nest c s).2]))])) ∧
  (∀ l (nest c : Int), bT l ≤ m → 0 ≤ nest → nest ≤ 4 → 0 ≤ c → c ≤ 30 → MC Tryz.prog 98 [sl cI ts, sl aY l, iv nest, .optr 0 0] [(0, some ([iv c]))] 1 (fun _ : Unit => True) (fun _ => bv (kE ts nest c l).1) (fun _ => [(0, some ([iv (kE ts nest c l).2]))])) := by
 intro m
 induction m using Nat.strongRecOn with
 | ind m ih =>
  intro hm
  have h1 : ∀ s (nest c : Int), dK s ≤ m → 0 ≤ nest → nest ≤ 4 → 0 ≤ c → c ≤ 30 → MC Tryz.prog 144 [sl cI ts, dH s, iv nest, .optr 0 0] [(0, some ([iv c]))] 1 (fun _ : Unit => True) (fun _ => bv (lZ ts nest c s).1) (fun _ => [(0, some ([iv (lZ ts nest c s).2]))]) :=
   fun s nest c h1 h2 h3 h4 h5 => IJ ts hl m (fun l nest c g1 g2 g3 g4 g5 => (ih (bT l) g1 (by omega)).2 l nest c (Nat.le_refl _) g2 g3 g4 g5) s nest c h1 h2 h3 h4 h5
  exact ⟨h1, fun l nest c g1 g2 g3 g4 g5 => Bv ts m hm h1 l nest c g1 g2 g3 g4 g5⟩
theorem Ec (ts : List Int) (l : List AL.Stmt) (nest c : Int) (hl : dB ts = true) (hs : bT l ≤ 100000000) (hn0 : 0 ≤ nest) (hn : nest ≤ 4) (hc0 : 0 ≤ c) (hc : c ≤ 30) : MC Tryz.prog 98 [sl cI ts, sl aY l, iv nest, .optr 0 0] [(0, some ([iv c]))] 1 (fun _ : Unit => True) (fun _ => bv (kE ts nest c l).1) (fun _ => [(0, some ([iv (kE ts nest c l).2]))]) :=
 (EC ts hl _ hs).2 l nest c (Nat.le_refl _) hn0 hn hc0 hc
theorem BN (t : Int) : PC Tryz.prog 143 [iv t] (fun r => r = bv (!(decide (1 ≤ t) && decide (t ≤ 4)))) := by
 (refine aT Tryz.func143 rfl (by simp [Tryz.ntmps143]) ?_; rw [Tryz.ntmps143])
 repeat' (first|(apply aM;first|(apply aE;rfl;rfl)|(apply aC;rfl;rfl)|((with_reducible apply aJ (k := 50));(case ha => rfl);(case h => (apply dO <;> (fail)));(case hp => (rfl));(case hN => rfl))|(apply aF;kernel_rfl)|(apply cQ;rfl;rfl))|(apply aN;first|apply aH|apply aB|apply aQ)|with_reducible apply aA|((with_reducible apply aP);case hr => rfl))
 all_goals (refine ⟨?_, rfl⟩; simp only [bX, AV.v.injEq, Value.bool.injEq, Value.int.injEq, true_and])
def r8 (ts : List Int) : Int := match ts.findIdx? (fun t => !(decide (1 ≤ t) && decide (t ≤ 4))) with | some i => i | none => -1
theorem GC (ts : List Int) (hl : ts.length ≤ 1000000) : PC Tryz.prog 171 [sl cI ts, .v (.func (.func 143) #[] #[])] (fun r => r = iv (r8 ts)) := by
 (refine aT Tryz.func171 rfl (by simp [Tryz.ntmps171]) ?_; rw [Tryz.ntmps171])
 repeat' (first|(apply aM;first|(apply aE;rfl;rfl)|(apply aC;rfl;rfl)|(apply a9;rfl;rfl;rfl)|(apply aF;kernel_rfl))|(apply aN;first|apply aH|apply aB|apply aL)|with_reducible apply aA)
 refine a7 (σ := Nat) [0, 1, 7] [(0, _), (1, _), (7, _)] [] [] (fun k => [(8, iv (k : Int))]) (fun k => []) (fun k => k ≤ ts.length ∧ ∀ i, i < k → 1 ≤ ts[i]! ∧ ts[i]! ≤ 4) (fun k => ts.length - k) (0) ⟨by omega, by omega⟩ rfl rfl (by repeat' (first|exact trivial|refine And.intro rfl ?_)) (by repeat' (exact trivial)) ?_
 intro k ⟨hk, hall⟩
 repeat' (first|(apply aM;first|(apply aE;rfl;rfl)|(apply aK;rfl;rfl;rfl;rfl)|(first|(apply bR;rfl;rfl;omega;rfl)|(apply aR;rfl;rfl;rfl;rfl))|(apply aC;rfl;rfl)|(apply a6;(case hx|hi => rfl);(case hm => (omega));(case hml => (rfl));(case hα | hf|hg => infer_instance);(case hN => rfl))|((with_reducible apply gF);(case hx|hcl => rfl);(case hc => infer_instance);(case ha => rfl);(case h => (apply BN <;> (fail)));(case hp => (rfl));(case hN => rfl))|(apply aF;kernel_rfl))|(apply aN;first|apply aH|apply aB|(apply aO;rfl;all_goals intro hc;have hq:=hc;(try simp only [cK] at hq);try exfalso;omega)|apply aL|apply aS|apply bF|apply aQ)|with_reducible apply aA|with_reducible apply bJ|with_reducible apply bE|with_reducible apply aV|with_reducible apply cY|with_reducible apply bG|((with_reducible apply aP);case hr => rfl))
 ·(refine ⟨?_, rfl⟩; simp only [bX, AV.v.injEq, Value.bool.injEq, Value.int.injEq, true_and])
  have hlt : k < ts.length := by omega
  have : ts.findIdx? (fun t => !(decide (1 ≤ t) && decide (t ≤ 4))) = some k := by
   rw [List.findIdx?_eq_some_iff_getElem]
   refine ⟨hlt, ?_, fun j hj => ?_⟩
   ·rw [← cL ts k hlt]; grind
   ·have := hall j hj;rw [cL ts j (by omega)] at this;simp;omega
  simp only [r8, this]
 ·(apply dV (k + 1); focus (refine Le.ren [] rfl (by decide) ?_ ?_ <;> repeat' (first | exact trivial | refine And.intro ⟨_, rfl, ?_⟩ ?_ | refine Or.inl ⟨?_, (by first | rfl | exact aZ _ _)⟩ | rfl)))
  ·grind
  ·omega
 ·(refine ⟨?_, rfl⟩; simp only [bX, AV.v.injEq, Value.bool.injEq, Value.int.injEq, true_and])
  have : ts.findIdx? (fun t => !(decide (1 ≤ t) && decide (t ≤ 4))) = none := by
   rw [List.findIdx?_eq_none_iff]
   intro x hx
   obtain ⟨i, hi, rfl⟩ := List.getElem_of_mem hx
   have := hall i (by omega);rw [cL ts i hi] at this;simp;omega
  simp only [r8, this]
theorem Ea (ts : List Int) : decide (0 ≤ r8 ts) = !(ts.all (fun t => decide (1 ≤ t) && decide (t ≤ 4))) := by
 unfold r8
 split
 ·rename_i i h
  obtain ⟨h1, h2, _⟩ := List.findIdx?_eq_some_iff_getElem.1 h
  have : ts.all (fun t => decide (1 ≤ t) && decide (t ≤ 4)) = false := by
   rw [List.all_eq_false]; exact ⟨ts[i], List.getElem_mem h1, by simp at h2 ⊢; omega⟩
  rw [this]; simp
 ·rename_i h
  rw [List.findIdx?_eq_none_iff] at h
  have : ts.all (fun t => decide (1 ≤ t) && decide (t ≤ 4)) = true := by
   rw [List.all_eq_true]; intro x hx;simpa using h x hx
  rw [this]; rfl
theorem DI (ts : List Int) (hl : ts.length ≤ 1000000) : PC Tryz.prog 130 [sl cI ts, .v (.func (.func 143) #[] #[])] (fun r => r = bv (!(ts.all (fun t => decide (1 ≤ t) && decide (t ≤ 4))))) := by
 (refine aT Tryz.func130 rfl (by simp [Tryz.ntmps130]) ?_; rw [Tryz.ntmps130])
 repeat' (first|(apply aM;first|(apply aE;rfl;rfl)|(apply aR;rfl;rfl;rfl;rfl)|(apply aC;rfl;rfl)|((with_reducible apply aJ (k := 171));(case ha => rfl);(case h => (apply GC <;> (assumption)));(case hp => (exact Pur.pf));(case hN => rfl))|(apply aF;kernel_rfl))|(apply aN;first|apply aH|apply aB|apply aQ)|with_reducible apply aA|((with_reducible apply aP);case hr => rfl))
 (refine ⟨?_, rfl⟩; simp only [bX, AV.v.injEq, Value.bool.injEq, Value.int.injEq, true_and])
 exact Ea ts
theorem tS (ts : List Int) (hl : ts.length ≤ 1000000) : PC Tryz.prog 97 [sl cI ts] (fun r => r = bv (dB ts)) := by
 (refine aT Tryz.func97 rfl (by simp [Tryz.ntmps97]) ?_; rw [Tryz.ntmps97])
 repeat' (first|(apply aM;first|(apply aE;rfl;rfl)|(first|(apply bB;rfl;rfl;rfl;(assumption))|(apply bC;rfl;rfl;rfl;(assumption))|(apply bK;(case hj|hb|hN => rfl);all_goals (intro hg;have hq := hg;(try simp only [cK] at hq);(try (exfalso;omega)))))|(apply aR;rfl;rfl;rfl;rfl)|(apply aC;rfl;rfl)|(first|(apply bS;rfl;(assumption);rfl;rfl)|(apply bI;rfl;(assumption);rfl;rfl))|((with_reducible apply aJ (k := 130));(case ha => rfl);(case h => (apply DI <;> (assumption)));(case hp => (exact Pur.pf));(case hN => rfl))|(apply a9;rfl;rfl;rfl)|(apply aF;kernel_rfl)|(apply cQ;rfl;rfl))|(apply aN;first|apply aH|apply aB|apply aQ)|with_reducible apply aA|((with_reducible apply aP);case hr => rfl))
 all_goals (refine ⟨?_, rfl⟩; simp only [bX, AV.v.injEq, Value.bool.injEq, Value.int.injEq, true_and])
 all_goals (unfold dB;grind)
theorem sS (p : Prg) (hl : p.types.length ≤ 1000000) (hs : bT p.body ≤ 100000000) : PC Tryz.prog 49 [dS p] (fun r => r = bv (dC p)) := by
 rw [← Er]
 cases ht : dB p.types
 ·(refine aT Tryz.func49 rfl (by simp [Tryz.ntmps49]) ?_; rw [Tryz.ntmps49])
  repeat' (first|(apply aM;first|(apply aE;rfl;rfl)|(apply aK;rfl;rfl;rfl;rfl)|(apply aD;rfl;rfl;rfl)|(apply bC;rfl;rfl;rfl;(assumption))|(apply aC;rfl;rfl)|(apply bI;rfl;(assumption);rfl;rfl)|((with_reducible apply aJ (k := 97));(case ha => rfl);(case h => (apply tS <;> (assumption)));(case hp => (exact Pur.pf));(case hN => rfl))|(apply aF;kernel_rfl)|(apply bW;rfl;rfl;rfl;rfl)|(apply bH;rfl;rfl)|(apply aW;rfl;rfl;rfl;rfl;rfl;(decide);(exact (rfl:_=[_]))))|(apply aN;first|apply aH|apply aB|apply aQ)|with_reducible apply aA|((with_reducible apply aP);case hr => rfl))
  all_goals (refine ⟨?_, rfl⟩; simp only [bX, AV.v.injEq, Value.bool.injEq, Value.int.injEq, true_and])
  all_goals grind
 ·(refine aT Tryz.func49 rfl (by simp [Tryz.ntmps49]) ?_; rw [Tryz.ntmps49])
  repeat' (first|(apply aM;first|(apply aE;rfl;rfl)|(apply aK;rfl;rfl;rfl;rfl)|(apply aD;rfl;rfl;rfl)|(apply bB;rfl;rfl;rfl;(assumption))|(apply aC;rfl;rfl)|(apply bS;rfl;(assumption);rfl;rfl)|(first|((with_reducible apply aJ (k := 97));(case ha => rfl);(case h => (apply tS <;> (assumption)));(case hp => (exact Pur.pf));(case hN => rfl))|(apply sK;rfl;rfl;rfl;rfl;(rfl);(apply Ec <;> (first|assumption|omega));rfl;rfl))|(apply aF;kernel_rfl)|(apply bW;rfl;rfl;rfl;rfl)|(apply bH;rfl;rfl)|(apply aW;rfl;rfl;rfl;rfl;rfl;(decide);(exact (rfl:_=[_]))))|(apply aN;first|apply aH|apply aB|apply aQ)|with_reducible apply aA|((with_reducible apply aP);case hr => rfl))
  all_goals (refine ⟨?_, rfl⟩; simp only [bX, AV.v.injEq, Value.bool.injEq, Value.int.injEq, true_and])
  all_goals grind
theorem qA {l : List AL.Stmt} {pts : List Pnt} {m : Nat} {N : Nat} {Q : Exit → AS → Prop} {all : Array Oper} {rest : List Oper} {tsl : List (Nat × AV)} {hsl : List (Nat × Option (List AV))} {nidl : Nat} {z0 : Lo} {md : Md} {d : Nat} {ty : TypeId} {pos : String} {af : Array Edge} {tys : Array TypeId} {x0 x1 : Operand} {i0 : Nat} (ha0 : ev (lk tsl) x0 = some (sl aY l)) (ha1 : ev (lk tsl) x1 = some (.own i0 0 m 5)) (hH0 : cE hsl i0 = some (aI fM pts)) (hmc : MC Tryz.prog 102 [sl aY l, .own 0 0 m 5] [(0, some (aI fM pts))] 1 (fun _ : Unit => True) (fun _ => .own 1 0 (m + eA l) 5) (fun _ => [(1, some (aI fM (pts ++ gA pts.length l)))])) (hM : Nat.ble (nidl + 1) fD = true) (hN : Nat.blt d N = true) {md' : Md} [hmd : MdA md (gS [x0, x1] ++ [.inr i0]) (List.map Sum.inr (List.map Prod.fst ([(nidl, some (aI fM (pts ++ gA pts.length l))), (i0, none)] : List (Nat × Option (List AV)))) ++ [.inl d]) md'] (kk : RW Tryz.prog N all Q md' rest ⟨(d, .own nidl 0 (m + eA l) 5) :: tsl, iK hsl [(nidl, some (aI fM (pts ++ gA pts.length l))), (i0, none)], nidl + 1, z0⟩) : RW Tryz.prog N all Q md (⟨some d, .call ⟨.value (.func 102), #[x0, x1], tys⟩, ty, pos, af, none⟩ :: rest) ⟨tsl, hsl, nidl, z0⟩ := by
 refine cJ [i0] 2 [(nidl, some (aI fM (pts ++ gA pts.length l))), (i0, none)] hmc (avs := [sl aY l, .own i0 0 m 5]) ?_ rfl ?_ rfl ?_ (by simpa using hM) ?_ ?_ ?_ hN (md' := md') (hmd := hmd) kk
 ·show evL (lk tsl) [x0, x1] = _
  simp only [evL, ha0, ha1]
 ·exact ⟨⟨_, _, rfl, hH0, by (repeat' (exact RnL.purI inferInstance))⟩, trivial⟩
 ·(repeat' (first|exact RnL.purI inferInstance|exact RnV.purI inferInstance|exact RnV.own rfl|refine RnL.cons ?_ ?_))
 ·(repeat' (exact RnV.own rfl))
 ·simp [dQ]
 ·(repeat' (first|exact trivial|(refine And.intro ⟨1, _, rfl, rfl, ?_⟩ ?_)|exact RnL.purI inferInstance))
theorem AE (mm : Nat) (hmm : mm ≤ 1000000) (pointsOf_ih : ∀ l pts m, bT l < mm → m = pts.length → m + eA l ≤ 12000000 → MC Tryz.prog 102 [sl aY l, .own 0 0 m 5] [(0, some (aI fM pts))] 1 (fun _ : Unit => True) (fun _ => .own 1 0 (m + eA l) 5) (fun _ => [(1, some (aI fM (pts ++ gA pts.length l)))])) (l : List AL.Stmt) (pts : List Pnt) (m : Nat) (hs : bT l ≤ mm) (hm : m = pts.length) (hb : m + eA l ≤ 12000000) : MC Tryz.prog 102 [sl aY l, .own 0 0 m 5] [(0, some (aI fM pts))] 1 (fun _ : Unit => True) (fun _ => .own 1 0 (m + eA l) 5) (fun _ => [(1, some (aI fM (pts ++ gA pts.length l)))]) := by
 have hlen := dL l
 subst hm
 (refine b0 Tryz.func102 rfl (by simp [Tryz.ntmps102]) ?_; rw [Tryz.ntmps102])
 repeat' (first|(apply aM;first|(apply aE;rfl;rfl)|(apply aC;rfl;rfl)|(apply a9;rfl;rfl;rfl)|(apply aF;kernel_rfl))|(apply aN;first|apply aH|apply aB|apply aL)|with_reducible apply aA)
 refine AW.le ?_ (Le.mv (d := 1) (i := 0) (cs := aI fM pts) rfl rfl (by decide))
 refine a7 (σ := Nat × List Pnt × Nat) [9, 10] [(9, _), (10, _)] [] [] (fun k => [(11, iv (k.1 : Int)), (1, .own 1 0 k.2.2 5)]) (fun k => [(1, some (aI fM k.2.1))]) (fun k => k.1 ≤ l.length ∧ k.2.1 = pts ++ gA pts.length (l.take k.1) ∧ k.2.2 = k.2.1.length ∧ k.2.2 = pts.length + eA (l.take k.1)) (fun k => l.length - k.1) (0, pts, pts.length) ⟨by omega, by simp [gA], rfl, by simp [eA]⟩ rfl rfl (by repeat' (first|exact trivial|refine And.intro rfl ?_)) (by repeat' (first|exact trivial|refine And.intro (.inr rfl) ?_)) ?_
 rintro ⟨k, xs, m1⟩ ⟨hk, hxs, hm1, hm2⟩
 dsimp only at hk hxs hm1 hm2 ⊢
 have hck := fY l k
 have hct := iL l[k]!
 have hnt := EV l k
 have n9 := Jh l[k]!
 have n10 := Fm l[k]!
 have n1 := GB l[k]!
 repeat' (first|(apply aM;first|(apply aE;rfl;rfl)|(first|(apply aK;rfl;rfl;rfl;rfl)|(apply aX;rfl;rfl;(exact (rfl:_=[_, _, _, _, _, _]));rfl;rfl;rfl))|(apply aD;rfl;rfl;rfl)|(first|(apply bR;rfl;rfl;omega;rfl)|(apply aR;rfl;rfl;rfl;rfl))|(apply aC;rfl;rfl)|(first|(apply a6;(case hx|hi => rfl);(case hm => (omega));(case hml => (rfl));(case hα | hf|hg => infer_instance);(case hN => rfl))|(apply cG;rfl;rfl;(omega);rfl))|(apply qA;rfl;rfl;(rfl);(apply pointsOf_ih <;> (first|omega|(simp only [hZ] <;> omega)));rfl;rfl)|(first|(apply a9;rfl;rfl;rfl)|(apply cF;rfl;rfl;rfl;rfl;rfl;(first|(rw [aU]; omega)|(rw [aU]; simp only [hZ] <;> omega));(rfl);omega;omega;(first|exact zM (by (first|assumption|(simp only [hZ] <;> omega)))|exact uC (by (first|assumption|(simp only [hZ] <;> omega))));rfl;rfl))|(apply aF;kernel_rfl)|(apply b9;rfl;(exact (rfl:_=some [_, _, _, _, _]));(exact (rfl:_=[_, _, _, _, _]));rfl)|(apply bH;rfl;rfl)|((apply bQ (t := _));(case hze|hsm|hl => rfl);(case hfl => (first|exact (rfl:_=some [_])|exact (rfl:_=some [_, _])|exact (rfl:_=some [_, _, _, _, _])));(case hM|hN => rfl))|(apply aW;rfl;rfl;rfl;rfl;rfl;(case hl => (first|(rw [aU]; simp only [hZ] <;> omega)|(simp;done)));(first|exact Ad (by (simp only [hZ] <;> omega))|exact AR (by (simp only [hZ] <;> omega))|exact (rfl:_=[_, _, _, _, _, _]))))|(apply aN;first|apply aH|apply aB|(apply aO;rfl;all_goals intro hc;have hq:=hc;(try simp only [cK] at hq);try exfalso;omega)|apply aL|apply aS|apply bF|apply aQ)|with_reducible apply aA|with_reducible apply bE|with_reducible apply aV|with_reducible apply bG)
 ·(apply dV (k + 1, _, _); focus (refine Le.ren [(1, 8)] rfl (by decide) ?_ ?_ <;> repeat' (first | exact trivial | refine And.intro ⟨_, rfl, ?_⟩ ?_ | refine And.intro ⟨_, _, rfl, rfl, ?_⟩ ?_ | exact Or.inr rfl | refine Or.inl ⟨?_, (by first | rfl | exact aZ _ _)⟩ | rfl)))
  ·dsimp only
   rw [CO hm1, Cw hm1, C5 (by rw [dR, hm1]), C0 (by rw [dR, hm1]), kL l _ k (by omega), gY l k (by omega), jX, if_pos hq, n9 hq]
   refine ⟨by omega, ?_, by simp [dR]; omega, by omega⟩
   have e1 : xs.length = pts.length + eA (l.take k) := by omega
   rw [← List.append_assoc pts, ← hxs, ← e1]
   simp only [List.append_assoc, List.length_append, List.length_cons, List.length_nil, dR, hm1, Nat.zero_add]
   clear pointsOf_ih hxs hck hnt n9 n10 n1
   grind
  ·dsimp only;omega
 ·(apply dV (k + 1, _, _); focus (refine Le.ren [(1, 8)] rfl (by decide) ?_ ?_ <;> repeat' (first | exact trivial | refine And.intro ⟨_, rfl, ?_⟩ ?_ | refine And.intro ⟨_, _, rfl, rfl, ?_⟩ ?_ | exact Or.inr rfl | refine Or.inl ⟨?_, (by first | rfl | exact aZ _ _)⟩ | rfl)))
  ·dsimp only
   rw [Gz hm1, FP hm1, kL l _ k (by omega), gY l k (by omega), jX, if_neg (by omega), if_pos hq, n10 hq]
   refine ⟨by omega, ?_, by simp [dR]; omega, by omega⟩
   have e1 : xs.length = pts.length + eA (l.take k) := by omega
   rw [← List.append_assoc pts, ← hxs, ← e1]
   simp only [List.append_assoc, List.length_append, List.length_cons, List.length_nil, dR, hm1, Nat.zero_add]
   clear pointsOf_ih hxs hck hnt n9 n10 n1
   grind
  ·dsimp only;omega
 ·(apply dV (k + 1, _, _); focus (refine Le.ren [(1, 5)] rfl (by decide) ?_ ?_ <;> repeat' (first | exact trivial | refine And.intro ⟨_, rfl, ?_⟩ ?_ | refine And.intro ⟨_, _, rfl, rfl, ?_⟩ ?_ | exact Or.inr rfl | refine Or.inl ⟨?_, (by first | rfl | exact aZ _ _)⟩ | rfl)))
  ·dsimp only
   rw [kL l _ k (by omega), gY l k (by omega), jX, if_neg ‹¬l[k]!.op = 9›, if_neg hq, n1 ‹¬l[k]!.op = 9› hq]
   refine ⟨by omega, ?_, by simp [dR]; omega, by omega⟩
   have e1 : xs.length = pts.length + eA (l.take k) := by omega
   rw [← List.append_assoc pts, ← hxs, ← e1, hm1]
  ·dsimp only;omega
 ·refine aP rfl ?_
  have e2 : l.take k = l := List.take_of_length_le (by omega)
  rw [e2] at hxs hm2
  refine bV () trivial ?_ ⟨.inr (Eq.trans (b := some _) rfl ?_), trivial⟩
  ·simp only [bX]; rw [hm2]
  ·rw [hxs]
theorem Bi (l : List AL.Stmt) (pts : List Pnt) (m : Nat) (hs : bT l ≤ 1000000) (hm : m = pts.length) (hb : m + eA l ≤ 12000000) : MC Tryz.prog 102 [sl aY l, .own 0 0 m 5] [(0, some (aI fM pts))] 1 (fun _ : Unit => True) (fun _ => .own 1 0 (m + eA l) 5) (fun _ => [(1, some (aI fM (pts ++ gA pts.length l)))]) := by
 have h : ∀ (mm : Nat), mm ≤ 1000000 → ∀ l pts m, bT l ≤ mm → m = pts.length → m + eA l ≤ 12000000 → MC Tryz.prog 102 [sl aY l, .own 0 0 m 5] [(0, some (aI fM pts))] 1 (fun _ : Unit => True) (fun _ => .own 1 0 (m + eA l) 5) (fun _ => [(1, some (aI fM (pts ++ gA pts.length l)))]) := by
  intro mm
  induction mm using Nat.strongRecOn with
  | ind mm ih =>
   intro h0 l pts m h1 h2 h3
   exact AE mm h0 (fun l' pts' m' g1 g2 g3 => ih _ g1 (by omega) l' pts' m' (Nat.le_refl _) g2 g3) l pts m h1 h2 h3
 exact h _ hs l pts m (Nat.le_refl _) hm hb
theorem yD {l : List AL.Stmt} {N : Nat} {Q : Exit → AS → Prop} {all : Array Oper} {rest : List Oper} {tsl : List (Nat × AV)} {hsl : List (Nat × Option (List AV))} {nidl : Nat} {z0 : Lo} {md : Md} {d : Nat} {ty : TypeId} {pos : String} {af : Array Edge} {tys : Array TypeId} {x0 x1 : Operand} (ha0 : ev (lk tsl) x0 = some (sl aY l)) (ha1 : ev (lk tsl) x1 = some (.v (.slice none 0 0))) (hmc : MC Tryz.prog 102 [sl aY l, .v (.slice none 0 0)] [] 0 (fun _ : Unit => True) (fun _ => .own 0 0 (eA l) 5) (fun _ => [(0, some (aI fM (gA 0 l)))])) (hM : Nat.ble (nidl + 1) fD = true) (hN : Nat.blt d N = true) {md' : Md} [hmd : MdA md (gS [x0, x1] ++ []) (List.map Sum.inr (List.map Prod.fst ([(nidl, some (aI fM (gA 0 l)))] : List (Nat × Option (List AV)))) ++ [.inl d]) md'] (kk : RW Tryz.prog N all Q md' rest ⟨(d, .own nidl 0 (eA l) 5) :: tsl, iK hsl [(nidl, some (aI fM (gA 0 l)))], nidl + 1, z0⟩) : RW Tryz.prog N all Q md (⟨some d, .call ⟨.value (.func 102), #[x0, x1], tys⟩, ty, pos, af, none⟩ :: rest) ⟨tsl, hsl, nidl, z0⟩ := by
 refine cJ [] 1 [(nidl, some (aI fM (gA 0 l)))] hmc (avs := [sl aY l, .v (.slice none 0 0)]) ?_ rfl ?_ rfl ?_ (by simpa using hM) ?_ ?_ ?_ hN (md' := md') (hmd := hmd) kk
 ·show evL (lk tsl) [x0, x1] = _
  simp only [evL, ha0, ha1]
 ·exact trivial
 ·(repeat' (exact RnL.purI inferInstance))
 ·(repeat' (exact RnV.own rfl))
 ·simp [dQ]
 ·(repeat' (first|exact trivial|(refine And.intro ⟨0, _, rfl, rfl, ?_⟩ ?_)|exact RnL.purI inferInstance))
theorem A1 (l : List AL.Stmt) (hs : bT l ≤ 1000000) : MC Tryz.prog 102 [sl aY l, .v (.slice none 0 0)] [] 0 (fun _ : Unit => True) (fun _ => .own 0 0 (eA l) 5) (fun _ => [(0, some (aI fM (gA 0 l)))]) := by
 have hlen := dL l
 have hn2 := nJ l
 (refine b0 Tryz.func102 rfl (by simp [Tryz.ntmps102]) ?_; rw [Tryz.ntmps102])
 repeat' (first|(apply aM;first|(apply aE;rfl;rfl)|(apply aC;rfl;rfl)|(apply a9;rfl;rfl;rfl)|(apply aF;kernel_rfl))|(apply aN;first|apply aH|apply aB|apply aL)|with_reducible apply aA)
 refine AW.le ?_ (Le.nilOwn (d := 1) 5 rfl (by decide))
 refine a7 (σ := Nat × List Pnt × Nat) [9, 10] [(9, _), (10, _)] [] [] (fun k => [(11, iv (k.1 : Int)), (1, .own 0 0 k.2.2 5)]) (fun k => [(0, some (aI fM k.2.1))]) (fun k => k.1 ≤ l.length ∧ k.2.1 = gA 0 (l.take k.1) ∧ k.2.2 = k.2.1.length ∧ k.2.2 = eA (l.take k.1)) (fun k => l.length - k.1) (0, [], 0) ⟨by omega, by simp [gA], rfl, by simp [eA]⟩ rfl rfl (by repeat' (first|exact trivial|refine And.intro rfl ?_)) (by repeat' (first|exact trivial|refine And.intro (.inr rfl) ?_)) ?_
 rintro ⟨k, xs, m1⟩ ⟨hk, hxs, hm1, hm2⟩
 dsimp only at hk hxs hm1 hm2 ⊢
 have hck := fY l k
 have hct := iL l[k]!
 have hnt := EV l k
 have n9 := Jh l[k]!
 have n10 := Fm l[k]!
 have n1 := GB l[k]!
 repeat' (first|(apply aM;first|(apply aE;rfl;rfl)|(first|(apply aK;rfl;rfl;rfl;rfl)|(apply aX;rfl;rfl;(exact (rfl:_=[_, _, _, _, _, _]));rfl;rfl;rfl))|(apply aD;rfl;rfl;rfl)|(first|(apply bR;rfl;rfl;omega;rfl)|(apply aR;rfl;rfl;rfl;rfl))|(apply aC;rfl;rfl)|(first|(apply a6;(case hx|hi => rfl);(case hm => (omega));(case hml => (rfl));(case hα | hf|hg => infer_instance);(case hN => rfl))|(apply cG;rfl;rfl;(omega);rfl))|(apply qA;rfl;rfl;(rfl);(apply Bi <;> (first|omega|(simp only [hZ] <;> omega)));rfl;rfl)|(first|(apply a9;rfl;rfl;rfl)|(apply cF;rfl;rfl;rfl;rfl;rfl;(first|(rw [aU]; omega)|(rw [aU]; simp only [hZ] <;> omega));(rfl);omega;omega;(first|exact zM (by (first|assumption|(simp only [hZ] <;> omega)))|exact uC (by (first|assumption|(simp only [hZ] <;> omega))));rfl;rfl))|(apply aF;kernel_rfl)|(apply b9;rfl;(exact (rfl:_=some [_, _, _, _, _]));(exact (rfl:_=[_, _, _, _, _]));rfl)|(apply bH;rfl;rfl)|((apply bQ (t := _));(case hze|hsm|hl => rfl);(case hfl => (first|exact (rfl:_=some [_])|exact (rfl:_=some [_, _])|exact (rfl:_=some [_, _, _, _, _])));(case hM|hN => rfl))|(apply aW;rfl;rfl;rfl;rfl;rfl;(case hl => (first|(rw [aU]; simp only [hZ] <;> omega)|(simp;done)));(first|exact Ad (by (simp only [hZ] <;> omega))|exact AR (by (simp only [hZ] <;> omega))|exact (rfl:_=[_, _, _, _, _, _]))))|(apply aN;first|apply aH|apply aB|(apply aO;rfl;all_goals intro hc;have hq:=hc;(try simp only [cK] at hq);try exfalso;omega)|apply aL|apply aS|apply bF|apply aQ)|with_reducible apply aA|with_reducible apply bE|with_reducible apply aV|with_reducible apply bG)
 ·(apply dV (k + 1, _, _); focus (refine Le.ren [(0, 7)] rfl (by decide) ?_ ?_ <;> repeat' (first | exact trivial | refine And.intro ⟨_, rfl, ?_⟩ ?_ | refine And.intro ⟨_, _, rfl, rfl, ?_⟩ ?_ | exact Or.inr rfl | refine Or.inl ⟨?_, (by first | rfl | exact aZ _ _)⟩ | rfl)))
  ·dsimp only
   rw [CO hm1, Cw hm1, C5 (by rw [dR, hm1]), C0 (by rw [dR, hm1]), kL l _ k (by omega), gY l k (by omega), jX, if_pos hq, n9 hq]
   refine ⟨by omega, ?_, by simp [dR]; omega, by omega⟩
   have e1 : eA (l.take k) = xs.length := by omega
   rw [Nat.zero_add, e1]
   rw [← hxs]
   simp only [List.append_assoc, List.length_append, List.length_cons, List.length_nil, dR, hm1, Nat.zero_add]
   clear hxs hck hnt n9 n10 n1
   grind
  ·dsimp only;omega
 ·(apply dV (k + 1, _, _); focus (refine Le.ren [(0, 7)] rfl (by decide) ?_ ?_ <;> repeat' (first | exact trivial | refine And.intro ⟨_, rfl, ?_⟩ ?_ | refine And.intro ⟨_, _, rfl, rfl, ?_⟩ ?_ | exact Or.inr rfl | refine Or.inl ⟨?_, (by first | rfl | exact aZ _ _)⟩ | rfl)))
  ·dsimp only
   rw [Gz hm1, FP hm1, kL l _ k (by omega), gY l k (by omega), jX, if_neg (by omega), if_pos hq, n10 hq]
   refine ⟨by omega, ?_, by simp [dR]; omega, by omega⟩
   have e1 : eA (l.take k) = xs.length := by omega
   rw [Nat.zero_add, e1]
   rw [← hxs]
   simp only [List.append_assoc, List.length_append, List.length_cons, List.length_nil, dR, hm1, Nat.zero_add]
   clear hxs hck hnt n9 n10 n1
   grind
  ·dsimp only;omega
 ·(apply dV (k + 1, _, _); focus (refine Le.ren [(0, 4)] rfl (by decide) ?_ ?_ <;> repeat' (first | exact trivial | refine And.intro ⟨_, rfl, ?_⟩ ?_ | refine And.intro ⟨_, _, rfl, rfl, ?_⟩ ?_ | exact Or.inr rfl | refine Or.inl ⟨?_, (by first | rfl | exact aZ _ _)⟩ | rfl)))
  ·dsimp only
   rw [kL l _ k (by omega), gY l k (by omega), jX, if_neg ‹¬l[k]!.op = 9›, if_neg hq, n1 ‹¬l[k]!.op = 9› hq]
   refine ⟨by omega, ?_, by simp [dR]; omega, by omega⟩
   have e1 : eA (l.take k) = xs.length := by omega
   rw [Nat.zero_add, e1]
   rw [← hxs, hm1]
  ·dsimp only;omega
 ·refine aP rfl ?_
  have e2 : l.take k = l := List.take_of_length_le (by omega)
  rw [e2] at hxs hm2
  refine bV () trivial ?_ ⟨.inr (Eq.trans (b := some _) rfl ?_), trivial⟩
  ·simp only [bX]; rw [hm2]
  ·rw [hxs]
theorem ET (p : Prg) (hs : bT p.body ≤ 1000000) : PC Tryz.prog 96 [dS p] (fun r => r = sl fM (dF p)) := by
 have hn := nJ p.body
 (refine aT Tryz.func96 rfl (by simp [Tryz.ntmps96]) ?_; rw [Tryz.ntmps96])
 repeat' (first|(apply aM;first|(apply aK;rfl;rfl;rfl;rfl)|(apply aD;rfl;rfl;rfl)|(apply aC;rfl;rfl)|(apply yD;rfl;rfl;(apply A1 <;> (assumption));rfl;rfl)|(apply cF;rfl;rfl;rfl;rfl;rfl;(rw [aU]; simp only [hZ] <;> omega);(rfl);omega;omega;(exact uC (by (simp only [hZ] <;> omega)));rfl;rfl)|(apply aF;kernel_rfl)|(apply b9;rfl;(exact (rfl:_=some [_, _, _, _, _]));(exact (rfl:_=[_, _, _, _, _]));rfl)|(apply bW;rfl;rfl;rfl;rfl)|((apply bQ (t := _));(case hze|hsm|hl => rfl);(case hfl => (exact (rfl:_=some [_, _, _, _, _])));(case hM|hN => rfl)))|(apply aN;first|apply aH|apply aB|apply aQ)|with_reducible apply aA)
 (refine cC (Le.frzD (d := 2) (i := 3) rfl rfl) ?_; refine aP rfl ?_)
 refine ⟨?_, ?_⟩
 ·simp only [bX, sl, dF, List.length_append, List.length_cons, List.length_nil, dR, Nat.zero_add]
 ·(exact aZ _ _)
theorem xQ (ts : List Int) (bd : List AL.Stmt) (pts : List Pnt) (v : Int) (h : 0 ≤ v ∧ v < ts.length) : PC Tryz.prog 154 [aG ts bd pts, iv v] (fun r => r = bv (Cq ts[v.toNat]!)) := by
 (refine aT Tryz.func154 rfl (by simp [Tryz.ntmps154]) ?_; rw [Tryz.ntmps154])
 repeat' (first|(apply aM;first|(apply aE;rfl;rfl)|(apply aK;rfl;rfl;rfl;rfl)|(apply aD;rfl;rfl;rfl)|(first|(apply bB;rfl;rfl;rfl;(assumption))|(apply bC;rfl;rfl;rfl;(assumption))|(apply bK;(case hj|hb|hN => rfl);all_goals (intro hg;have hq := hg;(try simp only [cK] at hq);(try (exfalso;omega)))))|(apply aR;rfl;rfl;rfl;rfl)|(apply aC;rfl;rfl)|(first|(apply bS;rfl;(assumption);rfl;rfl)|(apply bI;rfl;(assumption);rfl;rfl))|(apply dA;(case hx|hi => rfl);(case hm => (assumption));(case hml => (rfl));(case hα | hf|hg => infer_instance);(case hN => rfl))|(apply aF;kernel_rfl)|(apply bU;rfl;rfl;rfl))|(apply aN;first|apply aH|apply aB|apply aQ)|with_reducible apply aA|((with_reducible apply aP);case hr => rfl))
 all_goals (refine ⟨?_, rfl⟩; simp only [bX, AV.v.injEq, Value.bool.injEq, Value.int.injEq, true_and])
 all_goals grind [Cq]
theorem Lx (ts : List Int) (bd : List AL.Stmt) (pts : List Pnt) (x : Pnt) (v : Int) (h : 0 ≤ v ∧ v < ts.length) : PC Tryz.prog 201 [aG ts bd pts, iD x, iv v] (fun r => r = iv (bO ts x v)) := by
 (refine aT Tryz.func201 rfl (by simp [Tryz.ntmps201]) ?_; rw [Tryz.ntmps201])
 repeat' (first|(apply aM;first|(apply aE;rfl;rfl)|(apply aK;rfl;rfl;rfl;rfl)|(apply aD;rfl;rfl;rfl)|(first|(apply bB;rfl;rfl;rfl;(assumption))|(apply bC;rfl;rfl;rfl;(assumption))|(apply bK;(case hj|hb|hN => rfl);all_goals (intro hg;have hq := hg;(try simp only [cK] at hq);(try (exfalso;omega)))))|(apply aR;rfl;rfl;rfl;rfl)|(apply aC;rfl;rfl)|(first|(apply bS;rfl;(assumption);rfl;rfl)|(apply bI;rfl;(assumption);rfl;rfl))|((with_reducible apply aJ (k := 154));(case ha => rfl);(case h => (apply xQ <;> (assumption)));(case hp => (exact Pur.pf));(case hN => rfl))|(apply aF;kernel_rfl)|(apply bW;rfl;rfl;rfl;rfl))|(apply aN;first|apply aH|apply aB|(apply b8;rfl;(assumption))|(apply cH;rfl;(first|rfl|assumption))|(apply aO;rfl;all_goals intro hc;have hq:=hc;(try simp only [cK] at hq);try exfalso;omega)|apply aL|apply aS|apply aQ)|with_reducible apply aA|with_reducible apply bJ|with_reducible apply aV|with_reducible apply cY|((with_reducible apply aP);case hr => rfl))
 all_goals (refine ⟨?_, rfl⟩; simp only [bX, AV.v.injEq, Value.bool.injEq, Value.int.injEq, true_and])
 all_goals grind [Cq, bO]
theorem xZ (x : Pnt) : PC Tryz.prog 140 [iD x] (fun r => r = iv (bD x)) := by
 (refine aT Tryz.func140 rfl (by simp [Tryz.ntmps140]) ?_; rw [Tryz.ntmps140])
 repeat' (first|(apply aM;first|(apply aK;rfl;rfl;rfl;rfl)|(apply aD;rfl;rfl;rfl)|(apply aR;rfl;rfl;rfl;rfl)|(apply aC;rfl;rfl)|(apply aF;kernel_rfl)|(apply bW;rfl;rfl;rfl;rfl))|(apply aN;first|apply aH|apply aB|(apply b8;rfl;(assumption))|(apply aO;rfl;all_goals intro hc;have hq:=hc;(try simp only [cK] at hq);try exfalso;omega)|apply aL|apply aS|apply aQ)|with_reducible apply aA|with_reducible apply bJ|with_reducible apply aV|with_reducible apply cY|((with_reducible apply aP);case hr => rfl))
 all_goals (refine ⟨?_, rfl⟩; simp only [bX, AV.v.injEq, Value.bool.injEq, Value.int.injEq, true_and])
 all_goals grind [bD]
theorem lT (x : Pnt) : PC Tryz.prog 196 [iD x] (fun r => r = bv (eD x)) := by
 (refine aT Tryz.func196 rfl (by simp [Tryz.ntmps196]) ?_; rw [Tryz.ntmps196])
 repeat' (first|(apply aM;first|(apply aE;rfl;rfl)|(apply aK;rfl;rfl;rfl;rfl)|(apply aD;rfl;rfl;rfl)|(first|(apply bB;rfl;rfl;rfl;(assumption))|(apply bC;rfl;rfl;rfl;(assumption))|(apply bK;(case hj|hb|hN => rfl);all_goals (intro hg;have hq := hg;(try simp only [cK] at hq);(try (exfalso;omega)))))|(apply aR;rfl;rfl;rfl;rfl)|(apply aC;rfl;rfl)|(first|(apply bS;rfl;(assumption);rfl;rfl)|(apply bI;rfl;(assumption);rfl;rfl))|(apply aF;kernel_rfl)|(apply bW;rfl;rfl;rfl;rfl))|(apply aN;first|apply aH|apply aB|apply aQ)|with_reducible apply aA|((with_reducible apply aP);case hr => rfl))
 all_goals (refine ⟨?_, rfl⟩; simp only [bX, AV.v.injEq, Value.bool.injEq, Value.int.injEq, true_and])
 all_goals grind [eD]
theorem oG (x : Pnt) (h : bD x < 62) : PC Tryz.prog 174 [iD x] (fun r => r = iv (iF x : Nat)) := by
 (refine aT Tryz.func174 rfl (by simp [Tryz.ntmps174]) ?_; rw [Tryz.ntmps174])
 repeat' (first|(apply aM;first|(apply aE;rfl;rfl)|(apply aX;rfl;rfl;(exact (rfl:_=[_, _, _, _, _]));rfl;rfl;rfl)|(first|(apply j3;rfl;rfl;infer_instance;omega;rfl;(case' kk => intro hsm))|(apply aR;rfl;rfl;rfl;rfl))|(apply aC;rfl;rfl)|((with_reducible apply aJ (k := 140));(case ha => rfl);(case h => (apply xZ <;> (fail)));(case hp => (exact Pur.pf));(case hN => rfl))|(apply aF;kernel_rfl)|(apply bW;rfl;rfl;rfl;rfl))|(apply aN;first|apply aH|apply aB|(apply aO;rfl;all_goals intro hc;have hq:=hc;(try simp only [cK] at hq);try exfalso;omega)|apply aS|apply aQ)|with_reducible apply aA|with_reducible apply bJ|((with_reducible apply aP);case hr => rfl))
 all_goals (refine ⟨?_, rfl⟩; simp only [bX, AV.v.injEq, Value.bool.injEq, Value.int.injEq, true_and])
 all_goals (unfold iF)
 ·rw [if_pos (by omega)]
 ·rw [if_neg (by omega)]; rfl
theorem KZ (ts : List Int) (bd : List AL.Stmt) (pts : List Pnt) (h : ts.length ≤ 6) : PC Tryz.prog 180 [aG ts bd pts] (fun r => r = iv ((2 ^ ts.length - 1 : Nat) : Int)) := by
 have h1 : 2 ^ ts.length ≤ 2 ^ 6 := Nat.pow_le_pow_right (by decide) h
 have h2 : 0 < 2 ^ ts.length := Nat.pow_pos (by decide)
 have h3 : 2 ^ (ts.length : Int).toNat ≤ 2 ^ 6 := h1
 have h4 : 2 ^ (ts.length : Int).toNat = 2 ^ ts.length := rfl
 (refine aT Tryz.func180 rfl (by simp [Tryz.ntmps180]) ?_; rw [Tryz.ntmps180])
 repeat' (first|(apply aM;first|(apply aE;rfl;rfl)|(apply aK;rfl;rfl;rfl;rfl)|(apply aD;rfl;rfl;rfl)|(first|(apply j3;rfl;rfl;infer_instance;omega;rfl;(case' kk => intro hsm))|(apply fO;rfl;rfl;omega;rfl))|(apply aC;rfl;rfl)|(apply a9;rfl;rfl;rfl)|(apply aF;kernel_rfl)|(apply bU;rfl;rfl;rfl))|(apply aN;first|apply aH|apply aB|apply aQ)|with_reducible apply aA|((with_reducible apply aP);case hr => rfl))
 all_goals (refine ⟨?_, rfl⟩; simp only [bX, AV.v.injEq, Value.bool.injEq, Value.int.injEq, true_and])
 omega
def GS (xs : List Int) (v : Int) : Int := match xs.findIdx? (fun t => decide (t = v)) with | some i => i | none => -1
theorem H6 (xs : List Int) (v : Int) (hl : xs.length ≤ 1000000) : PC Tryz.prog 99 [sl cI xs, iv v] (fun r => r = iv (GS xs v)) := by
 (refine aT Tryz.func99 rfl (by simp [Tryz.ntmps99]) ?_; rw [Tryz.ntmps99])
 repeat' (first|(apply aM;first|(apply aE;rfl;rfl)|(apply aC;rfl;rfl)|(apply a9;rfl;rfl;rfl)|(apply aF;kernel_rfl))|(apply aN;first|apply aH|apply aB|apply aL)|with_reducible apply aA)
 refine a7 (σ := Nat) [0, 1, 7] [(0, _), (1, _), (7, _)] [] [] (fun k => [(8, iv (k : Int))]) (fun k => []) (fun k => k ≤ xs.length ∧ ∀ i, i < k → xs[i]! ≠ v) (fun k => xs.length - k) (0) ⟨by omega, by omega⟩ rfl rfl (by repeat' (first|exact trivial|refine And.intro rfl ?_)) (by repeat' (exact trivial)) ?_
 intro k ⟨hk, hall⟩
 repeat' (first|(apply aM;first|(apply aE;rfl;rfl)|(apply aK;rfl;rfl;rfl;rfl)|(first|(apply bR;rfl;rfl;omega;rfl)|(apply aR;rfl;rfl;rfl;rfl))|(apply aC;rfl;rfl)|(apply a6;(case hx|hi => rfl);(case hm => (omega));(case hml => (rfl));(case hα | hf|hg => infer_instance);(case hN => rfl))|(apply aF;kernel_rfl))|(apply aN;first|apply aH|apply aB|(apply aO;rfl;all_goals intro hc;have hq:=hc;(try simp only [cK] at hq);try exfalso;omega)|apply aL|apply aS|apply bF|apply aQ)|with_reducible apply aA|with_reducible apply bJ|with_reducible apply bE|with_reducible apply aV|with_reducible apply cY|with_reducible apply bG|((with_reducible apply aP);case hr => rfl))
 ·(refine ⟨?_, rfl⟩; simp only [bX, AV.v.injEq, Value.bool.injEq, Value.int.injEq, true_and])
  have hlt : k < xs.length := by omega
  have : xs.findIdx? (fun t => decide (t = v)) = some k := by
   rw [List.findIdx?_eq_some_iff_getElem]
   refine ⟨hlt, ?_, fun j hj => ?_⟩
   ·rw [← cL xs k hlt]; grind
   ·have := hall j hj;rw [cL xs j (by omega)] at this;simpa using this
  simp only [GS, this]
 ·(apply dV (k + 1); focus (refine Le.ren [] rfl (by decide) ?_ ?_ <;> repeat' (first | exact trivial | refine And.intro ⟨_, rfl, ?_⟩ ?_ | refine Or.inl ⟨?_, (by first | rfl | exact aZ _ _)⟩ | rfl)))
  ·grind
  ·omega
 ·(refine ⟨?_, rfl⟩; simp only [bX, AV.v.injEq, Value.bool.injEq, Value.int.injEq, true_and])
  have : xs.findIdx? (fun t => decide (t = v)) = none := by
   rw [List.findIdx?_eq_none_iff]
   intro x hx
   obtain ⟨i, hi, rfl⟩ := List.getElem_of_mem hx
   have := hall i (by omega);rw [cL xs i hi] at this;simpa using this
  simp only [GS, this]
theorem Ir (xs : List Int) (v : Int) : decide (0 ≤ GS xs v) = decide (v ∈ xs) := by
 unfold GS
 split
 ·rename_i i h
  obtain ⟨h1, h2, _⟩ := List.findIdx?_eq_some_iff_getElem.1 h
  simp only [decide_eq_true_eq] at h2
  have : v ∈ xs := by rw [← h2]; exact List.getElem_mem h1
  simp [this]
 ·rename_i h
  rw [List.findIdx?_eq_none_iff] at h
  have : v ∉ xs := fun hm => by have := h v hm;simp at this
  simp [this]
theorem nH (xs : List Int) (v : Int) (hl : xs.length ≤ 1000000) : PC Tryz.prog 52 [sl cI xs, iv v] (fun r => r = bv (decide (v ∈ xs))) := by
 (refine aT Tryz.func52 rfl (by simp [Tryz.ntmps52]) ?_; rw [Tryz.ntmps52])
 repeat' (first|(apply aM;first|(apply aE;rfl;rfl)|(apply aR;rfl;rfl;rfl;rfl)|(apply aC;rfl;rfl)|((with_reducible apply aJ (k := 99));(case ha => rfl);(case h => (apply H6 <;> (assumption)));(case hp => (exact Pur.pf));(case hN => rfl))|(apply aF;kernel_rfl))|(apply aN;first|apply aH|apply aB|apply aQ)|with_reducible apply aA|((with_reducible apply aP);case hr => rfl))
 (refine ⟨?_, rfl⟩; simp only [bX, AV.v.injEq, Value.bool.injEq, Value.int.injEq, true_and])
 exact Ir xs v
theorem Ct (ts : List Int) (bd : List AL.Stmt) (pts : List Pnt) (x : Pnt) (us : List Int) (h : ts.length ≤ 6) (hu : us.length ≤ 1000) : PC Tryz.prog 177 [aG ts bd pts, iD x, sl cI us] (fun r => r = iv (wS ts x us : Nat)) := by
 (refine aT Tryz.func177 rfl (by simp [Tryz.ntmps177]) ?_; rw [Tryz.ntmps177])
 repeat' (first|(apply aM;first|(apply aE;rfl;rfl)|(apply aK;rfl;rfl;rfl;rfl)|(apply aD;rfl;rfl;rfl)|(apply aC;rfl;rfl)|(apply a9;rfl;rfl;rfl)|(apply aF;kernel_rfl)|(apply bU;rfl;rfl;rfl)|(apply bW;rfl;rfl;rfl;rfl))|(apply aN;first|apply aH|apply aB|apply aL)|with_reducible apply aA)
 refine a7 (σ := Nat × Nat) [0, 2, 4, 14] [(0, _), (2, _), (4, _), (14, _)] [0] [(0, some _)] (fun k => [(15, iv (k.1 : Int)), (7, iv (k.2 : Int))]) (fun k => []) (fun k => k.1 ≤ ts.length ∧ k.2 = fN (fun v => decide (bO ts x v ∈ us)) k.1) (fun k => ts.length - k.1) (0, 0) ⟨by omega, rfl⟩ rfl rfl (by repeat' (first|exact trivial|refine And.intro rfl ?_)) (by repeat' (exact trivial)) ?_
 rintro ⟨k, A⟩ ⟨hk, hA⟩
 dsimp only at hk hA ⊢
 have hsm : Sm A := hA ▸ dJ (by omega)
 repeat' (first|(apply aM;first|(apply aE;rfl;rfl)|(apply aX;rfl;rfl;(exact (rfl:_=[_, _, _, _, _]));rfl;rfl;rfl)|(first|(apply gJ;rfl;rfl;infer_instance;infer_instance;infer_instance;rfl)|(apply j3;rfl;rfl;infer_instance;omega;rfl;(case' kk => intro hsm))|(apply bR;rfl;rfl;omega;rfl)|(apply aR;rfl;rfl;rfl;rfl))|(apply aC;rfl;rfl)|(first|((with_reducible apply aJ (k := 52));(case ha => rfl);(case h => (apply nH <;> (omega)));(case hp => (exact Pur.pf));(case hN => rfl))|((with_reducible apply aJ (k := 201));(case ha => rfl);(case h => (apply Lx <;> (omega)));(case hp => (exact Pur.pf));(case hN => rfl)))|(apply aF;kernel_rfl))|(apply aN;first|apply aH|apply aB|(apply aO;rfl;all_goals intro hc;have hq:=hc;(try simp only [cK] at hq);try exfalso;omega)|apply aL|apply aS|apply bF|apply aQ)|with_reducible apply aA|with_reducible apply bE|with_reducible apply aV|with_reducible apply bG|((with_reducible apply aP);case hr => rfl))
 ·(apply dV (k + 1, _); focus (refine Le.ren [(0, 0)] rfl (by decide) ?_ ?_ <;> repeat' (first | exact trivial | refine And.intro ⟨_, rfl, ?_⟩ ?_ | refine And.intro ⟨_, _, rfl, rfl, ?_⟩ ?_ | exact Or.inr rfl | refine Or.inl ⟨?_, (by first | rfl | exact aZ _ _ | exact Pur.pf)⟩ | rfl)))
  ·dsimp only
   rw [hA]
   exact ⟨by omega, p7 _ _ (by simpa using hq)⟩
  ·dsimp only;omega
 ·(apply dV (k + 1, _); focus (refine Le.ren [(0, 0)] rfl (by decide) ?_ ?_ <;> repeat' (first | exact trivial | refine And.intro ⟨_, rfl, ?_⟩ ?_ | refine And.intro ⟨_, _, rfl, rfl, ?_⟩ ?_ | exact Or.inr rfl | refine Or.inl ⟨?_, (by first | rfl | exact aZ _ _ | exact Pur.pf)⟩ | rfl)))
  ·dsimp only
   rw [hA]
   exact ⟨by omega, mA _ _ (by simpa using hq)⟩
  ·dsimp only;omega
 ·(refine ⟨?_, rfl⟩; simp only [bX, AV.v.injEq, Value.bool.injEq, Value.int.injEq, true_and])
  rw [hA, show k = ts.length by omega]; rfl
theorem iP (ts : List Int) (bd : List AL.Stmt) (pts : List Pnt) (x : Pnt) (h : ts.length ≤ 6) : PC Tryz.prog 151 [aG ts bd pts, iD x] (fun r => r = iv (wS ts x [1, 2, 3] : Nat)) := by
 (refine aT Tryz.func151 rfl (by simp [Tryz.ntmps151]) ?_; rw [Tryz.ntmps151])
 repeat' (first|(apply aM;first|(apply aE;rfl;rfl)|(apply aX;rfl;rfl;(exact (rfl:_=[_, _, _, _, _]));rfl;rfl;rfl)|(apply aC;rfl;rfl)|((with_reducible apply aJ (k := 177));(case ha => rfl);(case h => (apply Ct (us := [1, 2, 3]) <;> (first|assumption|decide)));(case hp => (exact Pur.pf));(case hN => rfl))|(apply aF;kernel_rfl)|(apply bW;rfl;rfl;rfl;rfl)|((apply bQ (t := _));(case hze|hsm|hl => rfl);(case hfl => (exact (rfl:_=some [_, _, _])));(case hM|hN => rfl)))|(apply aN;first|apply aH|apply aB|apply aQ)|with_reducible apply aA|((with_reducible apply aP);case hr => rfl))
 (refine ⟨?_, rfl⟩; simp only [bX, AV.v.injEq, Value.bool.injEq, Value.int.injEq, true_and])
theorem qT (ts : List Int) (bd : List AL.Stmt) (pts : List Pnt) (x : Pnt) (h : ts.length ≤ 6) : PC Tryz.prog 139 [aG ts bd pts, iD x] (fun r => r = iv (wS ts x [2] : Nat)) := by
 (refine aT Tryz.func139 rfl (by simp [Tryz.ntmps139]) ?_; rw [Tryz.ntmps139])
 repeat' (first|(apply aM;first|(apply aE;rfl;rfl)|(apply aX;rfl;rfl;(exact (rfl:_=[_, _, _, _, _]));rfl;rfl;rfl)|(apply aC;rfl;rfl)|((with_reducible apply aJ (k := 177));(case ha => rfl);(case h => (apply Ct (us := [2]) <;> (first|assumption|decide)));(case hp => (exact Pur.pf));(case hN => rfl))|(apply aF;kernel_rfl)|(apply bW;rfl;rfl;rfl;rfl)|((apply bQ (t := _));(case hze|hsm|hl => rfl);(case hfl => exact (rfl:_=some [_]));(case hM|hN => rfl)))|(apply aN;first|apply aH|apply aB|apply aQ)|with_reducible apply aA|((with_reducible apply aP);case hr => rfl))
 (refine ⟨?_, rfl⟩; simp only [bX, AV.v.injEq, Value.bool.injEq, Value.int.injEq, true_and])
theorem y4 (ts : List Int) (bd : List AL.Stmt) (pts : List Pnt) (i : Int) (A : Nat) (h : WG ts pts) (hi : 0 ≤ i ∧ i < pts.length) (hA : Sm A) : PC Tryz.prog 146 [aG ts bd pts, iv i, iv (A : Int)] (fun r => r = iv (iI ts pts[i.toNat]! A : Nat)) := by
 have htl := h.tl
 have hst := (h.set i.toNat (by omega)).1
 have hs1 : Sm (wS ts pts[i.toNat]! [2]) := dJ (by omega)
 have hs2 : Sm (iF pts[i.toNat]!) := qZ (by omega)
 (refine aT Tryz.func146 rfl (by simp [Tryz.ntmps146]) ?_; rw [Tryz.ntmps146])
 repeat' (first|(apply aM;first|(apply aE;rfl;rfl)|(first|(apply aK;rfl;rfl;rfl;rfl)|(apply aX;rfl;rfl;(exact (rfl:_=[_, _, _, _, _]));rfl;rfl;rfl))|(apply aD;rfl;rfl;rfl)|(first|(apply gJ;rfl;rfl;infer_instance;infer_instance;infer_instance;rfl)|(apply oV;rfl;rfl;infer_instance;infer_instance;infer_instance;rfl))|(apply aC;rfl;rfl)|(apply dA;(case hx|hi => rfl);(case hm => (assumption));(case hml => (rfl));(case hα | hf|hg => infer_instance);(case hN => rfl))|(first|((with_reducible apply aJ (k := 139));(case ha => rfl);(case h => (apply qT <;> (assumption)));(case hp => (exact Pur.pf));(case hN => rfl))|((with_reducible apply aJ (k := 174));(case ha => rfl);(case h => (apply oG <;> (omega)));(case hp => (exact Pur.pf));(case hN => rfl)))|(apply aF;kernel_rfl)|(apply bU;rfl;rfl;rfl)|(apply bH;rfl;rfl)|(apply aW;rfl;rfl;rfl;rfl;rfl;(case hl => (simp;done));(exact (rfl:_=[_, _, _, _, _]))))|(apply aN;first|apply aH|apply aB|(apply bZ;kernel_rfl)|apply aQ)|with_reducible apply aA|((with_reducible apply aP);case hr => rfl))
 (refine ⟨?_, rfl⟩; simp only [bX, AV.v.injEq, Value.bool.injEq, Value.int.injEq, true_and])
 rfl
theorem BF (ts : List Int) (bd : List AL.Stmt) (pts : List Pnt) (A : List Nat) (w : WG ts pts) (hA : sU ts pts A) : PC Tryz.prog 145 [aG ts bd pts, iv 0, bv false, .clos (.func 146) [aG ts bd pts] []] (fun r => r = .imm pts.length (aI cN A)) := by
 have hpl := w.pl
 have hp0 := w.p0
 have htl := w.tl
 have fl := Li w
 (refine aT Tryz.func145 rfl (by simp [Tryz.ntmps145]) ?_; rw [Tryz.ntmps145])
 repeat' (first|(apply aM;first|(apply aE;rfl;rfl)|(apply aK;rfl;rfl;rfl;rfl)|(apply aD;rfl;rfl;rfl)|(apply aC;rfl;rfl)|(apply cG;rfl;rfl;(assumption);rfl)|(apply a9;rfl;rfl;rfl)|(apply aF;kernel_rfl)|(apply bU;rfl;rfl;rfl)|(apply aW;rfl;rfl;rfl;rfl;rfl;(rw [aU]; simp only [hZ] <;> omega);(exact s7 (by (simp only [hZ] <;> omega))))|(apply eW;rfl;rfl;rfl;omega;omega;(exact BG);rfl;rfl))|(apply aN;first|apply aH|apply aB|(apply cH;rfl;(rfl))|apply aL|apply aS)|with_reducible apply aA)
 refine a7 (σ := List Nat × Bool) [0, 2, 3, 9] [(0, _), (2, _), (3, _), (9, _)] [] [] (fun s => [(11, bv s.2)]) (fun s => [(0, some (aI cN s.1))]) (fun s => SG pts (LJ ts pts) s.1 ∧ True ∧ (s.2 = false → k7 nP (fun i A => iI ts pts[i]! A) pts s.1)) (fun s => 2 * gB (s.1.map (fun a => 2 ^ ts.length - a)) + s.2.toNat) (((List.replicate pts.length 0).set 0 0), true) ⟨by rw [l8 (by rw [cL _ _ (by simpa using hp0), List.getElem_replicate]) (by simpa using hp0)]; exact Bo fun i hi => ⟨Nat.pow_pos (by decide), fun v h => by simp at h⟩, trivial, fun h => by cases h⟩ rfl rfl (by repeat' (first|exact trivial|refine And.intro rfl ?_)) (by repeat' (first|exact trivial|refine And.intro (.inr rfl) ?_)) ?_
 rintro ⟨s, b⟩ ⟨hS, hE, hC⟩
 dsimp only at hS hE hC ⊢
 repeat' (first|(apply aM;first|(apply aE;rfl;rfl)|(apply aK;rfl;rfl;rfl;rfl)|(apply aD;rfl;rfl;rfl)|(apply aC;rfl;rfl)|(apply a9;rfl;rfl;rfl)|(apply aF;kernel_rfl)|(apply bU;rfl;rfl;rfl))|(apply aN;first|apply aH|apply aB|(apply aO;rfl;all_goals intro hc;have hq:=hc;(try simp only [cK] at hq);try exfalso;omega)|apply aL|apply aS|apply bF|apply aQ)|with_reducible apply aA|with_reducible apply bE|with_reducible apply bG)
 ·refine a7 (σ := Nat × (List Nat × Bool)) [0, 2, 3, 9, 43, 44] [(0, _), (2, _), (3, _), (9, _), (43, _), (44, _)] [] [] (fun k => [(45, iv (k.1 : Int)), (11, bv k.2.2)]) (fun k => [(0, some (aI cN k.2.1))]) (fun k => k.1 ≤ pts.length ∧ k.2 = (List.range k.1).foldl (w8 nP (fun i A => iI ts pts[i]! A) pts) (s, false) ∧ SG pts (LJ ts pts) k.2.1 ∧ True) (fun k => pts.length - k.1) (0, (s, false)) ⟨by omega, rfl, hS, hE⟩ rfl rfl (by repeat' (first | exact trivial | refine And.intro rfl ?_)) (by repeat' (first | exact trivial | refine And.intro (.inr rfl) ?_)) ?_
  rintro ⟨k, u, c⟩ ⟨hk, hf, hS2, hE2⟩
  dsimp only at hk hf hS2 hE2 ⊢
  have hsm : ∀ z, Sm u[z]! := sR hS2 (fun i A h => h.1) htl
  have hul := hS2.1
  repeat' (first|(apply aM;first|(apply aE;rfl;rfl)|(first|(apply eR;(case hx|hH => rfl);(case hf|hg|hα => infer_instance);(case hk => omega);(case hc|hN => rfl))|(apply aK;rfl;rfl;rfl;rfl)|(apply aX;rfl;rfl;(exact (rfl:_=[_, _, _, _, _]));rfl;rfl;rfl))|(apply aD;rfl;rfl;rfl)|(apply aR;rfl;rfl;rfl;rfl)|(apply aC;rfl;rfl)|(first|(apply a6;(case hx|hi => rfl);(case hm => (omega));(case hml => (rfl));(case hα | hf|hg => infer_instance);(case hN => rfl))|(apply cG;rfl;rfl;(omega);rfl))|(apply a9;rfl;rfl;rfl)|((with_reducible apply gF);(case hx|hcl => rfl);(case hc => infer_instance);(case ha => rfl);(case h => (apply y4 <;> (first|assumption|omega|infer_instance)));(case hp => (exact Pur.pf));(case hN => rfl))|(apply aF;kernel_rfl)|(apply bH;rfl;rfl)|(apply aW;rfl;rfl;rfl;rfl;rfl;(case hl => (simp;done));(exact (rfl:_=[_, _, _, _, _]))))|(apply aN;first|apply aH|apply aB|(apply aO;rfl;all_goals intro hc;have hq:=hc;(try simp only [cK] at hq);try exfalso;omega)|apply aL|apply aS|apply bF)|with_reducible apply aA|with_reducible apply bE|with_reducible apply aV|with_reducible apply bG)
  ·have hkn : k < pts.length := by omega
   have hv := rF w hkn (hS2.2 k hkn).1
   have hvs : Sm (iI ts pts[k]! u[k]!) := ⟨Nat.lt_of_lt_of_le hv (Nat.pow_le_pow_right (by decide) (by omega))⟩
   have hvs' : Sm (iI ts pts[(k : Int).toNat]! u[k]!) := hvs
   have hnl := w.nl k hkn
   refine a7 (σ := Nat × (List Nat × Bool)) [0, 2, 3, 9, 14, 43, 44, 45, 58, 59] [(0, _), (2, _), (3, _), (9, _), (14, _), (43, _), (44, _), (45, _), (58, _), (59, _)] [] [] (fun j => [(60, iv (j.1 : Int)), (11, bv j.2.2)]) (fun j => [(0, some (aI cN j.2.1))]) (fun j => j.1 ≤ pts[k]!.next.length ∧ j.2 = ((uG pts k).take j.1).foldl (lD nP (iI ts pts[k]! u[k]!)) (u, c) ∧ SG pts (LJ ts pts) j.2.1 ∧ True) (fun j => pts[k]!.next.length - j.1) (0, (u, c)) ⟨by omega, rfl, hS2, hE2⟩ rfl rfl (by repeat' (first|exact trivial|refine And.intro rfl ?_)) (by repeat' (first|exact trivial|refine And.intro (.inr rfl) ?_)) ?_
   rintro ⟨j, u2, c2⟩ ⟨hj, hf2, hS3, hE3⟩
   dsimp only at hj hf2 hS3 hE3 ⊢
   have hsm2 : ∀ z, Sm u2[z]! := sR hS3 (fun i A h => h.1) htl
   have hul2 := hS3.1
   have hz : j < pts[k]!.next.length → 0 ≤ pts[k]!.next[j]! ∧ pts[k]!.next[j]! < pts.length := fun h => w.nx k hkn _ (bY _ _ h)
   repeat' (first|(apply aM;first|(apply aE;rfl;rfl)|(first|(apply eR;(case hx|hH => rfl);(case hf|hg|hα => infer_instance);(case hk => omega);(case hc|hN => rfl))|(apply aK;rfl;rfl;rfl;rfl))|(first|(apply gJ;rfl;rfl;infer_instance;infer_instance;infer_instance;rfl)|(apply bR;rfl;rfl;omega;rfl)|(apply aR;rfl;rfl;rfl;rfl))|(apply aC;rfl;rfl)|(first|(apply a6;(case hx|hi => rfl);(case hm => (omega));(case hml => (rfl));(case hα | hf|hg => infer_instance);(case hN => rfl))|(apply cM;rfl;rfl;(omega);rfl))|(apply aF;kernel_rfl)|(apply aW;rfl;rfl;rfl;rfl;rfl;(rw [aU]; simp only [hZ] <;> omega);(exact s7 (by (omega)))))|(apply aN;first|apply aH|apply aB|(apply cH;rfl;(rfl))|(apply aO;rfl;all_goals intro hc;have hq:=hc;(try simp only [cK] at hq);try exfalso;omega)|apply aL|apply aS|apply bF)|with_reducible apply aA|with_reducible apply bE|with_reducible apply aV|with_reducible apply bG)
   ·have hzz := hz (by omega)
    have hed : edge pts k (pts[k]!.next[j]!).toNat := ⟨hkn, by rw [Int.toNat_of_nonneg hzz.1]; exact bY _ _ (by omega)⟩
    have hne : nP u2[(pts[k]!.next[j]!).toNat]! (iI ts pts[k]! u[k]!) ≠ u2[(pts[k]!.next[j]!).toNat]! := fun h => hq (congrArg Int.ofNat h)
    (apply dV (j + 1, (_, true));focus (refine Le.ren [(0, 0)] rfl (by decide) ?_ ?_ <;> repeat' (first|exact trivial|refine And.intro ⟨_, rfl, ?_⟩ ?_|refine And.intro ⟨_, _, rfl, rfl, ?_⟩ ?_|exact Or.inr rfl|refine Or.inl ⟨?_, (by first|rfl|exact aZ _ _|exact Pur.pf|exact PurV.pf)⟩|rfl)))
    ·dsimp only
     refine ⟨by omega, ?_, x9 fl w (hS2.2 k hkn) hed hS3, trivial⟩
     rw [jH (by omega), ← hf2, yG hne]; rfl
    ·dsimp only;omega
   ·have hzz := hz (by omega)
    have hne : nP u2[(pts[k]!.next[j]!).toNat]! (iI ts pts[k]! u[k]!) = u2[(pts[k]!.next[j]!).toNat]! := Int.ofNat.inj hq
    (apply dV (j + 1, (u2, c2));focus (refine Le.ren [(0, 0)] rfl (by decide) ?_ ?_ <;> repeat' (first|exact trivial|refine And.intro ⟨_, rfl, ?_⟩ ?_|refine And.intro ⟨_, _, rfl, rfl, ?_⟩ ?_|exact Or.inr rfl|refine Or.inl ⟨?_, (by first|rfl|exact aZ _ _|exact Pur.pf|exact PurV.pf)⟩|rfl)))
    ·dsimp only
     refine ⟨by omega, ?_, hS3, hE3⟩
     rw [jH (by omega), ← hf2, yQ hne]
    ·dsimp only;omega
   ·(apply dV (k + 1, (u2, c2)); focus (refine Le.ren [(0, 0)] rfl (by decide) ?_ ?_ <;> repeat' (first | exact trivial | refine And.intro ⟨_, rfl, ?_⟩ ?_ | refine And.intro ⟨_, _, rfl, rfl, ?_⟩ ?_ | exact Or.inr rfl | refine Or.inl ⟨?_, (by first | rfl | exact aZ _ _ | exact Pur.pf | exact PurV.pf)⟩ | rfl)))
    ·dsimp only
     refine ⟨by omega, ?_, hS3, hE3⟩
     rw [fC, ← hf, hf2, List.take_of_length_le (by rw [kT]; omega)]; rfl
    ·dsimp only;omega
  ·have law := tR w fl s false hS
   have hfull : (u, c) = w7 nP (fun i A => iI ts pts[i]! A) pts (s, false) := by
    rw [hf, show k = pts.length by omega]; rfl
   rw [show w7 (fun a s => nP a s) (fun i A => iI ts pts[i]! A) pts (s, false) = (u, c) from hfull.symm] at law
   (apply dV (u, c);focus (refine Le.ren [(0, 0)] rfl (by decide) ?_ ?_ <;> repeat' (first|exact trivial|refine And.intro ⟨_, rfl, ?_⟩ ?_|refine And.intro ⟨_, _, rfl, rfl, ?_⟩ ?_|exact Or.inr rfl|refine Or.inl ⟨?_, (by first|rfl|exact aZ _ _|exact Pur.pf|exact PurV.pf)⟩|rfl)))
   ·dsimp only
    refine ⟨hS2, hE2, fun h => ?_⟩
    rcases law.2 with ⟨e1, e2⟩ | ⟨e1, _⟩
    ·cases e1;exact e2
    ·dsimp only at e1;rw [h] at e1;cases e1
   ·dsimp only
    have hb : b = true := by assumption
    subst hb
    rcases law.2 with ⟨e1, e2⟩ | ⟨e1, e2⟩
    ·cases e1;simp
    ·dsimp only at e1 e2;subst e1;omega
 ·have hb : b = false := by assumption
  refine cC (Le.frzD (d := 8) (i := 0) rfl rfl) ?_
  refine aP rfl ⟨?_, (by (exact aZ _ _))⟩
  simp only [bX]
  rw [DN hA (F2 w hS (hC hb))]
theorem BT (ts : List Int) (bd : List AL.Stmt) (pts : List Pnt) (A : List Nat) (w : WG ts pts) (hA : sD ts pts A) : PC Tryz.prog 145 [aG ts bd pts, iv 0, bv true, .clos (.func 146) [aG ts bd pts] []] (fun r => r = .imm pts.length (aI cN A)) := by
 have hpl := w.pl
 have hp0 := w.p0
 have htl := w.tl
 have fl := K5 w
 (refine aT Tryz.func145 rfl (by simp [Tryz.ntmps145]) ?_; rw [Tryz.ntmps145])
 repeat' (first|(apply aM;first|(apply aE;rfl;rfl)|(apply aK;rfl;rfl;rfl;rfl)|(apply aD;rfl;rfl;rfl)|(apply aC;rfl;rfl)|(apply a9;rfl;rfl;rfl)|(apply aF;kernel_rfl)|(apply bU;rfl;rfl;rfl)|(apply eW;rfl;rfl;rfl;omega;omega;(exact BG);rfl;rfl))|(apply aN;first|apply aH|apply aB|(apply b8;rfl;(rfl))|apply aL)|with_reducible apply aA)
 refine a7 (σ := Nat × List Nat) [0, 1, 2, 3, 9, 26] [(0, _), (1, _), (2, _), (3, _), (9, _), (26, _)] [] [] (fun k => [(27, iv (k.1 : Int))]) (fun k => [(0, some (aI cN k.2))]) (fun k => k.1 ≤ pts.length ∧ k.2 = List.replicate k.1 (2 ^ ts.length - 1) ++ List.replicate (pts.length - k.1) 0) (fun k => pts.length - k.1) (0, List.replicate pts.length 0) ⟨by omega, by simp⟩ rfl rfl (by repeat' (first|exact trivial|refine And.intro rfl ?_)) (by repeat' (first|exact trivial|refine And.intro (.inr rfl) ?_)) ?_
 rintro ⟨k0, u0⟩ ⟨hk0, hu0⟩
 dsimp only at hk0 hu0 ⊢
 have hul0 : u0.length = pts.length := by rw [hu0]; simp;omega
 repeat' (first|(apply aM;first|(apply aE;rfl;rfl)|(first|(apply bR;rfl;rfl;omega;rfl)|(apply aR;rfl;rfl;rfl;rfl))|(apply aC;rfl;rfl)|(apply cG;rfl;rfl;(first|assumption|omega);rfl)|((with_reducible apply aJ (k := 180));(case ha => rfl);(case h => (apply KZ <;> (assumption)));(case hp => (exact Pur.pf));(case hN => rfl))|(apply aF;kernel_rfl)|(apply aW;rfl;rfl;rfl;rfl;rfl;(rw [aU]; simp only [hZ] <;> omega);(exact s7 (by (first|omega|(simp only [hZ] <;> omega))))))|(apply aN;first|apply aH|apply aB|(apply aO;rfl;all_goals intro hc;have hq:=hc;(try simp only [cK] at hq);try exfalso;omega)|apply aL|apply aS|apply bF)|with_reducible apply aA|with_reducible apply bE|with_reducible apply aV|with_reducible apply bG)
 ·(apply dV (k0 + 1, _); focus (refine Le.ren [(0, 0)] rfl (by decide) ?_ ?_ <;> repeat' (first | exact trivial | refine And.intro ⟨_, rfl, ?_⟩ ?_ | refine And.intro ⟨_, _, rfl, rfl, ?_⟩ ?_ | exact Or.inr rfl | refine Or.inl ⟨?_, (by first | rfl | exact aZ _ _ | exact Pur.pf | exact PurV.pf)⟩ | rfl)))
  ·dsimp only
   exact ⟨by omega, by rw [hu0]; exact HW (by omega)⟩
  ·dsimp only;omega
 have hk1 : k0 = pts.length := by omega
 subst hk1
 rw [Nat.sub_self, List.replicate_zero, List.append_nil] at hu0
 refine a7 (σ := List Nat × Bool) [0, 2, 3, 9] [(0, _), (2, _), (3, _), (9, _)] [] [] (fun s => [(11, bv s.2)]) (fun s => [(0, some (aI cN s.1))]) (fun s => SG pts (KX ts pts) s.1 ∧ s.1[0]! = 0 ∧ (s.2 = false → k7 Kd (fun i A => iI ts pts[i]! A) pts s.1)) (fun s => 2 * gB (s.1.map (fun a => a)) + s.2.toNat) ((u0.set 0 0), true) ⟨(Fu w hu0).1, (Fu w hu0).2, fun h => by cases h⟩ rfl rfl (by repeat' (first|exact trivial|refine And.intro rfl ?_)) (by repeat' (first|exact trivial|refine And.intro (.inr rfl) ?_)) ?_
 rintro ⟨s, b⟩ ⟨hS, hE, hC⟩
 dsimp only at hS hE hC ⊢
 repeat' (first|(apply aM;first|(apply aE;rfl;rfl)|(apply aK;rfl;rfl;rfl;rfl)|(apply aD;rfl;rfl;rfl)|(apply aC;rfl;rfl)|(apply a9;rfl;rfl;rfl)|(apply aF;kernel_rfl)|(apply bU;rfl;rfl;rfl))|(apply aN;first|apply aH|apply aB|(apply aO;rfl;all_goals intro hc;have hq:=hc;(try simp only [cK] at hq);try exfalso;omega)|apply aL|apply aS|apply bF|apply aQ)|with_reducible apply aA|with_reducible apply bE|with_reducible apply bG)
 ·refine a7 (σ := Nat × (List Nat × Bool)) [0, 2, 3, 9, 43, 44] [(0, _), (2, _), (3, _), (9, _), (43, _), (44, _)] [] [] (fun k => [(45, iv (k.1 : Int)), (11, bv k.2.2)]) (fun k => [(0, some (aI cN k.2.1))]) (fun k => k.1 ≤ pts.length ∧ k.2 = (List.range k.1).foldl (w8 Kd (fun i A => iI ts pts[i]! A) pts) (s, false) ∧ SG pts (KX ts pts) k.2.1 ∧ k.2.1[0]! = 0) (fun k => pts.length - k.1) (0, (s, false)) ⟨by omega, rfl, hS, hE⟩ rfl rfl (by repeat' (first | exact trivial | refine And.intro rfl ?_)) (by repeat' (first | exact trivial | refine And.intro (.inr rfl) ?_)) ?_
  rintro ⟨k, u, c⟩ ⟨hk, hf, hS2, hE2⟩
  dsimp only at hk hf hS2 hE2 ⊢
  have hsm : ∀ z, Sm u[z]! := sR hS2 (fun i A h => h.1) htl
  have hul := hS2.1
  repeat' (first|(apply aM;first|(apply aE;rfl;rfl)|(first|(apply eR;(case hx|hH => rfl);(case hf|hg|hα => infer_instance);(case hk => omega);(case hc|hN => rfl))|(apply aK;rfl;rfl;rfl;rfl)|(apply aX;rfl;rfl;(exact (rfl:_=[_, _, _, _, _]));rfl;rfl;rfl))|(apply aD;rfl;rfl;rfl)|(apply aR;rfl;rfl;rfl;rfl)|(apply aC;rfl;rfl)|(first|(apply a6;(case hx|hi => rfl);(case hm => (omega));(case hml => (rfl));(case hα | hf|hg => infer_instance);(case hN => rfl))|(apply cG;rfl;rfl;(omega);rfl))|(apply a9;rfl;rfl;rfl)|((with_reducible apply gF);(case hx|hcl => rfl);(case hc => infer_instance);(case ha => rfl);(case h => (apply y4 <;> (first|assumption|omega|infer_instance)));(case hp => (exact Pur.pf));(case hN => rfl))|(apply aF;kernel_rfl)|(apply bH;rfl;rfl)|(apply aW;rfl;rfl;rfl;rfl;rfl;(case hl => (simp;done));(exact (rfl:_=[_, _, _, _, _]))))|(apply aN;first|apply aH|apply aB|(apply aO;rfl;all_goals intro hc;have hq:=hc;(try simp only [cK] at hq);try exfalso;omega)|apply aL|apply aS|apply bF)|with_reducible apply aA|with_reducible apply bE|with_reducible apply aV|with_reducible apply bG)
  ·have hkn : k < pts.length := by omega
   have hv := rF w hkn (hS2.2 k hkn).1
   have hvs : Sm (iI ts pts[k]! u[k]!) := ⟨Nat.lt_of_lt_of_le hv (Nat.pow_le_pow_right (by decide) (by omega))⟩
   have hvs' : Sm (iI ts pts[(k : Int).toNat]! u[k]!) := hvs
   have hnl := w.nl k hkn
   refine a7 (σ := Nat × (List Nat × Bool)) [0, 2, 3, 9, 14, 43, 44, 45, 58, 59] [(0, _), (2, _), (3, _), (9, _), (14, _), (43, _), (44, _), (45, _), (58, _), (59, _)] [] [] (fun j => [(60, iv (j.1 : Int)), (11, bv j.2.2)]) (fun j => [(0, some (aI cN j.2.1))]) (fun j => j.1 ≤ pts[k]!.next.length ∧ j.2 = ((uG pts k).take j.1).foldl (lD Kd (iI ts pts[k]! u[k]!)) (u, c) ∧ SG pts (KX ts pts) j.2.1 ∧ j.2.1[0]! = 0) (fun j => pts[k]!.next.length - j.1) (0, (u, c)) ⟨by omega, rfl, hS2, hE2⟩ rfl rfl (by repeat' (first|exact trivial|refine And.intro rfl ?_)) (by repeat' (first|exact trivial|refine And.intro (.inr rfl) ?_)) ?_
   rintro ⟨j, u2, c2⟩ ⟨hj, hf2, hS3, hE3⟩
   dsimp only at hj hf2 hS3 hE3 ⊢
   have hsm2 : ∀ z, Sm u2[z]! := sR hS3 (fun i A h => h.1) htl
   have hul2 := hS3.1
   have hz : j < pts[k]!.next.length → 0 ≤ pts[k]!.next[j]! ∧ pts[k]!.next[j]! < pts.length := fun h => w.nx k hkn _ (bY _ _ h)
   repeat' (first|(apply aM;first|(apply aE;rfl;rfl)|(first|(apply eR;(case hx|hH => rfl);(case hf|hg|hα => infer_instance);(case hk => omega);(case hc|hN => rfl))|(apply aK;rfl;rfl;rfl;rfl))|(first|(apply gJ;rfl;rfl;infer_instance;infer_instance;infer_instance;rfl)|(apply xK;rfl;rfl;infer_instance;infer_instance;infer_instance;rfl)|(apply bR;rfl;rfl;omega;rfl)|(apply aR;rfl;rfl;rfl;rfl))|(apply aC;rfl;rfl)|(first|(apply a6;(case hx|hi => rfl);(case hm => (omega));(case hml => (rfl));(case hα | hf|hg => infer_instance);(case hN => rfl))|(apply cM;rfl;rfl;(omega);rfl))|(apply aF;kernel_rfl)|(apply aW;rfl;rfl;rfl;rfl;rfl;(rw [aU]; simp only [hZ] <;> omega);(exact s7 (by (omega)))))|(apply aN;first|apply aH|apply aB|(apply b8;rfl;(rfl))|(apply aO;rfl;all_goals intro hc;have hq:=hc;(try simp only [cK] at hq);try exfalso;omega)|apply aL|apply aS|apply bF)|with_reducible apply aA|with_reducible apply bE|with_reducible apply aV|with_reducible apply bG)
   ·have hzz := hz (by omega)
    have hed : edge pts k (pts[k]!.next[j]!).toNat := ⟨hkn, by rw [Int.toNat_of_nonneg hzz.1]; exact bY _ _ (by omega)⟩
    have hne : Kd u2[(pts[k]!.next[j]!).toNat]! (iI ts pts[k]! u[k]!) ≠ u2[(pts[k]!.next[j]!).toNat]! := fun h => hq (congrArg Int.ofNat h)
    (apply dV (j + 1, (_, true));focus (refine Le.ren [(0, 0)] rfl (by decide) ?_ ?_ <;> repeat' (first|exact trivial|refine And.intro ⟨_, rfl, ?_⟩ ?_|refine And.intro ⟨_, _, rfl, rfl, ?_⟩ ?_|exact Or.inr rfl|refine Or.inl ⟨?_, (by first|rfl|exact aZ _ _|exact Pur.pf|exact PurV.pf)⟩|rfl)))
    ·dsimp only
     refine ⟨by omega, ?_, x9 fl w (hS2.2 k hkn) hed hS3, (by rw [eI _ _ _ _ (by rw [hS3.1]; exact fK w hed)]; split <;> first|exact hE3|(rename_i q;rw [← q, hE3]; exact Nat.zero_and _))⟩
     rw [jH (by omega), ← hf2, yG hne]; rfl
    ·dsimp only;omega
   ·have hzz := hz (by omega)
    have hne : Kd u2[(pts[k]!.next[j]!).toNat]! (iI ts pts[k]! u[k]!) = u2[(pts[k]!.next[j]!).toNat]! := Int.ofNat.inj hq
    (apply dV (j + 1, (u2, c2));focus (refine Le.ren [(0, 0)] rfl (by decide) ?_ ?_ <;> repeat' (first|exact trivial|refine And.intro ⟨_, rfl, ?_⟩ ?_|refine And.intro ⟨_, _, rfl, rfl, ?_⟩ ?_|exact Or.inr rfl|refine Or.inl ⟨?_, (by first|rfl|exact aZ _ _|exact Pur.pf|exact PurV.pf)⟩|rfl)))
    ·dsimp only
     refine ⟨by omega, ?_, hS3, hE3⟩
     rw [jH (by omega), ← hf2, yQ hne]
    ·dsimp only;omega
   ·(apply dV (k + 1, (u2, c2)); focus (refine Le.ren [(0, 0)] rfl (by decide) ?_ ?_ <;> repeat' (first | exact trivial | refine And.intro ⟨_, rfl, ?_⟩ ?_ | refine And.intro ⟨_, _, rfl, rfl, ?_⟩ ?_ | exact Or.inr rfl | refine Or.inl ⟨?_, (by first | rfl | exact aZ _ _ | exact Pur.pf | exact PurV.pf)⟩ | rfl)))
    ·dsimp only
     refine ⟨by omega, ?_, hS3, hE3⟩
     rw [fC, ← hf, hf2, List.take_of_length_le (by rw [kT]; omega)]; rfl
    ·dsimp only;omega
  ·have law := tR w fl s false hS
   have hfull : (u, c) = w7 Kd (fun i A => iI ts pts[i]! A) pts (s, false) := by
    rw [hf, show k = pts.length by omega]; rfl
   rw [show w7 (fun a s => Kd a s) (fun i A => iI ts pts[i]! A) pts (s, false) = (u, c) from hfull.symm] at law
   (apply dV (u, c);focus (refine Le.ren [(0, 0)] rfl (by decide) ?_ ?_ <;> repeat' (first|exact trivial|refine And.intro ⟨_, rfl, ?_⟩ ?_|refine And.intro ⟨_, _, rfl, rfl, ?_⟩ ?_|exact Or.inr rfl|refine Or.inl ⟨?_, (by first|rfl|exact aZ _ _|exact Pur.pf|exact PurV.pf)⟩|rfl)))
   ·dsimp only
    refine ⟨hS2, hE2, fun h => ?_⟩
    rcases law.2 with ⟨e1, e2⟩ | ⟨e1, _⟩
    ·cases e1;exact e2
    ·dsimp only at e1;rw [h] at e1;cases e1
   ·dsimp only
    have hb : b = true := by assumption
    subst hb
    rcases law.2 with ⟨e1, e2⟩ | ⟨e1, e2⟩
    ·cases e1;simp
    ·dsimp only at e1 e2;subst e1;omega
 ·have hb : b = false := by assumption
  refine cC (Le.frzD (d := 8) (i := 0) rfl rfl) ?_
  refine aP rfl ⟨?_, (by (exact aZ _ _))⟩
  simp only [bX]
  rw [DP hA (FA w hS hE (hC hb))]
end Go.Proofs.YtjcpngimjdckmaaGreat
