/-
 A part of the proofs over this program: rules and contracts of its functions (the contracts).
-/
import Derived.Test.YtahdccneecdmmaaGreatQ5A08
import Derived.Test.YtahdccneecdmmaaGreatRows
set_option linter.unusedVariables false
set_option linter.unusedSimpArgs false
set_option maxHeartbeats 8000000
set_option maxRecDepth 4000
attribute [local irreducible] Go.AL.RW Go.AL.AW Go.AL.Stop
namespace Go.Proofs.YtahdccneecdmmaaGreat
open Go.AL
theorem cO (a b c : Int) : PC Tryz.prog 54 [iv a, iv b, iv c] (fun r => r = bv (decide (b ≤ a) && decide (a ≤ c))) := by
 refine aB Tryz.func54 Tryz.ntmps54 ?_
 repeat' (first|refine aD ?_|refine aE ?_|(refine bU ?_ ?_ <;> intro hg hq <;> try (exfalso;omega))|refine c5 ?_|fail)
 all_goals (refine ⟨?_, rfl⟩; simp only [aQ, AV.v.injEq, Value.bool.injEq, Value.int.injEq, true_and])
 all_goals grind
theorem AH (t : Int) : PC Tryz.prog 234 [iv t] (fun r => r = bv (jM t)) := by
 refine aB Tryz.func234 Tryz.ntmps234 ?_
 repeat' (first|refine aD ?_|refine aE ?_|(refine bU ?_ ?_ <;> intro hg hq <;> try (exfalso;omega))|refine c5 ?_|fail)
 all_goals (refine ⟨?_, rfl⟩; simp only [aQ, AV.v.injEq, Value.bool.injEq, Value.int.injEq, true_and])
 all_goals grind [jM]
theorem IK (t : Int) : PC Tryz.prog 260 [iv t] (fun r => r = bv (jM t)) := by
 refine aB Tryz.func260 Tryz.ntmps260 ?_
 repeat' (first|refine aD ?_|refine aE ?_|(refine bU ?_ ?_ <;> intro hg hq <;> try (exfalso;omega))|refine c5 ?_|fail)
 all_goals (refine ⟨?_, rfl⟩; simp only [aQ, AV.v.injEq, Value.bool.injEq, Value.int.injEq, true_and])
 all_goals grind [jM]
theorem CP (t : Int) : PC Tryz.prog 263 [iv t] (fun r => r = bv (decide (t = 2) || jM t)) := by
 refine aB Tryz.func263 Tryz.ntmps263 ?_
 repeat' (first|(apply aI;(apply aA (k := 234);rfl;(apply AH);(rfl);rfl))|refine aD ?_|refine aE ?_|(refine bU ?_ ?_ <;> intro hg hq <;> try (exfalso;omega))|refine c5 ?_|fail)
 all_goals (refine ⟨?_, rfl⟩; simp only [aQ, AV.v.injEq, Value.bool.injEq, Value.int.injEq, true_and])
 all_goals grind
theorem Dd (t : Int) : PC Tryz.prog 230 [iv t] (fun r => r = bv (decide (t = 9) || decide (t = 10))) := by
 refine aB Tryz.func230 Tryz.ntmps230 ?_
 repeat' (first|refine aD ?_|refine aE ?_|(refine bU ?_ ?_ <;> intro hg hq <;> try (exfalso;omega))|refine c5 ?_|fail)
 all_goals (refine ⟨?_, rfl⟩; simp only [aQ, AV.v.injEq, Value.bool.injEq, Value.int.injEq, true_and])
 all_goals grind
theorem IP (ts : List Int) (v : Int) : PC Tryz.prog 264 [sl cI ts, iv v] (fun r => r = iv (dU ts v)) := by
 refine aB Tryz.func264 Tryz.ntmps264 ?_
 repeat' (first|refine aD ?_|refine aE ?_|(refine aM ?_ ?_ <;> intro hc hq <;> try (exfalso;omega))|(refine bU ?_ ?_ <;> intro hg hq <;> try (exfalso;omega))|refine c5 ?_|fail)
 all_goals (refine ⟨?_, rfl⟩; simp only [aQ, AV.v.injEq, Value.bool.injEq, Value.int.injEq, true_and])
 all_goals grind [dU]
theorem tL (ts : List Int) (v : Int) (hl : ts.length ≤ 1000000) : PC Tryz.prog 55 [sl cI ts, iv v] (fun r => r = iv (dU ts v)) := by
 refine aB Tryz.func55 Tryz.ntmps55 ?_
 repeat' (first|(apply aI;(apply aA (k := 54);rfl;(apply cO);(rfl);rfl))|refine aD ?_|refine aE ?_|(refine aM ?_ ?_ <;> intro hc hq <;> try (exfalso;omega))|refine c5 ?_|fail)
 all_goals (refine ⟨?_, rfl⟩; simp only [aQ, AV.v.injEq, Value.bool.injEq, Value.int.injEq, true_and])
 all_goals grind [dU]
theorem Cw (ts : List Int) (s : AL.Stmt) (hl : bK ts = true) : PC Tryz.prog 231 [sl cI ts, dN s] (fun r => r = bv (s.th.isEmpty && s.el.isEmpty && dK ts s)) := by
 have hl2 := eG hl
 have hx := iT hl s.x
 have hy := iT hl s.y
 refine aB Tryz.func231 Tryz.ntmps231 ?_
 repeat' (first|(apply aI;(first|(apply aA (k := 54);rfl;(apply cO);(rfl);rfl)|(apply aA (k := 55);rfl;(apply tL <;> (omega));exact Pur.pf;rfl)|(apply aA (k := 263);rfl;(apply CP);(rfl);rfl)))|refine aD ?_|refine aE ?_|(refine aM ?_ ?_ <;> intro hc hq <;> try (exfalso;omega))|(refine bU ?_ ?_ <;> intro hg hq <;> try (exfalso;omega))|refine b0 ?_|refine c5 ?_|fail)
 all_goals (refine ⟨?_, rfl⟩; simp only [aQ, AV.v.injEq, Value.bool.injEq, Value.int.injEq, true_and])
 all_goals (cases hth : s.th <;> cases hel : s.el <;> simp only [hth, hel, List.length_nil, List.length_cons, List.isEmpty_nil, List.isEmpty_cons, Bool.true_and, Bool.false_and] at *)
 all_goals (try unfold dK)
 all_goals (try simp only [jM, Bool.or_eq_true, Bool.or_eq_false_iff, decide_eq_true_eq, decide_eq_false_iff_not] at *)
 all_goals grind
theorem C5 (ts : List Int) (s : AL.Stmt) (hl : bK ts = true) : PC Tryz.prog 238 [sl cI ts, dN s] (fun r => r = bv (dK ts s)) := by
 have hl2 := eG hl
 have hx := iT hl s.x
 have hy := iT hl s.y
 refine aB Tryz.func238 Tryz.ntmps238 ?_
 repeat' (first|(apply aI;(apply aA (k := 264);rfl;(apply IP);exact Pur.pf;rfl))|refine aD ?_|refine aE ?_|(refine aM ?_ ?_ <;> intro hc hq <;> try (exfalso;omega))|(refine bU ?_ ?_ <;> intro hg hq <;> try (exfalso;omega))|refine c5 ?_|fail)
 all_goals (refine ⟨?_, rfl⟩; simp only [aQ, AV.v.injEq, Value.bool.injEq, Value.int.injEq, true_and])
 all_goals (try unfold dK)
 all_goals grind
theorem Fl (ts : List Int) (hl : bK ts = true) (m : Nat) (ih : ∀ l (d : Int), aP l < m → 0 ≤ d → d ≤ 1000 → PC Tryz.prog 128 [sl cI ts, sl aH l, iv d] (fun r => r = bv (okL ts d.toNat l))) (s : AL.Stmt) (d : Int) (hs : cL s ≤ m) (hd0 : 0 ≤ d) (hd : d ≤ 1000) :
  PC Tryz.prog 195 [sl cI ts, dN s, iv d] (fun r => r = bv (sS ts d.toNat s)) := by
 rw [J3 ts d hd0]
 refine aB Tryz.func195 Tryz.ntmps195 ?_
 repeat' (first|(apply aI;(first|(apply aA (k := 128);rfl;(apply ih <;> (first|omega|(have := iG s;omega)));exact Pur.pf;rfl)|(apply aA (k := 238);rfl;(apply C5 <;> (assumption));exact Pur.pf;rfl)))|refine aD ?_|refine aE ?_|(refine aM ?_ ?_ <;> intro hc hq <;> try (exfalso;omega))|(refine bU ?_ ?_ <;> intro hg hq <;> try (exfalso;omega))|refine c5 ?_|fail)
 all_goals (refine ⟨?_, rfl⟩; simp only [aQ, AV.v.injEq, Value.bool.injEq, Value.int.injEq, true_and])
 all_goals (cases hth : s.th <;> cases hel : s.el <;> simp only [hth, hel, List.length_nil, List.length_cons, List.isEmpty_nil, List.isEmpty_cons, Bool.true_and, Bool.false_and] at *)
 all_goals grind
theorem E8 (ts : List Int) (hl : bK ts = true) (m : Nat) (ih : ∀ s (d : Int), cL s ≤ m → 0 ≤ d → d ≤ 1000 → PC Tryz.prog 195 [sl cI ts, dN s, iv d] (fun r => r = bv (sS ts d.toNat s))) (l : List AL.Stmt) (d : Int) (hs : aP l ≤ m) (hm : m ≤ 100000000) (hd0 : 0 ≤ d) (hd : d ≤ 1000) :
  PC Tryz.prog 128 [sl cI ts, sl aH l, iv d] (fun r => r = bv (okL ts d.toNat l)) := by
 have hlen := cC l
 refine aB Tryz.func128 Tryz.ntmps128 ?_
 repeat' (first|refine aD ?_|refine aE ?_|fail)
 refine aK (σ := Nat) [0, 1, 2] [] (fun k => [(7, iv (k : Int))]) (fun k => []) (fun k => k ≤ l.length ∧ ∀ i, i < k → sS ts d.toNat l[i]! = true) (fun k => l.length - k) (0) ⟨by omega, by omega⟩ ?_
 intro k ⟨hk, hall⟩
 have hck := fB l k
 repeat' (first|(apply aI;(apply aA (k := 195);rfl;(apply ih _ d (Nat.le_trans (hck (by omega)) hs) hd0 hd);exact Pur.pf;rfl))|refine aD ?_|refine aE ?_|(refine aM ?_ ?_ <;> intro hc hq <;> try (exfalso;omega))|refine c5 ?_|fail)
 ·(refine ⟨?_, rfl⟩; simp only [aQ, AV.v.injEq, Value.bool.injEq, Value.int.injEq, true_and])
  rw [G8 (k := k) (by omega) hq]
 ·(refine bH (k + 1) (Le.renA []) ?_ ?_)
  ·grind
  ·omega
 ·(refine ⟨?_, rfl⟩; simp only [aQ, AV.v.injEq, Value.bool.injEq, Value.int.injEq, true_and])
  rw [KX (fun i hi => hall i (by omega))]
theorem JR (ts : List Int) (hl : bK ts = true) : ∀ (m : Nat), m ≤ 100000000 → (∀ s (d : Int), cL s ≤ m → 0 ≤ d → d ≤ 1000 → PC Tryz.prog 195 [sl cI ts, dN s, iv d] (fun r => r = bv (sS ts d.toNat s))) ∧
  (∀ l (d : Int), aP l ≤ m → 0 ≤ d → d ≤ 1000 → PC Tryz.prog 128 [sl cI ts, sl aH l, iv d] (fun r => r = bv (okL ts d.toNat l))) := by
 intro m
 induction m using Nat.strongRecOn with
 | ind m ih =>
  intro hm
  have h1 : ∀ s (d : Int), cL s ≤ m → 0 ≤ d → d ≤ 1000 → PC Tryz.prog 195 [sl cI ts, dN s, iv d] (fun r => r = bv (sS ts d.toNat s)) :=
   fun s d h1 h2 h3 => Fl ts hl m (fun l d' g1 g2 g3 => (ih (aP l) g1 (by omega)).2 l d' (Nat.le_refl _) g2 g3) s d h1 h2 h3
  exact ⟨h1, fun l d g1 g2 g3 => E8 ts hl m h1 l d g1 hm g2 g3⟩
theorem C8 (m0 : Nat) (ih : ∀ l (most : Int), aP l < m0 → -1 ≤ most → most ≤ 1000 → PC Tryz.prog 129 [sl aH l, iv most] (fun r => r = iv (nK most 0 l))) (l : List AL.Stmt) (most : Int) (hs : aP l ≤ m0) (hm : m0 ≤ 100000000) (hd0 : -1 ≤ most) (hd : most ≤ 1000) :
  PC Tryz.prog 129 [sl aH l, iv most] (fun r => r = iv (nK most 0 l)) := by
 have hlen := cC l
 have hall := mD l most 0
 refine aB Tryz.func129 Tryz.ntmps129 ?_
 repeat' (first|refine aD ?_|refine aE ?_|fail)
 refine aK (σ := Nat × Int) [0, 1] [] (fun k => [(6, iv (k.1 : Int)), (5, iv k.2)]) (fun k => []) (fun k => k.1 ≤ l.length ∧ nK most k.2 (l.drop k.1) = nK most 0 l ∧ 0 ≤ k.2 ∧ k.2 ≤ aP l) (fun k => l.length - k.1) (0, 0) ⟨by omega, rfl, by omega, by omega⟩ ?_
 rintro ⟨k, n⟩ ⟨hk, hn, hn0, hn1⟩
 dsimp only at hk hn hn0 hn1 ⊢
 have hck := fB l k
 have hct := iG l[k]!
 have b1 := mD l[k]!.th (most - n) 0
 have b2 := fun z => mD l[k]!.el z 0
 have b3 := Ho l[k]! most n
 have b4 := mD (l.drop (k + 1)) most (GQ most n l[k]!)
 have b5 := Hi most n l k
 rw [JS] at b3 b4 b5
 repeat' (first|(apply aI;(apply aA (k := 129);rfl;(apply ih <;> omega);exact Pur.pf;rfl))|refine aD ?_|refine aE ?_|(refine aM ?_ ?_ <;> intro hc hq <;> try (exfalso;omega))|(refine bU ?_ ?_ <;> intro hg hq <;> try (exfalso;omega))|refine c5 ?_|fail)
 ·(refine bH (k + 1, n + 1 + nK (most - n) 0 l[k]!.th + nK (most - (n + 1 + nK (most - n) 0 l[k]!.th)) 0 l[k]!.el) (Le.renA []) ?_ ?_)
  ·dsimp only;grind
  ·dsimp only;omega
 ·(refine bH (k + 1, n + 1 + nK (most - n) 0 l[k]!.th) (Le.renA []) ?_ ?_)
  ·dsimp only;grind
  ·dsimp only;omega
 ·(refine ⟨?_, rfl⟩; simp only [aQ, AV.v.injEq, Value.bool.injEq, Value.int.injEq, true_and])
  rw [← hn, G4 _ _ _ (by omega)]
 ·(refine ⟨?_, rfl⟩; simp only [aQ, AV.v.injEq, Value.bool.injEq, Value.int.injEq, true_and])
  rw [← hn, J5 _ _ _ _ (by omega)]
theorem FF (l : List AL.Stmt) (most : Int) (hs : aP l ≤ 100000000) (hd0 : -1 ≤ most) (hd : most ≤ 1000) :
  PC Tryz.prog 129 [sl aH l, iv most] (fun r => r = iv (nK most 0 l)) := by
 have h : ∀ (m : Nat), m ≤ 100000000 → ∀ l (most : Int), aP l ≤ m → -1 ≤ most → most ≤ 1000 → PC Tryz.prog 129 [sl aH l, iv most] (fun r => r = iv (nK most 0 l)) := by
  intro m
  induction m using Nat.strongRecOn with
  | ind m ih =>
   intro hm l most h1 h2 h3
   exact C8 m (fun l' most' g1 g2 g3 => ih _ g1 (by omega) l' most' (Nat.le_refl _) g2 g3) l most h1 hm h2 h3
 exact h _ hs l most (Nat.le_refl _) hd0 hd
theorem It (ts : List Int) (l : List AL.Stmt) (d : Int) (hl : bK ts = true) (hs : aP l ≤ 100000000) (hd0 : 0 ≤ d) (hd : d ≤ 1000) : PC Tryz.prog 128 [sl cI ts, sl aH l, iv d] (fun r => r = bv (okL ts d.toNat l)) :=
 (JR ts hl _ hs).2 l d (Nat.le_refl _) hd0 hd
theorem wU (ts : List Int) (hl : ts.length ≤ 1000000) : PC Tryz.prog 127 [sl cI ts] (fun r => r = bv (bK ts)) := by
 refine aB Tryz.func127 Tryz.ntmps127 ?_
 repeat' (first|refine aD ?_|refine aE ?_|fail)
 refine aK (σ := Nat) [0] [] (fun k => [(3, iv (k : Int))]) (fun k => []) (fun k => k ≤ ts.length ∧ ∀ i, i < k → 1 ≤ ts[i]! ∧ ts[i]! ≤ 4) (fun k => ts.length - k) (0) ⟨by omega, by omega⟩ ?_
 intro k ⟨hk, hall⟩
 repeat' (first|refine aD ?_|refine aE ?_|(refine aM ?_ ?_ <;> intro hc hq <;> try (exfalso;omega))|(refine bU ?_ ?_ <;> intro hg hq <;> try (exfalso;omega))|refine c5 ?_|fail)
 ·(refine ⟨?_, rfl⟩; simp only [aQ, AV.v.injEq, Value.bool.injEq, Value.int.injEq, true_and])
  unfold bK;grind [nD, jY]
 ·(refine bH (k + 1) (Le.renA []) ?_ ?_)
  ·grind
  ·omega
 ·(refine ⟨?_, rfl⟩; simp only [aQ, AV.v.injEq, Value.bool.injEq, Value.int.injEq, true_and])
  unfold bK;grind [nD, jY]
 ·(refine ⟨?_, rfl⟩; simp only [aQ, AV.v.injEq, Value.bool.injEq, Value.int.injEq, true_and])
  unfold bK;grind [nD, jY]
theorem gY (p : Prg) (hl : p.types.length ≤ 1000000) (hs : aP p.body ≤ 100000000) : PC Tryz.prog 61 [bQ p] (fun r => r = bv (bB p)) := by
 unfold bB
 cases ht : bK p.types
 ·refine aB Tryz.func61 Tryz.ntmps61 ?_
  repeat' (first|(apply aI;(apply aA (k := 127);rfl;(apply wU <;> (assumption));exact Pur.pf;rfl))|refine aD ?_|refine aE ?_|refine c5 ?_|fail)
  (refine ⟨?_, rfl⟩; simp only [aQ, AV.v.injEq, Value.bool.injEq, Value.int.injEq, true_and])
  rfl
 ·refine aB Tryz.func61 Tryz.ntmps61 ?_
  repeat' (first|(apply aI;(first|(apply aA (k := 127);rfl;(apply wU <;> (assumption));exact Pur.pf;rfl)|(apply aA (k := 128);rfl;(apply It <;> (first|assumption|omega));exact Pur.pf;rfl)|(apply aA (k := 129);rfl;(apply FF <;> (first|assumption|omega));exact Pur.pf;rfl)))|refine aD ?_|refine aE ?_|(refine bU ?_ ?_ <;> intro hg hq <;> try (exfalso;omega))|refine c5 ?_|fail)
  ·(refine ⟨?_, rfl⟩; simp only [aQ, AV.v.injEq, Value.bool.injEq, Value.int.injEq, true_and])
   rw [show okL p.types 4 p.body = true from hq]; simp only [Bool.true_and, N8, decide_eq_decide]; omega
  ·(refine ⟨?_, rfl⟩; simp only [aQ, AV.v.injEq, Value.bool.injEq, Value.int.injEq, true_and])
   rw [show okL p.types 4 p.body = false from hq]; rfl
end Go.Proofs.YtahdccneecdmmaaGreat
namespace Go.Proofs.YtahdccneecdmmaaGreat
open Go.AL Go.RowKit
theorem K3 {ts : List Int} {s : AL.Stmt} {nest c : Int} {N : Nat} {Q : Exit → AS → Prop} {all : Array Oper} {rest : List Oper} {tsl : List (Nat × AV)} {hsl : List (Nat × Option (List AV))} {nidl : Nat} {z0 : Lo} {md : Md} {d : Nat} {ty : TypeId} {pos : String} {af : Array Edge} {tys : Array TypeId} {x0 x1 x2 x3 : Operand} {i0 : Nat} (ha0 : ev (lk tsl) x0 = some (sl cI ts)) (ha1 : ev (lk tsl) x1 = some (dN s)) (ha2 : ev (lk tsl) x2 = some (iv nest)) (ha3 : ev (lk tsl) x3 = some (.optr i0 0)) (hH0 : aS hsl i0 = some ([iv c])) (hmc : MC Tryz.prog 180 [sl cI ts, dN s, iv nest, .optr 0 0] [(0, some ([iv c]))] 1 (fun _ : Unit => True) (fun _ => bv (mK ts nest c s).1) (fun _ => [(0, some ([iv (mK ts nest c s).2]))])) (hM : Nat.ble (nidl + 0) aY = true) (hN : Nat.blt d N = true) {md' : Md} [hmd : MdA md (fK [x0, x1, x2, x3] ++ [.inr i0]) (List.map Sum.inr (List.map Prod.fst ([(i0, some ([iv (mK ts nest c s).2]))] : List (Nat × Option (List AV)))) ++ [.inl d]) md'] (kk : RW Tryz.prog N all Q md' rest ⟨(d, bv (mK ts nest c s).1) :: tsl, gR hsl [(i0, some ([iv (mK ts nest c s).2]))], nidl + 0, z0⟩) : RW Tryz.prog N all Q md (⟨some d, .call ⟨.value (.func 180), #[x0, x1, x2, x3], tys⟩, ty, pos, af, none⟩ :: rest) ⟨tsl, hsl, nidl, z0⟩ := by
 refine a6 [i0] 1 [(i0, some ([iv (mK ts nest c s).2]))] hmc (avs := [sl cI ts, dN s, iv nest, .optr i0 0]) ?_ rfl ?_ rfl ?_ (by simpa using hM) ?_ ?_ ?_ hN (md' := md') (hmd := hmd) kk
 ·show evL (lk tsl) [x0, x1, x2, x3] = _
  simp only [evL, ha0, ha1, ha2, ha3]
 ·exact ⟨⟨_, _, rfl, hH0, by (repeat' (exact RnL.purI inferInstance))⟩, trivial⟩
 ·(repeat' (first|exact RnL.purI inferInstance|exact RnV.purI inferInstance|exact RnV.optr rfl|refine RnL.cons ?_ ?_))
 ·(repeat' (exact RnV.purI inferInstance))
 ·simp [cA]
 ·(repeat' (first|exact trivial|(refine And.intro ⟨0, _, rfl, rfl, ?_⟩ ?_)|exact RnL.purI inferInstance))
theorem tW {ts : List Int} {l : List AL.Stmt} {nest c : Int} {N : Nat} {Q : Exit → AS → Prop} {all : Array Oper} {rest : List Oper} {tsl : List (Nat × AV)} {hsl : List (Nat × Option (List AV))} {nidl : Nat} {z0 : Lo} {md : Md} {d : Nat} {ty : TypeId} {pos : String} {af : Array Edge} {tys : Array TypeId} {x0 x1 x2 x3 : Operand} {i0 : Nat} (ha0 : ev (lk tsl) x0 = some (sl cI ts)) (ha1 : ev (lk tsl) x1 = some (sl aH l)) (ha2 : ev (lk tsl) x2 = some (iv nest)) (ha3 : ev (lk tsl) x3 = some (.optr i0 0)) (hH0 : aS hsl i0 = some ([iv c])) (hmc : MC Tryz.prog 101 [sl cI ts, sl aH l, iv nest, .optr 0 0] [(0, some ([iv c]))] 1 (fun _ : Unit => True) (fun _ => bv (j8 ts nest c l).1) (fun _ => [(0, some ([iv (j8 ts nest c l).2]))])) (hM : Nat.ble (nidl + 0) aY = true) (hN : Nat.blt d N = true) {md' : Md} [hmd : MdA md (fK [x0, x1, x2, x3] ++ [.inr i0]) (List.map Sum.inr (List.map Prod.fst ([(i0, some ([iv (j8 ts nest c l).2]))] : List (Nat × Option (List AV)))) ++ [.inl d]) md'] (kk : RW Tryz.prog N all Q md' rest ⟨(d, bv (j8 ts nest c l).1) :: tsl, gR hsl [(i0, some ([iv (j8 ts nest c l).2]))], nidl + 0, z0⟩) : RW Tryz.prog N all Q md (⟨some d, .call ⟨.value (.func 101), #[x0, x1, x2, x3], tys⟩, ty, pos, af, none⟩ :: rest) ⟨tsl, hsl, nidl, z0⟩ := by
 refine a6 [i0] 1 [(i0, some ([iv (j8 ts nest c l).2]))] hmc (avs := [sl cI ts, sl aH l, iv nest, .optr i0 0]) ?_ rfl ?_ rfl ?_ (by simpa using hM) ?_ ?_ ?_ hN (md' := md') (hmd := hmd) kk
 ·show evL (lk tsl) [x0, x1, x2, x3] = _
  simp only [evL, ha0, ha1, ha2, ha3]
 ·exact ⟨⟨_, _, rfl, hH0, by (repeat' (exact RnL.purI inferInstance))⟩, trivial⟩
 ·(repeat' (first|exact RnL.purI inferInstance|exact RnV.purI inferInstance|exact RnV.optr rfl|refine RnL.cons ?_ ?_))
 ·(repeat' (exact RnV.purI inferInstance))
 ·simp [cA]
 ·(repeat' (first|exact trivial|(refine And.intro ⟨0, _, rfl, rfl, ?_⟩ ?_)|exact RnL.purI inferInstance))
theorem LR (ts : List Int) (htO : bK ts = true) (m : Nat) (scanAll_ih : ∀ l nest c, aP l < m → 0 ≤ nest → nest ≤ 4 → 0 ≤ c → c ≤ 30 → MC Tryz.prog 101 [sl cI ts, sl aH l, iv nest, .optr 0 0] [(0, some ([iv c]))] 1 (fun _ : Unit => True) (fun _ => bv (j8 ts nest c l).1) (fun _ => [(0, some ([iv (j8 ts nest c l).2]))])) (s : AL.Stmt) (nest c : Int) (hs : cL s ≤ m) (hn0 : 0 ≤ nest) (hn : nest ≤ 4) (hc0 : 0 ≤ c) (hc : c ≤ 30) : MC Tryz.prog 180 [sl cI ts, dN s, iv nest, .optr 0 0] [(0, some ([iv c]))] 1 (fun _ : Unit => True) (fun _ => bv (mK ts nest c s).1) (fun _ => [(0, some ([iv (mK ts nest c s).2]))]) := by
 have ct := iG s
 have hb1 := NO ts s.th (nest + 1) (c + 1)
 refine aX Tryz.func180 Tryz.ntmps180 ?_
 repeat' (first|(apply aI;(first|(apply tW;rfl;rfl;rfl;rfl;(rfl);(apply scanAll_ih <;> (first|assumption|omega|grind));rfl;rfl)|(apply aA (k := 230);rfl;(apply Dd);(rfl);rfl)|(apply aA (k := 231);rfl;(apply Cw <;> (assumption));exact Pur.pf;rfl)))|refine aD ?_|refine aE ?_|(refine aM ?_ ?_ <;> intro hc hq <;> try (exfalso;omega))|(refine bU ?_ ?_ <;> intro hg hq <;> try (exfalso;omega))|fail)
 all_goals (refine aF rfl ?_; refine aU () trivial ?_ ⟨.inr (Eq.trans (b := some _) rfl ?_), trivial⟩)
 all_goals (try simp only [aQ, AV.v.injEq, Value.bool.injEq, Value.int.injEq, true_and, gI, List.take, List.drop, List.length, List.append, List.nil_append, List.append_nil, Option.some.injEq, List.cons.injEq, and_true])
 all_goals rw [LJ]
 all_goals clear scanAll_ih
 all_goals (cases hel : s.el <;> simp only [hel, List.length_nil, List.length_cons] at * <;> grind)
theorem BY (ts : List Int) (m : Nat) (hm : m ≤ 100000000) (scan_ih : ∀ s nest c, cL s ≤ m → 0 ≤ nest → nest ≤ 4 → 0 ≤ c → c ≤ 30 → MC Tryz.prog 180 [sl cI ts, dN s, iv nest, .optr 0 0] [(0, some ([iv c]))] 1 (fun _ : Unit => True) (fun _ => bv (mK ts nest c s).1) (fun _ => [(0, some ([iv (mK ts nest c s).2]))])) (l : List AL.Stmt) (nest c : Int) (hs : aP l ≤ m) (hn0 : 0 ≤ nest) (hn : nest ≤ 4) (hc0 : 0 ≤ c) (hc : c ≤ 30) : MC Tryz.prog 101 [sl cI ts, sl aH l, iv nest, .optr 0 0] [(0, some ([iv c]))] 1 (fun _ : Unit => True) (fun _ => bv (j8 ts nest c l).1) (fun _ => [(0, some ([iv (j8 ts nest c l).2]))]) := by
 have hlen := cC l
 refine aX Tryz.func101 Tryz.ntmps101 ?_
 repeat' (first|refine aD ?_|refine aE ?_|fail)
 refine aK (σ := Nat × Int) [0, 2, 3, 11, 12] [] (fun k => [(13, iv (k.1 : Int))]) (fun k => [(0, some [iv k.2])]) (fun k => k.1 ≤ l.length ∧ j8 ts nest k.2 (l.drop k.1) = j8 ts nest c l ∧ 0 ≤ k.2 ∧ k.2 ≤ 30) (fun k => l.length - k.1) (0, c) ⟨by omega, rfl, by omega, by omega⟩ ?_
 rintro ⟨k, c'⟩ ⟨hk, hn, hn0, hn1⟩
 dsimp only at hk hn hn0 hn1 ⊢
 have hck := fB l k
 have hb1 := M5 ts l[k]! nest c'
 have hst := @scL_stop ts nest c' l k
 repeat' (first|(apply aI;(apply K3;rfl;rfl;rfl;rfl;(rfl);(apply scan_ih <;> (first|assumption|omega));rfl;rfl))|refine aD ?_|refine aE ?_|(refine aM ?_ ?_ <;> intro hc hq <;> try (exfalso;omega))|fail)
 ·(refine aF rfl ?_; refine aU () trivial ?_ ⟨.inr (Eq.trans (b := some _) rfl ?_), trivial⟩)
  all_goals (try simp only [aQ, AV.v.injEq, Value.bool.injEq, Value.int.injEq, true_and, gI, List.take, List.drop, List.length, List.append, List.nil_append, List.append_nil, Option.some.injEq, List.cons.injEq, and_true])
  all_goals (rw [← hn, hst (by omega)]; grind)
 ·(refine bH (k + 1, (mK ts nest c' l[k]!).2) (Le.renA []) ?_ ?_)
  ·dsimp only;grind
  ·dsimp only;omega
 ·(refine aF rfl ?_; refine aU () trivial ?_ ⟨.inr (Eq.trans (b := some _) rfl ?_), trivial⟩)
  all_goals (try simp only [aQ, AV.v.injEq, Value.bool.injEq, Value.int.injEq, true_and, gI, List.take, List.drop, List.length, List.append, List.nil_append, List.append_nil, Option.some.injEq, List.cons.injEq, and_true])
  all_goals (rw [← hn, List.drop_of_length_le (by omega), j8])
theorem ET (ts : List Int) (hl : bK ts = true) : ∀ (m : Nat), m ≤ 100000000 → (∀ s (nest c : Int), cL s ≤ m → 0 ≤ nest → nest ≤ 4 → 0 ≤ c → c ≤ 30 → MC Tryz.prog 180 [sl cI ts, dN s, iv nest, .optr 0 0] [(0, some ([iv c]))] 1 (fun _ : Unit => True) (fun _ => bv (mK ts nest c s).1) (fun _ => [(0, some ([iv (mK ts nest c s).2]))])) ∧
  (∀ l (nest c : Int), aP l ≤ m → 0 ≤ nest → nest ≤ 4 → 0 ≤ c → c ≤ 30 → MC Tryz.prog 101 [sl cI ts, sl aH l, iv nest, .optr 0 0] [(0, some ([iv c]))] 1 (fun _ : Unit => True) (fun _ => bv (j8 ts nest c l).1) (fun _ => [(0, some ([iv (j8 ts nest c l).2]))])) := by
 intro m
 induction m using Nat.strongRecOn with
 | ind m ih =>
  intro hm
  have h1 : ∀ s (nest c : Int), cL s ≤ m → 0 ≤ nest → nest ≤ 4 → 0 ≤ c → c ≤ 30 → MC Tryz.prog 180 [sl cI ts, dN s, iv nest, .optr 0 0] [(0, some ([iv c]))] 1 (fun _ : Unit => True) (fun _ => bv (mK ts nest c s).1) (fun _ => [(0, some ([iv (mK ts nest c s).2]))]) :=
   fun s nest c h1 h2 h3 h4 h5 => LR ts hl m (fun l nest c g1 g2 g3 g4 g5 => (ih (aP l) g1 (by omega)).2 l nest c (Nat.le_refl _) g2 g3 g4 g5) s nest c h1 h2 h3 h4 h5
  exact ⟨h1, fun l nest c g1 g2 g3 g4 g5 => BY ts m hm h1 l nest c g1 g2 g3 g4 g5⟩
theorem Fg (ts : List Int) (l : List AL.Stmt) (nest c : Int) (hl : bK ts = true) (hs : aP l ≤ 100000000) (hn0 : 0 ≤ nest) (hn : nest ≤ 4) (hc0 : 0 ≤ c) (hc : c ≤ 30) : MC Tryz.prog 101 [sl cI ts, sl aH l, iv nest, .optr 0 0] [(0, some ([iv c]))] 1 (fun _ : Unit => True) (fun _ => bv (j8 ts nest c l).1) (fun _ => [(0, some ([iv (j8 ts nest c l).2]))]) :=
 (ET ts hl _ hs).2 l nest c (Nat.le_refl _) hn0 hn hc0 hc
theorem B4 (t : Int) : PC Tryz.prog 179 [iv t] (fun r => r = bv (!(decide (1 ≤ t) && decide (t ≤ 4)))) := by
 refine aB Tryz.func179 Tryz.ntmps179 ?_
 repeat' (first|(apply aI;(apply aA (k := 54);rfl;(apply cO);(rfl);rfl))|refine aD ?_|refine aE ?_|refine c5 ?_|fail)
 all_goals (refine ⟨?_, rfl⟩; simp only [aQ, AV.v.injEq, Value.bool.injEq, Value.int.injEq, true_and])
def sX (ts : List Int) : Int := match ts.findIdx? (fun t => !(decide (1 ≤ t) && decide (t ≤ 4))) with | some i => i | none => -1
theorem GK (ts : List Int) (hl : ts.length ≤ 1000000) : PC Tryz.prog 216 [sl cI ts, .v (.func (.func 179) #[] #[])] (fun r => r = iv (sX ts)) := by
 refine aB Tryz.func216 Tryz.ntmps216 ?_
 repeat' (first|refine aD ?_|refine aE ?_|fail)
 refine aK (σ := Nat) [0, 1, 7] [] (fun k => [(8, iv (k : Int))]) (fun k => []) (fun k => k ≤ ts.length ∧ ∀ i, i < k → 1 ≤ ts[i]! ∧ ts[i]! ≤ 4) (fun k => ts.length - k) (0) ⟨by omega, by omega⟩ ?_
 intro k ⟨hk, hall⟩
 repeat' (first|(apply aI;(apply gZ;rfl;rfl;infer_instance;rfl;(apply B4);(rfl);rfl))|refine aD ?_|refine aE ?_|(refine aM ?_ ?_ <;> intro hc hq <;> try (exfalso;omega))|refine c5 ?_|fail)
 ·(refine ⟨?_, rfl⟩; simp only [aQ, AV.v.injEq, Value.bool.injEq, Value.int.injEq, true_and])
  have hlt : k < ts.length := by omega
  have : ts.findIdx? (fun t => !(decide (1 ≤ t) && decide (t ≤ 4))) = some k := by
   rw [List.findIdx?_eq_some_iff_getElem]
   refine ⟨hlt, ?_, fun j hj => ?_⟩
   ·rw [← aZ ts k hlt]; grind
   ·have := hall j hj;rw [aZ ts j (by omega)] at this;simp;omega
  simp only [sX, this]
 ·(refine bH (k + 1) (Le.renA []) ?_ ?_)
  ·grind
  ·omega
 ·(refine ⟨?_, rfl⟩; simp only [aQ, AV.v.injEq, Value.bool.injEq, Value.int.injEq, true_and])
  have : ts.findIdx? (fun t => !(decide (1 ≤ t) && decide (t ≤ 4))) = none := by
   rw [List.findIdx?_eq_none_iff]
   intro x hx
   obtain ⟨i, hi, rfl⟩ := List.getElem_of_mem hx
   have := hall i (by omega);rw [aZ ts i hi] at this;simp;omega
  simp only [sX, this]
theorem Fp (ts : List Int) : decide (0 ≤ sX ts) = !(ts.all (fun t => decide (1 ≤ t) && decide (t ≤ 4))) := by
 unfold sX
 split
 ·rename_i i h
  obtain ⟨h1, h2, _⟩ := List.findIdx?_eq_some_iff_getElem.1 h
  have : ts.all (fun t => decide (1 ≤ t) && decide (t ≤ 4)) = false := by
   rw [List.all_eq_false]; exact ⟨ts[i], List.getElem_mem h1, by simp at h2 ⊢; omega⟩
  rw [this]; simp
 ·rename_i h
  rw [List.findIdx?_eq_none_iff] at h
  have : ts.all (fun t => decide (1 ≤ t) && decide (t ≤ 4)) = true := by
   rw [List.all_eq_true]; intro x hx;simpa using h x hx
  rw [this]; rfl
theorem FZ (ts : List Int) (hl : ts.length ≤ 1000000) : PC Tryz.prog 157 [sl cI ts, .v (.func (.func 179) #[] #[])] (fun r => r = bv (!(ts.all (fun t => decide (1 ≤ t) && decide (t ≤ 4))))) := by
 refine aB Tryz.func157 Tryz.ntmps157 ?_
 repeat' (first|(apply aI;(apply aA (k := 216);rfl;(apply GK <;> (assumption));exact Pur.pf;rfl))|refine aD ?_|refine aE ?_|refine c5 ?_|fail)
 (refine ⟨?_, rfl⟩; simp only [aQ, AV.v.injEq, Value.bool.injEq, Value.int.injEq, true_and])
 exact Fp ts
theorem sQ (ts : List Int) (hl : ts.length ≤ 1000000) : PC Tryz.prog 100 [sl cI ts] (fun r => r = bv (bK ts)) := by
 refine aB Tryz.func100 Tryz.ntmps100 ?_
 repeat' (first|(apply aI;(apply aA (k := 157);rfl;(apply FZ <;> (assumption));exact Pur.pf;rfl))|refine aD ?_|refine aE ?_|(refine bU ?_ ?_ <;> intro hg hq <;> try (exfalso;omega))|refine c5 ?_|fail)
 all_goals (refine ⟨?_, rfl⟩; simp only [aQ, AV.v.injEq, Value.bool.injEq, Value.int.injEq, true_and])
 all_goals (unfold bK;grind)
theorem kH (p : Prg) (hl : p.types.length ≤ 1000000) (hs : aP p.body ≤ 100000000) : PC Tryz.prog 39 [bQ p] (fun r => r = bv (bB p)) := by
 rw [← Fk]
 cases ht : bK p.types
 ·refine aB Tryz.func39 Tryz.ntmps39 ?_
  repeat' (first|(apply aI;(apply aA (k := 100);rfl;(apply sQ <;> (assumption));exact Pur.pf;rfl))|refine aD ?_|refine aE ?_|refine c5 ?_|fail)
  all_goals (refine ⟨?_, rfl⟩; simp only [aQ, AV.v.injEq, Value.bool.injEq, Value.int.injEq, true_and])
  all_goals grind
 ·refine aB Tryz.func39 Tryz.ntmps39 ?_
  repeat' (first|(apply aI;(first|(apply aA (k := 100);rfl;(apply sQ <;> (assumption));exact Pur.pf;rfl)|(apply tW;rfl;rfl;rfl;rfl;(rfl);(apply Fg <;> (first|assumption|omega));rfl;rfl)))|refine aD ?_|refine aE ?_|refine c5 ?_|fail)
  all_goals (refine ⟨?_, rfl⟩; simp only [aQ, AV.v.injEq, Value.bool.injEq, Value.int.injEq, true_and])
  all_goals grind
theorem rE {l : List AL.Stmt} {pts : List Pnt} {m : Nat} {N : Nat} {Q : Exit → AS → Prop} {all : Array Oper} {rest : List Oper} {tsl : List (Nat × AV)} {hsl : List (Nat × Option (List AV))} {nidl : Nat} {z0 : Lo} {md : Md} {d : Nat} {ty : TypeId} {pos : String} {af : Array Edge} {tys : Array TypeId} {x0 x1 : Operand} {i0 : Nat} (ha0 : ev (lk tsl) x0 = some (sl aH l)) (ha1 : ev (lk tsl) x1 = some (.own i0 0 m 5)) (hH0 : aS hsl i0 = some (flat cF pts)) (hmc : MC Tryz.prog 122 [sl aH l, .own 0 0 m 5] [(0, some (flat cF pts))] 1 (fun _ : Unit => True) (fun _ => .own 1 0 (m + b8 l) 5) (fun _ => [(1, some (flat cF (pts ++ dZ pts.length l)))])) (hM : Nat.ble (nidl + 1) aY = true) (hN : Nat.blt d N = true) {md' : Md} [hmd : MdA md (fK [x0, x1] ++ [.inr i0]) (List.map Sum.inr (List.map Prod.fst ([(nidl, some (flat cF (pts ++ dZ pts.length l))), (i0, none)] : List (Nat × Option (List AV)))) ++ [.inl d]) md'] (kk : RW Tryz.prog N all Q md' rest ⟨(d, .own nidl 0 (m + b8 l) 5) :: tsl, gR hsl [(nidl, some (flat cF (pts ++ dZ pts.length l))), (i0, none)], nidl + 1, z0⟩) : RW Tryz.prog N all Q md (⟨some d, .call ⟨.value (.func 122), #[x0, x1], tys⟩, ty, pos, af, none⟩ :: rest) ⟨tsl, hsl, nidl, z0⟩ := by
 refine a6 [i0] 2 [(nidl, some (flat cF (pts ++ dZ pts.length l))), (i0, none)] hmc (avs := [sl aH l, .own i0 0 m 5]) ?_ rfl ?_ rfl ?_ (by simpa using hM) ?_ ?_ ?_ hN (md' := md') (hmd := hmd) kk
 ·show evL (lk tsl) [x0, x1] = _
  simp only [evL, ha0, ha1]
 ·exact ⟨⟨_, _, rfl, hH0, by (repeat' (exact RnL.purI inferInstance))⟩, trivial⟩
 ·(repeat' (first|exact RnL.purI inferInstance|exact RnV.purI inferInstance|exact RnV.own rfl|refine RnL.cons ?_ ?_))
 ·(repeat' (exact RnV.own rfl))
 ·simp [cA]
 ·(repeat' (first|exact trivial|(refine And.intro ⟨1, _, rfl, rfl, ?_⟩ ?_)|exact RnL.purI inferInstance))
theorem Bb (mm : Nat) (hmm : mm ≤ 1000000) (pointsOf_ih : ∀ l pts m, aP l < mm → m = pts.length → m + b8 l ≤ 12000000 → MC Tryz.prog 122 [sl aH l, .own 0 0 m 5] [(0, some (flat cF pts))] 1 (fun _ : Unit => True) (fun _ => .own 1 0 (m + b8 l) 5) (fun _ => [(1, some (flat cF (pts ++ dZ pts.length l)))])) (l : List AL.Stmt) (pts : List Pnt) (m : Nat) (hs : aP l ≤ mm) (hm : m = pts.length) (hb : m + b8 l ≤ 12000000) : MC Tryz.prog 122 [sl aH l, .own 0 0 m 5] [(0, some (flat cF pts))] 1 (fun _ : Unit => True) (fun _ => .own 1 0 (m + b8 l) 5) (fun _ => [(1, some (flat cF (pts ++ dZ pts.length l)))]) := by
 have hlen := cC l
 subst hm
 refine aX Tryz.func122 Tryz.ntmps122 ?_
 repeat' (first|refine aD ?_|refine aE ?_|fail)
 refine AW.le ?_ (Le.mv (d := 1) (i := 0) (cs := flat cF pts) rfl rfl (by decide))
 refine aK (σ := Nat × List Pnt × Nat) [9, 10] [] (fun k => [(11, iv (k.1 : Int)), (1, .own 1 0 k.2.2 5)]) (fun k => [(1, some (flat cF k.2.1))]) (fun k => k.1 ≤ l.length ∧ k.2.1 = pts ++ dZ pts.length (l.take k.1) ∧ k.2.2 = k.2.1.length ∧ k.2.2 = pts.length + b8 (l.take k.1)) (fun k => l.length - k.1) (0, pts, pts.length) ⟨by omega, by simp [dZ], rfl, by simp [b8]⟩ ?_
 rintro ⟨k, xs, m1⟩ ⟨hk, hxs, hm1, hm2⟩
 dsimp only at hk hxs hm1 hm2 ⊢
 have hck := fB l k
 have hct := iG l[k]!
 have hnt := CU l k
 have n9 := Gy l[k]!
 have n10 := Cp l[k]!
 have n1 := DZ l[k]!
 repeat' (first|(apply aI;first|(apply aO (t := _);rfl;rfl;rfl;(first|exact (rfl:_=some [_])|exact (rfl:_=some [_, _])|exact (rfl:_=some [_, _, _, _, _]));rfl;rfl)|(apply rE;rfl;rfl;(rfl);(apply pointsOf_ih <;> (first|omega|(simp only [hU] <;> omega)));rfl;rfl))|refine aD ?_|refine aE ?_|(refine aM ?_ ?_ <;> intro hc hq <;> try (exfalso;omega))|fail)
 ·(refine bH (k + 1, _, _) (Le.renA [(1, 8)]) ?_ ?_)
  ·dsimp only
   rw [xZ hm1, y5 hm1, yY (by rw [bE, hm1]), xM (by rw [bE, hm1]), fV l _ k (by omega), fE l k (by omega), gP, if_pos hq, n9 hq]
   refine ⟨by omega, ?_, by simp [bE]; omega, by omega⟩
   have e1 : xs.length = pts.length + b8 (l.take k) := by omega
   rw [← List.append_assoc pts, ← hxs, ← e1]
   simp only [List.append_assoc, List.length_append, List.length_cons, List.length_nil, bE, hm1, Nat.zero_add]
   clear pointsOf_ih hxs hck hnt n9 n10 n1
   grind
  ·dsimp only;omega
 ·(refine bH (k + 1, _, _) (Le.renA [(1, 8)]) ?_ ?_)
  ·dsimp only
   rw [CC hm1, BX hm1, fV l _ k (by omega), fE l k (by omega), gP, if_neg (by omega), if_pos hq, n10 hq]
   refine ⟨by omega, ?_, by simp [bE]; omega, by omega⟩
   have e1 : xs.length = pts.length + b8 (l.take k) := by omega
   rw [← List.append_assoc pts, ← hxs, ← e1]
   simp only [List.append_assoc, List.length_append, List.length_cons, List.length_nil, bE, hm1, Nat.zero_add]
   clear pointsOf_ih hxs hck hnt n9 n10 n1
   grind
  ·dsimp only;omega
 ·(refine bH (k + 1, _, _) (Le.renA [(1, 5)]) ?_ ?_)
  ·dsimp only
   rw [fV l _ k (by omega), fE l k (by omega), gP, if_neg ‹¬l[k]!.op = 9›, if_neg hq, n1 ‹¬l[k]!.op = 9› hq]
   refine ⟨by omega, ?_, by simp [bE]; omega, by omega⟩
   have e1 : xs.length = pts.length + b8 (l.take k) := by omega
   rw [← List.append_assoc pts, ← hxs, ← e1, hm1]
  ·dsimp only;omega
 ·refine aF rfl ?_
  have e2 : l.take k = l := List.take_of_length_le (by omega)
  rw [e2] at hxs hm2
  refine aU () trivial ?_ ⟨.inr (Eq.trans (b := some _) rfl ?_), trivial⟩
  ·simp only [aQ]; rw [hm2]
  ·rw [hxs]
theorem B2 (l : List AL.Stmt) (pts : List Pnt) (m : Nat) (hs : aP l ≤ 1000000) (hm : m = pts.length) (hb : m + b8 l ≤ 12000000) : MC Tryz.prog 122 [sl aH l, .own 0 0 m 5] [(0, some (flat cF pts))] 1 (fun _ : Unit => True) (fun _ => .own 1 0 (m + b8 l) 5) (fun _ => [(1, some (flat cF (pts ++ dZ pts.length l)))]) := by
 have h : ∀ (mm : Nat), mm ≤ 1000000 → ∀ l pts m, aP l ≤ mm → m = pts.length → m + b8 l ≤ 12000000 → MC Tryz.prog 122 [sl aH l, .own 0 0 m 5] [(0, some (flat cF pts))] 1 (fun _ : Unit => True) (fun _ => .own 1 0 (m + b8 l) 5) (fun _ => [(1, some (flat cF (pts ++ dZ pts.length l)))]) := by
  intro mm
  induction mm using Nat.strongRecOn with
  | ind mm ih =>
   intro h0 l pts m h1 h2 h3
   exact Bb mm h0 (fun l' pts' m' g1 g2 g3 => ih _ g1 (by omega) l' pts' m' (Nat.le_refl _) g2 g3) l pts m h1 h2 h3
 exact h _ hs l pts m (Nat.le_refl _) hm hb
theorem pL {l : List AL.Stmt} {N : Nat} {Q : Exit → AS → Prop} {all : Array Oper} {rest : List Oper} {tsl : List (Nat × AV)} {hsl : List (Nat × Option (List AV))} {nidl : Nat} {z0 : Lo} {md : Md} {d : Nat} {ty : TypeId} {pos : String} {af : Array Edge} {tys : Array TypeId} {x0 x1 : Operand} (ha0 : ev (lk tsl) x0 = some (sl aH l)) (ha1 : ev (lk tsl) x1 = some (.v (.slice none 0 0))) (hmc : MC Tryz.prog 122 [sl aH l, .v (.slice none 0 0)] [] 0 (fun _ : Unit => True) (fun _ => .own 0 0 (b8 l) 5) (fun _ => [(0, some (flat cF (dZ 0 l)))])) (hM : Nat.ble (nidl + 1) aY = true) (hN : Nat.blt d N = true) {md' : Md} [hmd : MdA md (fK [x0, x1] ++ []) (List.map Sum.inr (List.map Prod.fst ([(nidl, some (flat cF (dZ 0 l)))] : List (Nat × Option (List AV)))) ++ [.inl d]) md'] (kk : RW Tryz.prog N all Q md' rest ⟨(d, .own nidl 0 (b8 l) 5) :: tsl, gR hsl [(nidl, some (flat cF (dZ 0 l)))], nidl + 1, z0⟩) : RW Tryz.prog N all Q md (⟨some d, .call ⟨.value (.func 122), #[x0, x1], tys⟩, ty, pos, af, none⟩ :: rest) ⟨tsl, hsl, nidl, z0⟩ := by
 refine a6 [] 1 [(nidl, some (flat cF (dZ 0 l)))] hmc (avs := [sl aH l, .v (.slice none 0 0)]) ?_ rfl ?_ rfl ?_ (by simpa using hM) ?_ ?_ ?_ hN (md' := md') (hmd := hmd) kk
 ·show evL (lk tsl) [x0, x1] = _
  simp only [evL, ha0, ha1]
 ·exact trivial
 ·(repeat' (exact RnL.purI inferInstance))
 ·(repeat' (exact RnV.own rfl))
 ·simp [cA]
 ·(repeat' (first|exact trivial|(refine And.intro ⟨0, _, rfl, rfl, ?_⟩ ?_)|exact RnL.purI inferInstance))
theorem qY (l : List AL.Stmt) (hs : aP l ≤ 1000000) : MC Tryz.prog 122 [sl aH l, .v (.slice none 0 0)] [] 0 (fun _ : Unit => True) (fun _ => .own 0 0 (b8 l) 5) (fun _ => [(0, some (flat cF (dZ 0 l)))]) := by
 have hlen := cC l
 have hn2 := jE l
 refine aX Tryz.func122 Tryz.ntmps122 ?_
 repeat' (first|refine aD ?_|refine aE ?_|fail)
 refine AW.le ?_ (Le.nilOwn (d := 1) 5 rfl (by decide))
 refine aK (σ := Nat × List Pnt × Nat) [9, 10] [] (fun k => [(11, iv (k.1 : Int)), (1, .own 0 0 k.2.2 5)]) (fun k => [(0, some (flat cF k.2.1))]) (fun k => k.1 ≤ l.length ∧ k.2.1 = dZ 0 (l.take k.1) ∧ k.2.2 = k.2.1.length ∧ k.2.2 = b8 (l.take k.1)) (fun k => l.length - k.1) (0, [], 0) ⟨by omega, by simp [dZ], rfl, by simp [b8]⟩ ?_
 rintro ⟨k, xs, m1⟩ ⟨hk, hxs, hm1, hm2⟩
 dsimp only at hk hxs hm1 hm2 ⊢
 have hck := fB l k
 have hct := iG l[k]!
 have hnt := CU l k
 have n9 := Gy l[k]!
 have n10 := Cp l[k]!
 have n1 := DZ l[k]!
 repeat' (first|(apply aI;first|(apply aO (t := _);rfl;rfl;rfl;(first|exact (rfl:_=some [_])|exact (rfl:_=some [_, _])|exact (rfl:_=some [_, _, _, _, _]));rfl;rfl)|(apply rE;rfl;rfl;(rfl);(apply B2 <;> (first|omega|(simp only [hU] <;> omega)));rfl;rfl))|refine aD ?_|refine aE ?_|(refine aM ?_ ?_ <;> intro hc hq <;> try (exfalso;omega))|fail)
 ·(refine bH (k + 1, _, _) (Le.renA [(0, 7)]) ?_ ?_)
  ·dsimp only
   rw [xZ hm1, y5 hm1, yY (by rw [bE, hm1]), xM (by rw [bE, hm1]), fV l _ k (by omega), fE l k (by omega), gP, if_pos hq, n9 hq]
   refine ⟨by omega, ?_, by simp [bE]; omega, by omega⟩
   have e1 : b8 (l.take k) = xs.length := by omega
   rw [Nat.zero_add, e1]
   rw [← hxs]
   simp only [List.append_assoc, List.length_append, List.length_cons, List.length_nil, bE, hm1, Nat.zero_add]
   clear hxs hck hnt n9 n10 n1
   grind
  ·dsimp only;omega
 ·(refine bH (k + 1, _, _) (Le.renA [(0, 7)]) ?_ ?_)
  ·dsimp only
   rw [CC hm1, BX hm1, fV l _ k (by omega), fE l k (by omega), gP, if_neg (by omega), if_pos hq, n10 hq]
   refine ⟨by omega, ?_, by simp [bE]; omega, by omega⟩
   have e1 : b8 (l.take k) = xs.length := by omega
   rw [Nat.zero_add, e1]
   rw [← hxs]
   simp only [List.append_assoc, List.length_append, List.length_cons, List.length_nil, bE, hm1, Nat.zero_add]
   clear hxs hck hnt n9 n10 n1
   grind
  ·dsimp only;omega
 ·(refine bH (k + 1, _, _) (Le.renA [(0, 4)]) ?_ ?_)
  ·dsimp only
   rw [fV l _ k (by omega), fE l k (by omega), gP, if_neg ‹¬l[k]!.op = 9›, if_neg hq, n1 ‹¬l[k]!.op = 9› hq]
   refine ⟨by omega, ?_, by simp [bE]; omega, by omega⟩
   have e1 : b8 (l.take k) = xs.length := by omega
   rw [Nat.zero_add, e1]
   rw [← hxs, hm1]
  ·dsimp only;omega
 ·refine aF rfl ?_
  have e2 : l.take k = l := List.take_of_length_le (by omega)
  rw [e2] at hxs hm2
  refine aU () trivial ?_ ⟨.inr (Eq.trans (b := some _) rfl ?_), trivial⟩
  ·simp only [aQ]; rw [hm2]
  ·rw [hxs]
theorem Az (p : Prg) (hs : aP p.body ≤ 1000000) : PC Tryz.prog 80 [bQ p] (fun r => r = sl cF (aC p)) := by
 have hn := jE p.body
 refine aB Tryz.func80 Tryz.ntmps80 ?_
 repeat' (first|(apply aI;first|(apply aO (t := _);rfl;rfl;rfl;(exact (rfl:_=some [_, _, _, _, _]));rfl;rfl)|(apply pL;rfl;rfl;(apply qY <;> (assumption));rfl;rfl))|refine aD ?_|refine aE ?_|fail)
 (refine aV (Le.frzD (d := 2) (i := 3) rfl rfl) ?_; refine aF rfl ?_)
 refine ⟨?_, ?_⟩
 ·simp only [aQ, sl, aC, List.length_append, List.length_cons, List.length_nil, bE, Nat.zero_add]
 ·(exact bG _ _)
theorem vA {l : List AL.Stmt} {pts : List Pnt} {m : Nat} {N : Nat} {Q : Exit → AS → Prop} {all : Array Oper} {rest : List Oper} {tsl : List (Nat × AV)} {hsl : List (Nat × Option (List AV))} {nidl : Nat} {z0 : Lo} {md : Md} {d : Nat} {ty : TypeId} {pos : String} {af : Array Edge} {tys : Array TypeId} {x0 x1 : Operand} {i0 : Nat} (ha0 : ev (lk tsl) x0 = some (.own i0 0 m 5)) (ha1 : ev (lk tsl) x1 = some (sl aH l)) (hH0 : aS hsl i0 = some (flat cF pts)) (hmc : MC Tryz.prog 130 [.own 0 0 m 5, sl aH l] [(0, some (flat cF pts))] 1 (fun _ : Unit => True) (fun _ => .own 1 0 (m + b8 l) 5) (fun _ => [(1, some (flat cF (pts ++ dZ pts.length l)))])) (hM : Nat.ble (nidl + 1) aY = true) (hN : Nat.blt d N = true) {md' : Md} [hmd : MdA md (fK [x0, x1] ++ [.inr i0]) (List.map Sum.inr (List.map Prod.fst ([(nidl, some (flat cF (pts ++ dZ pts.length l))), (i0, none)] : List (Nat × Option (List AV)))) ++ [.inl d]) md'] (kk : RW Tryz.prog N all Q md' rest ⟨(d, .own nidl 0 (m + b8 l) 5) :: tsl, gR hsl [(nidl, some (flat cF (pts ++ dZ pts.length l))), (i0, none)], nidl + 1, z0⟩) : RW Tryz.prog N all Q md (⟨some d, .call ⟨.value (.func 130), #[x0, x1], tys⟩, ty, pos, af, none⟩ :: rest) ⟨tsl, hsl, nidl, z0⟩ := by
 refine a6 [i0] 2 [(nidl, some (flat cF (pts ++ dZ pts.length l))), (i0, none)] hmc (avs := [.own i0 0 m 5, sl aH l]) ?_ rfl ?_ rfl ?_ (by simpa using hM) ?_ ?_ ?_ hN (md' := md') (hmd := hmd) kk
 ·show evL (lk tsl) [x0, x1] = _
  simp only [evL, ha0, ha1]
 ·exact ⟨⟨_, _, rfl, hH0, by (repeat' (exact RnL.purI inferInstance))⟩, trivial⟩
 ·(repeat' (first|exact RnL.purI inferInstance|exact RnV.own rfl|refine RnL.cons ?_ ?_))
 ·(repeat' (exact RnV.own rfl))
 ·simp [cA]
 ·(repeat' (first|exact trivial|(refine And.intro ⟨1, _, rfl, rfl, ?_⟩ ?_)|exact RnL.purI inferInstance))
theorem I7 (mm : Nat) (hmm : mm ≤ 1000000) (l2Add_ih : ∀ l pts m, aP l < mm → m = pts.length → m + b8 l ≤ 12000000 → MC Tryz.prog 130 [.own 0 0 m 5, sl aH l] [(0, some (flat cF pts))] 1 (fun _ : Unit => True) (fun _ => .own 1 0 (m + b8 l) 5) (fun _ => [(1, some (flat cF (pts ++ dZ pts.length l)))])) (l : List AL.Stmt) (pts : List Pnt) (m : Nat) (hs : aP l ≤ mm) (hm : m = pts.length) (hb : m + b8 l ≤ 12000000) : MC Tryz.prog 130 [.own 0 0 m 5, sl aH l] [(0, some (flat cF pts))] 1 (fun _ : Unit => True) (fun _ => .own 1 0 (m + b8 l) 5) (fun _ => [(1, some (flat cF (pts ++ dZ pts.length l)))]) := by
 have hlen := cC l
 subst hm
 refine aX Tryz.func130 Tryz.ntmps130 ?_
 repeat' (first|refine aD ?_|refine aE ?_|fail)
 refine AW.le ?_ (Le.mv (d := 0) (i := 0) (cs := flat cF pts) rfl rfl (by decide))
 refine aK (σ := Nat × List Pnt × Nat) [1] [] (fun k => [(5, iv (k.1 : Int)), (0, .own 1 0 k.2.2 5)]) (fun k => [(1, some (flat cF k.2.1))]) (fun k => k.1 ≤ l.length ∧ k.2.1 = pts ++ dZ pts.length (l.take k.1) ∧ k.2.2 = k.2.1.length ∧ k.2.2 = pts.length + b8 (l.take k.1)) (fun k => l.length - k.1) (0, pts, pts.length) ⟨by omega, by simp [dZ], rfl, by simp [b8]⟩ ?_
 rintro ⟨k, xs, m1⟩ ⟨hk, hxs, hm1, hm2⟩
 dsimp only at hk hxs hm1 hm2 ⊢
 have hck := fB l k
 have hct := iG l[k]!
 have hnt := CU l k
 have n9 := Gy l[k]!
 have n10 := Cp l[k]!
 have n1 := DZ l[k]!
 repeat' (first|(apply aI;first|(apply aO (t := _);rfl;rfl;rfl;(first|exact (rfl:_=some [_])|exact (rfl:_=some [_, _])|exact (rfl:_=some [_, _, _, _, _]));rfl;rfl)|(apply vA;rfl;rfl;(rfl);(apply l2Add_ih <;> (first|omega|(simp only [hU] <;> omega)));rfl;rfl))|refine aD ?_|refine aE ?_|(refine aM ?_ ?_ <;> intro hc hq <;> try (exfalso;omega))|fail)
 ·(refine bH (k + 1, _, _) (Le.renA [(1, 8)]) ?_ ?_)
  ·dsimp only
   rw [yY (by rw [bE, hm1]), xM (by rw [bE, hm1]), xZ hm1, y5 hm1, fV l _ k (by omega), fE l k (by omega), gP, if_pos hq, n9 hq]
   refine ⟨by omega, ?_, by simp [bE]; omega, by omega⟩
   have e1 : xs.length = pts.length + b8 (l.take k) := by omega
   rw [← List.append_assoc pts, ← hxs, ← e1]
   simp only [List.append_assoc, List.length_append, List.length_cons, List.length_nil, bE, hm1, Nat.zero_add]
   clear l2Add_ih hxs hck hnt n9 n10 n1
   grind
  ·dsimp only;omega
 ·(refine bH (k + 1, _, _) (Le.renA [(1, 8)]) ?_ ?_)
  ·dsimp only
   rw [CC hm1, BX hm1, fV l _ k (by omega), fE l k (by omega), gP, if_neg (by omega), if_pos hq, n10 hq]
   refine ⟨by omega, ?_, by simp [bE]; omega, by omega⟩
   have e1 : xs.length = pts.length + b8 (l.take k) := by omega
   rw [← List.append_assoc pts, ← hxs, ← e1]
   simp only [List.append_assoc, List.length_append, List.length_cons, List.length_nil, bE, hm1, Nat.zero_add]
   clear l2Add_ih hxs hck hnt n9 n10 n1
   grind
  ·dsimp only;omega
 ·(refine bH (k + 1, _, _) (Le.renA [(1, 5)]) ?_ ?_)
  ·dsimp only
   rw [fV l _ k (by omega), fE l k (by omega), gP, if_neg ‹¬l[k]!.op = 9›, if_neg hq, n1 ‹¬l[k]!.op = 9› hq]
   refine ⟨by omega, ?_, by simp [bE]; omega, by omega⟩
   have e1 : xs.length = pts.length + b8 (l.take k) := by omega
   rw [← List.append_assoc pts, ← hxs, ← e1, hm1]
  ·dsimp only;omega
 ·refine aF rfl ?_
  have e2 : l.take k = l := List.take_of_length_le (by omega)
  rw [e2] at hxs hm2
  refine aU () trivial ?_ ⟨.inr (Eq.trans (b := some _) rfl ?_), trivial⟩
  ·simp only [aQ]; rw [hm2]
  ·rw [hxs]
theorem DN (l : List AL.Stmt) (pts : List Pnt) (m : Nat) (hs : aP l ≤ 1000000) (hm : m = pts.length) (hb : m + b8 l ≤ 12000000) : MC Tryz.prog 130 [.own 0 0 m 5, sl aH l] [(0, some (flat cF pts))] 1 (fun _ : Unit => True) (fun _ => .own 1 0 (m + b8 l) 5) (fun _ => [(1, some (flat cF (pts ++ dZ pts.length l)))]) := by
 have h : ∀ (mm : Nat), mm ≤ 1000000 → ∀ l pts m, aP l ≤ mm → m = pts.length → m + b8 l ≤ 12000000 → MC Tryz.prog 130 [.own 0 0 m 5, sl aH l] [(0, some (flat cF pts))] 1 (fun _ : Unit => True) (fun _ => .own 1 0 (m + b8 l) 5) (fun _ => [(1, some (flat cF (pts ++ dZ pts.length l)))]) := by
  intro mm
  induction mm using Nat.strongRecOn with
  | ind mm ih =>
   intro h0 l pts m h1 h2 h3
   exact I7 mm h0 (fun l' pts' m' g1 g2 g3 => ih _ g1 (by omega) l' pts' m' (Nat.le_refl _) g2 g3) l pts m h1 h2 h3
 exact h _ hs l pts m (Nat.le_refl _) hm hb
theorem k5 (p : Prg) (hs : aP p.body ≤ 1000000) : PC Tryz.prog 132 [bQ p] (fun r => r = sl cF (aC p)) := by
 have hn := jE p.body
 have e0 : ([] : List AV) = flat cF [] := rfl
 refine aB Tryz.func132 Tryz.ntmps132 ?_
 repeat' (first|(apply aI;(apply vA;rfl;rfl;(exact vQ rfl);(apply DN <;> (first|assumption|omega|(simp only [hU] <;> omega)));rfl;rfl))|refine aD ?_|refine aE ?_|fail)
 (refine aV (Le.frzD (d := 2) (i := 4) rfl rfl) ?_; refine aF rfl ?_)
 refine ⟨?_, (by (exact bG _ _))⟩
 simp only [aQ, sl, aC, List.length_append, List.length_cons, List.length_nil, bE, Nat.zero_add, List.nil_append]
theorem yZ (ts : List Int) (bd : List AL.Stmt) (pts : List Pnt) (v : Int) (h : 0 ≤ v ∧ v < ts.length) : PC Tryz.prog 199 [aG ts bd pts, iv v] (fun r => r = bv (Ck ts[v.toNat]!)) := by
 refine aB Tryz.func199 Tryz.ntmps199 ?_
 repeat' (first|refine aD ?_|refine aE ?_|(refine bU ?_ ?_ <;> intro hg hq <;> try (exfalso;omega))|refine c5 ?_|fail)
 all_goals (refine ⟨?_, rfl⟩; simp only [aQ, AV.v.injEq, Value.bool.injEq, Value.int.injEq, true_and])
 all_goals grind [Ck]
theorem Om (ts : List Int) (bd : List AL.Stmt) (pts : List Pnt) (x : Pnt) (v : Int) (h : 0 ≤ v ∧ v < ts.length) : PC Tryz.prog 244 [aG ts bd pts, fL x, iv v] (fun r => r = iv (aT ts x v)) := by
 refine aB Tryz.func244 Tryz.ntmps244 ?_
 repeat' (first|(apply aI;(apply aA (k := 199);rfl;(apply yZ <;> (assumption));exact Pur.pf;rfl))|refine aD ?_|refine aE ?_|(refine aM ?_ ?_ <;> intro hc hq <;> try (exfalso;omega))|(refine bU ?_ ?_ <;> intro hg hq <;> try (exfalso;omega))|refine c5 ?_|fail)
 all_goals (refine ⟨?_, rfl⟩; simp only [aQ, AV.v.injEq, Value.bool.injEq, Value.int.injEq, true_and])
 all_goals grind [Ck, aT]
theorem xT (x : Pnt) : PC Tryz.prog 143 [fL x] (fun r => r = iv (aN x)) := by
 refine aB Tryz.func143 Tryz.ntmps143 ?_
 repeat' (first|refine aD ?_|refine aE ?_|(refine aM ?_ ?_ <;> intro hc hq <;> try (exfalso;omega))|refine c5 ?_|fail)
 all_goals (refine ⟨?_, rfl⟩; simp only [aQ, AV.v.injEq, Value.bool.injEq, Value.int.injEq, true_and])
 all_goals grind [aN]
theorem mT (x : Pnt) : PC Tryz.prog 233 [fL x] (fun r => r = bv (bW x)) := by
 refine aB Tryz.func233 Tryz.ntmps233 ?_
 repeat' (first|refine aD ?_|refine aE ?_|(refine bU ?_ ?_ <;> intro hg hq <;> try (exfalso;omega))|refine c5 ?_|fail)
 all_goals (refine ⟨?_, rfl⟩; simp only [aQ, AV.v.injEq, Value.bool.injEq, Value.int.injEq, true_and])
 all_goals grind [bW]
theorem pC (x : Pnt) (h : aN x < 62) : PC Tryz.prog 182 [fL x] (fun r => r = iv (g8 x : Nat)) := by
 refine aB Tryz.func182 Tryz.ntmps182 ?_
 repeat' (first|(apply aI;first|(apply jR;rfl;rfl;infer_instance;omega;rfl;(case' kk => intro hsm))|(apply aA (k := 143);rfl;(apply xT);exact Pur.pf;rfl))|refine aD ?_|refine aE ?_|(refine aM ?_ ?_ <;> intro hc hq <;> try (exfalso;omega))|refine c5 ?_|fail)
 all_goals (refine ⟨?_, rfl⟩; simp only [aQ, AV.v.injEq, Value.bool.injEq, Value.int.injEq, true_and])
 all_goals (unfold g8)
 ·rw [if_pos (by omega)]
 ·rw [if_neg (by omega)]; rfl
theorem OB (ts : List Int) (bd : List AL.Stmt) (pts : List Pnt) (h : ts.length ≤ 6) : PC Tryz.prog 232 [aG ts bd pts] (fun r => r = iv ((2 ^ ts.length - 1 : Nat) : Int)) := by
 have h1 : 2 ^ ts.length ≤ 2 ^ 6 := Nat.pow_le_pow_right (by decide) h
 have h2 : 0 < 2 ^ ts.length := Nat.pow_pos (by decide)
 have h3 : 2 ^ (ts.length : Int).toNat ≤ 2 ^ 6 := h1
 have h4 : 2 ^ (ts.length : Int).toNat = 2 ^ ts.length := rfl
 refine aB Tryz.func232 Tryz.ntmps232 ?_
 repeat' (first|(apply aI;(apply jR;rfl;rfl;infer_instance;omega;rfl;(case' kk => intro hsm)))|refine aD ?_|refine aE ?_|refine c5 ?_|fail)
 all_goals (refine ⟨?_, rfl⟩; simp only [aQ, AV.v.injEq, Value.bool.injEq, Value.int.injEq, true_and])
 omega
def GO (xs : List Int) (v : Int) : Int := match xs.findIdx? (fun t => decide (t = v)) with | some i => i | none => -1
theorem KJ (xs : List Int) (v : Int) (hl : xs.length ≤ 1000000) : PC Tryz.prog 119 [sl cI xs, iv v] (fun r => r = iv (GO xs v)) := by
 refine aB Tryz.func119 Tryz.ntmps119 ?_
 repeat' (first|refine aD ?_|refine aE ?_|fail)
 refine aK (σ := Nat) [0, 1, 7] [] (fun k => [(8, iv (k : Int))]) (fun k => []) (fun k => k ≤ xs.length ∧ ∀ i, i < k → xs[i]! ≠ v) (fun k => xs.length - k) (0) ⟨by omega, by omega⟩ ?_
 intro k ⟨hk, hall⟩
 repeat' (first|refine aD ?_|refine aE ?_|(refine aM ?_ ?_ <;> intro hc hq <;> try (exfalso;omega))|refine c5 ?_|fail)
 ·(refine ⟨?_, rfl⟩; simp only [aQ, AV.v.injEq, Value.bool.injEq, Value.int.injEq, true_and])
  have hlt : k < xs.length := by omega
  have : xs.findIdx? (fun t => decide (t = v)) = some k := by
   rw [List.findIdx?_eq_some_iff_getElem]
   refine ⟨hlt, ?_, fun j hj => ?_⟩
   ·rw [← aZ xs k hlt]; grind
   ·have := hall j hj;rw [aZ xs j (by omega)] at this;simpa using this
  simp only [GO, this]
 ·(refine bH (k + 1) (Le.renA []) ?_ ?_)
  ·grind
  ·omega
 ·(refine ⟨?_, rfl⟩; simp only [aQ, AV.v.injEq, Value.bool.injEq, Value.int.injEq, true_and])
  have : xs.findIdx? (fun t => decide (t = v)) = none := by
   rw [List.findIdx?_eq_none_iff]
   intro x hx
   obtain ⟨i, hi, rfl⟩ := List.getElem_of_mem hx
   have := hall i (by omega);rw [aZ xs i hi] at this;simpa using this
  simp only [GO, this]
theorem LB (xs : List Int) (v : Int) : decide (0 ≤ GO xs v) = decide (v ∈ xs) := by
 unfold GO
 split
 ·rename_i i h
  obtain ⟨h1, h2, _⟩ := List.findIdx?_eq_some_iff_getElem.1 h
  simp only [decide_eq_true_eq] at h2
  have : v ∈ xs := by rw [← h2]; exact List.getElem_mem h1
  simp [this]
 ·rename_i h
  rw [List.findIdx?_eq_none_iff] at h
  have : v ∉ xs := fun hm => by have := h v hm;simp at this
  simp [this]
theorem uK (xs : List Int) (v : Int) (hl : xs.length ≤ 1000000) : PC Tryz.prog 56 [sl cI xs, iv v] (fun r => r = bv (decide (v ∈ xs))) := by
 refine aB Tryz.func56 Tryz.ntmps56 ?_
 repeat' (first|(apply aI;(apply aA (k := 119);rfl;(apply KJ <;> (assumption));exact Pur.pf;rfl))|refine aD ?_|refine aE ?_|refine c5 ?_|fail)
 (refine ⟨?_, rfl⟩; simp only [aQ, AV.v.injEq, Value.bool.injEq, Value.int.injEq, true_and])
 exact LB xs v
theorem DS (ts : List Int) (bd : List AL.Stmt) (pts : List Pnt) (x : Pnt) (us : List Int) (h : ts.length ≤ 6) (hu : us.length ≤ 1000) : PC Tryz.prog 207 [aG ts bd pts, fL x, sl cI us] (fun r => r = iv (wS ts x us : Nat)) := by
 refine aB Tryz.func207 Tryz.ntmps207 ?_
 repeat' (first|refine aD ?_|refine aE ?_|fail)
 refine aK (σ := Nat × Nat) [0, 2, 4, 14] [0] (fun k => [(15, iv (k.1 : Int)), (7, iv (k.2 : Int))]) (fun k => []) (fun k => k.1 ≤ ts.length ∧ k.2 = e7 (fun v => decide (aT ts x v ∈ us)) k.1) (fun k => ts.length - k.1) (0, 0) ⟨by omega, rfl⟩ ?_
 rintro ⟨k, A⟩ ⟨hk, hA⟩
 dsimp only at hk hA ⊢
 have hsm : Sm A := hA ▸ bY (by omega)
 repeat' (first|(apply aI;first|(apply jR;rfl;rfl;infer_instance;omega;rfl;(case' kk => intro hsm))|(first|(apply aA (k := 56);rfl;(apply uK <;> (omega));exact Pur.pf;rfl)|(apply aA (k := 244);rfl;(apply Om <;> (omega));exact Pur.pf;rfl)))|refine aD ?_|refine aE ?_|(refine aM ?_ ?_ <;> intro hc hq <;> try (exfalso;omega))|refine c5 ?_|fail)
 ·(refine bH (k + 1, _) (Le.renA [(0, 0)]) ?_ ?_)
  ·dsimp only
   rw [hA]
   exact ⟨by omega, qV _ _ (by simpa using hq)⟩
  ·dsimp only;omega
 ·(refine bH (k + 1, _) (Le.renA [(0, 0)]) ?_ ?_)
  ·dsimp only
   rw [hA]
   exact ⟨by omega, mJ _ _ (by simpa using hq)⟩
  ·dsimp only;omega
 ·(refine ⟨?_, rfl⟩; simp only [aQ, AV.v.injEq, Value.bool.injEq, Value.int.injEq, true_and])
  rw [hA, show k = ts.length by omega]; rfl
theorem iB (ts : List Int) (bd : List AL.Stmt) (pts : List Pnt) (x : Pnt) (h : ts.length ≤ 6) : PC Tryz.prog 158 [aG ts bd pts, fL x] (fun r => r = iv (wS ts x [1, 2, 3] : Nat)) := by
 refine aB Tryz.func158 Tryz.ntmps158 ?_
 repeat' (first|(apply aI;first|(apply aO (t := _);rfl;rfl;rfl;(exact (rfl:_=some [_, _, _]));rfl;rfl)|(apply aA (k := 207);rfl;(apply DS (us := [1, 2, 3]) <;> (first|assumption|decide));exact Pur.pf;rfl))|refine aD ?_|refine aE ?_|refine c5 ?_|fail)
 (refine ⟨?_, rfl⟩; simp only [aQ, AV.v.injEq, Value.bool.injEq, Value.int.injEq, true_and])
theorem rU (ts : List Int) (bd : List AL.Stmt) (pts : List Pnt) (x : Pnt) (h : ts.length ≤ 6) : PC Tryz.prog 142 [aG ts bd pts, fL x] (fun r => r = iv (wS ts x [2] : Nat)) := by
 refine aB Tryz.func142 Tryz.ntmps142 ?_
 repeat' (first|(apply aI;first|(apply aO (t := _);rfl;rfl;rfl;exact (rfl:_=some [_]);rfl;rfl)|(apply aA (k := 207);rfl;(apply DS (us := [2]) <;> (first|assumption|decide));exact Pur.pf;rfl))|refine aD ?_|refine aE ?_|refine c5 ?_|fail)
 (refine ⟨?_, rfl⟩; simp only [aQ, AV.v.injEq, Value.bool.injEq, Value.int.injEq, true_and])
theorem Av (ts : List Int) (bd : List AL.Stmt) (pts : List Pnt) (i : Int) (A : Nat) (h : WG ts pts) (hi : 0 ≤ i ∧ i < pts.length) (hA : Sm A) : PC Tryz.prog 103 [aG ts bd pts, iv i, iv (A : Int)] (fun r => r = iv (gW ts pts[i.toNat]! A : Nat)) := by
 have htl := h.tl
 have hst := (h.set i.toNat (by omega)).1
 have hs1 : Sm (wS ts pts[i.toNat]! [2]) := bY (by omega)
 have hs2 : Sm (g8 pts[i.toNat]!) := rY (by omega)
 refine aB Tryz.func103 Tryz.ntmps103 ?_
 repeat' (first|(apply aI;(first|(apply aA (k := 142);rfl;(apply rU <;> (assumption));exact Pur.pf;rfl)|(apply aA (k := 182);rfl;(apply pC <;> (omega));exact Pur.pf;rfl)))|refine aD ?_|refine aE ?_|refine b0 ?_|refine c5 ?_|fail)
 (refine ⟨?_, rfl⟩; simp only [aQ, AV.v.injEq, Value.bool.injEq, Value.int.injEq, true_and])
 rfl
theorem Cd (ts : List Int) (bd : List AL.Stmt) (pts : List Pnt) (A : List Nat) (w : WG ts pts) (hA : qS ts pts A) : PC Tryz.prog 181 [aG ts bd pts, iv 0, bv false, .clos (.func 103) [aG ts bd pts] []] (fun r => r = .imm pts.length (flat cN A)) := by
 have hpl := w.pl
 have hp0 := w.p0
 have htl := w.tl
 have fl := OW w
 refine aB Tryz.func181 Tryz.ntmps181 ?_
 repeat' (first|refine aD ?_|refine aE ?_|fail)
 refine aK (σ := List Nat × Bool) [0, 2, 3, 9] [] (fun s => [(11, bv s.2)]) (fun s => [(0, some (flat cN s.1))]) (fun s => SG pts (O3 ts pts) s.1 ∧ True ∧ (s.2 = false → lD nV (fun i A => gW ts pts[i]! A) pts s.1)) (fun s => 2 * fD (s.1.map (fun a => 2 ^ ts.length - a)) + s.2.toNat) (((List.replicate pts.length 0).set 0 0), true) ⟨by rw [l6 (by rw [aZ _ _ (by simpa using hp0), List.getElem_replicate]) (by simpa using hp0)]; exact Cb fun i hi => ⟨Nat.pow_pos (by decide), fun v h => by simp at h⟩, trivial, fun h => by cases h⟩ ?_
 rintro ⟨s, b⟩ ⟨hS, hE, hC⟩
 dsimp only at hS hE hC ⊢
 repeat' (first|refine aD ?_|refine aE ?_|(refine aM ?_ ?_ <;> intro hc hq <;> try (exfalso;omega))|fail)
 ·refine aK (σ := Nat × (List Nat × Bool)) [0, 2, 3, 9, 43, 44] [] (fun k => [(45, iv (k.1 : Int)), (11, bv k.2.2)]) (fun k => [(0, some (flat cN k.2.1))]) (fun k => k.1 ≤ pts.length ∧ k.2 = (List.range k.1).foldl (y7 nV (fun i A => gW ts pts[i]! A) pts) (s, false) ∧ SG pts (O3 ts pts) k.2.1 ∧ True) (fun k => pts.length - k.1) (0, (s, false)) ⟨by omega, rfl, hS, hE⟩ ?_
  rintro ⟨k, u, c⟩ ⟨hk, hf, hS2, hE2⟩
  dsimp only at hk hf hS2 hE2 ⊢
  have hsm : ∀ z, Sm u[z]! := tO hS2 (fun i A h => h.1) htl
  have hul := hS2.1
  repeat' (first|(apply aI;(apply gZ;rfl;rfl;infer_instance;rfl;(apply Av <;> (first|assumption|omega|infer_instance));exact Pur.pf;rfl))|refine aD ?_|refine aE ?_|(refine aM ?_ ?_ <;> intro hc hq <;> try (exfalso;omega))|fail)
  ·have hkn : k < pts.length := by omega
   have hv := r9 w hkn (hS2.2 k hkn).1
   have hvs : Sm (gW ts pts[k]! u[k]!) := ⟨Nat.lt_of_lt_of_le hv (Nat.pow_le_pow_right (by decide) (by omega))⟩
   have hvs' : Sm (gW ts pts[(k : Int).toNat]! u[k]!) := hvs
   have hnl := w.nl k hkn
   refine aK (σ := Nat × (List Nat × Bool)) [0, 2, 3, 9, 14, 43, 44, 45, 58, 59] [] (fun j => [(60, iv (j.1 : Int)), (11, bv j.2.2)]) (fun j => [(0, some (flat cN j.2.1))]) (fun j => j.1 ≤ pts[k]!.next.length ∧ j.2 = ((vE pts k).take j.1).foldl (k4 nV (gW ts pts[k]! u[k]!)) (u, c) ∧ SG pts (O3 ts pts) j.2.1 ∧ True) (fun j => pts[k]!.next.length - j.1) (0, (u, c)) ⟨by omega, rfl, hS2, hE2⟩ ?_
   rintro ⟨j, u2, c2⟩ ⟨hj, hf2, hS3, hE3⟩
   dsimp only at hj hf2 hS3 hE3 ⊢
   have hsm2 : ∀ z, Sm u2[z]! := tO hS3 (fun i A h => h.1) htl
   have hul2 := hS3.1
   have hz : j < pts[k]!.next.length → 0 ≤ pts[k]!.next[j]! ∧ pts[k]!.next[j]! < pts.length := fun h => w.nx k hkn _ (aW _ _ h)
   repeat' (first|refine aD ?_|refine aE ?_|(refine aM ?_ ?_ <;> intro hc hq <;> try (exfalso;omega))|fail)
   ·have hzz := hz (by omega)
    have hed : edge pts k (pts[k]!.next[j]!).toNat := ⟨hkn, by rw [Int.toNat_of_nonneg hzz.1]; exact aW _ _ (by omega)⟩
    have hne : nV u2[(pts[k]!.next[j]!).toNat]! (gW ts pts[k]! u[k]!) ≠ u2[(pts[k]!.next[j]!).toNat]! := fun h => hq (congrArg Int.ofNat h)
    (refine bH (j + 1, (_, true)) (Le.renA [(0, 0)]) ?_ ?_)
    ·dsimp only
     refine ⟨by omega, ?_, xJ fl w (hS2.2 k hkn) hed hS3, trivial⟩
     rw [iV (by omega), ← hf2, x8 hne]; rfl
    ·dsimp only;omega
   ·have hzz := hz (by omega)
    have hne : nV u2[(pts[k]!.next[j]!).toNat]! (gW ts pts[k]! u[k]!) = u2[(pts[k]!.next[j]!).toNat]! := Int.ofNat.inj hq
    (refine bH (j + 1, (u2, c2)) (Le.renA [(0, 0)]) ?_ ?_)
    ·dsimp only
     refine ⟨by omega, ?_, hS3, hE3⟩
     rw [iV (by omega), ← hf2, xX hne]
    ·dsimp only;omega
   ·(refine bH (k + 1, (u2, c2)) (Le.renA [(0, 0)]) ?_ ?_)
    ·dsimp only
     refine ⟨by omega, ?_, hS3, hE3⟩
     rw [dS, ← hf, hf2, List.take_of_length_le (by rw [kY]; omega)]; rfl
    ·dsimp only;omega
  ·have law := uS w fl s false hS
   have hfull : (u, c) = xN nV (fun i A => gW ts pts[i]! A) pts (s, false) := by
    rw [hf, show k = pts.length by omega]; rfl
   rw [show xN (fun a s => nV a s) (fun i A => gW ts pts[i]! A) pts (s, false) = (u, c) from hfull.symm] at law
   (refine bH (u, c) (Le.renA [(0, 0)]) ?_ ?_)
   ·dsimp only
    refine ⟨hS2, hE2, fun h => ?_⟩
    rcases law.2 with ⟨e1, e2⟩ | ⟨e1, _⟩
    ·cases e1;exact e2
    ·dsimp only at e1;rw [h] at e1;cases e1
   ·dsimp only
    have hb : b = true := by assumption
    subst hb
    rcases law.2 with ⟨e1, e2⟩ | ⟨e1, e2⟩
    ·cases e1;simp
    ·dsimp only at e1 e2;subst e1;omega
 ·have hb : b = false := by assumption
  refine aV (Le.frzD (d := 8) (i := 0) rfl rfl) ?_
  refine aF rfl ⟨?_, (by (exact bG _ _))⟩
  simp only [aQ]
  rw [EX hA (G5 w hS (hC hb))]
theorem Cm (ts : List Int) (bd : List AL.Stmt) (pts : List Pnt) (A : List Nat) (w : WG ts pts) (hA : qR ts pts A) : PC Tryz.prog 181 [aG ts bd pts, iv 0, bv true, .clos (.func 103) [aG ts bd pts] []] (fun r => r = .imm pts.length (flat cN A)) := by
 have hpl := w.pl
 have hp0 := w.p0
 have htl := w.tl
 have fl := Pd w
 refine aB Tryz.func181 Tryz.ntmps181 ?_
 repeat' (first|refine aD ?_|refine aE ?_|fail)
 refine aK (σ := Nat × List Nat) [0, 1, 2, 3, 9, 26] [] (fun k => [(27, iv (k.1 : Int))]) (fun k => [(0, some (flat cN k.2))]) (fun k => k.1 ≤ pts.length ∧ k.2 = List.replicate k.1 (2 ^ ts.length - 1) ++ List.replicate (pts.length - k.1) 0) (fun k => pts.length - k.1) (0, List.replicate pts.length 0) ⟨by omega, by simp⟩ ?_
 rintro ⟨k0, u0⟩ ⟨hk0, hu0⟩
 dsimp only at hk0 hu0 ⊢
 have hul0 : u0.length = pts.length := by rw [hu0]; simp;omega
 repeat' (first|(apply aI;(apply aA (k := 232);rfl;(apply OB <;> (assumption));exact Pur.pf;rfl))|refine aD ?_|refine aE ?_|(refine aM ?_ ?_ <;> intro hc hq <;> try (exfalso;omega))|fail)
 ·(refine bH (k0 + 1, _) (Le.renA [(0, 0)]) ?_ ?_)
  ·dsimp only
   exact ⟨by omega, by rw [hu0]; exact Kj (by omega)⟩
  ·dsimp only;omega
 have hk1 : k0 = pts.length := by omega
 subst hk1
 rw [Nat.sub_self, List.replicate_zero, List.append_nil] at hu0
 refine aK (σ := List Nat × Bool) [0, 2, 3, 9] [] (fun s => [(11, bv s.2)]) (fun s => [(0, some (flat cN s.1))]) (fun s => SG pts (Of ts pts) s.1 ∧ s.1[0]! = 0 ∧ (s.2 = false → lD Nn (fun i A => gW ts pts[i]! A) pts s.1)) (fun s => 2 * fD (s.1.map (fun a => a)) + s.2.toNat) ((u0.set 0 0), true) ⟨(ID w hu0).1, (ID w hu0).2, fun h => by cases h⟩ ?_
 rintro ⟨s, b⟩ ⟨hS, hE, hC⟩
 dsimp only at hS hE hC ⊢
 repeat' (first|refine aD ?_|refine aE ?_|(refine aM ?_ ?_ <;> intro hc hq <;> try (exfalso;omega))|fail)
 ·refine aK (σ := Nat × (List Nat × Bool)) [0, 2, 3, 9, 43, 44] [] (fun k => [(45, iv (k.1 : Int)), (11, bv k.2.2)]) (fun k => [(0, some (flat cN k.2.1))]) (fun k => k.1 ≤ pts.length ∧ k.2 = (List.range k.1).foldl (y7 Nn (fun i A => gW ts pts[i]! A) pts) (s, false) ∧ SG pts (Of ts pts) k.2.1 ∧ k.2.1[0]! = 0) (fun k => pts.length - k.1) (0, (s, false)) ⟨by omega, rfl, hS, hE⟩ ?_
  rintro ⟨k, u, c⟩ ⟨hk, hf, hS2, hE2⟩
  dsimp only at hk hf hS2 hE2 ⊢
  have hsm : ∀ z, Sm u[z]! := tO hS2 (fun i A h => h.1) htl
  have hul := hS2.1
  repeat' (first|(apply aI;(apply gZ;rfl;rfl;infer_instance;rfl;(apply Av <;> (first|assumption|omega|infer_instance));exact Pur.pf;rfl))|refine aD ?_|refine aE ?_|(refine aM ?_ ?_ <;> intro hc hq <;> try (exfalso;omega))|fail)
  ·have hkn : k < pts.length := by omega
   have hv := r9 w hkn (hS2.2 k hkn).1
   have hvs : Sm (gW ts pts[k]! u[k]!) := ⟨Nat.lt_of_lt_of_le hv (Nat.pow_le_pow_right (by decide) (by omega))⟩
   have hvs' : Sm (gW ts pts[(k : Int).toNat]! u[k]!) := hvs
   have hnl := w.nl k hkn
   refine aK (σ := Nat × (List Nat × Bool)) [0, 2, 3, 9, 14, 43, 44, 45, 58, 59] [] (fun j => [(60, iv (j.1 : Int)), (11, bv j.2.2)]) (fun j => [(0, some (flat cN j.2.1))]) (fun j => j.1 ≤ pts[k]!.next.length ∧ j.2 = ((vE pts k).take j.1).foldl (k4 Nn (gW ts pts[k]! u[k]!)) (u, c) ∧ SG pts (Of ts pts) j.2.1 ∧ j.2.1[0]! = 0) (fun j => pts[k]!.next.length - j.1) (0, (u, c)) ⟨by omega, rfl, hS2, hE2⟩ ?_
   rintro ⟨j, u2, c2⟩ ⟨hj, hf2, hS3, hE3⟩
   dsimp only at hj hf2 hS3 hE3 ⊢
   have hsm2 : ∀ z, Sm u2[z]! := tO hS3 (fun i A h => h.1) htl
   have hul2 := hS3.1
   have hz : j < pts[k]!.next.length → 0 ≤ pts[k]!.next[j]! ∧ pts[k]!.next[j]! < pts.length := fun h => w.nx k hkn _ (aW _ _ h)
   repeat' (first|refine aD ?_|refine aE ?_|(refine aM ?_ ?_ <;> intro hc hq <;> try (exfalso;omega))|fail)
   ·have hzz := hz (by omega)
    have hed : edge pts k (pts[k]!.next[j]!).toNat := ⟨hkn, by rw [Int.toNat_of_nonneg hzz.1]; exact aW _ _ (by omega)⟩
    have hne : Nn u2[(pts[k]!.next[j]!).toNat]! (gW ts pts[k]! u[k]!) ≠ u2[(pts[k]!.next[j]!).toNat]! := fun h => hq (congrArg Int.ofNat h)
    (refine bH (j + 1, (_, true)) (Le.renA [(0, 0)]) ?_ ?_)
    ·dsimp only
     refine ⟨by omega, ?_, xJ fl w (hS2.2 k hkn) hed hS3, (by rw [dE _ _ _ _ (by rw [hS3.1]; exact cT w hed)]; split <;> first|exact hE3|(rename_i q;rw [← q, hE3]; exact Nat.zero_and _))⟩
     rw [iV (by omega), ← hf2, x8 hne]; rfl
    ·dsimp only;omega
   ·have hzz := hz (by omega)
    have hne : Nn u2[(pts[k]!.next[j]!).toNat]! (gW ts pts[k]! u[k]!) = u2[(pts[k]!.next[j]!).toNat]! := Int.ofNat.inj hq
    (refine bH (j + 1, (u2, c2)) (Le.renA [(0, 0)]) ?_ ?_)
    ·dsimp only
     refine ⟨by omega, ?_, hS3, hE3⟩
     rw [iV (by omega), ← hf2, xX hne]
    ·dsimp only;omega
   ·(refine bH (k + 1, (u2, c2)) (Le.renA [(0, 0)]) ?_ ?_)
    ·dsimp only
     refine ⟨by omega, ?_, hS3, hE3⟩
     rw [dS, ← hf, hf2, List.take_of_length_le (by rw [kY]; omega)]; rfl
    ·dsimp only;omega
  ·have law := uS w fl s false hS
   have hfull : (u, c) = xN Nn (fun i A => gW ts pts[i]! A) pts (s, false) := by
    rw [hf, show k = pts.length by omega]; rfl
   rw [show xN (fun a s => Nn a s) (fun i A => gW ts pts[i]! A) pts (s, false) = (u, c) from hfull.symm] at law
   (refine bH (u, c) (Le.renA [(0, 0)]) ?_ ?_)
   ·dsimp only
    refine ⟨hS2, hE2, fun h => ?_⟩
    rcases law.2 with ⟨e1, e2⟩ | ⟨e1, _⟩
    ·cases e1;exact e2
    ·dsimp only at e1;rw [h] at e1;cases e1
   ·dsimp only
    have hb : b = true := by assumption
    subst hb
    rcases law.2 with ⟨e1, e2⟩ | ⟨e1, e2⟩
    ·cases e1;simp
    ·dsimp only at e1 e2;subst e1;omega
 ·have hb : b = false := by assumption
  refine aV (Le.frzD (d := 8) (i := 0) rfl rfl) ?_
  refine aF rfl ⟨?_, (by (exact bG _ _))⟩
  simp only [aQ]
  rw [FY hA (Iq w hS hE (hC hb))]
theorem z6 (ts : List Int) (bd : List AL.Stmt) (pts : List Pnt) (A : List Nat) (w : WG ts pts) (hA : qR ts pts A) : PC Tryz.prog 121 [aG ts bd pts, iv 0] (fun r => r = .imm pts.length (flat cN A)) := by
 refine aB Tryz.func121 Tryz.ntmps121 ?_
 repeat' (first|(apply aI;(apply aA (k := 181);rfl;exact Cm ts bd pts A w hA;exact Pur.pf;rfl))|refine aD ?_|refine aE ?_|refine c5 ?_|fail)
 exact ⟨rfl, (by (exact bG _ _))⟩
theorem JM (ts : List Int) (bd : List AL.Stmt) (pts : List Pnt) (A : List Nat) (w : WG ts pts) (hA : qS ts pts A) : PC Tryz.prog 102 [aG ts bd pts] (fun r => r = .imm pts.length (flat cN A)) := by
 refine aB Tryz.func102 Tryz.ntmps102 ?_
 repeat' (first|(apply aI;(apply aA (k := 181);rfl;exact Cd ts bd pts A w hA;exact Pur.pf;rfl))|refine aD ?_|refine aE ?_|refine c5 ?_|fail)
 exact ⟨rfl, (by (exact bG _ _))⟩
theorem Eo (ts : List Int) (bd : List AL.Stmt) (pts : List Pnt) (n : Nat) (B : List Nat) (i : Int) (w : WG ts pts) (hn : n = B.length) (hB : B.length = pts.length) (hs : ∀ z : Nat, Sm B[z]!) (hi : 0 ≤ i ∧ i < pts.length) : PC Tryz.prog 189 [aG ts bd pts, .imm n (flat cN B), iv i] (fun r => r = iv (Ka pts B i.toNat : Nat)) := by
 subst hn
 have hin : i.toNat < pts.length := by omega
 have hnl := w.nl _ hin
 have hpl := w.pl
 refine aB Tryz.func189 Tryz.ntmps189 ?_
 repeat' (first|refine aD ?_|refine aE ?_|fail)
 refine aK (σ := Nat × Nat) [1, 17, 18] [] (fun k => [(19, iv (k.1 : Int)), (7, iv (k.2 : Int))]) (fun k => []) (fun k => k.1 ≤ pts[i.toNat]!.next.length ∧ k.2 = ((vE pts i.toNat).take k.1).foldl (fun a k => nV a B[k]!) 0 ∧ Sm k.2) (fun k => pts[i.toNat]!.next.length - k.1) (0, 0) ⟨by omega, rfl, inferInstance⟩ ?_
 rintro ⟨k, a⟩ ⟨hk, ha, hsa⟩
 dsimp only at hk ha hsa ⊢
 have hz : k < pts[i.toNat]!.next.length → 0 ≤ pts[i.toNat]!.next[k]! ∧ pts[i.toNat]!.next[k]! < pts.length := fun h => w.nx _ hin _ (aW _ _ h)
 repeat' (first|refine aD ?_|refine aE ?_|(refine aM ?_ ?_ <;> intro hc hq <;> try (exfalso;omega))|refine c5 ?_|fail)
 ·(refine bH (k + 1, _) (Le.renA []) ?_ ?_)
  ·dsimp only
   refine ⟨by omega, ?_, inferInstance⟩
   rw [eI _ _ _ _ (by rw [kY]; omega), xL (by omega), ← ha]
  ·dsimp only;omega
 ·(refine ⟨?_, rfl⟩; simp only [aQ, AV.v.injEq, Value.bool.injEq, Value.int.injEq, true_and])
  rw [ha, List.take_of_length_le (by rw [kY]; omega)]; rfl
theorem Hl (ts : List Int) (bd : List AL.Stmt) (pts : List Pnt) (A : List Nat) (w : WG ts pts) (hA : tS ts pts A) : PC Tryz.prog 188 [aG ts bd pts] (fun r => r = .imm pts.length (flat cN A)) := by
 have hpl := w.pl
 have hp0 := w.p0
 have htl := w.tl
 refine aB Tryz.func188 Tryz.ntmps188 ?_
 repeat' (first|refine aD ?_|refine aE ?_|fail)
 refine aK (σ := List Nat × Bool) [0, 3] [] (fun s => [(4, bv s.2)]) (fun s => [(0, some (flat cN s.1))]) (fun s => SN ts pts s.1 ∧ (s.2 = false → ∀ i, i < pts.length → pY ts pts s.1 i = s.1[i]!)) (fun s => 2 * fD (s.1.map (fun a => 2 ^ ts.length - a)) + s.2.toNat) (List.replicate pts.length 0, true) ⟨NF, fun h => by cases h⟩ ?_
 rintro ⟨s, b⟩ ⟨hS, hC⟩
 dsimp only at hS hC ⊢
 repeat' (first|refine aD ?_|refine aE ?_|(refine aM ?_ ?_ <;> intro hc hq <;> try (exfalso;omega))|fail)
 ·refine aK (σ := Nat × Int × (List Nat × Bool)) [0, 3] [] (fun k => [(5, iv k.2.1), (4, bv k.2.2.2)]) (fun k => [(0, some (flat cN k.2.2.1))]) (fun k => k.1 ≤ pts.length ∧ k.2.1 = (pts.length : Int) - 1 - k.1 ∧ k.2.2 = ((List.range pts.length).reverse.take k.1).foldl (lJ ts pts) (s, false) ∧ SN ts pts k.2.2.1) (fun k => pts.length - k.1) (0, (pts.length : Int) - 1, (s, false)) ⟨by omega, by simp, rfl, hS⟩ ?_
  rintro ⟨k, z, u, c⟩ ⟨hk, hz, hf, hS2⟩
  dsimp only at hk hz hf hS2 ⊢
  have hsm : ∀ z : Nat, Sm u[z]! := tO hS2.1 (fun i A h => h.1) htl
  have hul := hS2.1.1
  have hst := fun h : z.toNat < pts.length => (w.set z.toNat h).1
  have hst2 : aN pts[z.toNat]! < 62 := by
   by_cases h : z.toNat < pts.length
   ·have := hst h;omega
   ·rw [getElem!_neg pts z.toNat h]; decide
  have hs1 : Sm (wS ts pts[z.toNat]! [1, 2, 3]) := bY (by omega)
  have hs2 : Sm (g8 pts[z.toNat]!) := rY (by omega)
  have hs3 : Sm (Ka pts u z.toNat) := by
   unfold Ka
   have : ∀ (L : List Nat) (a : Nat), Sm a → Sm (L.foldl (fun a k => a ||| u[k]!) a) := by
    intro L;induction L with
    | nil => exact fun a h => h
    | cons x L ih => exact fun a h => ih _ (inferInstance : Sm (a ||| u[x]!))
   exact this _ _ inferInstance
  have hlaw := fun h : z.toNat < pts.length => wG w u c z.toNat h hS2
  repeat' (first|(apply aI;(first|(apply aA (k := 158);rfl;(apply iB <;> (assumption));exact Pur.pf;rfl)|(apply aA (k := 182);rfl;(apply pC <;> (assumption));exact Pur.pf;rfl)|(apply pD (k := 189);(case ha => rfl);(case hl => (repeat' (first|exact mW|apply kS|exact yM|exact m6 rfl inferInstance|exact B8 inferInstance)));(case h => (apply Eo <;> (first|assumption|omega)));(case hfr|hN => rfl);(case hmd => infer_instance))))|refine aD ?_|refine aE ?_|(refine aM ?_ ?_ <;> intro hc hq <;> try (exfalso;omega))|refine b0 ?_)
  ·have hzn : z.toNat < pts.length := by omega
   have hne : pY ts pts u z.toNat ≠ u[z.toNat]! := fun h => hq (congrArg Int.ofNat h)
   have hl := hlaw hzn
   rw [Dk hne] at hl
   have hrg : (List.range pts.length).reverse[k]! = z.toNat := by rw [Bh (by omega)]; omega
   (refine bH (k + 1, _, (_, true)) (Le.renA [(0, 0)]) ?_ ?_)
   ·dsimp only
    refine ⟨by omega, by omega, ?_, hl.1⟩
    rw [eI _ _ _ _ (by simp;omega), ← hf, hrg, Dk hne]; rfl
   ·dsimp only;omega
  ·have hzn : z.toNat < pts.length := by omega
   have hne : pY ts pts u z.toNat = u[z.toNat]! := Int.ofNat.inj hq
   have hrg : (List.range pts.length).reverse[k]! = z.toNat := by rw [Bh (by omega)]; omega
   (refine bH (k + 1, _, (u, c)) (Le.renA [(0, 0)]) ?_ ?_)
   ·dsimp only
    refine ⟨by omega, by omega, ?_, hS2⟩
    rw [eI _ _ _ _ (by simp;omega), ← hf, hrg, Kg hne]
   ·dsimp only;omega
  ·have law := FK w s false hS
   have hfull : (u, c) = BA ts pts (s, false) := by
    rw [hf, List.take_of_length_le (by simp;omega)]; rfl
   rw [← hfull] at law
   (refine bH (u, c) (Le.renA [(0, 0)]) ?_ ?_)
   ·dsimp only
    refine ⟨hS2, fun h => ?_⟩
    rcases law.2 with ⟨e1, e2⟩ | ⟨e1, _⟩
    ·cases e1;exact e2
    ·dsimp only at e1;rw [h] at e1;cases e1
   ·dsimp only
    have hb : b = true := by assumption
    subst hb
    rcases law.2 with ⟨e1, e2⟩ | ⟨e1, e2⟩
    ·cases e1;simp
    ·dsimp only at e1 e2;subst e1;omega
 ·have hb : b = false := by assumption
  refine aV (Le.frzD (d := 2) (i := 0) rfl rfl) ?_
  refine aF rfl ⟨?_, (by (exact bG _ _))⟩
  simp only [aQ]
  rw [E7 hA (Jc w hS (hC hb))]
theorem AD (ts : List Int) (bd : List AL.Stmt) (pts : List Pnt) (B A : List Nat) (w : WG ts pts) (hB : tS ts pts B) (hA : qP ts pts A) : PC Tryz.prog 108 [aG ts bd pts] (fun r => r = .imm pts.length (flat cN A)) := by
 have hpl := w.pl
 have htl := w.tl
 have hBl := hB.1
 have hsm : ∀ z : Nat, Sm B[z]! := by
  intro z
  by_cases hz : z < pts.length
  ·refine ⟨Nat.lt_of_lt_of_le (Nat.lt_pow_two_of_testBit _ (n := 6) fun v hv => ?_) (by decide)⟩
   cases hq : B[z]!.testBit v with
   | false => rfl
   | true => have := qW w ((hB.2 z hz v).1 hq);dsimp only at this;omega
  ·rw [getElem!_neg B z (by rw [hBl]; exact hz)]; exact ⟨by decide⟩
 refine aB Tryz.func108 Tryz.ntmps108 ?_
 repeat' (first|(apply aI;(apply aA (k := 188);rfl;(apply Hl <;> (assumption));exact Pur.pf;rfl))|refine aD ?_|refine aE ?_|fail)
 refine AW.le ?_ (Le.nilOwn (d := 4) 1 rfl (by decide))
 refine aK (σ := Nat × List Nat) [0, 3, 12] [] (fun k => [(13, iv (k.1 : Int)), (4, .own 0 0 k.1 1)]) (fun k => [(0, some (flat cN k.2))]) (fun k => k.1 ≤ pts.length ∧ k.2 = (List.range k.1).map (Ka pts B)) (fun k => pts.length - k.1) (0, []) ⟨by omega, rfl⟩ ?_
 rintro ⟨k, u⟩ ⟨hk, hu⟩
 dsimp only at hk hu ⊢
 have hul : u.length = k := by rw [hu]; simp
 repeat' (first|(apply aI;first|(apply aO (t := _);rfl;rfl;rfl;exact (rfl:_=some [_]);rfl;rfl)|(apply aA (k := 189);rfl;(apply Eo <;> (first|assumption|omega));exact Pur.pf;rfl))|refine aD ?_|refine aE ?_|(refine aM ?_ ?_ <;> intro hc hq <;> try (exfalso;omega))|fail)
 ·(refine bH (k + 1, _) (Le.renA [(0, 2)]) ?_ ?_)
  ·dsimp only
   refine ⟨by omega, ?_⟩
   rw [hu, List.range_succ, List.map_append]; rfl
  ·dsimp only;omega
 ·refine aV (Le.frzD (d := 2) (i := 0) rfl rfl) ?_
  refine aF rfl ⟨?_, (by (exact bG _ _))⟩
  simp only [aQ]
  have hkn : k = pts.length := by omega
  subst hkn
  rw [wT hA (BK w hB), hu]
theorem fW (A : Nat) (hA : Sm A) : PC Tryz.prog 120 [iv (A : Int)] (fun r => r = sl cI (a8 A)) := by
 refine aB Tryz.func120 Tryz.ntmps120 ?_
 repeat' (first|refine aD ?_|refine aE ?_|fail)
 refine AW.le ?_ (Le.nilOwn (d := 3) 1 rfl (by decide))
 refine aK (σ := Nat × List Int × Nat) [0] [] (fun k => [(4, iv (k.1 : Int)), (3, .own 0 0 k.2.2 1)]) (fun k => [(0, some (flat cI k.2.1))]) (fun k => k.1 ≤ 62 ∧ k.2.1 = ((List.range k.1).filter (A.testBit ·)).map (fun v : Nat => (v : Int)) ∧ k.2.2 = k.2.1.length ∧ k.2.2 ≤ k.1) (fun k => 62 - k.1) (0, [], 0) ⟨by omega, rfl, rfl, Nat.le_refl _⟩ ?_
 rintro ⟨k, u, m⟩ ⟨hk, hu, hm, hmk⟩
 dsimp only at hk hu hm hmk ⊢
 repeat' (first|(apply aI;(apply aO (t := _);rfl;rfl;rfl;exact (rfl:_=some [_]);rfl;rfl))|refine aD ?_|refine aE ?_|(refine aM ?_ ?_ <;> intro hc hq <;> try (exfalso;omega))|fail)
 ·have hlt := El hA (show 0 < ((A >>> k : Nat) : Int) by assumption)
  (refine bH (k + 1, _, _) (Le.renA [(0, 2)]) ?_ ?_)
  ·dsimp only
   exact ⟨by omega, w9 hq hu, by simp;omega, by omega⟩
  ·dsimp only;omega
 ·have hlt := El hA (show 0 < ((A >>> k : Nat) : Int) by assumption)
  (refine bH (k + 1, u, m) (Le.renA [(0, 0)]) ?_ ?_)
  ·dsimp only
   exact ⟨by omega, wY hq hu, hm, by omega⟩
  ·dsimp only;omega
 ·(refine aV (Le.frzD (d := 2) (i := 0) rfl rfl) ?_; refine aF rfl ?_)
  refine ⟨?_, (by (exact bG _ _))⟩
  simp only [aQ, sl]
  rw [p7 (k := k) (fun v hv => Hh hq v hv) (by omega) hA, ← hu, ← hm]
theorem uM (A : Nat) (hA : Sm A) : PC Tryz.prog 76 [.v (.int .u64 (A : Int))] (fun r => r = sl cI (a8 A)) := by
 refine aB Tryz.func76 Tryz.ntmps76 ?_
 repeat' (first|refine aD ?_|refine aE ?_|fail)
 refine AW.le ?_ (Le.nilOwn (d := 3) 1 rfl (by decide))
 refine aK (σ := Nat × List Int × Nat) [0] [] (fun k => [(5, iv (k.1 : Int)), (3, .own 0 0 k.2.2 1)]) (fun k => [(0, some (flat cI k.2.1))]) (fun k => k.1 ≤ 64 ∧ k.2.1 = ((List.range k.1).filter (A.testBit ·)).map (fun v : Nat => (v : Int)) ∧ k.2.2 = k.2.1.length ∧ k.2.2 ≤ k.1) (fun k => 64 - k.1) (0, [], 0) ⟨by omega, rfl, rfl, Nat.le_refl _⟩ ?_
 rintro ⟨k, u, m⟩ ⟨hk, hu, hm, hmk⟩
 dsimp only at hk hu hm hmk ⊢
 repeat' (first|(apply aI;(apply aO (t := _);rfl;rfl;rfl;exact (rfl:_=some [_]);rfl;rfl))|refine aD ?_|refine aE ?_|(refine aM ?_ ?_ <;> intro hc hq <;> try (exfalso;omega))|fail)
 ·(refine bH (k + 1, _, _) (Le.renA [(0, 2)]) ?_ ?_)
  ·dsimp only
   exact ⟨by omega, w9 hq hu, by simp;omega, by omega⟩
  ·dsimp only;omega
 ·(refine bH (k + 1, u, m) (Le.renA [(0, 0)]) ?_ ?_)
  ·dsimp only
   exact ⟨by omega, wY hq hu, hm, by omega⟩
  ·dsimp only;omega
 ·(refine aV (Le.frzD (d := 2) (i := 0) rfl rfl) ?_; refine aF rfl ?_)
  refine ⟨?_, (by (exact bG _ _))⟩
  simp only [aQ, sl]
  rw [p7 (k := k) (fun v hv => Nat.testBit_lt_two_pow (Nat.lt_of_lt_of_le hA.pf (Nat.pow_le_pow_right (by decide) (by omega)))) (by omega) hA, ← hu, ← hm]
theorem Ay (ts : List Int) (bd : List AL.Stmt) (pts : List Pnt) (V : Nat) (w : WG ts pts) (hV : Sm V) : PC Tryz.prog 235 [aG ts bd pts, iv (V : Int)] (fun r => r = .v (.int .u64 (rJ pts V : Nat))) := by
 have hpl := w.pl
 have htl := w.tl
 refine aB Tryz.func235 Tryz.ntmps235 ?_
 repeat' (first|refine aD ?_|refine aE ?_|fail)
 refine aK (σ := Nat × Nat) [1, 11, 12] [] (fun k => [(13, iv (k.1 : Int)), (5, .v (.int .u64 (k.2 : Int)))]) (fun k => []) (fun k => k.1 ≤ pts.length ∧ k.2 = e7 (fun l => bW pts[l]! && V.testBit (pts[l]!.y.toNat)) k.1) (fun k => pts.length - k.1) (0, 0) ⟨by omega, rfl⟩ ?_
 rintro ⟨k, A⟩ ⟨hk, hA⟩
 dsimp only at hk hA ⊢
 have hsm : Sm A := hA ▸ bY (by omega)
 cases hln : bW pts[k]!
 ·repeat' (first | (apply aI; (apply aA (k := 233);rfl;(apply mT);exact Pur.pf;rfl)) | refine aD ?_ | refine aE ?_ | (refine aM ?_ ?_ <;> intro hc hq <;> try (exfalso; omega)) | refine c5 ?_|fail)
  ·(refine bH (k + 1, A) (Le.renA []) ?_ ?_)
   ·dsimp only
    exact ⟨by omega, by rw [hA]; exact mJ _ _ (by rw [hln]; rfl)⟩
   ·dsimp only;omega
  ·(refine ⟨?_, rfl⟩; simp only [aQ, AV.v.injEq, Value.bool.injEq, Value.int.injEq, true_and])
   rw [hA, show k = pts.length by omega]; rfl
 ·have hy := fun (h : k < pts.length) => n0 w h hln
  repeat' (first|(apply aI;first|(apply jR;rfl;rfl;infer_instance;omega;rfl;(case' kk => intro hsm))|(apply aA (k := 233);rfl;(apply mT);exact Pur.pf;rfl))|refine aD ?_|refine aE ?_|(refine aM ?_ ?_ <;> intro hc hq <;> try (exfalso;omega))|refine c5 ?_|fail)
  ·(refine bH (k + 1, _) (Le.renA []) ?_ ?_)
   ·dsimp only
    exact ⟨by omega, by rw [hA]; exact qV _ _ (by rw [hln, Bool.true_and]; exact (mG _ _).1 hq)⟩
   ·dsimp only;omega
  ·(refine bH (k + 1, A) (Le.renA []) ?_ ?_)
   ·dsimp only
    exact ⟨by omega, by rw [hA]; exact mJ _ _ (by rw [hln, Bool.true_and]; cases hb : V.testBit (pts[k]!.y.toNat) with|false => rfl|true => exact absurd ((mG _ _).2 hb) hq)⟩
   ·dsimp only;omega
  ·(refine ⟨?_, rfl⟩; simp only [aQ, AV.v.injEq, Value.bool.injEq, Value.int.injEq, true_and])
   rw [hA, show k = pts.length by omega]; rfl
theorem HQ (ts : List Int) (bd : List AL.Stmt) (pts : List Pnt) (A : List Nat) (w : WG ts pts) (hA : qU ts pts A) : PC Tryz.prog 184 [aG ts bd pts] (fun r => r = .imm pts.length (flat cW A)) := by
 have hpl := w.pl
 have hp0 := w.p0
 have htl := w.tl
 have fl := OO w
 refine aB Tryz.func184 Tryz.ntmps184 ?_
 repeat' (first|refine aD ?_|refine aE ?_|fail)
 refine aK (σ := List Nat × Bool) [0, 3] [] (fun s => [(4, bv s.2)]) (fun s => [(0, some (flat cW s.1))]) (fun s => SG pts (O9 ts pts) s.1 ∧ (s.2 = false → lD nV (yV ts pts) pts s.1)) (fun s => 2 * fD (s.1.map (fun a => 2 ^ pts.length - a)) + s.2.toNat) (List.replicate pts.length 0, true) ⟨Cb fun i hi => ⟨Nat.pow_pos (by decide), fun v h => by simp at h⟩, fun h => by cases h⟩ ?_
 rintro ⟨s, b⟩ ⟨hS, hC⟩
 dsimp only at hS hC ⊢
 repeat' (first|refine aD ?_|refine aE ?_|(refine aM ?_ ?_ <;> intro hc hq <;> try (exfalso;omega))|fail)
 ·refine aK (σ := Nat × (List Nat × Bool)) [0, 3, 20, 21] [] (fun k => [(22, iv (k.1 : Int)), (4, bv k.2.2)]) (fun k => [(0, some (flat cW k.2.1))]) (fun k => k.1 ≤ pts.length ∧ k.2 = (List.range k.1).foldl (y7 nV (yV ts pts) pts) (s, false) ∧ SG pts (O9 ts pts) k.2.1) (fun k => pts.length - k.1) (0, (s, false)) ⟨by omega, rfl, hS⟩ ?_
  rintro ⟨k, u, c⟩ ⟨hk, hf, hS2⟩
  dsimp only at hk hf hS2 ⊢
  have hul := hS2.1
  by_cases hkn : k < pts.length
  ·have hst := (w.set k hkn).1
   have hsm : ∀ z : Nat, Sm u[z]! := by
    intro z
    by_cases hz : z < pts.length
    ·exact ⟨Nat.lt_of_lt_of_le (hS2.2 z hz).1 (Nat.pow_le_pow_right (by decide) (by omega))⟩
    ·rw [getElem!_neg u z (by rw [hul]; exact hz)]; exact ⟨by decide⟩
   have hs1 : Sm (wS ts pts[k]! [2]) := bY (by omega)
   have hs2 : Sm (g8 pts[k]!) := rY (by omega)
   have hs3 : ∀ V, Sm (rJ pts V) := fun V => Js w V
   have hnl := w.nl k hkn
   have e1 : bW pts[k]! = true → nO u[k]! (rJ pts (wS ts pts[k]! [2] ||| g8 pts[k]!)) ||| 2 ^ (k : Int).toNat = yV ts pts k u[k]! := fun h => by unfold yV N5;rw [if_pos h]; rfl
   have e0 : bW pts[k]! = false → nO u[k]! (rJ pts (wS ts pts[k]! [2] ||| g8 pts[k]!)) = yV ts pts k u[k]! := fun h => by unfold yV N5;rw [if_neg (by rw [h]; simp), Nat.or_zero]
   have hps : Sm (yV ts pts k u[k]!) := ⟨Nat.lt_of_lt_of_le (CE w hkn (hS2.2 k hkn).1) (Nat.pow_le_pow_right (by decide) (by omega))⟩
   repeat' (first|(apply aI;first|(apply jR;rfl;rfl;infer_instance;omega;rfl;(case' kk => intro hsm))|(first|(apply aA (k := 142);rfl;(apply rU <;> (assumption));exact Pur.pf;rfl)|(apply aA (k := 182);rfl;(apply pC <;> (omega));exact Pur.pf;rfl)|(apply aA (k := 233);rfl;(apply mT);exact Pur.pf;rfl)|(apply aA (k := 235);rfl;(apply Ay <;> (first|assumption|infer_instance));exact Pur.pf;rfl)))|refine aD ?_|refine aE ?_|(refine aM ?_ ?_ <;> intro hc hq <;> try (exfalso;omega))|refine b0 ?_|fail)
   all_goals first|rw [e1 (by assumption)]|rw [e0 (by assumption)]
   all_goals
    refine aK (σ := Nat × (List Nat × Bool)) [0, 3, 7, 20, 21, 22, 47, 48] [] (fun j => [(49, iv (j.1 : Int)), (4, bv j.2.2)]) (fun j => [(0, some (flat cW j.2.1))]) (fun j => j.1 ≤ pts[k]!.next.length ∧ j.2 = ((vE pts k).take j.1).foldl (k4 nV (yV ts pts k u[k]!)) (u, c) ∧ SG pts (O9 ts pts) j.2.1) (fun j => pts[k]!.next.length - j.1) (0, (u, c)) ⟨by omega, rfl, hS2⟩ ?_
    rintro ⟨j, u2, c2⟩ ⟨hj, hf2, hS3⟩
    dsimp only at hj hf2 hS3 ⊢
    have hul2 := hS3.1
    have hsm2 : ∀ z : Nat, Sm u2[z]! := by
     intro z
     by_cases hz : z < pts.length
     ·exact ⟨Nat.lt_of_lt_of_le (hS3.2 z hz).1 (Nat.pow_le_pow_right (by decide) (by omega))⟩
     ·rw [getElem!_neg u2 z (by rw [hul2]; exact hz)]; exact ⟨by decide⟩
    have hz : j < pts[k]!.next.length → 0 ≤ pts[k]!.next[j]! ∧ pts[k]!.next[j]! < pts.length := fun h => w.nx k hkn _ (aW _ _ h)
    repeat' (first|refine aD ?_|refine aE ?_|(refine aM ?_ ?_ <;> intro hc hq <;> try (exfalso;omega))|refine b0 ?_|fail)
    ·have hzz := hz (by omega)
     have hed : edge pts k (pts[k]!.next[j]!).toNat := ⟨hkn, by rw [Int.toNat_of_nonneg hzz.1]; exact aW _ _ (by omega)⟩
     have hne : nV u2[(pts[k]!.next[j]!).toNat]! (yV ts pts k u[k]!) ≠ u2[(pts[k]!.next[j]!).toNat]! := fun h => hq (congrArg Int.ofNat h)
     (refine bH (j + 1, (_, true)) (Le.renA [(0, 0)]) ?_ ?_)
     ·dsimp only
      refine ⟨by omega, ?_, xJ fl w (hS2.2 k hkn) hed hS3⟩
      rw [iV (by omega), ← hf2, x8 hne]
     ·dsimp only;omega
    ·have hzz := hz (by omega)
     have hne : nV u2[(pts[k]!.next[j]!).toNat]! (yV ts pts k u[k]!) = u2[(pts[k]!.next[j]!).toNat]! := Int.ofNat.inj hq
     (refine bH (j + 1, (u2, c2)) (Le.renA [(0, 0)]) ?_ ?_)
     ·dsimp only
      refine ⟨by omega, ?_, hS3⟩
      rw [iV (by omega), ← hf2, xX hne]
     ·dsimp only;omega
    ·(refine bH (k + 1, (u2, c2)) (Le.renA [(0, 0)]) ?_ ?_)
     ·dsimp only
      refine ⟨by omega, ?_, hS3⟩
      rw [dS, ← hf, hf2, List.take_of_length_le (by rw [kY]; omega)]; rfl
     ·dsimp only;omega
  ·repeat' (first | refine aD ?_ | refine aE ?_ | (refine aM ?_ ?_ <;> intro hc hq <;> try (exfalso; omega))|fail)
   have law := uS w fl s false hS
   have hfull : (u, c) = xN nV (yV ts pts) pts (s, false) := by
    rw [hf, show k = pts.length by omega]; rfl
   rw [← hfull] at law
   (refine bH (u, c) (Le.renA [(0, 0)]) ?_ ?_)
   ·dsimp only
    refine ⟨hS2, fun h => ?_⟩
    rcases law.2 with ⟨e1, e2⟩ | ⟨e1, _⟩
    ·cases e1;exact e2
    ·dsimp only at e1;rw [h] at e1;cases e1
   ·dsimp only
    have hb : b = true := by assumption
    subst hb
    rcases law.2 with ⟨e1, e2⟩ | ⟨e1, e2⟩
    ·cases e1;simp
    ·dsimp only at e1 e2;subst e1;omega
 ·have hb : b = false := by assumption
  refine aV (Le.frzD (d := 2) (i := 0) rfl rfl) ?_
  refine aF rfl ⟨?_, (by (exact bG _ _))⟩
  simp only [aQ]
  rw [EJ hA (Hc w hS (hC hb))]
theorem Dc (ts : List Int) (bd : List AL.Stmt) (pts : List Pnt) (i : Int) (f : List Nat) (w : WG ts pts) (hi : 0 ≤ i ∧ i < pts.length) (hf : f.length = 6) (hs : ∀ z : Nat, Sm f[z]!) : PC Tryz.prog 183 [aG ts bd pts, iv i, .agg (flat cW f)] (fun r => r = .agg (flat cW (xO ts pts i.toNat f))) := by
 have hpl := w.pl
 have htl := w.tl
 have hin : i.toNat < pts.length := by omega
 have hst := (w.set i.toNat hin)
 have hy := w.y i.toNat hin
 have hbl := cR (wS ts pts[i.toNat]! [2])
 have hT : Sm (wS ts pts[i.toNat]! [2]) := bY (by omega)
 refine aB Tryz.func183 Tryz.ntmps183 ?_
 repeat' (first|(apply aI;(first|(apply aA (k := 120);rfl;(apply fW <;> (assumption));(rfl);rfl)|(apply aA (k := 142);rfl;(apply rU <;> (assumption));exact Pur.pf;rfl)))|refine aD ?_|refine aE ?_|fail)
 refine aK (σ := Nat × List Nat) [0, 1, 5, 6, 7, 8, 23, 24] [0, 1, 2] (fun k => [(25, iv (k.1 : Int))]) (fun k => [(3, some (flat cW k.2))]) (fun k => k.1 ≤ (a8 (wS ts pts[i.toNat]! [2])).length ∧ k.2 = n7 ((a8 (wS ts pts[i.toNat]! [2])).take k.1) f ∧ k.2.length = 6) (fun k => (a8 (wS ts pts[i.toNat]! [2])).length - k.1) (0, f) ⟨by omega, rfl, hf⟩ ?_
 rintro ⟨k, u⟩ ⟨hk, hu, hul⟩
 dsimp only at hk hu hul ⊢
 have hbb : k < (a8 (wS ts pts[i.toNat]! [2])).length → 0 ≤ (a8 (wS ts pts[i.toNat]! [2]))[k]! ∧ (a8 (wS ts pts[i.toNat]! [2]))[k]! < ts.length := fun h => lR (wZ (fun v => decide (aT ts pts[i.toNat]! v ∈ [2])) ts.length) h
 have husm : ∀ z : Nat, Sm u[z]! := by intro z;rw [hu]; exact Mv hs z
 have hset : ∀ (k a : Nat) [Sm a] (z : Nat), Sm (u.set k a)[z]! := fun k a h z => Ch husm h z
 have hset2 : ∀ (k a k2 a2 : Nat) [Sm a] [Sm a2] (z : Nat), Sm ((u.set k a).set k2 a2)[z]! := fun k a k2 a2 h h2 z => Ch (Ch husm h) h2 z
 by_cases hkn : k < (a8 (wS ts pts[i.toNat]! [2])).length
 ·have hbk := hbb hkn
  repeat' (first|refine aD ?_|refine aE ?_|(refine aM ?_ ?_ <;> intro hc hq <;> try (exfalso;omega))|fail)
  (refine bH (k + 1, u.set ((a8 (wS ts pts[i.toNat]! [2]))[k]!).toNat 0) (Le.renA [(0, 0), (1, 1), (2, 2), (3, 3)]) ?_ ?_)
  ·dsimp only
   exact ⟨by omega, by rw [Gj hkn, ← hu], by simpa using hul⟩
  ·dsimp only;omega
 ·have hu' : u = n7 (a8 (wS ts pts[i.toNat]! [2])) f := by rw [hu, List.take_of_length_le (by omega)]
  cases hln : bW pts[i.toNat]!
  ·repeat' (first | (apply aI; (first | (apply aA (k := 143);rfl;(apply xT);exact Pur.pf;rfl) | (apply aA (k := 233);rfl;(apply mT);exact Pur.pf;rfl))) | refine aD ?_ | refine aE ?_ | (refine aM ?_ ?_ <;> intro hc hq <;> try (exfalso; omega)) | refine b0 ?_|fail)
   all_goals (refine aF (oA (z := 6) rfl rfl (by first|exact hul|(simp only [List.length_set]; exact hul)) (by decide)) ⟨?_, (by (exact bG _ _))⟩)
   all_goals simp only [aQ, xO, ← hu', hln, Bool.false_eq_true, false_and, false_or, if_false]
   all_goals congr 2
   all_goals grind
  ·have hop := oI hln
   repeat' (first|(apply aI;first|(apply jR;rfl;rfl;infer_instance;omega;rfl;(case' kk => intro hsm))|(first|(apply aA (k := 143);rfl;(apply xT);exact Pur.pf;rfl)|(apply aA (k := 233);rfl;(apply mT);exact Pur.pf;rfl)|(apply aA (k := 234);rfl;(apply AH);(rfl);rfl)))|refine aD ?_|refine aE ?_|(refine aM ?_ ?_ <;> intro hc hq <;> try (exfalso;omega))|(refine bU ?_ ?_ <;> intro hg hq <;> try (exfalso;omega))|refine b0 ?_|fail)
   all_goals (refine aF (oA (z := 6) rfl rfl (by first|exact hul|(simp only [List.length_set]; exact hul)) (by decide)) ⟨?_, (by (exact bG _ _))⟩)
   all_goals simp only [aQ, xO, ← hu', hln, true_and, if_true]
   all_goals congr 2
   all_goals grind
theorem EF (ts : List Int) (bd : List AL.Stmt) (pts : List Pnt) (A : List Nat) (w : WG ts pts) (hA : qQ ts pts A) : PC Tryz.prog 104 [aG ts bd pts] (fun r => r = .imm pts.length (flat cW A)) := by
 have hpl := w.pl
 have hp0 := w.p0
 have htl := w.tl
 refine aB Tryz.func104 Tryz.ntmps104 ?_
 repeat' (first|refine aD ?_|refine aE ?_|fail)
 refine aK (σ := List Nat × Bool) [0, 3] [] (fun s => [(4, bv s.2)]) (fun s => [(0, some (flat cW s.1))]) (fun s => SF ts pts s.1 ∧ (s.2 = false → zG ts pts s.1)) (fun s => 2 * fD (s.1.map (fun x => 2 ^ pts.length - x)) + s.2.toNat) (List.replicate (pts.length * 6) 0, true) ⟨NK, fun h => by cases h⟩ ?_
 rintro ⟨s, b⟩ ⟨hS, hC⟩
 dsimp only at hS hC ⊢
 repeat' (first|refine aD ?_|refine aE ?_|(refine aM ?_ ?_ <;> intro hc hq <;> try (exfalso;omega))|fail)
 ·refine aK (σ := Nat × (List Nat × Bool)) [0, 3, 22, 23] [] (fun k => [(24, iv (k.1 : Int)), (4, bv k.2.2)]) (fun k => [(0, some (flat cW k.2.1))]) (fun k => k.1 ≤ pts.length ∧ k.2 = (List.range k.1).foldl (Da ts pts) (s, false) ∧ SF ts pts k.2.1) (fun k => pts.length - k.1) (0, (s, false)) ⟨by omega, rfl, hS⟩ ?_
  rintro ⟨i, u, c⟩ ⟨hk, hf, hS2⟩
  dsimp only at hk hf hS2 ⊢
  have hul := hS2.1
  have hsm : ∀ z : Nat, Sm u[z]! := L8 w hS2
  by_cases hin : i < pts.length
  ·have hnl := w.nl i hin
   have hrl : ((u.drop (i * 6)).take 6).length = 6 := gD hul hin
   have hrs : ∀ z : Nat, Sm ((u.drop (i * 6)).take 6)[z]! := by
    intro z
    by_cases hz : z < 6
    ·have := fJ hul hin hz;unfold eQ at this;rw [this]; exact hsm _
    ·rw [getElem!_neg _ z (by rw [hrl]; exact hz)]; exact ⟨by decide⟩
   have hcl : (xO ts pts (i : Int).toNat ((u.drop (i * 6)).take 6)).length = 6 := (Ke ts pts i ((u.drop (i * 6)).take 6)).trans hrl
   repeat' (first|(apply aI;(apply aA (k := 183);rfl;(apply Dc <;> (first|assumption|omega));exact Pur.pf;rfl))|refine aD ?_|refine aE ?_|(refine aM ?_ ?_ <;> intro hc hq <;> try (exfalso;omega))|fail)
   generalize hcf : xO ts pts (i : Int).toNat ((u.drop (i * 6)).take 6) = a at hcl
   have hcf' : xO ts pts i (eQ u i) = a := hcf
   have hasnd : ∀ k, edge pts i k → ∀ v, v < 6 → OS ts pts k v a[v]! := fun k e v hv => by rw [← hcf']; exact DJ w hS2 e hv
   refine aK (σ := Nat × (List Nat × Bool)) [0, 3, 7, 22, 23, 24, 37, 38] [2] (fun j => [(39, iv (j.1 : Int)), (4, bv j.2.2)]) (fun j => [(0, some (flat cW j.2.1))]) (fun j => j.1 ≤ pts[i]!.next.length ∧ j.2 = ((vE pts i).take j.1).foldl (vL a) (u, c) ∧ SF ts pts j.2.1) (fun j => pts[i]!.next.length - j.1) (0, (u, c)) ⟨by omega, rfl, hS2⟩ ?_
   rintro ⟨j, u2, c2⟩ ⟨hj, hf2, hS3⟩
   dsimp only at hj hf2 hS3 ⊢
   have hul2 := hS3.1
   by_cases hjn : j < pts[i]!.next.length
   ·have hzz : 0 ≤ pts[i]!.next[j]! ∧ pts[i]!.next[j]! < pts.length := w.nx i hin _ (aW _ _ hjn)
    have hed : edge pts i (pts[i]!.next[j]!).toNat := ⟨hin, by rw [Int.toNat_of_nonneg hzz.1]; exact aW _ _ hjn⟩
    have hap := hasnd _ hed
    have hasm : ∀ z : Nat, Sm a[z]! := by
     intro z
     by_cases hz : z < 6
     ·exact ⟨Nat.lt_of_lt_of_le (hap z hz).1 (Nat.pow_le_pow_right (by decide) (by omega))⟩
     ·rw [getElem!_neg a z (by rw [hcl]; exact hz)]; exact ⟨by decide⟩
    repeat' (first|refine aD ?_|refine aE ?_|(refine aM ?_ ?_ <;> intro hc hq <;> try (exfalso;omega))|fail)
    refine aK (σ := Nat × (List Nat × Bool)) [0, 3, 7, 9, 22, 23, 24, 37, 38, 39, 43] [2] (fun v => [(44, iv (v.1 : Int)), (4, bv v.2.2)]) (fun v => [(0, some (flat cW v.2.1))]) (fun v => v.1 ≤ 6 ∧ v.2 = (List.range v.1).foldl (qC a (pts[i]!.next[j]!).toNat) (u2, c2) ∧ SF ts pts v.2.1) (fun v => 6 - v.1) (0, (u2, c2)) ⟨by omega, rfl, hS3⟩ ?_
    rintro ⟨v, u3, c3⟩ ⟨hv, hf3, hS4⟩
    dsimp only at hv hf3 hS4 ⊢
    have hul3 := hS4.1
    have hsm3 : ∀ z : Nat, Sm u3[z]! := L8 w hS4
    by_cases hvn : v < 6
    ·have hlaw := AP (cT w hed) hap u3 c3 v hvn hS4
     repeat' (first|refine aD ?_|refine aE ?_|(refine aM ?_ ?_ <;> intro hc hq <;> try (exfalso;omega))|refine b0 ?_|fail)
     ·have hne : nV u3[(pts[i]!.next[j]!).toNat * 6 + v]! a[v]! ≠ u3[(pts[i]!.next[j]!).toNat * 6 + v]! := fun h => hq (congrArg Int.ofNat h)
      have e1 : qC a (pts[i]!.next[j]!).toNat (u3, c3) v = (u3.set ((pts[i]!.next[j]!).toNat * 6 + v) (nV u3[(pts[i]!.next[j]!).toNat * 6 + v]! a[v]!), true) := x8 hne
      rw [e1] at hlaw
      (refine bH (v + 1, (_, true)) (Le.renA [(0, 0), (2, 2)]) ?_ ?_)
      ·dsimp only
       refine ⟨by omega, ?_, hlaw.1⟩
       rw [xA, ← hf3, e1]; rfl
      ·dsimp only;omega
     ·have hne : nV u3[(pts[i]!.next[j]!).toNat * 6 + v]! a[v]! = u3[(pts[i]!.next[j]!).toNat * 6 + v]! := Int.ofNat.inj hq
      have e1 : qC a (pts[i]!.next[j]!).toNat (u3, c3) v = (u3, c3) := xX hne
      (refine bH (v + 1, (u3, c3)) (Le.renA [(0, 0), (2, 2)]) ?_ ?_)
      ·dsimp only
       refine ⟨by omega, ?_, hS4⟩
       rw [xA, ← hf3, e1]
      ·dsimp only;omega
    ·have hv6 : v = 6 := by omega
     subst hv6
     repeat' (first|refine aD ?_|refine aE ?_|fail)
     (refine bH (j + 1, (u3, c3)) (Le.renA [(0, 0), (2, 2)]) ?_ ?_)
     ·dsimp only
      refine ⟨by omega, ?_, hS4⟩
      rw [Gk hjn, ← hf2, hf3]; rfl
     ·dsimp only;omega
   ·repeat' (first | refine aD ?_ | refine aE ?_ | (refine aM ?_ ?_ <;> intro hc hq <;> try (exfalso; omega))|fail)
    (refine bH (i + 1, (u2, c2)) (Le.renA [(0, 0)]) ?_ ?_)
    ·dsimp only
     refine ⟨by omega, ?_, hS3⟩
     rw [dS, ← hf, hf2, List.take_of_length_le (by rw [kY]; omega), ← hcf']; rfl
    ·dsimp only;omega
  ·repeat' (first | refine aD ?_ | refine aE ?_ | (refine aM ?_ ?_ <;> intro hc hq <;> try (exfalso; omega))|fail)
   have law := GY w s false hS
   have hfull : (u, c) = Ib ts pts (s, false) := by
    rw [hf, show i = pts.length by omega]; rfl
   rw [← hfull] at law
   (refine bH (u, c) (Le.renA [(0, 0)]) ?_ ?_)
   ·dsimp only
    refine ⟨hS2, fun h => ?_⟩
    rcases law.2 with ⟨e1, e2⟩ | ⟨e1, _⟩
    ·cases e1;exact e2
    ·dsimp only at e1;rw [h] at e1;cases e1
   ·dsimp only
    have hb : b = true := by assumption
    subst hb
    rcases law.2 with ⟨e1, e2⟩ | ⟨e1, e2⟩
    ·cases e1;simp
    ·dsimp only at e1 e2;subst e1;omega
 ·have hb : b = false := by assumption
  refine aV (Le.frzD (d := 2) (i := 0) rfl rfl) ?_
  refine aF rfl ⟨?_, (by (exact bG _ _))⟩
  simp only [aQ]
  rw [Ff hA (I4 w hS (hC hb))]
theorem MV (ts : List Int) (bd : List AL.Stmt) (pts : List Pnt) (i : Int) (lv : Nat) (f : List Nat) (w : WG ts pts) (hi : 0 ≤ i ∧ i < pts.length) (hlv : lv < 2 ^ ts.length) (hf : f.length = 6) (hs : ∀ z : Nat, Sm f[z]!) : PC Tryz.prog 186 [aG ts bd pts, iv i, iv (lv : Int), .agg (flat cW f)] (fun r => r = .v (.int .u64 (vP ts pts[i.toNat]! lv f : Nat))) := by
 have hpl := w.pl
 have htl := w.tl
 have hin : i.toNat < pts.length := by omega
 have hst := (w.set i.toNat hin)
 have hsl : Sm lv := ⟨Nat.lt_of_lt_of_le hlv (Nat.pow_le_pow_right (by decide) (by omega))⟩
 have hT : Sm (wS ts pts[i.toNat]! [2]) := bY (by omega)
 have hB : Sm (g8 pts[i.toNat]!) := rY (by omega)
 have hbl := cR (nO lv (wS ts pts[i.toNat]! [2] ||| g8 pts[i.toNat]!))
 have hlt : nO lv (wS ts pts[i.toNat]! [2] ||| g8 pts[i.toNat]!) < 2 ^ ts.length := Nat.xor_lt_two_pow hlv (Nat.lt_of_le_of_lt Nat.and_le_left hlv)
 refine aB Tryz.func186 Tryz.ntmps186 ?_
 repeat' (first|(apply aI;(first|(apply aA (k := 120);rfl;(apply fW <;> (infer_instance));(rfl);rfl)|(apply aA (k := 142);rfl;(apply rU <;> (assumption));exact Pur.pf;rfl)|(apply aA (k := 182);rfl;(apply pC <;> (omega));exact Pur.pf;rfl)))|refine aD ?_|refine aE ?_|refine b0 ?_|fail)
 refine aK (σ := Nat × Nat) [7, 28, 29] [0] (fun k => [(30, iv (k.1 : Int)), (10, .v (.int .u64 (k.2 : Int)))]) (fun k => []) (fun k => k.1 ≤ (a8 (nO lv (wS ts pts[i.toNat]! [2] ||| g8 pts[i.toNat]!))).length ∧ k.2 = Oe f ((a8 (nO lv (wS ts pts[i.toNat]! [2] ||| g8 pts[i.toNat]!))).take k.1) 0 ∧ Sm k.2) (fun k => (a8 (nO lv (wS ts pts[i.toNat]! [2] ||| g8 pts[i.toNat]!))).length - k.1) (0, 0) ⟨by omega, rfl, inferInstance⟩ ?_
 rintro ⟨k, a⟩ ⟨hk, ha, hsa⟩
 dsimp only at hk ha hsa ⊢
 have hbb : k < (a8 (nO lv (wS ts pts[i.toNat]! [2] ||| g8 pts[i.toNat]!))).length → 0 ≤ (a8 (nO lv (wS ts pts[i.toNat]! [2] ||| g8 pts[i.toNat]!)))[k]! ∧ (a8 (nO lv (wS ts pts[i.toNat]! [2] ||| g8 pts[i.toNat]!)))[k]! < ts.length := fun h => lR hlt h
 repeat' (first|refine aD ?_|refine aE ?_|(refine aM ?_ ?_ <;> intro hc hq <;> try (exfalso;omega))|fail)
 ·(refine bH (k + 1, _) (Le.renA [(0, 0)]) ?_ ?_)
  ·dsimp only
   refine ⟨by omega, ?_, inferInstance⟩
   rw [ha]; unfold Oe;rw [eI _ _ _ _ (by omega)]
  ·dsimp only;omega
 ·refine aF rfl ⟨?_, rfl⟩
  simp only [aQ]
  rw [ha, List.take_of_length_le (by omega)]; rfl
theorem Dg (ts : List Int) (bd : List AL.Stmt) (pts : List Pnt) (x : Pnt) (mb : Nat) (htl : ts.length ≤ 6) (hmb : Sm mb) (hst : aN x < ts.length) (hy : 0 ≤ x.y ∧ (3 ≤ x.op → x.op ≤ 7 → x.y < ts.length)) : PC Tryz.prog 236 [aG ts bd pts, fL x, iv (mb : Int)] (fun r => r = sl EH (iD ts x (mb.testBit (aN x).toNat))) := by
 refine aB Tryz.func236 Tryz.ntmps236 ?_
 repeat' (first|(apply aI;first|(apply gB (d := 7) (e := 2);rfl;rfl)|(first|(apply aA (k := 143);rfl;(apply xT);exact Pur.pf;rfl)|(apply aA (k := 199);rfl;(apply yZ <;> (omega));exact Pur.pf;rfl)))|refine aD ?_|refine aE ?_|(refine aM ?_ ?_ <;> intro hc hq <;> try (exfalso;omega))|(refine bU ?_ ?_ <;> intro hg hq <;> try (exfalso;omega))|fail)
 all_goals first|refine aV (Le.frzD (d := 6) (i := 1) rfl rfl) ?_|refine aV (Le.frzD (d := 6) (i := 3) rfl rfl) ?_|refine aV (Le.frzD (d := 6) (i := 5) rfl rfl) ?_
 all_goals refine aF rfl ⟨?_, (by (rfl))⟩
 all_goals simp only [aQ, iD]
 all_goals have h1 := mG mb (aN x).toNat
 all_goals (try (rw [if_neg (show ¬ (0 ≤ aN x ∧ ts[(aN x).toNat]! = 2 ∧ mb.testBit (aN x).toNat = true) from fun h => by omega)]))
 all_goals (simp_all <;> rfl)
theorem Fe (ts : List Int) (bd : List AL.Stmt) (pts : List Pnt) (i : Int) (mb loans : Nat) (w : WG ts pts) (hi : 0 ≤ i ∧ i < pts.length) (hmb : Sm mb) (hlo : loans < 2 ^ pts.length) : PC Tryz.prog 185 [aG ts bd pts, iv i, iv (mb : Int), .v (.int .u64 (loans : Int))] (fun r => r = .v (.int .u64 (JC pts loans (iD ts pts[i.toNat]! (mb.testBit (aN pts[i.toNat]!).toNat)) 0 : Nat))) := by
 have hpl := w.pl
 have htl := w.tl
 have hin : i.toNat < pts.length := by omega
 have hst := (w.set i.toNat hin).1
 have hy := w.y i.toNat hin
 have hx := w.x i.toNat hin
 have hop := w.op i.toNat hin
 have hlsm : Sm loans := ⟨Nat.lt_of_lt_of_le hlo (Nat.pow_le_pow_right (by decide) (by omega))⟩
 have hacc := zJ (mb.testBit (aN pts[i.toNat]!).toNat) w hin
 have hal := AX ts pts[i.toNat]! (mb.testBit (aN pts[i.toNat]!).toNat)
 refine aB Tryz.func185 Tryz.ntmps185 ?_
 repeat' (first|(apply aI;(apply aA (k := 236);rfl;(apply Dg <;> (assumption));exact Pur.pf;rfl))|refine aD ?_|refine aE ?_|fail)
 generalize iD ts pts[i.toNat]! (mb.testBit (aN pts[i.toNat]!).toNat) = acs at hacc hal
 refine aK (σ := Nat × Nat) [0, 3, 23, 24] [] (fun k => [(25, iv (k.1 : Int)), (9, .v (.int .u64 (k.2 : Int)))]) (fun k => []) (fun k => k.1 ≤ acs.length ∧ k.2 = JC pts loans (acs.take k.1) 0 ∧ k.2 < 2 ^ pts.length) (fun k => acs.length - k.1) (0, 0) ⟨by omega, rfl, Nat.pow_pos (by decide)⟩ ?_
 rintro ⟨k, a⟩ ⟨hk, ha, hab⟩
 dsimp only at hk ha hab ⊢
 by_cases hkn : k < acs.length
 ·have hcv := hacc _ (aW acs k hkn)
  have hof : ∀ V, Sm (rJ pts V) := fun V => Js w V
  have hll := cR (loans &&& rJ pts (2 ^ (acs[k]!.var).toNat))
  have hlb : loans &&& rJ pts (2 ^ (acs[k]!.var).toNat) < 2 ^ pts.length := Nat.lt_of_le_of_lt Nat.and_le_left hlo
  have htk := eI (fun a c => Ly pts c.write (a8 (loans &&& rJ pts (2 ^ c.var.toNat))) a) acs 0 k hkn
  repeat' (first|(apply aI;first|(apply jR;rfl;rfl;infer_instance;omega;rfl;(case' kk => intro hsm))|(first|(apply aA (k := 76);rfl;(apply uM <;> (infer_instance));(rfl);rfl)|(apply aA (k := 235);rfl;(apply Ay <;> (assumption));exact Pur.pf;rfl)))|refine aD ?_|refine aE ?_|(refine aM ?_ ?_ <;> intro hc hq <;> try (exfalso;omega))|fail)
  refine aK (σ := Nat × Nat) [0, 3, 11, 23, 24, 25, 36, 37] [0] (fun j => [(38, iv (j.1 : Int)), (9, .v (.int .u64 (j.2 : Int)))]) (fun j => []) (fun j => j.1 ≤ (a8 (loans &&& rJ pts (2 ^ (acs[k]!.var).toNat))).length ∧ j.2 = Ly pts acs[k]!.write ((a8 (loans &&& rJ pts (2 ^ (acs[k]!.var).toNat))).take j.1) a ∧ j.2 < 2 ^ pts.length) (fun j => (a8 (loans &&& rJ pts (2 ^ (acs[k]!.var).toNat))).length - j.1) (0, a) ⟨by omega, rfl, hab⟩ ?_
  rintro ⟨j, b⟩ ⟨hj, hb, hbb⟩
  dsimp only at hj hb hbb ⊢
  have hbsm : Sm b := ⟨Nat.lt_of_lt_of_le hbb (Nat.pow_le_pow_right (by decide) (by omega))⟩
  by_cases hjn : j < (a8 (loans &&& rJ pts (2 ^ (acs[k]!.var).toNat))).length
  ·have hlz := lR hlb hjn
   have hstep : Ly pts acs[k]!.write ((a8 (loans &&& rJ pts (2 ^ (acs[k]!.var).toNat))).take (j + 1)) a = if acs[k]!.write = true ∨ pts[((a8 (loans &&& rJ pts (2 ^ (acs[k]!.var).toNat)))[j]!).toNat]!.op = 5 then b ||| 2 ^ ((a8 (loans &&& rJ pts (2 ^ (acs[k]!.var).toNat)))[j]!).toNat else b := by
    rw [hb]; unfold Ly;rw [eI _ _ _ _ hjn]
   have hb2 : b ||| 2 ^ ((a8 (loans &&& rJ pts (2 ^ (acs[k]!.var).toNat)))[j]!).toNat < 2 ^ pts.length := Nat.or_lt_two_pow hbb (Nat.pow_lt_pow_right (by decide) (by omega))
   repeat' (first|(apply aI;(apply jR;rfl;rfl;infer_instance;omega;rfl;(case' kk => intro hsm)))|refine aD ?_|refine aE ?_|(refine aM ?_ ?_ <;> intro hc hq <;> try (exfalso;omega))|(refine bU ?_ ?_ <;> intro hg hq <;> try (exfalso;omega))|fail)
   all_goals first
    | ((refine bH (j + 1, b ||| 2 ^ ((a8 (loans &&& rJ pts (2 ^ (acs[k]!.var).toNat)))[j]!).toNat) (Le.renA [(0, 0)]) ?_ ?_)
       ·dsimp only
        refine ⟨by omega, ?_, hb2⟩
        rw [hstep, if_pos (by first|exact .inl (by assumption)|exact .inr (by assumption))]
       ·dsimp only;omega)
    | ((refine bH (j + 1, b) (Le.renA [(0, 0)]) ?_ ?_)
       ·dsimp only
        refine ⟨by omega, ?_, hbb⟩
        rw [hstep, if_neg (fun h => h.elim (fun h1 => Bool.noConfusion (h1.symm.trans (by assumption : acs[k]!.write = false))) (fun h2 => absurd h2 (by assumption)))]
       ·dsimp only;omega)
  ·repeat' (first | refine aD ?_ | refine aE ?_ | (refine aM ?_ ?_ <;> intro hc hq <;> try (exfalso; omega))|fail)
   (refine bH (k + 1, b) (Le.renA []) ?_ ?_)
   ·dsimp only
    refine ⟨by omega, ?_, hbb⟩
    rw [hb, List.take_of_length_le (by omega), ha]; unfold JC;rw [htk]
   ·dsimp only;omega
 ·repeat' (first | refine aD ?_ | refine aE ?_ | (refine aM ?_ ?_ <;> intro hc hq <;> try (exfalso; omega))|fail)
  refine aF rfl ⟨?_, rfl⟩
  simp only [aQ]
  rw [ha, List.take_of_length_le (by omega)]
end Go.Proofs.YtahdccneecdmmaaGreat
