/-
 A part of the proofs over this program: rules and contracts of its functions (the contracts).
-/
import Derived.Test.YtjcpngimjdckmaaGreatQ4B05
import Derived.Test.YtjcpngimjdckmaaGreatRows
import Derived.WalkKit
import Derived.ProofKit
import Derived.OpenShut
import Derived.Carry
import Derived.ChangeSlices
import Derived.Shelf.Spec.SlicesInsert
import Derived.Lib.AppendZerosOnto
import Derived.Laws.NewBlocks
set_option linter.unusedVariables false
set_option linter.unusedSimpArgs false
set_option maxHeartbeats 8000000
set_option maxRecDepth 4000
attribute [local irreducible] Go.AL.RW Go.AL.AW Go.AL.Stop
namespace Go.Proofs.YtjcpngimjdckmaaGreat
open Go.AL Go.RowKit
theorem AG (p : Prg) (xs : List Int) (hl : p.types.length ≤ 1000000) (hs : bJ p.body ≤ 1000000) (hx : xs.length ≤ 10) : PC Tryz.prog 78 [c8 p, sl cI xs] (fun r => r = if cM p = true ∧ (∀ j, j < xs.length → 0 ≤ xs[j]! ∧ xs[j]! < (aR p).length) then .tup [aG p.types p.body (aR p), bv true] else .tup [.v (.pointer none), bv false]) := by
 have hpl := iW p
 have hnl := jG p.body
 (refine aQ Tryz.func78 rfl (by simp [Tryz.ntmps78]) ?_; rw [Tryz.ntmps78])
 repeat' (first|(apply aM;first|(apply aD;rfl;rfl)|(apply a6;rfl;rfl;(exact (rfl:_=[_, _]));rfl;rfl;rfl)|(apply aC;rfl;rfl)|(first|((with_reducible apply aI (k := 49));(case ha => rfl);(case h => (apply jF <;> (first|assumption|omega)));(case hp => (exact Pur.pf));(case hN => rfl))|((with_reducible apply aI (k := 96));(case ha => rfl);(case h => (apply xY <;> (assumption)));(case hp => (exact Pur.pf));(case hN => rfl)))|(apply a8;rfl;rfl;rfl)|(apply aF;kernel_rfl)|(apply b8;rfl;(exact (rfl:_=some [_, _, _]));(exact (rfl:_=[_, _, _]));rfl)|(apply cK;rfl;rfl)|(apply bW;rfl;rfl;rfl;rfl))|(apply aO;first|apply aH|apply aB|(apply b9;kernel_rfl)|(apply aP;rfl;all_goals intro hc;have hq:=hc;(try simp only [cD] at hq);try exfalso;omega)|apply aJ|apply aS|apply aW)|with_reducible apply aA|with_reducible apply b0)
 ·refine aU rfl ⟨?_, (by (rfl))⟩
  rw [if_neg (by simp [hq])]; rfl
 ·refine bG (σ := Nat) [6, 17, 18] [(6, _), (17, _), (18, _)] [1] [(1, some _)] (fun k => [(19, iv (k : Int))]) (fun k => []) (fun k => k ≤ xs.length ∧ ∀ j, j < k → 0 ≤ xs[j]! ∧ xs[j]! < (aR p).length) (fun k => xs.length - k) (0) ⟨by omega, by omega⟩ rfl rfl (by repeat' (first | exact trivial | refine And.intro rfl ?_)) (by repeat' (exact trivial)) ?_
  rintro k ⟨hk, hall⟩
  repeat' (first|(apply aM;first|(apply aD;rfl;rfl)|(apply aL;rfl;rfl;rfl;rfl)|(apply aE;rfl;rfl;rfl)|(first|(apply bO;rfl;rfl;omega;rfl)|(apply gT;rfl;rfl;omega;rfl)|(apply aV;rfl;rfl;rfl;rfl))|(apply aC;rfl;rfl)|(apply bB;(case hx|hi => rfl);(case hm => (omega));(case hml => (rfl));(case hα | hf|hg => infer_instance);(case hN => rfl))|((with_reducible apply aI (k := 50));(case ha => rfl);(case h => (apply iC <;> (fail)));(case hp => (rfl));(case hN => rfl))|(apply a8;rfl;rfl;rfl)|(apply aF;kernel_rfl)|(apply cK;rfl;rfl)|(apply dJ;rfl;rfl;rfl))|(apply aO;first|apply aH|apply aB|(apply aP;rfl;all_goals intro hc;have hq:=hc;(try simp only [cD] at hq);try exfalso;omega)|apply aJ|apply aS|apply bF|apply aW)|with_reducible apply aA|with_reducible apply b0|with_reducible apply bE|with_reducible apply aT|with_reducible apply eQ|with_reducible apply bD)
  ·refine aU rfl ⟨?_, (by (rfl))⟩
   rw [if_neg (fun h => by have := h.2 k (by omega);omega)]; rfl
  ·(apply c6 (k + 1); focus (refine Le.ren [(1, 1)] rfl (by decide) ?_ ?_ <;> repeat' (first | exact trivial | refine And.intro ⟨_, rfl, ?_⟩ ?_ | refine And.intro ⟨_, _, rfl, rfl, ?_⟩ ?_ | exact Or.inr rfl | refine Or.inl ⟨?_, (by first | rfl | exact aX _ _)⟩ | refine Or.inr (All2.cons ?_ ?_) | refine All2.cons ?_ ?_ | exact All2.nil | rfl)))
   ·exact ⟨by omega, fun j hj => by
     by_cases e : j = k
     ·subst e;omega
     ·exact hall j (by omega)⟩
   ·omega
  ·refine cA (Le.frzP (d := 4) (i := 1) rfl rfl) ?_
   refine aU rfl ⟨?_, (by show (AV.tup [aG p.types p.body (aR p), bv true]).pur = true;exact PurV.pf)⟩
   rw [if_pos ⟨by assumption, fun j hj => hall j (by omega)⟩]; rfl
def IP (p : Prg) (i : Int) : Prop := cM p = true ∧ 0 ≤ i ∧ i < (aR p).length
theorem Cj (p : Prg) (i : Int) (hl : p.types.length ≤ 1000000) (hs : bJ p.body ≤ 1000000) (h : IP p i) : PC Tryz.prog 78 [c8 p, .imm 1 [iv i]] (fun r => r = .tup [aG p.types p.body (aR p), bv true]) := by
 have := AG p [i] hl hs (by simp)
 rw [if_pos ⟨h.1, fun j hj => by obtain rfl : j = 0 := by simpa using hj
                                 exact h.2⟩] at this
 exact this
theorem wK (p : Prg) (i : Int) (f : Flows p.types (aR p)) (hl : p.types.length ≤ 1000000) (hs : bJ p.body ≤ 1000000) (h : IP p i) : PC Tryz.prog 53 [c8 p, iv i] (fun r => r = sl cI (cJ f.Aa[i.toNat]!)) := by
 have hg := Cj p i hl hs h
 have w := WG.of_valid h.1
 have hpl := w.pl
 have htl := w.tl
 have hi : 0 ≤ i ∧ i < (aR p).length := h.2
 have hin : i.toNat < (aR p).length := by omega
 have b := f.bnd w
 have hsA := b.sA
 have hla := b.la
 (refine aQ Tryz.func53 rfl (by simp [Tryz.ntmps53]) ?_; rw [Tryz.ntmps53])
 repeat' (first|(apply aM;first|((with_reducible apply aI (k := 78));(case ha => rfl);(case h => exact hg);(case hp => (exact Pur.pf));(case hN => rfl))|((with_reducible apply aI (k := 101));(case ha => rfl);(case h => exact yF p.types p.body (aR p) f.Aa w f.ga);(case hp => (exact Pur.pf));(case hN => rfl))|(apply aD;rfl;rfl)|(first|(apply aL;rfl;rfl;rfl;rfl)|(apply a6;rfl;rfl;(exact (rfl:_=[_, _]));rfl;rfl;rfl))|(apply aC;rfl;rfl)|(apply cC;(case hx|hi => rfl);(case hm => (assumption));(case hml => (omega));(case hα | hf|hg => infer_instance);(case hN => rfl))|((with_reducible apply aI (k := 100));(case ha => rfl);(case h => (apply vQ <;> (infer_instance)));(case hp => (rfl));(case hN => rfl))|(apply aF;kernel_rfl)|(apply cK;rfl;rfl)|(apply bW;rfl;rfl;rfl;rfl)|(apply dI;rfl;rfl;rfl)|((apply bS (t := _));(case hze|hsm|hl => rfl);(case hfl => exact (rfl:_=some [_]));(case hM|hN => rfl)))|(apply aO;first|apply aH|apply aB|(apply cF;rfl;(rfl))|apply aS|apply aW)|with_reducible apply aA)
 refine aU rfl ⟨rfl, (by (exact aX _ _))⟩
theorem EG (xs : List Int) (hl : xs.length ≤ 1000000) : PC Tryz.prog 103 [sl cI xs] (fun r => r = sl cI xs) := by
 (refine aQ Tryz.func103 rfl (by simp [Tryz.ntmps103]) ?_; rw [Tryz.ntmps103])
 repeat' (first|(apply aM;first|(apply Dp;rfl;rfl;(intro b hb))|(apply aD;rfl;rfl)|(apply aC;rfl;rfl)|(apply bV;rfl;rfl;rfl;rfl;rfl;(case hl => (simp [aK]; done));(exact qG (by (rfl)));omega;omega;(exact iV (by (omega)));rfl;rfl)|(apply aF;kernel_rfl)|(apply bK;rfl;rfl;rfl;(rfl);rfl;rfl))|(apply aO;first|apply aH|apply aB|(apply aP;rfl;all_goals intro hc;have hq:=hc;(try simp only [cD] at hq);try exfalso;omega)|apply aS|apply aW)|with_reducible apply aA|with_reducible apply b0)
 ·have h0 : xs = [] := List.eq_nil_of_length_eq_zero (hb (by assumption))
  subst h0
  (refine cA (Le.nilImm (d := 2) rfl) ?_; refine aU rfl ?_)
  exact ⟨rfl, rfl⟩
 ·(refine cA (Le.frzD (d := 2) (i := 1) rfl rfl) ?_; refine aU rfl ?_)
  refine ⟨?_, (by (exact aX _ _))⟩
  simp only [bQ, sl, Nat.zero_add]
theorem Ex (mm : Nat) (hmm : mm ≤ 1000000) (own_ih : ∀ l, bJ l < mm → PC Tryz.prog 71 [sl aN l] (fun r => r = sl aN l)) (l : List AL.Stmt) (hs : bJ l ≤ mm) : PC Tryz.prog 71 [sl aN l] (fun r => r = sl aN l) := by
 have hlen := cY l
 (refine aQ Tryz.func71 rfl (by simp [Tryz.ntmps71]) ?_; rw [Tryz.ntmps71])
 repeat' (first|(apply aM;first|((apply iJ (d := 3) (e := 6));(case hM|hN => rfl))|(apply aD;rfl;rfl)|(apply aC;rfl;rfl)|(apply a8;rfl;rfl;rfl)|(apply aF;kernel_rfl))|(apply aO;first|apply aH|apply aB|apply aJ)|with_reducible apply aA)
 refine bG (σ := Nat × List AL.Stmt) [6, 7] [(6, _), (7, _)] [] [] (fun k => [(8, iv (k.1 : Int)), (3, .own 0 0 k.1 6)]) (fun k => [(0, some (flat aN k.2))]) (fun k => k.1 ≤ l.length ∧ k.2 = l.take k.1) (fun k => l.length - k.1) (0, []) ⟨by omega, rfl⟩ rfl rfl (by repeat' (first|exact trivial|refine And.intro rfl ?_)) (by repeat' (first|exact trivial|refine And.intro (.inr rfl) ?_)) ?_
 rintro ⟨k, xs⟩ ⟨hk, hxs⟩
 dsimp only at hk hxs ⊢
 have hck := fL l k
 have hct := iG l[k]!
 have hln : xs.length = k := by rw [hxs, List.length_take]; omega
 repeat' (first|(apply aM;first|(apply aD;rfl;rfl)|(first|(apply aL;rfl;rfl;rfl;rfl)|(apply a6;rfl;rfl;(exact (rfl:_=[_, _, _, _, _, _]));rfl;rfl;rfl))|(apply aE;rfl;rfl;rfl)|(first|(apply bO;rfl;rfl;omega;rfl)|(apply aV;rfl;rfl;rfl;rfl))|(apply aC;rfl;rfl)|(apply bB;(case hx|hi => rfl);(case hm => (omega));(case hml => (rfl));(case hα | hf|hg => infer_instance);(case hN => rfl))|((with_reducible apply aI (k := 71));(case ha => rfl);(case h => (apply own_ih <;> (omega)));(case hp => (exact Pur.pf));(case hN => rfl))|(apply bV;rfl;rfl;rfl;rfl;rfl;(rw [aK]; omega);(rfl);omega;omega;(exact g9 (by (omega)));rfl;rfl)|(apply aF;kernel_rfl)|(apply bT;rfl;rfl)|((apply bS (t := _));(case hze|hsm|hl => rfl);(case hfl => (exact (rfl:_=some [_, _, _, _, _, _])));(case hM|hN => rfl))|(apply a7;rfl;rfl;rfl;rfl;rfl;(case hl => (simp;done));(exact (rfl:_=[_, _, _, _, _, _]))))|(apply aO;first|apply aH|apply aB|(apply b9;kernel_rfl)|(apply aP;rfl;all_goals intro hc;have hq:=hc;(try simp only [cD] at hq);try exfalso;omega)|apply aJ|apply aS|apply bF|apply aW)|with_reducible apply aA|with_reducible apply bE|with_reducible apply aT|with_reducible apply bD)
 ·(apply c6 (k + 1, _); focus (refine Le.ren [(0, 3)] rfl (by decide) ?_ ?_ <;> repeat' (first | exact trivial | refine And.intro ⟨_, rfl, ?_⟩ ?_ | refine And.intro ⟨_, _, rfl, rfl, ?_⟩ ?_ | exact Or.inr rfl | refine Or.inl ⟨?_, (by first | rfl | exact aX _ _)⟩ | rfl)))
  ·exact ⟨by dsimp only;omega, by dsimp only;rw [hxs, c7 l k (by omega)]⟩
  ·dsimp only;omega
 ·have hke : k = l.length := by omega
  (refine cA (Le.frzD (d := 2) (i := 0) rfl rfl) ?_; refine aU rfl ?_)
  refine ⟨?_, Pur.pf⟩
  rw [hxs, hke, List.take_length]; rfl
theorem Hb (l : List AL.Stmt) (hb : bJ l ≤ 1000000) : PC Tryz.prog 71 [sl aN l] (fun r => r = sl aN l) := by
 have key : ∀ m, m ≤ 1000000 → ∀ l, bJ l ≤ m → PC Tryz.prog 71 [sl aN l] (fun r => r = sl aN l) := by
  intro m
  induction m with
  | zero => intro hm l hl;exact Ex 0 hm (fun l h => by omega) l hl
  | succ m ih => intro hm l hl;exact Ex (m + 1) hm (fun l h => ih (by omega) l (by omega)) l hl
 exact key (bJ l) hb l (Nat.le_refl _)
theorem Hl (l : List AL.Stmt) (hs : bJ l ≤ 1000000) : MC Tryz.prog 71 [sl aN l] [] 0 (fun _ : Unit => True) (fun _ => .own 0 0 l.length 6) (fun _ => [(0, some (flat aN l))]) := by
 have hlen := cY l
 (refine dB Tryz.func71 rfl (by simp [Tryz.ntmps71]) ?_; rw [Tryz.ntmps71])
 repeat' (first|(apply aM;first|((apply iJ (d := 3) (e := 6));(case hM|hN => rfl))|(apply aD;rfl;rfl)|(apply aC;rfl;rfl)|(apply a8;rfl;rfl;rfl)|(apply aF;kernel_rfl))|(apply aO;first|apply aH|apply aB|apply aJ)|with_reducible apply aA)
 refine bG (σ := Nat × List AL.Stmt) [6, 7] [(6, _), (7, _)] [] [] (fun k => [(8, iv (k.1 : Int)), (3, .own 0 0 k.1 6)]) (fun k => [(0, some (flat aN k.2))]) (fun k => k.1 ≤ l.length ∧ k.2 = l.take k.1) (fun k => l.length - k.1) (0, []) ⟨by omega, rfl⟩ rfl rfl (by repeat' (first|exact trivial|refine And.intro rfl ?_)) (by repeat' (first|exact trivial|refine And.intro (.inr rfl) ?_)) ?_
 rintro ⟨k, xs⟩ ⟨hk, hxs⟩
 dsimp only at hk hxs ⊢
 have hck := fL l k
 have hct := iG l[k]!
 have hln : xs.length = k := by rw [hxs, List.length_take]; omega
 have o1 := Hb l[k]!.th
 have o2 := Hb l[k]!.el
 repeat' (first|(apply aM;first|((with_reducible apply aI (k := 71));(case ha => rfl);(case h => exact (o1 (by omega)));(case hp => (exact Pur.pf));(case hN => rfl))|((with_reducible apply aI (k := 71));(case ha => rfl);(case h => exact (o2 (by omega)));(case hp => (exact Pur.pf));(case hN => rfl))|(apply aD;rfl;rfl)|(first|(apply aL;rfl;rfl;rfl;rfl)|(apply a6;rfl;rfl;(exact (rfl:_=[_, _, _, _, _, _]));rfl;rfl;rfl))|(apply aE;rfl;rfl;rfl)|(first|(apply bO;rfl;rfl;omega;rfl)|(apply aV;rfl;rfl;rfl;rfl))|(apply aC;rfl;rfl)|(apply bB;(case hx|hi => rfl);(case hm => (omega));(case hml => (rfl));(case hα | hf|hg => infer_instance);(case hN => rfl))|(apply bV;rfl;rfl;rfl;rfl;rfl;(rw [aK]; omega);(rfl);omega;omega;(exact g9 (by (omega)));rfl;rfl)|(apply aF;kernel_rfl)|(apply bT;rfl;rfl)|((apply bS (t := _));(case hze|hsm|hl => rfl);(case hfl => (exact (rfl:_=some [_, _, _, _, _, _])));(case hM|hN => rfl))|(apply a7;rfl;rfl;rfl;rfl;rfl;(case hl => (simp;done));(exact (rfl:_=[_, _, _, _, _, _]))))|(apply aO;first|apply aH|apply aB|(apply b9;kernel_rfl)|(apply aP;rfl;all_goals intro hc;have hq:=hc;(try simp only [cD] at hq);try exfalso;omega)|apply aJ|apply aS|apply bF|apply aW)|with_reducible apply aA|with_reducible apply bE|with_reducible apply aT|with_reducible apply bD)
 ·(apply c6 (k + 1, _); focus (refine Le.ren [(0, 3)] rfl (by decide) ?_ ?_ <;> repeat' (first | exact trivial | refine And.intro ⟨_, rfl, ?_⟩ ?_ | refine And.intro ⟨_, _, rfl, rfl, ?_⟩ ?_ | exact Or.inr rfl | refine Or.inl ⟨?_, (by first | rfl | exact aX _ _)⟩ | rfl)))
  ·exact ⟨by dsimp only;omega, by dsimp only;rw [hxs, c7 l k (by omega)]⟩
  ·dsimp only;omega
 ·have hke : k = l.length := by omega
  have hxl : xs = l := by rw [hxs, hke, List.take_length]
  subst hke
  (refine aU rfl ?_; refine dA () trivial ?_ ⟨.inr (Eq.trans (b := some _) rfl ?_), trivial⟩)
  ·rfl
  ·rw [hxl]
theorem G5 {l : List AL.Stmt} {N : Nat} {Q : Exit → AS → Prop} {all : Array Oper} {rest : List Oper} {tsl : List (Nat × AV)} {hsl : List (Nat × Option (List AV))} {nidl : Nat} {z0 : Lo} {md : Md} {d : Nat} {ty : TypeId} {pos : String} {af : Array Edge} {tys : Array TypeId} {x0 : Operand} (ha0 : ev (lk tsl) x0 = some (sl aN l)) (hmc : MC Tryz.prog 71 [sl aN l] [] 0 (fun _ : Unit => True) (fun _ => .own 0 0 l.length 6) (fun _ => [(0, some (flat aN l))])) (hM : Nat.ble (nidl + 1) bZ = true) (hN : Nat.blt d N = true) {md' : Md} [hmd : MdA md (jH [x0] ++ []) (List.map Sum.inr (List.map Prod.fst ([(nidl, some (flat aN l))] : List (Nat × Option (List AV)))) ++ [.inl d]) md'] (kk : RW Tryz.prog N all Q md' rest ⟨(d, .own nidl 0 l.length 6) :: tsl, lE hsl [(nidl, some (flat aN l))], nidl + 1, z0⟩) : RW Tryz.prog N all Q md (⟨some d, .call ⟨.value (.func 71), #[x0], tys⟩, ty, pos, af, none⟩ :: rest) ⟨tsl, hsl, nidl, z0⟩ := by
 refine c5 [] 1 [(nidl, some (flat aN l))] hmc (avs := [sl aN l]) ?_ rfl ?_ rfl ?_ (by simpa using hM) ?_ ?_ ?_ hN (md' := md') (hmd := hmd) kk
 ·show evL (lk tsl) [x0] = _
  simp only [evL, ha0]
 ·exact trivial
 ·(repeat' (exact RnL.purI inferInstance))
 ·(repeat' (exact RnV.own rfl))
 ·simp [e7]
 ·(repeat' (first|exact trivial|(refine And.intro ⟨0, _, rfl, rfl, ?_⟩ ?_)|exact RnL.purI inferInstance))
theorem BJ {q : Prg} {N : Nat} {Q : Exit → AS → Prop} {all : Array Oper} {rest : List Oper} {tsl : List (Nat × AV)} {hsl : List (Nat × Option (List AV))} {nidl : Nat} {z0 : Lo} {md : Md} {d : Nat} {ty : TypeId} {pos : String} {af : Array Edge} {tys : Array TypeId} {x0 : Operand} (ha0 : ev (lk tsl) x0 = some (c8 q)) (hmc : MC Tryz.prog 55 [c8 q] [] 0 (fun _ : Unit => True) (fun _ => .agg [sl cI q.types, .own 2 0 q.body.length 6]) (fun _ => [(2, some (flat aN q.body))])) (hM : Nat.ble (nidl + 3) bZ = true) (hN : Nat.blt d N = true) {md' : Md} [hmd : MdA md (jH [x0] ++ []) (List.map Sum.inr (List.map Prod.fst ([((nidl + 2), some (flat aN q.body))] : List (Nat × Option (List AV)))) ++ [.inl d]) md'] (kk : RW Tryz.prog N all Q md' rest ⟨(d, .agg [sl cI q.types, .own (nidl + 2) 0 q.body.length 6]) :: tsl, lE hsl [((nidl + 2), some (flat aN q.body))], nidl + 3, z0⟩) : RW Tryz.prog N all Q md (⟨some d, .call ⟨.value (.func 55), #[x0], tys⟩, ty, pos, af, none⟩ :: rest) ⟨tsl, hsl, nidl, z0⟩ := by
 refine c5 [] 3 [((nidl + 2), some (flat aN q.body))] hmc (avs := [c8 q]) ?_ rfl ?_ rfl ?_ (by simpa using hM) ?_ ?_ ?_ hN (md' := md') (hmd := hmd) kk
 ·show evL (lk tsl) [x0] = _
  simp only [evL, ha0]
 ·exact trivial
 ·(repeat' (exact RnL.purI inferInstance))
 ·(repeat' (first|exact RnL.purI inferInstance|exact RnV.purI inferInstance|exact RnV.own rfl|refine RnL.cons ?_ ?_|refine RnV.agg ?_))
 ·simp [e7]
 ·(repeat' (first|exact trivial|(refine And.intro ⟨2, _, rfl, rfl, ?_⟩ ?_)|exact RnL.purI inferInstance))
theorem D1 (q : Prg) (hs : bJ q.body ≤ 1000000) (ht : q.types.length ≤ 1000000) : MC Tryz.prog 55 [c8 q] [] 0 (fun _ : Unit => True) (fun _ => .agg [sl cI q.types, .own 2 0 q.body.length 6]) (fun _ => [(2, some (flat aN q.body))]) := by
 have h1 := EG q.types ht
 (refine dB Tryz.func55 rfl (by simp [Tryz.ntmps55]) ?_; rw [Tryz.ntmps55])
 repeat' (first|(apply aM;first|((with_reducible apply aI (k := 103));(case ha => rfl);(case h => exact h1);(case hp => (exact Pur.pf));(case hN => rfl))|(apply G5;rfl;(apply Hl;assumption);rfl;rfl)|(apply aL;rfl;rfl;rfl;rfl)|(apply aE;rfl;rfl;rfl)|(apply aF;kernel_rfl)|(apply b8;rfl;(exact (rfl:_=some [_, _]));(exact (rfl:_=[_, _]));rfl)|(apply bW;rfl;rfl;rfl;rfl)|(apply bT;rfl;rfl)|(apply a7;rfl;rfl;rfl;rfl;rfl;(case hl => (simp;done));(exact (rfl:_=[_, _]))))|(apply aO;first|apply aH|apply aB|(apply b9;kernel_rfl)|apply aW)|with_reducible apply aA)
 (refine aU rfl ?_; refine dA () trivial ?_ ⟨.inr (Eq.trans (b := some _) rfl ?_), trivial⟩)
 ·rfl
 ·rfl
theorem FD {xs : List AL.Stmt} {m k : Nat} {N : Nat} {Q : Exit → AS → Prop} {all : Array Oper} {rest : List Oper} {tsl : List (Nat × AV)} {hsl : List (Nat × Option (List AV))} {nidl : Nat} {z0 : Lo} {md : Md} {d : Nat} {ty : TypeId} {pos : String} {af : Array Edge} {tys : Array TypeId} {x0 x1 x2 : Operand} {i0 : Nat} (ha0 : ev (lk tsl) x0 = some (.own i0 0 m 6)) (ha1 : ev (lk tsl) x1 = some (iv (k : Int))) (ha2 : ev (lk tsl) x2 = some (iv ((k : Int) + 1))) (hH0 : bU hsl i0 = some (flat aN xs)) (hmc : MC Tryz.prog 117 [.own 0 0 m 6, iv (k : Int), iv ((k : Int) + 1)] [(0, some (flat aN xs))] 1 (fun _ : Unit => True) (fun _ => .own 0 0 (m - 1) 6) (fun _ => [(0, some (flat aN (kK k xs)))])) (hM : Nat.ble (nidl + 0) bZ = true) (hN : Nat.blt d N = true) {md' : Md} [hmd : MdA md (jH [x0, x1, x2] ++ [.inr i0]) (List.map Sum.inr (List.map Prod.fst ([(i0, some (flat aN (kK k xs)))] : List (Nat × Option (List AV)))) ++ [.inl d]) md'] (kk : RW Tryz.prog N all Q md' rest ⟨(d, .own i0 0 (m - 1) 6) :: tsl, lE hsl [(i0, some (flat aN (kK k xs)))], nidl + 0, z0⟩) : RW Tryz.prog N all Q md (⟨some d, .call ⟨.value (.func 117), #[x0, x1, x2], tys⟩, ty, pos, af, none⟩ :: rest) ⟨tsl, hsl, nidl, z0⟩ := by
 refine c5 [i0] 1 [(i0, some (flat aN (kK k xs)))] hmc (avs := [.own i0 0 m 6, iv (k : Int), iv ((k : Int) + 1)]) ?_ rfl ?_ rfl ?_ (by simpa using hM) ?_ ?_ ?_ hN (md' := md') (hmd := hmd) kk
 ·show evL (lk tsl) [x0, x1, x2] = _
  simp only [evL, ha0, ha1, ha2]
 ·exact ⟨⟨_, _, rfl, hH0, by (repeat' (exact RnL.purI inferInstance))⟩, trivial⟩
 ·(repeat' (first|exact RnL.purI inferInstance|exact RnV.own rfl|refine RnL.cons ?_ ?_))
 ·(repeat' (exact RnV.own rfl))
 ·simp [e7]
 ·(repeat' (first|exact trivial|(refine And.intro ⟨0, _, rfl, rfl, ?_⟩ ?_)|exact RnL.purI inferInstance))
theorem Hu (xs : List AL.Stmt) (m k : Nat) (hm : m = xs.length) (hk : k < m) (hl : m ≤ 1000000) : MC Tryz.prog 117 [.own 0 0 m 6, iv (k : Int), iv ((k : Int) + 1)] [(0, some (flat aN xs))] 1 (fun _ : Unit => True) (fun _ => .own 0 0 (m - 1) 6) (fun _ => [(0, some (flat aN (kK k xs)))]) := by
 subst hm
 (refine dB Tryz.func117 rfl (by simp [Tryz.ntmps117]) ?_; rw [Tryz.ntmps117])
 repeat' (first|(apply aM;first|((apply C3 (l := k) (h := k + 1) (k := xs.length));(case hx => rfl);(case hl => exact j6 rfl (by omega));(case hh => exact j6 rfl (by omega));(case hm => exact j6 rfl (by omega));(case hc => omega);(case hN => rfl))|((apply Cm (d := 22) (h := k));(case hx => rfl);(case hh => exact j6 rfl (by omega));(case hc => omega);(case h0 => omega);(case hN => rfl))|((apply kN (d := 25) (l := k + 1) (h := xs.length));(case hx|hn => rfl);(case hl => exact j6 rfl (by omega));(case hh => rfl);(case hp => exact if_pos (by omega));(case hN => rfl))|((apply yR (d := 26));(case hx|hy|hH => rfl);(case hs' => exact Bf rfl rfl);(case hk => omega);(case hl => (rw [aK aN (e := 6), aK aN (e := 6), List.length_drop]; omega));(case hcs => exact Gx hk);(case hN => rfl))|(apply GN;rfl;rfl)|((apply zJ (d := 31) (l := xs.length - 1) (h := xs.length));(case hx => rfl);(case hl => exact j6 rfl (by omega));(case hh => exact j6 rfl (by omega));(case hc => omega);(case hN => rfl))|(apply EY;rfl;rfl;omega;rfl;(rw [List.length_append, aK aN (e := 6), aK aN (e := 6), List.length_drop]; have := nK hk;omega);exact Fp hk (by omega) rfl)|(apply aD;rfl;rfl)|(apply aV;rfl;rfl;rfl;rfl)|(apply aC;rfl;rfl)|(apply a8;rfl;rfl;rfl)|(apply aF;kernel_rfl))|(apply aO;first|apply aH|apply aB|(apply b9;kernel_rfl)|(apply aP;rfl;all_goals intro hc;have hq:=hc;(try simp only [cD] at hq);try exfalso;omega)|apply aS|apply aW)|with_reducible apply aA)
 refine cA (Le.noroom (d := 6) rfl) ?_
 refine cA (Le.cut (i := 0) ((xs.length - 1) * 6) rfl) ?_
 (refine aU rfl ?_; refine dA () trivial ?_ ⟨.inr (Eq.trans (b := some _) rfl ?_), trivial⟩)
 ·show AV.own 0 0 (k + (xs.length - (k + 1))) 6 = _
  rw [show k + (xs.length - (k + 1)) = xs.length - 1 by omega]
 ·rw [List.take_left' (by rw [aK aN (e := 6)]; have := nK hk;omega)]
theorem wG (q : Prg) (k : Nat) (hk : k ≤ q.body.length) (hs : bJ q.body ≤ 1000000) : PC Tryz.prog 54 [c8 q, iv (k : Int)] (fun r => r = iv (dL (q.body.take k) : Int)) := by
 have hlen := cY q.body
 have hc : bJ (List.take ((k : Int).toNat - 0) (List.drop 0 q.body)) ≤ bJ q.body := by
  have h := dS (q.body.take k) (q.body.drop k)
  rw [List.take_append_drop] at h
  rw [List.drop_zero, Nat.sub_zero, Int.toNat_natCast]; omega
 have hn := jG (List.take ((k : Int).toNat - 0) (List.drop 0 q.body))
 (refine aQ Tryz.func54 rfl (by simp [Tryz.ntmps54]) ?_; rw [Tryz.ntmps54])
 repeat' (first|(apply aM;first|(apply aD;rfl;rfl)|(apply aL;rfl;rfl;rfl;rfl)|(apply aE;rfl;rfl;rfl)|(apply aC;rfl;rfl)|(apply nY;rfl;rfl;(apply o7 <;> (omega));rfl;rfl)|(apply a8;rfl;rfl;rfl)|(apply aF;kernel_rfl)|(apply oN;rfl;infer_instance;rfl;rfl;(omega);rfl)|(apply bW;rfl;rfl;rfl;rfl))|(apply aO;first|apply aH|apply aB|apply aW)|with_reducible apply aA)
 refine aU rfl ⟨?_, rfl⟩
 simp only [bQ, List.drop_zero, Nat.sub_zero, Int.toNat_natCast]
theorem BZ (q : Prg) (k : Nat) (hk : k < q.body.length) (hs : bJ q.body ≤ 1000000) (ht : q.types.length ≤ 1000000) : PC Tryz.prog 65 [c8 q, iv (k : Int)] (fun r => r = c8 (rW q k)) := by
 have hlen := cY q.body
 (refine aQ Tryz.func65 rfl (by simp [Tryz.ntmps65]) ?_; rw [Tryz.ntmps65])
 repeat' (first|(apply aM;first|(apply BJ;rfl;(apply D1 <;> omega);rfl;rfl)|(apply aD;rfl;rfl)|(first|(apply aL;rfl;rfl;rfl;rfl)|(apply a6;rfl;rfl;(exact (rfl:_=[_, _]));rfl;rfl;rfl))|(apply aE;rfl;rfl;rfl)|(apply bO;rfl;rfl;omega;rfl)|(apply FD;rfl;rfl;rfl;(rfl);(apply Hu <;> (first|assumption|omega));rfl;rfl)|(apply aF;kernel_rfl)|(apply bW;rfl;rfl;rfl;rfl)|(apply bT;rfl;rfl)|(apply a7;rfl;rfl;rfl;rfl;rfl;(case hl => (simp;done));(exact (rfl:_=[_, _]))))|(apply aO;first|apply aH|apply aB|apply aW)|with_reducible apply aA)
 refine cA (Le.frzC (j := 1) (i := 4) [sl cI q.types] rfl rfl (by decide)) ?_
 have e : AV.agg [sl cI q.types, .imm (q.body.length - 1) (flat aN (kK k q.body))] = c8 (rW q k) := by
  have := nK hk
  unfold rW
  dsimp only [c8]
  unfold sl
  rw [show (kK k q.body).length = q.body.length - 1 by omega]
 rw [← e]
 exact aU (l := [AV.agg [sl cI q.types, .imm (q.body.length - 1) (flat aN (kK k q.body))]]) rfl ⟨rfl, by rw [e]; exact Pur.pf⟩
def shr (xs : List Tg) : List Tg := xs.filter (fun t => !t.uq)
theorem w6 {α : Type} [Inhabited α] (l : List α) (k : Nat) : l.set k l[k]! = l := by
 rcases Nat.lt_or_ge k l.length with h|h
 ·rw [dG _ _ h]; simp
 ·exact List.set_eq_of_length_le h
theorem LdL.app {D : List Nat} {H : Nat → Option (List AV)} : ∀ {a b c d : List AV}, LdL D H a b → LdL D H c d → cO a = true → LdL D H (a ++ c) (a ++ d)
 | [], _, _, _, _, h, _ => h
 | x :: a, b, c, d, h1, h, hp => by
  simp only [cO, Bool.and_eq_true] at hp
  exact .cons (.pur hp.1) (LdL.app (a := a) (b := a) (.pur hp.2) h hp.2)
end Go.Proofs.YtjcpngimjdckmaaGreat
namespace Go.Proofs.YtjcpngimjdckmaaGreat
open Go.AL Go.ChangeShapes Go.WideShapes Go.ChangeAt Go.RowKit
theorem uQ {w : World} {bad : Nat → Prop} {ι : Pl} {b : Nat} : ∀ (bs : List UInt8) (o : Nat), ¬ bad b → (∀ j, j < bs.length → w.cell? ⟨b, o + j, none⟩ = some (.int .u8 ((bs[j]!).toNat : Int))) → RdC w bad ι (flat cU bs) b o
 | [], _, _, _ => by simp only [flat, List.flatMap_nil, RdC]
 | x :: bs, o, hb, h => by
  have h0 := h 0 (by simp)
  have e : flat cU (x :: bs) = .v (.int .u8 (x.toNat : Int)) :: flat cU bs := rfl
  rw [e]
  simp only [RdC]
  refine ⟨⟨.int .u8 (x.toNat : Int), by simpa using h0, rfl, by simp only [Rd]⟩, uQ bs (o + 1) hb fun j hj => ?_⟩
  have := h (j + 1) (by simpa using hj)
  rw [show o + 1 + j = o + (j + 1) from by omega]
  simpa using this
theorem xV {P : Program} {k : FuncId} {bs : List UInt8} (h : PC P k [sl cU bs] (fun r => r = bv true)) {W : World} {v : Value} (hv : Rd W (fun _ => False) (fun _ => none) (sl cU bs) v) :
  Calls P k #[v] W fun e W' => e = .returned (.bool true) ∧ Below W.heap.size W W' := by
 let C : Ctx := { N := 0, w0 := W, W0 := fun _ => False, X := fun _ => False, ι0 := fun _ => none, xlt := fun _ h => h.elim }
 have hbad : ∀ b, ¬ aY C.X (fun _ => none) (bU []) b := by
  rintro b (h | ⟨id, cs, β, h1, h2⟩)
  ·exact h
  ·cases h2
 have g : HG C (fun _ => none) (fun j => 0 ≤ j) (bU []) W :=
  ⟨fun id cs h => by simp [bU] at h, fun id id' cs cs' b β β' h => by simp [bU] at h, Fr.refl _ _, fun _ _ h => h, fun _ _ => rfl⟩
 have hcar : Carry W (fun _ => False) (fun _ => none) W (aY C.X (fun _ => none) (bU [])) (fun _ => none) := ⟨fun b o x _ h2 => ⟨hbad b, h2⟩, fun _ _ h => h, fun _ => Nat.le_refl _⟩
 have ha : RdV W (aY C.X (fun _ => none) (bU [])) (fun _ => none) [sl cU bs] [v] := by
  simp only [RdV]
  exact ⟨v, [], rfl, Rd.carry hcar _ _ hv, rfl⟩
 refine (h C _ W [v] rfl rfl g ha).mono ?_
 rintro e W' ⟨v', r, H', ι', rfl, ⟨rfl, _⟩, h4, h5⟩
 simp only [Rd] at h4
 subst h4
 have f := h5.fr
 exact ⟨rfl, f.os, f.tape, f.output, f.size, fun b hb => f.block b hb (fun h => h)⟩
theorem Jf : laidOutB Tryz.prog = true := by kernel_rfl
theorem Hm : Tryz.prog.cellsOf 5 = 1 := by kernel_rfl
theorem Ez {H : Type} {enc : TypeId × Value → H} {W : World} {base : Nat} {v0 : Value} {d0 : DataW H} {p : List MemPlace} (hval : Value.okWide Tryz.prog W .any base 22 v0) (h0 : DataW.Trod enc Tryz.prog W 0 (fun _ => true) true 22 v0 d0 p) :
  ∃ bs : List UInt8, Rd W (fun _ => False) (fun _ => none) (sl cU bs) v0 := by
 obtain ⟨a0, len, cap, rfl⟩ := okWide_slice Tryz.underlying22 hval
 obtain ⟨fuel, hf⟩ := h0
 rcases open_ints Tryz.underlying22 Tryz.underlying5 Hm hf with ⟨hcs, hx⟩ | ⟨a, len', cap', zs, hcs, _, hl, hm, hz, hx, hcell, hwz⟩
 ·simp [Value.cells] at hcs
  obtain ⟨rfl, rfl, rfl⟩ := hcs
  refine ⟨[], ?_⟩
  simp only [Rd]
  exact ⟨none, 0, rfl, .inl rfl⟩
 ·simp [Value.cells] at hcs
  obtain ⟨rfl, rfl, rfl⟩ := hcs
  simp only [if_true] at hz
  refine ⟨(zs.take len).map fun n => UInt8.ofNat n.toNat, ?_⟩
  have hlen : ((zs.take len).map fun n => UInt8.ofNat n.toNat).length = len := by simp;omega
  simp only [Rd]
  refine ⟨some a, cap, by rw [hlen], ?_⟩
  by_cases h00 : len = 0
  ·exact .inl (by rw [hlen]; exact h00)
  ·obtain ⟨b, off, spot⟩ := a
   have hspot : spot = none := by simpa [Addr.add] using World.cell?_spot (hcell 0 (by omega))
   subst hspot
   refine .inr ⟨b, off, by rw [hlen]; exact hl, rfl, .inr ⟨fun h => h, uQ _ _ (fun h => h) fun j hj => ?_⟩⟩
   rw [hlen] at hj
   have hcj := hcell j (by omega)
   rw [Addr.add_lit] at hcj
   rw [hcj]
   have e : zs.getD j 0 = zs[j]'(by omega) := by simp [List.getD, List.getElem?_eq_getElem (show j < zs.length by omega)]
   have hw := hwz (zs[j]'(by omega)) (List.getElem_mem _)
   have hr : 0 ≤ zs[j]'(by omega) ∧ zs[j]'(by omega) ≤ 255 := by simpa [Lit.wf, IntKind.min, IntKind.max, IntKind.signed, IntKind.bits] using hw
   rw [e, dG _ _ (by rw [hlen]; exact hj)]
   simp only [List.getElem_map, List.getElem_take]
   congr 2
   simp only [UInt8.toNat_ofNat']
   omega
end Go.Proofs.YtjcpngimjdckmaaGreat
namespace Go.Proofs.YtjcpngimjdckmaaGreat
open Go.AL Go.RowKit
theorem G1 (bs : List UInt8) (hb : bs.length ≤ 1048576) : PC Tryz.prog 45 [sl cU bs] (fun r => ∃ (q : Prg) (k : Int), r = .tup [c8 q, iv k] ∧ bJ q.body ≤ 20000 ∧ q.types.length ≤ 1000 ∧ -1 ≤ k ∧ k ≤ 20000) := by
 have hb2 : (bs.take 2000).length ≤ 2000 := by rw [List.length_take]; omega
 (refine aQ Tryz.func45 rfl (by simp [Tryz.ntmps45]) ?_; rw [Tryz.ntmps45])
 repeat' (first|(apply aM;first|((with_reducible apply sC (k := 74));(case h => exact Ho (bs.take 2000) 0 hb2 (by decide));(case ha|hpv|hH|hM|hN => rfl);(rintro ⟨q, p1⟩ ⟨hq1, hq2, hq3⟩);(dsimp only at hq1 hq2 hq3))|((with_reducible apply sC (k := 73));(case h => exact DS (bs.take 2000) p1 q hb2 (by omega) (by omega) (by omega));(case ha => rfl);(case hpv => exact Pur.pf);(case hH|hM|hN => rfl);(rintro ⟨q2, p2⟩ ⟨hr1, hr2, hr3⟩);(dsimp only at hr1 hr2 hr3);(have hln := cY q2.body);(have hpk := fun p => fC (bs.take 2000) p (q2.body.length : Int));(have hn9 := fun p => DW (bs.take 2000) p [0, -1, 40] (-1) 40 (by decide) (by decide)))|(apply aD;rfl;rfl)|(first|(apply aL;rfl;rfl;rfl;rfl)|(apply a6;rfl;rfl;(exact (rfl:_=[_, _]));rfl;rfl;rfl))|(apply aE;rfl;rfl;rfl)|(first|(apply a9;rfl;rfl;rfl;(assumption))|(apply aZ;rfl;rfl;rfl;(assumption))|(apply bC;(case hj|hb|hN => rfl);all_goals (intro hg;have hq := hg;(try simp only [cD] at hq);(try (exfalso;omega)))))|(apply aV;rfl;rfl;rfl;rfl)|(apply aC;rfl;rfl)|(first|(apply bI;rfl;(assumption);rfl;rfl)|(apply bH;rfl;(assumption);rfl;rfl))|(first|(apply sE;rfl;(apply uH <;> (assumption));rfl;rfl)|(apply jV;rfl;rfl;(rfl);(apply l8 <;> (first|assumption|omega|(simp only [fD] <;> omega)));rfl;rfl)|(apply pV;rfl;rfl;rfl;rfl;infer_instance;rfl;(rfl);assumption;omega;(decide);(decide);rfl;rfl))|(apply a8;rfl;rfl;rfl)|(apply aF;kernel_rfl)|(apply bT;rfl;rfl)|(apply bK;rfl;rfl;rfl;(exact (rfl:_=some [_, _, _]));rfl;rfl)|(apply a7;rfl;rfl;rfl;rfl;rfl;(case hl => (simp;done));(exact (rfl:_=[_, _]))))|(apply aO;first|apply aH|apply aB|(apply b9;kernel_rfl)|(apply bX;rfl;(rfl))|(apply aP;rfl;all_goals intro hc;have hq:=hc;(try simp only [cD] at hq);try exfalso;omega)|apply aS|apply aW)|with_reducible apply aA|with_reducible apply b0)
 ·exact aU (l := [c8 q2, iv (iD (bs.take 2000) (p2 + 1) [0, -1, 40])]) rfl ⟨⟨q2, _, rfl, by omega, by omega, (hn9 _).1, by have := (hn9 (p2 + 1)).2;omega⟩, Pur.pf⟩
 ·exact aU (l := [c8 q2, iv (cG (bs.take 2000) (p2 + 1) (q2.body.length : Int))]) rfl ⟨⟨q2, _, rfl, by omega, by omega, by have := hpk (p2 + 1);omega, by have := hpk (p2 + 1);omega⟩, Pur.pf⟩
 ·exact aU (l := [c8 q2, iv (iD (bs.take 2000) p2 [0, -1, 40])]) rfl ⟨⟨q2, _, rfl, by omega, by omega, (hn9 _).1, by have := (hn9 p2).2;omega⟩, Pur.pf⟩
theorem Hk (xs : List Int) (hl : xs.length ≤ 1000000) : PC Tryz.prog 62 [sl cI xs, sl cI xs] (fun r => r = bv true) := by
 (refine aQ Tryz.func62 rfl (by simp [Tryz.ntmps62]) ?_; rw [Tryz.ntmps62])
 repeat' (first|(apply aM;first|(apply aD;rfl;rfl)|(apply aV;rfl;rfl;rfl;rfl)|(apply aC;rfl;rfl)|(apply a8;rfl;rfl;rfl)|(apply aF;kernel_rfl))|(apply aO;first|apply aH|apply aB|(apply aP;rfl;all_goals intro hc;have hq:=hc;(try simp only [cD] at hq);try exfalso;omega)|apply aJ|apply aS|apply aW)|with_reducible apply aA|with_reducible apply b0)
 all_goals try exact absurd trivial (by assumption : ¬ True)
 refine bG (σ := Nat) [0, 1, 12] [(0, _), (1, _), (12, _)] [] [] (fun k => [(13, iv (k : Int))]) (fun k => []) (fun k => k ≤ xs.length) (fun k => xs.length - k) (0) (Nat.zero_le _) rfl rfl (by repeat' (first|exact trivial|refine And.intro rfl ?_)) (by repeat' (exact trivial)) ?_
 intro k hk
 repeat' (first|(apply aM;first|(apply aD;rfl;rfl)|(apply aL;rfl;rfl;rfl;rfl)|(first|(apply bO;rfl;rfl;omega;rfl)|(apply aV;rfl;rfl;rfl;rfl))|(apply aC;rfl;rfl)|(apply bB;(case hx|hi => rfl);(case hm => (omega));(case hml => (rfl));(case hα | hf|hg => infer_instance);(case hN => rfl))|(apply aF;kernel_rfl))|(apply aO;first|apply aH|apply aB|(apply b9;kernel_rfl)|(apply aP;rfl;all_goals intro hc;have hq:=hc;(try simp only [cD] at hq);try exfalso;omega)|apply aJ|apply aS|apply bF|apply aW)|with_reducible apply aA|with_reducible apply b0|with_reducible apply bE|with_reducible apply aT|with_reducible apply eQ|with_reducible apply bD)
 all_goals try exact absurd trivial (by assumption : ¬ True)
 ·(apply c6 (k + 1); focus (refine Le.ren [] rfl (by decide) ?_ ?_ <;> repeat' (first | exact trivial | refine And.intro ⟨_, rfl, ?_⟩ ?_ | refine Or.inl ⟨?_, (by first | rfl | exact aX _ _)⟩ | rfl)))
  ·omega
  ·omega
 ·exact aU rfl ⟨rfl, rfl⟩
theorem FZ (mm : Nat) (same_ih : ∀ l, bJ l < mm → PC Tryz.prog 63 [sl aN l, sl aN l] (fun r => r = bv true)) (s : AL.Stmt) (hs : dH s ≤ mm) : PC Tryz.prog 116 [eN s, eN s] (fun r => r = bv true) := by
 have hct := iG s
 (refine aQ Tryz.func116 rfl (by simp [Tryz.ntmps116]) ?_; rw [Tryz.ntmps116])
 repeat' (first|(apply aM;first|(apply aD;rfl;rfl)|(apply aL;rfl;rfl;rfl;rfl)|(apply aE;rfl;rfl;rfl)|(first|(apply a9;rfl;rfl;rfl;(first|rfl|assumption))|(apply aZ;rfl;rfl;rfl;(first|rfl|assumption))|(apply bC;(case hj|hb|hN => rfl);all_goals (intro hg;have hq := hg;(try simp only [cD] at hq);(try (exfalso;omega)))))|(apply aV;rfl;rfl;rfl;rfl)|(apply aC;rfl;rfl)|(first|(apply bI;rfl;(first|rfl|assumption);rfl;rfl)|(apply bH;rfl;(first|rfl|assumption);rfl;rfl))|((with_reducible apply aI (k := 63));(case ha => rfl);(case h => (apply same_ih <;> (omega)));(case hp => (exact Pur.pf));(case hN => rfl))|(apply aF;kernel_rfl)|(apply bW;rfl;rfl;rfl;rfl))|(apply aO;first|apply aH|apply aB|apply aW)|with_reducible apply aA)
 all_goals try exact absurd trivial (by assumption : ¬ True)
 exact aU rfl ⟨rfl, rfl⟩
theorem IM (l : List AL.Stmt) (hs : bJ l ≤ 1000000) (h1 : ∀ s, s ∈ l → PC Tryz.prog 116 [eN s, eN s] (fun r => r = bv true)) : PC Tryz.prog 115 [sl aN l, sl aN l, .v (.func (.func 116) #[] #[])] (fun r => r = bv true) := by
 have hlen := cY l
 (refine aQ Tryz.func115 rfl (by simp [Tryz.ntmps115]) ?_; rw [Tryz.ntmps115])
 repeat' (first|(apply aM;first|(apply aD;rfl;rfl)|(apply aV;rfl;rfl;rfl;rfl)|(apply aC;rfl;rfl)|(apply a8;rfl;rfl;rfl)|(apply aF;kernel_rfl))|(apply aO;first|apply aH|apply aB|(apply aP;rfl;all_goals intro hc;have hq:=hc;(try simp only [cD] at hq);try exfalso;omega)|apply aJ|apply aS|apply aW)|with_reducible apply aA|with_reducible apply b0)
 all_goals try exact absurd trivial (by assumption : ¬ True)
 refine bG (σ := Nat) [1, 2, 15, 16] [(1, _), (2, _), (15, _), (16, _)] [] [] (fun k => [(17, iv (k : Int))]) (fun k => []) (fun k => k ≤ l.length) (fun k => l.length - k) (0) (Nat.zero_le _) rfl rfl (by repeat' (first|exact trivial|refine And.intro rfl ?_)) (by repeat' (exact trivial)) ?_
 intro k hk
 by_cases hkn : k < l.length
 ·have hcl := h1 l[k]! (dD l k hkn)
  repeat' (first|(apply aM;first|(apply aD;rfl;rfl)|(apply a6;rfl;rfl;(exact (rfl:_=[_, _, _, _, _, _]));rfl;rfl;rfl)|(first|(apply bO;rfl;rfl;omega;rfl)|(apply aV;rfl;rfl;rfl;rfl))|(apply aC;rfl;rfl)|(apply bB;(case hx|hi => rfl);(case hm => (assumption));(case hml => (rfl));(case hα | hf|hg => infer_instance);(case hN => rfl))|((with_reducible apply lL);(case hx|hcl => rfl);(case hc => infer_instance);(case ha => rfl);(case h => (apply hcl <;> (fail)));(case hp => (exact Pur.pf));(case hN => rfl))|(apply aF;kernel_rfl)|(apply cK;rfl;rfl)|(apply bT;rfl;rfl)|(apply a7;rfl;rfl;rfl;rfl;rfl;(case hl => (simp;done));(exact (rfl:_=[_, _, _, _, _, _]))))|(apply aO;first|apply aH|apply aB|(apply cF;rfl;(rfl))|(apply aP;rfl;all_goals intro hc;have hq:=hc;(try simp only [cD] at hq);try exfalso;omega)|apply aJ|apply aS)|with_reducible apply aA|with_reducible apply aT)
  (apply c6 (k + 1);focus (refine Le.ren [] rfl (by decide) ?_ ?_ <;> repeat' (first|exact trivial|refine And.intro ⟨_, rfl, ?_⟩ ?_|refine Or.inl ⟨?_, (by first|rfl|exact aX _ _)⟩|rfl)))
  ·omega
  ·omega
 ·repeat' (first | (apply aM; first | (apply aV;rfl;rfl;rfl;rfl) | (apply aC;rfl;rfl) | (apply aF;kernel_rfl)) | (apply aO; first | apply aH | apply aB | (apply aP;rfl;all_goals intro hc;have hq:=hc;(try simp only [cD] at hq);try exfalso;omega) | apply bF | apply aW) | with_reducible apply aA | with_reducible apply bE | with_reducible apply bD)
  exact aU rfl ⟨rfl, rfl⟩
theorem Bq (mm : Nat) (hmm : mm ≤ 1000000) (same_ih : ∀ l, bJ l < mm → PC Tryz.prog 63 [sl aN l, sl aN l] (fun r => r = bv true)) (l : List AL.Stmt) (hs : bJ l ≤ mm) : PC Tryz.prog 63 [sl aN l, sl aN l] (fun r => r = bv true) := by
 have hq := IM l (by omega) (fun s hm => FZ mm same_ih s (Nat.le_trans (rX hm) hs))
 (refine aQ Tryz.func63 rfl (by simp [Tryz.ntmps63]) ?_; rw [Tryz.ntmps63])
 repeat' (first|(apply aM;first|((with_reducible apply aI (k := 115));(case ha => rfl);(case h => exact hq);(case hp => (exact Pur.pf));(case hN => rfl))|(apply aD;rfl;rfl)|(apply aC;rfl;rfl)|(apply aF;kernel_rfl))|(apply aO;first|apply aH|apply aB|apply aW)|with_reducible apply aA)
 exact aU rfl ⟨rfl, rfl⟩
theorem HY (l : List AL.Stmt) (hb : bJ l ≤ 1000000) : PC Tryz.prog 63 [sl aN l, sl aN l] (fun r => r = bv true) := by
 have key : ∀ m, m ≤ 1000000 → ∀ l, bJ l ≤ m → PC Tryz.prog 63 [sl aN l, sl aN l] (fun r => r = bv true) := by
  intro m
  induction m with
  | zero => intro hm l hl;exact Bq 0 hm (fun l h => by omega) l hl
  | succ m ih => intro hm l hl;exact Bq (m + 1) hm (fun l h => ih (by omega) l (by omega)) l hl
 exact key (bJ l) hb l (Nat.le_refl _)
theorem mY (q : Prg) (hs : bJ q.body ≤ 1000000) (ht : q.types.length ≤ 1000000) : PC Tryz.prog 14 [c8 q, c8 q] (fun r => r = bv true) := by
 have h1 := Hk q.types ht
 have h2 := HY q.body hs
 (refine aQ Tryz.func14 rfl (by simp [Tryz.ntmps14]) ?_; rw [Tryz.ntmps14])
 repeat' (first|(apply aM;first|((with_reducible apply aI (k := 62));(case ha => rfl);(case h => exact h1);(case hp => (exact Pur.pf));(case hN => rfl))|((with_reducible apply aI (k := 63));(case ha => rfl);(case h => exact h2);(case hp => (exact Pur.pf));(case hN => rfl))|(apply aD;rfl;rfl)|(apply aL;rfl;rfl;rfl;rfl)|(apply aE;rfl;rfl;rfl)|(apply a9;rfl;rfl;rfl;(rfl))|(apply aC;rfl;rfl)|(apply bI;rfl;(rfl);rfl;rfl)|(apply aF;kernel_rfl)|(apply bW;rfl;rfl;rfl;rfl))|(apply aO;first|apply aH|apply aB|apply aW)|with_reducible apply aA)
 exact aU rfl ⟨rfl, rfl⟩
def Bp (r : Option Prg) : AV := .tup [c8 (r.getD ⟨[], []⟩), bv r.isSome]
theorem Gw (r : Option Prg) : (Bp r).pur = true := by unfold Bp; exact PurV.pf
theorem kC {P : Program} {s : AS} {res : Array ResultVar} {r : Option Prg} {l : List AV} (hr : qO P (lk s.ts) (bU s.hs) res.toList = some l) (e : bQ l = Bp r) : pI P res (fun x _ => x = Bp r ∧ x.pur = true) .ret s := aU hr ⟨e, by rw [e]; exact Gw r⟩
def fwdC (p : Prg) (k : Nat) : Prop := k + 1 < p.body.length ∧ p.body[k]!.op = 7 ∧ p.body[k + 1]!.op = 6 ∧ p.body[k + 1]!.y = p.body[k]!.x ∧ p.body[k + 1]!.x ≠ p.body[k]!.y
instance (p : Prg) (k : Nat) : Decidable (fwdC p k) := by unfold fwdC; infer_instance
def QK (r : AV) : Prop := ∃ (q : Prg) (k : Int), r = .tup [c8 q, iv k] ∧ bJ q.body ≤ 20000 ∧ q.types.length ≤ 1000 ∧ -1 ≤ k ∧ k ≤ 20000
theorem QK.mk (q : Prg) (k : Int) (h1 : bJ q.body ≤ 20000) (h2 : q.types.length ≤ 1000) (h3 : -1 ≤ k) (h4 : k ≤ 20000) : QK (bQ [c8 q, iv k]) ∧ (bQ [c8 q, iv k]).pur = true := ⟨⟨q, k, rfl, h1, h2, h3, h4⟩, Pur.pf⟩
theorem E0 (bs : List UInt8) (hb : bs.length ≤ 1048576) : PC Tryz.prog 45 [sl cU bs] QK := G1 bs hb
theorem EZ (p : Prg) (k : Int) (hs : bJ p.body ≤ 1000000) : PC Tryz.prog 64 [c8 p, iv k] (fun r => r = bv (decide (0 ≤ k ∧ k < p.body.length))) := by
 have hlen := cY p.body
 (refine aQ Tryz.func64 rfl (by simp [Tryz.ntmps64]) ?_; rw [Tryz.ntmps64])
 repeat' (first|(apply aM;first|(apply aD;rfl;rfl)|(apply aL;rfl;rfl;rfl;rfl)|(apply aE;rfl;rfl;rfl)|(apply gT;rfl;rfl;omega;rfl)|(apply aC;rfl;rfl)|((with_reducible apply aI (k := 50));(case ha => rfl);(case h => (apply iC <;> (fail)));(case hp => (rfl));(case hN => rfl))|(apply a8;rfl;rfl;rfl)|(apply aF;kernel_rfl)|(apply bW;rfl;rfl;rfl;rfl))|(apply aO;first|apply aH|apply aB|apply aW)|with_reducible apply aA)
 refine aU rfl ⟨?_, rfl⟩
 simp only [bQ]
 congr 1
 rw [← Bool.decide_and, decide_eq_decide]
 omega
theorem AI (q : Prg) (k : Nat) (hk : k ≤ q.body.length) (hs : bJ q.body ≤ 1000000) : PC Tryz.prog 58 [c8 q, iv (k : Int)] (fun r => r = iv (dL (q.body.take k) : Int)) := by
 have hlen := cY q.body
 have hc : bJ (List.take ((k : Int).toNat - 0) (List.drop 0 q.body)) ≤ bJ q.body := by
  have h := dS (q.body.take k) (q.body.drop k)
  rw [List.take_append_drop] at h
  rw [List.drop_zero, Nat.sub_zero, Int.toNat_natCast]; omega
 have hn := jG (List.take ((k : Int).toNat - 0) (List.drop 0 q.body))
 (refine aQ Tryz.func58 rfl (by simp [Tryz.ntmps58]) ?_; rw [Tryz.ntmps58])
 repeat' (first|(apply aM;first|(apply aD;rfl;rfl)|(apply aL;rfl;rfl;rfl;rfl)|(apply aE;rfl;rfl;rfl)|(apply aC;rfl;rfl)|(apply sG;rfl;rfl;(exact tY rfl);(apply BC <;> (first|omega|(simp only [fD] <;> omega)));rfl;rfl)|(apply a8;rfl;rfl;rfl)|(apply aF;kernel_rfl)|(apply oN;rfl;infer_instance;rfl;rfl;(omega);rfl)|(apply bW;rfl;rfl;rfl;rfl)|(apply bK;rfl;rfl;rfl;(rfl);rfl;rfl))|(apply aO;first|apply aH|apply aB|apply aW)|with_reducible apply aA)
 refine aU rfl ⟨?_, rfl⟩
 simp only [bQ, List.drop_zero, Nat.sub_zero, Int.toNat_natCast, Nat.zero_add]
theorem El (A : Nat) (x : Int) (h0 : 0 ≤ x) (hA : A < 2 ^ 62) : PC Tryz.prog 52 [sl cI (cJ A), iv x] (fun r => r = bv (A.testBit x.toNat)) := by
 have h := rS (cJ A) x (by unfold cJ;rw [List.length_map]; exact Nat.le_trans (List.length_filter_le _ _) (by rw [List.length_range]; decide))
 have e : decide (x ∈ cJ A) = A.testBit x.toNat := by
  rw [Bool.eq_iff_iff, decide_eq_true_eq, dK]
  constructor
  ·rintro ⟨v, _, h2, rfl⟩
   rw [Int.toNat_natCast]; exact h2
  ·intro h1
   refine ⟨x.toNat, ?_, h1, by omega⟩
   apply Classical.byContradiction;intro q
   have := Nat.testBit_lt_two_pow (Nat.lt_of_lt_of_le hA (Nat.pow_le_pow_right (by decide) (show 62 ≤ x.toNat by omega)))
   rw [h1] at this;cases this
 rw [e] at h;exact h
end Go.Proofs.YtjcpngimjdckmaaGreat
namespace Go
variable {P : Program}
theorem fS (w : World) (dT sT ty elem : TypeId) (b o dLen dCap : Nat) (a : Addr) (sLen sCap z : Nat) (cs : List Value)
  (hu : P.underlying dT = some (.slice elem)) (hs : (P.info? elem).map (·.size) = some z) (hn : cs.length = Nat.min sLen dLen * z)
  (hsrc : ∀ j v, cs[j]? = some v → w.cell? (a.add j) = some v) (hc : ∀ j, j < cs.length → (w.cell? ⟨b, o + j, none⟩).isSome = true) (hf : ∀ j, j < cs.length → w.frozen? ⟨b, o + j, none⟩ = false) (h1 : ∀ v ∈ cs, v.oneCell' = true) :
  (Builtin.copy_ #[dT, sT] ty #[.slice (some ⟨b, o, none⟩) dLen dCap, .slice (some a) sLen sCap]).run P w = .ok (goInt (Nat.min sLen dLen)) (w.setCells b o cs) := by
 have hl := run_loadCells_list (P := P) w a cs hsrc
 have hst := run_storeCells_cells (P := P) b o cs 0 w (by simpa using hc) (by simpa using hf) h1
 cases hq : P.info? elem with
 | none => simp [hq] at hs
 | some i =>
  have hi : i.size = z := by simpa [hq] using hs
  simp [Builtin.copy_, run_underlying hu, Builtin.lenOf, Builtin.firstCells, sizeOf, typeInfo, hq, hi, ← hn, hl, hst]
end Go
namespace Go.Proofs.YtjcpngimjdckmaaGreat
open Go Go.AL Go.RowKit
set_option maxRecDepth 100000 in
theorem Cr (b off n c i vb voff vc : Nat) (cs vs : List Value) (w : World) (hi : i < n) (hroom : n + 1 ≤ c) (hvb : vb ≠ b) (hn6 : n ≤ 1000000)
  (hcl : cs.length = n * 6) (hvl : vs.length = 6)
  (hcs : ∀ j v, cs[j]? = some v → w.cell? ⟨b, off + j, none⟩ = some v) (hsp : ∀ j, j < (n + 1) * 6 → (w.cell? ⟨b, off + j, none⟩).isSome = true) (hfz : ∀ j, j < (n + 1) * 6 → w.frozen? ⟨b, off + j, none⟩ = false)
  (hvs : ∀ j v, vs[j]? = some v → w.cell? ⟨vb, voff + j, none⟩ = some v) (h1c : ∀ v ∈ cs, v.oneCell' = true) (h1v : ∀ v ∈ vs, v.oneCell' = true)
  (tA tB : TypeId) (kA kB : Nat) (hsa : w.shape? vb = some (tA, kA)) (hsb : w.shape? b = some (tB, kB)) (hkB : kB ≠ 0) (hfa : w.frozen? ⟨vb, voff, none⟩ = false) (hfe : w.frozen? ⟨vb, kA, none⟩ = false) :
  Calls Tryz.prog 56 #[.slice (some ⟨b, off, none⟩) n c, .int .i64 i, .slice (some ⟨vb, voff, none⟩) 1 vc] w fun e w' =>
   e = .returned (.slice (some ⟨b, off, none⟩) (n + 1) c) ∧ w' = (w.drew.setCells b (off + (i + 1) * 6) (cs.drop (i * 6))).setCells b (off + i * 6) vs := by
 have ht : Tryz.prog.underlying 24 = some (.slice 58) := by kernel_rfl
 have hsz : (Tryz.prog.info? 58).map (·.size) = some 6 := by kernel_rfl
 have hz2 : ¬ ((i : Int) = (n : Int)) := by omega
 have hz1 : ¬ ((1 : Int) = 0) := by omega
 have hov : ∀ lb cb, (callFunc 104 #[.slice (some ⟨vb, voff, none⟩) 1 vc, .slice (some ⟨b, off + (i + 1) * 6, none⟩) lb cb]).run Tryz.prog w = .ok (.value (.bool false)) w := fun lb cb => by
  rw [run_callFunc_extern Tryz.func104 (by kernel_rfl) (by kernel_rfl) (by kernel_rfl) (e := Extern.SlicesOverlaps.overlaps #[24, 24] #[4]) (by kernel_rfl),
   Lib.run_overlaps_apart w 24 4 58 ht 6 (eE (inferInstance : SzT Tryz.prog 58 6).pf) ⟨vb, voff, none⟩ ⟨b, off + (i + 1) * 6, none⟩ 1 vc lb cb hvb tA tB kA kB hsa hsb hkB hfa hfe]
  rfl
 have hdl : (cs.drop (i * 6)).length = (n - i) * 6 := by rw [List.length_drop, hcl]; omega
 have hmn : Nat.min (n + 1 - i) (n - i) = n - i := by simp only [Nat.min_def]; split <;> omega
 have hmn2 : Nat.min 1 (n + 1 - i) = 1 := by simp only [Nat.min_def]; split <;> omega
 have hw1 : IntKind.i64.wrap ((i : Int) + 1) = (i : Int) + 1 := by rw [IntKind.wrap_i64]; omega
 have hb1 : (0 : Int) ≤ (i : Int) + 1 := by omega
 have hin : i ≤ n := by omega
 have htn : ((i : Int) + 1).toNat = i + 1 := by omega
 have hb2 : ¬ (c = i + 1) := by omega
 have hb3 : (i : Int) ≤ (n : Int) + 1 := by omega
 have hb4 : ¬ (c = i) := by omega
 have hcp1 : ∀ ty dc sc, (Builtin.copy_ #[24, 24] ty #[.slice (some ⟨b, off + (i + 1) * 6, none⟩) (n - i) dc, .slice (some ⟨b, off + i * 6, none⟩) (n + 1 - i) sc]).run Tryz.prog w.drew = .ok (goInt (Nat.min (n + 1 - i) (n - i))) (w.drew.setCells b (off + (i + 1) * 6) (cs.drop (i * 6))) := fun ty dc sc =>
  fS w.drew _ _ ty 58 b (off + (i + 1) * 6) (n - i) dc ⟨b, off + i * 6, none⟩ (n + 1 - i) sc 6 (cs.drop (i * 6)) ht hsz (by rw [hdl, hmn])
   (fun j v hj => by rw [Addr.add_lit, Nat.add_assoc]; exact hcs (i * 6 + j) v (by rwa [List.getElem?_drop] at hj))
   (fun j hj => by rw [Nat.add_assoc]; exact hsp _ (by omega)) (fun j hj => by rw [Nat.add_assoc]; exact hfz _ (by omega)) (fun v hv => h1c v (List.mem_of_mem_drop hv))
 obtain ⟨W1, hW1⟩ : ∃ W1, W1 = w.drew.setCells b (off + (i + 1) * 6) (cs.drop (i * 6)) := ⟨_, rfl⟩
 have hsp1 : ∀ k, k < (n + 1) * 6 → (W1.cell? ⟨b, off + k, none⟩).isSome = true := fun k hk => by
  rw [hW1]
  exact isSome_setCells b _ _ _ (fun j hj => by rw [Nat.add_assoc]; exact hsp _ (by omega)) _ (hsp k hk)
 have hcp2 : ∀ (W : World), (∀ x, W.cell? x = W1.cell? x) → (∀ x, W.frozen? x = W1.frozen? x) → ∀ ty dc, (Builtin.copy_ #[24, 24] ty #[.slice (some ⟨b, off + i * 6, none⟩) (n + 1 - i) dc, .slice (some ⟨vb, voff, none⟩) 1 vc]).run Tryz.prog W = .ok (goInt (Nat.min 1 (n + 1 - i))) (W.setCells b (off + i * 6) vs) := fun W hWc hWf ty dc =>
  fS W _ _ ty 58 b (off + i * 6) (n + 1 - i) dc ⟨vb, voff, none⟩ 1 vc 6 vs ht hsz (by rw [hvl, hmn2])
   (fun j v hj => by
    rw [Addr.add_lit, hWc, hW1, World.cell?_setCells_out b _ _ _ _ (fun h _ => absurd h hvb)]
    exact hvs j v hj)
   (fun j hj => by rw [hWc, Nat.add_assoc]; exact hsp1 _ (by omega)) (fun j hj => by rw [hWf, hW1, World.frozen?_setCells, Nat.add_assoc]; exact hfz _ (by omega)) h1v
 rw [← hW1] at hcp1
 have mixed : Tryz.prog.follows .mixedOrders = true := by kernel_rfl
 go_enter Tryz.func56, Tryz.ntmps56
 go_wp2_with (simp only [hov])
 go_region_law_o (refine step_copy_runI rfl _ _ 24 24 rfl _ _ (by simp [Act.eval, Act.put]) (by simp [Act.eval, Act.put]) (hcp1 _ _ _) ?_)
 go_wp2_with (at_builtin;refine wpList_copy_runI _ rfl _ _ 24 24 rfl _ _ rfl rfl (hcp2 _ (fun _ => rfl) (fun _ => rfl) _ _) ?_)
 go_ret
 first|exact ⟨rfl, rfl⟩|exact ⟨rfl, by rw [hW1]⟩
set_option maxRecDepth 100000 in
theorem Fm (b off n c i vb voff vc : Nat) (cs vs : List Value) (w : World) (hi : i < n) (hnc : n ≤ c) (hroom : c < n + 1) (hn : n ≤ 1000000)
  (hcl : cs.length = n * 6) (hvl : vs.length = 6)
  (hcs : ∀ j v, cs[j]? = some v → w.cell? ⟨b, off + j, none⟩ = some v)
  (hvs : ∀ j v, vs[j]? = some v → w.cell? ⟨vb, voff + j, none⟩ = some v) (h1c : ∀ v ∈ cs, v.oneCell' = true) (h1v : ∀ v ∈ vs, v.oneCell' = true) :
  Calls Tryz.prog 56 #[.slice (some ⟨b, off, none⟩) n c, .int .i64 i, .slice (some ⟨vb, voff, none⟩) 1 vc] w fun e w' => ∃ G ROW, n + 1 ≤ G ∧ ROW.size = G * 6 ∧ (∀ j v, j < i * 6 → cs[j]? = some v → ROW[j]? = some v) ∧
   e = .returned (.slice (some ⟨w.heap.size, 0, none⟩) (n + 1) G) ∧
   w' = (((w.alloc (.cells ROW 58)).drew.setCells w.heap.size (i * 6) vs).drew).setCells w.heap.size ((i + 1) * 6) (cs.drop (i * 6)) := by
 have ht : Tryz.prog.underlying 24 = some (.slice 58) := by kernel_rfl
 have ht3 : Tryz.prog.underlying 3 = some (.int .i64) := by kernel_rfl
 have hi3 : (Tryz.prog.info? 58).map (fun i => (i.zero, i.size, i.bytes)) = some (some (Value.agg #[.int .i64 0, .int .i64 0, .int .i64 0, .int .i64 0, .slice none 0 0, .slice none 0 0]), 6, 80) := by kernel_rfl
 obtain ⟨i0, hi0, hz0, hzs, hzb⟩ := info_parts hi3
 have hz1 : ¬ ((1 : Int) = 0) := by omega
 have hz2 : ¬ ((i : Int) = (n : Int)) := by omega
 have hz3 : (c : Int) < (n : Int) + 1 := by omega
 have hsz : (Tryz.prog.info? 58).map (·.size) = some 6 := by rw [hi0]; simp [hzs]
 have hbw : b < w.heap.size := block_lt_of_cell (hcs 0 _ (List.getElem?_eq_getElem (by omega)))
 have hvw : vb < w.heap.size := block_lt_of_cell (hvs 0 _ (List.getElem?_eq_getElem (by omega)))
 have hkk : (n : Int) + 1 - (i : Int) = ((n + 1 - i : Nat) : Int) := by omega
 have hik : i + (n + 1 - i) = n + 1 := by omega
 have hold : (Builtin.firstCells i0.size i (.slice (some ⟨b, off, none⟩) i c)).run Tryz.prog w.drew = .ok (cs.take (i * 6)).toArray w.drew := by
  rw [hzs]
  exact run_firstCells_some w.drew 6 i ⟨b, off, none⟩ i c (cs.take (i * 6)) (by rw [List.length_take]; omega) (fun j v hj => by
   rw [Addr.add_lit]
   rw [List.getElem?_take] at hj
   split at hj
   ·exact hcs j v hj
   ·cases hj)
 obtain ⟨Z, hZ⟩ : ∃ Z, Z = (Value.agg #[.int .i64 0, .int .i64 0, .int .i64 0, .int .i64 0, .slice none 0 0, .slice none 0 0]).cells := ⟨_, rfl⟩
 have hZs : Z.size = 6 := by rw [hZ]; rfl
 have hrz : ∀ ty, (Builtin.append_ #[24, 3] ty #[.slice (some ⟨b, off, none⟩) i c, .int .i64 ((n : Int) + 1 - (i : Int))]).run Tryz.prog w =
   .ok (.slice (some ⟨w.heap.size, 0, none⟩) (n + 1) (grownCap w (n + 1) c 58)) (w.drew.alloc (.cells ((cs.take (i * 6)).toArray ++ Builtin.zeroCells Z (n + 1 - i) ++ Builtin.zeroCells Z (grownCap w (n + 1) c 58 - (n + 1))) 58)) := fun ty => by
  have h := Lib.run_append_grow_zeros w 24 3 ty 58 i0 _ .i64 .i64 ht ht3 hi0 hz0 (some ⟨b, off, none⟩) i c (cs.take (i * 6)) hold (n + 1 - i) (by omega) (by omega) (by omega) (by omega) (by rw [hzb]; omega) (by rw [hzb, hik]; exact growslice_fits hroom (by omega))
  rw [hik, ← hZ] at h
  rw [hkk]
  exact h
 obtain ⟨G, hG⟩ : ∃ G, G = grownCap w (n + 1) c 58 := ⟨_, rfl⟩
 obtain ⟨ROW, hROW⟩ : ∃ ROW : Array Value, ROW = (cs.take (i * 6)).toArray ++ Builtin.zeroCells Z (n + 1 - i) ++ Builtin.zeroCells Z (G - (n + 1)) := ⟨_, rfl⟩
 rw [← hG] at hrz
 rw [← hROW] at hrz
 have hGn : n + 1 ≤ G := by rw [hG]; exact grownCap_ge w _ _ _
 have hRs : ROW.size = G * 6 := by
  rw [hROW]
  simp [Builtin.zeroCells, hZs, hcl]
  omega
 have hRc : ∀ j v, j < i * 6 → cs[j]? = some v → ROW[j]? = some v := fun j v hj hv => by
  rw [hROW, Array.append_assoc, Array.getElem?_append_left (by simp [hcl]; omega)]
  simp [List.getElem?_take, hj, hv]
 have hRl : (n + 1) * 6 ≤ ROW.size := by omega
 obtain ⟨W1, hW1⟩ : ∃ W1, W1 = w.drew.alloc (.cells ROW 58) := ⟨_, rfl⟩
 rw [← hW1] at hrz
 have hN : ∀ j, j < (n + 1) * 6 → (W1.cell? ⟨w.heap.size, j, none⟩).isSome = true := fun j hj => by
  rw [hW1, World.cell?_alloc_at (w := w.drew) ROW _ w.heap.size j rfl, Array.getElem?_eq_getElem (by omega)]; rfl
 have hNf : ∀ j, W1.frozen? ⟨w.heap.size, j, none⟩ = false := fun j => by rw [hW1]; exact World.frozen?_alloc_at (w := w.drew) ROW _ w.heap.size j rfl
 have hOb : ∀ j v, w.cell? ⟨b, j, none⟩ = some v → W1.cell? ⟨b, j, none⟩ = some v := fun j v h => by rw [hW1, World.cell?_alloc_past (w := w.drew) _ b j hbw]; exact h
 have hOv : ∀ j v, w.cell? ⟨vb, j, none⟩ = some v → W1.cell? ⟨vb, j, none⟩ = some v := fun j v h => by rw [hW1, World.cell?_alloc_past (w := w.drew) _ vb j hvw]; exact h
 have hmn2 : Nat.min 1 (n + 1 - i) = 1 := by simp only [Nat.min_def]; split <;> omega
 have hmn : Nat.min (n - i) (n - i) = n - i := Nat.min_self _
 have hcpA : ∀ (W : World), (∀ x, W.cell? x = W1.cell? x) → (∀ x, W.frozen? x = W1.frozen? x) → ∀ ty dc, (Builtin.copy_ #[24, 24] ty #[.slice (some ⟨w.heap.size, i * 6, none⟩) (n + 1 - i) dc, .slice (some ⟨vb, voff, none⟩) 1 vc]).run Tryz.prog W = .ok (goInt (Nat.min 1 (n + 1 - i))) (W.setCells w.heap.size (i * 6) vs) := fun W hWc hWf ty dc =>
  fS W _ _ ty 58 w.heap.size (i * 6) (n + 1 - i) dc ⟨vb, voff, none⟩ 1 vc 6 vs ht hsz (by rw [hvl, hmn2])
   (fun j v hj => by rw [Addr.add_lit, hWc]; exact hOv _ v (hvs j v hj))
   (fun j hj => by rw [hWc]; exact hN _ (by omega)) (fun j hj => by rw [hWf]; exact hNf _) h1v
 have hG63 : G ≤ 9223372036854775807 := by
  have := grownCap_le_maxLen w (n + 1) c 58 (by unfold maxLen;omega)
  rw [← hG] at this
  unfold maxLen at this
  omega
 have hGi : ¬ (G = i) := by omega
 have hGim : ¬ (G = i + 1) := by omega
 have hci : ¬ (c = i) := by omega
 have hbN : b ≠ w.heap.size := by omega
 have hdl : (cs.drop (i * 6)).length = (n - i) * 6 := by rw [List.length_drop, hcl]; omega
 have hcpB : ∀ (W : World), (∀ x, W.cell? x = (W1.setCells w.heap.size (i * 6) vs).cell? x) → (∀ x, W.frozen? x = (W1.setCells w.heap.size (i * 6) vs).frozen? x) → ∀ ty dc sc, (Builtin.copy_ #[24, 24] ty #[.slice (some ⟨w.heap.size, (i + 1) * 6, none⟩) (n - i) dc, .slice (some ⟨b, off + i * 6, none⟩) (n - i) sc]).run Tryz.prog W = .ok (goInt (Nat.min (n - i) (n - i))) (W.setCells w.heap.size ((i + 1) * 6) (cs.drop (i * 6))) := fun W hWc hWf ty dc sc =>
  fS W _ _ ty 58 w.heap.size ((i + 1) * 6) (n - i) dc ⟨b, off + i * 6, none⟩ (n - i) sc 6 (cs.drop (i * 6)) ht hsz (by rw [hdl, hmn])
   (fun j v hj => by
    rw [Addr.add_lit, hWc, World.cell?_setCells_out _ _ _ _ _ (fun h _ => absurd h hbN), Nat.add_assoc]
    exact hOb _ v (hcs (i * 6 + j) v (by rwa [List.getElem?_drop] at hj)))
   (fun j hj => by rw [hWc]; exact isSome_setCells _ _ _ _ (fun t ht => hN _ (by omega)) _ (hN _ (by omega)))
   (fun j hj => by rw [hWf, World.frozen?_setCells]; exact hNf _) (fun v hv => h1c v (List.mem_of_mem_drop hv))
 subst hW1
 have hE1 : ∀ x, ((w.alloc (.cells ROW 58)).drew).cell? x = (w.drew.alloc (.cells ROW 58)).cell? x := fun x => rfl
 have hE2 : ∀ x, ((w.alloc (.cells ROW 58)).drew).frozen? x = (w.drew.alloc (.cells ROW 58)).frozen? x := fun x => rfl
 have hF1 : ∀ x, (((w.alloc (.cells ROW 58)).drew.setCells w.heap.size (i * 6) vs).drew).cell? x = ((w.drew.alloc (.cells ROW 58)).setCells w.heap.size (i * 6) vs).cell? x := fun x => rfl
 have hF2 : ∀ x, (((w.alloc (.cells ROW 58)).drew.setCells w.heap.size (i * 6) vs).drew).frozen? x = ((w.drew.alloc (.cells ROW 58)).setCells w.heap.size (i * 6) vs).frozen? x := fun x => rfl
 have hw1 : IntKind.i64.wrap ((i : Int) + 1) = (i : Int) + 1 := by rw [IntKind.wrap_i64]; omega
 have hb1 : (0 : Int) ≤ (i : Int) + 1 := by omega
 have hin : i ≤ n := by omega
 have htn : ((i : Int) + 1).toNat = i + 1 := by omega
 have hb3 : (i : Int) ≤ (n : Int) := by omega
 have mixed : Tryz.prog.follows .mixedOrders = true := by kernel_rfl
 have fin : ∀ e' w'', e' = Exit.ret → w'' = (((w.alloc (.cells ROW 58)).drew.setCells w.heap.size (i * 6) vs).drew).setCells w.heap.size ((i + 1) * 6) (cs.drop (i * 6)) → True := fun _ _ _ _ => trivial
 clear hkk hik hold hROW hG hRl fin
 go_enter Tryz.func56, Tryz.ntmps56
 go_wp2_with (at_builtin;refine Lib.wpList_append_run _ rfl _ _ _ _ rfl _ _ rfl rfl _ _ (hrz _) ?_)
 go_region_law_o (refine step_copy_runI rfl _ _ 24 24 rfl (.slice (some ⟨w.heap.size, (i + 1) * 6, none⟩) (n - i) (G - (i + 1))) (.slice (some ⟨b, off + i * 6, none⟩) (n - i) (c - i)) (by simp [Act.eval, Act.put]) (by simp [Act.eval, Act.put]) (hcpB _ hF1 hF2 3 (G - (i + 1)) (c - i)) ?_)
 go_wp2
 go_ret
 exact ⟨G, ROW, hGn, hRs, hRc, rfl, rfl⟩
theorem tQ {xs : List AL.Stmt} {s : AL.Stmt} {k : Nat} (hk : k ≤ xs.length) : flat aN (eX k s xs) = (flat aN xs).take (k * 6) ++ flat aN [s] ++ (flat aN xs).drop (k * 6) := by
 unfold eX
 have e1 : (flat aN xs).take (k * 6) = flat aN (xs.take k) := fA aN (e := 6) xs k
 have e2 : (flat aN xs).drop (k * 6) = flat aN (xs.drop k) := gU aN (e := 6) xs k
 rw [e1, e2, cT, show s :: xs.drop k = [s] ++ xs.drop k from rfl, cT, List.append_assoc]
theorem Gm {A B : List AV} {k n : Nat} (hA : A.length = n * 6) (hB : B.length = 6) (hk : k < n) : g8 (A.take ((k + 1) * 6) ++ A.drop (k * 6)) (k * 6) B = A.take (k * 6) ++ B ++ A.drop (k * 6) := by
 unfold g8
 have h1 : (A.take ((k + 1) * 6)).length = (k + 1) * 6 := by rw [List.length_take]; omega
 rw [List.take_append_of_le_length (by omega), List.take_take, show min (k * 6) ((k + 1) * 6) = k * 6 by omega, hB, show k * 6 + 6 = (k + 1) * 6 by omega, List.drop_append_of_le_length (by omega), List.drop_of_length_le (by omega), List.nil_append]
theorem A9 {i : Nat} {X : List AV} {id : Nat} {cs : List AV} (h : bU [(i, some X)] id = some cs) : id = i ∧ cs = X := by
 have h' : cond (Nat.beq id i) (some X) none = some cs := h
 by_cases q : id = i
 ·subst q
  rw [Nat.beq_refl] at h'; cases h'; exact ⟨rfl, rfl⟩
 ·rw [show Nat.beq id i = false by cases e : Nat.beq id i with|false => rfl|true => exact absurd (Nat.eq_of_beq_eq_true e) q] at h'; cases h'
theorem E9 (xs : List AL.Stmt) (s : AL.Stmt) (k : Nat) (hk : k < xs.length) (hl : xs.length ≤ 1000000) : MC Tryz.prog 56 [.own 0 0 xs.length 6, iv (k : Int), .own 1 0 1 6] [(0, some (flat aN xs)), (1, some (flat aN [s]))] 2 (fun _ : Unit => True) (fun _ => .own 2 0 (xs.length + 1) 6)
  (fun _ => [(2, some (flat aN (eX k s xs)))]) := by
 intro C ι w vals hw hι g hr
 have hfl : (flat aN xs).length = xs.length * 6 := aK aN (e := 6) xs
 have hfs : (flat aN [s]).length = 6 := aK aN (e := 6) [s]
 have hle : k * 6 ≤ xs.length * 6 := Nat.mul_le_mul_right _ (by omega)
 simp only [RdV] at hr
 obtain ⟨y0, l, rfl, hy0, y1, l, rfl, hy1, y2, l, rfl, hy2, rfl⟩ := hr
 simp only [Rd] at hy0 hy1 hy2
 rcases hy0 with ⟨_, hn, _⟩ | ⟨b, β, c, hib, rfl, hnc, hcb⟩
 ·omega
 rcases hy2 with ⟨_, hn, _⟩ | ⟨vb, vβ, vc, hiv, rfl, hvc, hvb⟩
 ·omega
 subst hy1
 have hH0 : bU [(0, some (flat aN xs)), (1, some (flat aN [s]))] 0 = some (flat aN xs) := rfl
 have hH1 : bU [(0, some (flat aN xs)), (1, some (flat aN [s]))] 1 = some (flat aN [s]) := rfl
 generalize hHH : bU [(0, some (flat aN xs)), (1, some (flat aN [s]))] = H at *
 rcases g.obj 0 _ hH0 with ⟨q, _⟩ | ⟨b', β', arr, e, q1, hh, hsz, hrd, hX, hW⟩
 ·rw [q] at hib;cases hib
 rw [hib] at q1;cases q1
 rcases g.obj 1 _ hH1 with ⟨q, _⟩ | ⟨b2, β2, arr2, e2, q1, hh2, hsz2, hrd2, hX2, hW2⟩
 ·rw [q] at hiv;cases hiv
 rw [hiv] at q1;cases q1
 have hne : vb ≠ b := fun q => by
  subst q
  have := g.sep 1 0 _ _ _ _ _ hH1 hH0 hiv hib
  omega
 have hbz : pN w b = arr.size := by simp [pN, hh]
 rw [hbz] at hcb
 obtain ⟨lx, hx1, hx2⟩ := RdC.to_list hrd
 obtain ⟨ls, hs1, hs2⟩ := RdC.to_list hrd2
 have hxl := RdL.length hx1
 have hsl := RdL.length hs1
 have hfz : ∀ o, w.frozen? ⟨b, o, none⟩ = false := fun o => by unfold World.frozen?; rw [hh]; simp
 have hfv : ∀ o, w.frozen? ⟨vb, o, none⟩ = false := fun o => by unfold World.frozen?; rw [hh2]; simp
 have hcell : ∀ o, o < arr.size → (w.cell? ⟨b, o, none⟩).isSome = true := fun o ho => by
  unfold World.cell?; simp only [hh]; rw [Array.getElem?_eq_getElem ho]; rfl
 simp only [Nat.add_zero] at *
 have o1 := kI hx1
 have o2 := kI hs1
 by_cases hroom : xs.length + 1 ≤ c
 ·have hsp : (xs.length + 1) * 6 ≤ c * 6 := Nat.mul_le_mul_right _ hroom
  have hsa : w.shape? vb = some (e2, arr2.size) := by unfold World.shape?; rw [hh2]
  have hsb : w.shape? b = some (e, arr.size) := by unfold World.shape?; rw [hh]
  refine (Cr b β xs.length c k vb vβ vc lx ls w hk hroom hne hl (by omega) (by omega) hx2 (fun j hj => hcell _ (by omega)) (fun j hj => hfz _) hs2 o1 o2 _ _ _ _ hsa hsb (by omega) (hfv _) (hfv _)).mono ?_
  rintro e' w' ⟨rfl, rfl⟩
  obtain ⟨g1, c1⟩ := kD g
  have hx3 := RdL.carry c1 _ _ hx1
  have hs3 := RdL.carry c1 _ _ hs1
  have hh' : w.drew.heap[b]? = some (.cells arr e (0, 0)) := hh
  have hdl : (lx.drop (k * 6)).length = xs.length * 6 - k * 6 := by rw [List.length_drop]; omega
  obtain ⟨g2, c2, arr', hh3, hs4⟩ := g1.extS Tryz.prog (off := (k + 1) * 6) hH0 hib hh' (by omega) (by rw [hdl]; omega) (n3 (k * 6) hx3)
  have hs5 := RdL.carry c2 _ _ hs3
  obtain ⟨g3, c3⟩ := g2.mid Tryz.prog (off := k * 6) (upd_same _ _ _) hib (by rw [hfs, List.length_append, List.length_take, List.length_drop]; omega) hs5
  obtain ⟨g4, c4⟩ := g3.rename (id := 0) (id' := 2) (k := 0) (upd_same _ _ _) (by show 2 ≤ 2;omega) hib (Nat.zero_le _)
  refine ⟨_, .own 2 0 (xs.length + 1) 6, bU [(2, some (flat aN (eX k s xs)))], eO ι 2 (some (some (b, β + 0))), rfl, ⟨(), trivial, rfl, fun id cs h => h⟩, ?_, ?_⟩
  ·simp only [Rd]
   have a1 := c1.bs b
   have a2 := c2.bs b
   have a3 := c3.bs b
   exact .inr ⟨b, β + 0, c, upd_same _ _ _, by simp, hroom, by omega⟩
  ·refine (g4.less (fun id cs h => ?_) (fun _ h => h.elim)).1
   obtain ⟨rfl, rfl⟩ := A9 h
   rw [upd_same, List.drop_zero, Gm hfl hfs hk, tQ (by omega)]
 ·have hdl : (lx.drop (k * 6)).length = xs.length * 6 - k * 6 := by rw [List.length_drop]; omega
  refine (Fm b β xs.length c k vb vβ vc lx ls w hk hnc (by omega) hl (by omega) (by omega) hx2 hs2 o1 o2).mono ?_
  rintro e' w' ⟨G, ROW, hG, hRs, hRc, rfl, rfl⟩
  have hsp : (xs.length + 1) * 6 ≤ G * 6 := Nat.mul_le_mul_right _ hG
  obtain ⟨ga, ca⟩ := g.alloc (id := 2) (by show 2 ≤ 2; omega) (arr := ROW) 58 (l := lx.take (k * 6)) (rest := ROW.toList.drop (k * 6)) (by
   have : ROW.toList.take (k * 6) = lx.take (k * 6) := by
    apply List.ext_getElem?
    intro j
    rw [List.getElem?_take, List.getElem?_take]
    split
    ·rename_i hj
     have hv : lx[j]? = some lx[j] := List.getElem?_eq_getElem (by omega)
     have := hRc j _ hj hv
     rw [hv, ← this]; simp
    ·rfl
   rw [← this, List.take_append_drop]) (rN (k * 6) hx1)
  have hh0 : (w.alloc (.cells ROW 58)).heap[w.heap.size]? = some (.cells ROW 58 (0, 0)) := heap_alloc_new w _
  obtain ⟨gb, cb⟩ := kD ga
  have hxb := RdL.carry cb _ _ (RdL.carry ca _ _ hx1)
  have hsb := RdL.carry cb _ _ (RdL.carry ca _ _ hs1)
  have hh1 : (w.alloc (.cells ROW 58)).drew.heap[w.heap.size]? = some (.cells ROW 58 (0, 0)) := hh0
  have ht1 : ((flat aN xs).take (k * 6)).length = k * 6 := by rw [List.length_take]; omega
  obtain ⟨gc, cc, arr3, hh3, hs3⟩ := gb.extS Tryz.prog (id := 2) (off := k * 6) (upd_same _ _ _) (upd_same _ _ _) hh1 (by omega) (by omega) hsb
  rw [Nat.zero_add] at gc cc hh3
  obtain ⟨gd, cd⟩ := kD gc
  have hxd := RdL.carry cd _ _ (RdL.carry cc _ _ hxb)
  obtain ⟨ge, ce, arr4, hh4, hs4⟩ := gd.extS Tryz.prog (id := 2) (off := (k + 1) * 6) (upd_same _ _ _) (upd_same _ _ _) (arr := arr3) (e := 58) hh3 (by rw [List.length_append, List.length_take]; omega) (by rw [hdl]; omega) (n3 (k * 6) hxd)
  rw [Nat.zero_add] at ge ce hh4
  refine ⟨_, .own 2 0 (xs.length + 1) 6, bU [(2, some (flat aN (eX k s xs)))], _, rfl, ⟨(), trivial, rfl, fun id cs h => h⟩, ?_, (ge.less (fun id cs h => ?_) (fun _ h => h.elim)).1⟩
  ·simp only [Rd]
   refine .inr ⟨w.heap.size, 0, G, upd_same _ _ _, by simp, hG, ?_⟩
   unfold pN;rw [hh4]
   show 0 + 0 + G * 6 ≤ arr4.size
   omega
  ·obtain ⟨rfl, rfl⟩ := A9 h
   rw [upd_same, tQ (by omega), List.take_take, Nat.min_self, List.take_of_length_le (by rw [List.length_append]; omega)]
theorem zW {H : Nat → Option (List AV)} {i m e : Nat} {cs : List AV} (h : H i = some cs) (hm : cs.length = m * e) : sCells H e (mQ (.own i 0 m e)) = some (m, cs) := by
 show sCells H e (.own i 0 m e) = some (m, cs)
 simp only [sCells, h, Option.bind_some, List.drop_zero]
 rw [if_pos (by omega), List.take_of_length_le (by omega)]
theorem DU (xs : List AL.Stmt) (s : AL.Stmt) (hl : xs.length ≤ 1000000) : MC Tryz.prog 56 [.own 0 0 xs.length 6, iv (xs.length : Int), .own 1 0 1 6] [(0, some (flat aN xs)), (1, some (flat aN [s]))] 2 (fun _ : Unit => True) (fun _ => .own 2 0 (xs.length + 1) 6)
  (fun _ => [(2, some (flat aN (eX xs.length s xs)))]) := by
 have e : flat aN (eX xs.length s xs) = flat aN xs ++ flat aN [s] := by
  unfold eX;rw [List.take_length, List.drop_length, cT]
 rw [e]
 have h1 : (flat aN xs).length = xs.length * 6 := aK aN (e := 6) xs
 have h2 : (flat aN [s]).length = 6 := aK aN (e := 6) [s]
 (refine dB Tryz.func56 rfl (by simp [Tryz.ntmps56]) ?_; rw [Tryz.ntmps56])
 repeat' (first|(apply aM;first|((apply kN (d := 12) (l := xs.length) (h := xs.length));(case hx|hn => rfl);(case hl => exact j6 rfl (by omega));(case hh => rfl);(case hp => exact if_pos (by omega));(case hN => rfl))|((apply bV (d := 25) (new := flat aN [s]) (cs' := flat aN xs ++ flat aN [s]));(case hx|hy|hze|he0|hH => rfl);(case hl => omega);(case hs' => exact zW rfl h2);(case hbig => omega);(case hmx => omega);(case hcs => (rw [List.drop_zero, List.take_of_length_le (by omega)]));(case hM|hN => rfl))|(apply aD;rfl;rfl)|(first|(apply bO;rfl;rfl;omega;rfl)|(apply aV;rfl;rfl;rfl;rfl))|(apply aC;rfl;rfl)|(apply a8;rfl;rfl;rfl)|(apply aF;kernel_rfl))|(apply aO;first|apply aH|apply aB|(apply cF;rfl;(rfl))|(apply aP;rfl;all_goals intro hc;have hq:=hc;(try simp only [cD] at hq);try exfalso;omega)|apply aS|apply aW)|with_reducible apply aA|with_reducible apply b0)
 ·(refine aU rfl ?_; refine dA () trivial ?_ ⟨.inr (Eq.trans (b := some _) rfl ?_), trivial⟩)
  ·rfl
  ·rfl
 ·exfalso;exact (by assumption : ¬ True) trivial
theorem Gf {xs : List AL.Stmt} {s : AL.Stmt} {m k : Nat} {N : Nat} {Q : Exit → AS → Prop} {all : Array Oper} {rest : List Oper} {tsl : List (Nat × AV)} {hsl : List (Nat × Option (List AV))} {nidl : Nat} {z0 : Lo} {md : Md} {d : Nat} {ty : TypeId} {pos : String} {af : Array Edge} {tys : Array TypeId} {x0 x1 x2 : Operand} {i0 i1 : Nat} (ha0 : ev (lk tsl) x0 = some (.own i0 0 m 6)) (ha1 : ev (lk tsl) x1 = some (iv (k : Int))) (ha2 : ev (lk tsl) x2 = some (.own i1 0 1 6)) (hH0 : bU hsl i0 = some (flat aN xs)) (hH1 : bU hsl i1 = some (flat aN [s])) (hdd : Go.AL.distinct [i0, i1] = true) (hmc : MC Tryz.prog 56 [.own 0 0 m 6, iv (k : Int), .own 1 0 1 6] [(0, some (flat aN xs)), (1, some (flat aN [s]))] 2 (fun _ : Unit => True) (fun _ => .own 2 0 (m + 1) 6) (fun _ => [(2, some (flat aN (eX k s xs)))])) (hM : Nat.ble (nidl + 1) bZ = true) (hN : Nat.blt d N = true) {md' : Md} [hmd : MdA md (jH [x0, x1, x2] ++ [.inr i0, .inr i1]) (List.map Sum.inr (List.map Prod.fst ([(nidl, some (flat aN (eX k s xs))), (i0, none), (i1, none)] : List (Nat × Option (List AV)))) ++ [.inl d]) md'] (kk : RW Tryz.prog N all Q md' rest ⟨(d, .own nidl 0 (m + 1) 6) :: tsl, lE hsl [(nidl, some (flat aN (eX k s xs))), (i0, none), (i1, none)], nidl + 1, z0⟩) : RW Tryz.prog N all Q md (⟨some d, .call ⟨.value (.func 56), #[x0, x1, x2], tys⟩, ty, pos, af, none⟩ :: rest) ⟨tsl, hsl, nidl, z0⟩ := by
 refine c5 [i0, i1] 3 [(nidl, some (flat aN (eX k s xs))), (i0, none), (i1, none)] hmc (avs := [.own i0 0 m 6, iv (k : Int), .own i1 0 1 6]) ?_ hdd ?_ rfl ?_ (by simpa using hM) ?_ ?_ ?_ hN (md' := md') (hmd := hmd) kk
 ·show evL (lk tsl) [x0, x1, x2] = _
  simp only [evL, ha0, ha1, ha2]
 ·exact ⟨⟨_, _, rfl, hH0, by (repeat' (exact RnL.purI inferInstance))⟩, ⟨⟨_, _, rfl, hH1, by (repeat' (exact RnL.purI inferInstance))⟩, trivial⟩⟩
 ·(repeat' (first|exact RnL.purI inferInstance|exact RnV.purI inferInstance|exact RnV.own rfl|refine RnL.cons ?_ ?_))
 ·(repeat' (exact RnV.own rfl))
 ·simp [e7]
 ·(repeat' (first|exact trivial|(refine And.intro ⟨2, _, rfl, rfl, ?_⟩ ?_)|exact RnL.purI inferInstance))
theorem H5 (xs : List AL.Stmt) (s : AL.Stmt) (m k : Nat) (hm : m = xs.length) (hk : k ≤ m) (hl : m ≤ 1000000) : MC Tryz.prog 56 [.own 0 0 m 6, iv (k : Int), .own 1 0 1 6] [(0, some (flat aN xs)), (1, some (flat aN [s]))] 2 (fun _ : Unit => True) (fun _ => .own 2 0 (m + 1) 6) (fun _ => [(2, some (flat aN (eX k s xs)))]) := by
 subst hm
 rcases Nat.lt_or_ge k xs.length with h|h
 ·exact E9 xs s k h hl
 ·have e : k = xs.length := by omega
  subst e
  exact DU xs s hl
end Go.Proofs.YtjcpngimjdckmaaGreat
namespace Go.Proofs.YtjcpngimjdckmaaGreat
open Go.AL Go.RowKit
noncomputable def rE (q : Prg) : Bool := cM q && @decide (NoI q.types (aR q)) (Classical.propDecidable _)
theorem sX (q : Prg) (w : WG q.types (aR q)) (f : Flows q.types (aR q)) (hv : cM q = true) : rE q = f.iss.isEmpty := by
 unfold rE
 rw [hv, Bool.true_and]
 cases h : f.iss.isEmpty with
 | true => exact @decide_eq_true _ (Classical.propDecidable _) ((NoI.iff w f).1 (List.isEmpty_iff.1 h))
 | false => exact @decide_eq_false _ (Classical.propDecidable _) (fun q => by rw [(NoI.iff w f).2 q] at h;cases h)
theorem Hv (q : Prg) (hl : q.types.length ≤ 1000000) (hs : bJ q.body ≤ 1000000) : PC Tryz.prog 19 [c8 q] (fun r => r = bv (rE q)) := by
 cases hv : cM q with
 | false =>
  have h := yK q [] hl hs (Dd q hv hl hs)
  rw [hv, Bool.false_and] at h
  unfold rE;rw [hv, Bool.false_and]; exact h
 | true =>
  have w := WG.of_valid hv
  obtain ⟨f⟩ := Flows.ex w
  have h := Ae q f hl hs
  rw [hv, Bool.true_and, show tN q f = f.iss from if_pos hv] at h
  rw [sX q w f hv]; exact h
theorem H9 (q : Prg) (hl : q.types.length ≤ 1000000) (hs : bJ q.body ≤ 1000000) : PC Tryz.prog 61 [c8 q] (fun r => r = bv (rE q)) := by
 cases hv : cM q with
 | false =>
  have h := y6 q [] hl hs (CY q hv hl hs)
  rw [hv, Bool.false_and] at h
  unfold rE;rw [hv, Bool.false_and]; exact h
 | true =>
  have w := WG.of_valid hv
  obtain ⟨f⟩ := Flows.ex w
  have h := zY q f hl hs
  rw [hv, Bool.true_and, show tN q f = f.iss from if_pos hv] at h
  rw [sX q w f hv]; exact h
def gN (p : Prg) (k : Nat) (v : Int) : Prg := ⟨p.types, eX k (iK v) p.body⟩
def rF (p : Prg) (f : Flows p.types (aR p)) (k : Nat) (v : Int) : Prop := k ≤ p.body.length ∧ fX p.types v = 2 ∧ (f.Aa[dL (p.body.take k)]!).testBit v.toNat = true
instance (p : Prg) (f : Flows p.types (aR p)) (k : Nat) (v : Int) : Decidable (rF p f k v) := by unfold rF; infer_instance
noncomputable def gS (p : Prg) (f : Flows p.types (aR p)) (k v : Int) : Option Prg := if 0 ≤ k ∧ rF p f k.toNat v ∧ rE (gN p k.toNat v) = true then some (gN p k.toNat v) else none
theorem rM (b : List AL.Stmt) (k : Nat) (v : Int) : bJ (eX k (iK v) b) = bJ b + 1 := by
 have h := dS (b.take k) (b.drop k)
 rw [List.take_append_drop] at h
 unfold eX
 rw [dS, bJ, iK, fO]
 simp only [AL.Stmt.th, AL.Stmt.el, bJ]
 omega
theorem Gz (p : Prg) (k v : Int) (hv : cM p = false) (hl : p.types.length ≤ 1000000) (hs : bJ p.body ≤ 1000000) : PC Tryz.prog 12 [c8 p, iv k, iv v] (fun r => r = Bp none) := by
 have hval := jF p hl (by omega)
 rw [hv] at hval
 (refine aQ Tryz.func12 rfl (by simp [Tryz.ntmps12]) ?_; rw [Tryz.ntmps12])
 repeat' (first|(apply aM;first|((with_reducible apply aI (k := 49));(case ha => rfl);(case h => exact hval);(case hp => (exact Pur.pf));(case hN => rfl))|(apply aD;rfl;rfl)|(apply a6;rfl;rfl;(exact (rfl:_=[_, _]));rfl;rfl;rfl)|(apply aZ;rfl;rfl;rfl;(rfl))|(apply aC;rfl;rfl)|(apply bI;rfl;(rfl);rfl;rfl)|(apply aF;kernel_rfl)|(apply b8;rfl;(exact (rfl:_=some [_, _]));(exact (rfl:_=[_, _]));rfl)|(apply cK;rfl;rfl)|(apply bW;rfl;rfl;rfl;rfl)|(apply bT;rfl;rfl)|(apply a7;rfl;rfl;rfl;rfl;rfl;(decide);(exact (rfl:_=[_, _]))))|(apply aO;first|apply aH|apply aB|(apply b9;kernel_rfl)|(apply bX;rfl;(rfl))|apply aW)|with_reducible apply aA|with_reducible apply b0)
 exact kC (r := none) rfl rfl
theorem Gy (p : Prg) (k v : Int) (hv : cM p = false) (hl : p.types.length ≤ 1000000) (hs : bJ p.body ≤ 1000000) : PC Tryz.prog 13 [c8 p, iv k, iv v] (fun r => r = Bp none) := by
 have hval := gZ p hl (by omega)
 rw [hv] at hval
 (refine aQ Tryz.func13 rfl (by simp [Tryz.ntmps13]) ?_; rw [Tryz.ntmps13])
 repeat' (first|(apply aM;first|((with_reducible apply aI (k := 57));(case ha => rfl);(case h => exact hval);(case hp => (exact Pur.pf));(case hN => rfl))|(apply aD;rfl;rfl)|(apply a6;rfl;rfl;(exact (rfl:_=[_, _]));rfl;rfl;rfl)|(apply aZ;rfl;rfl;rfl;(rfl))|(apply aC;rfl;rfl)|(apply bI;rfl;(rfl);rfl;rfl)|(apply aF;kernel_rfl)|(apply b8;rfl;(exact (rfl:_=some [_, _]));(exact (rfl:_=[_, _]));rfl)|(apply cK;rfl;rfl)|(apply bW;rfl;rfl;rfl;rfl)|(apply bT;rfl;rfl)|(apply a7;rfl;rfl;rfl;rfl;rfl;(decide);(exact (rfl:_=[_, _]))))|(apply aO;first|apply aH|apply aB|(apply bX;rfl;(rfl))|apply aW)|with_reducible apply aA|with_reducible apply b0)
 exact kC (r := none) rfl rfl
theorem Ed (p : Prg) (k v : Int) (hv : cM p = true) (f : Flows p.types (aR p)) : PC Tryz.prog 12 [c8 p, iv k, iv v] (fun r => r = Bp (gS p f k v)) := by
 obtain ⟨t1, t2, t3⟩ := jN hv
 have htl := eJ t1
 have hlen := cY p.body
 have hval := jF p (by omega) (by omega)
 rw [hv] at hval
 by_cases h : 0 ≤ k ∧ k ≤ p.body.length
 ·obtain ⟨k, rfl⟩ : ∃ j : Nat, k = j := ⟨k.toNat, by omega⟩
  have hfp := wG p k (by omega) (by omega)
  have hpl := iW p
  have hnp := lX p.body k
  have has := wK p (dL (p.body.take k) : Int) f (by omega) (by omega) ⟨hv, by omega, by omega⟩
  rw [Int.toNat_natCast] at has
  have hci := rM p.body k v
  have hac := Hv (gN p k v) (by show p.types.length ≤ _; omega) (by show bJ (eX k (iK v) p.body) ≤ _; omega)
  by_cases ht : fX p.types v = 2
  ·have hv0 := (fV t1 v).1 (by omega)
   have hsm : f.Aa[dL (p.body.take k)]! < 2 ^ 62 := Nat.lt_of_lt_of_le ((f.bnd (WG.of_valid hv)).bA (dL (p.body.take k))) (Nat.pow_le_pow_right (by decide) (by omega))
   have hct := El f.Aa[dL (p.body.take k)]! v (by omega) hsm
   have eP : AV.agg [sl cI p.types, .imm (p.body.length + 1) (flat aN (eX k (iK v) p.body))] = c8 (gN p k v) := by
    unfold gN;dsimp only [c8]; unfold sl;rw [sK]
   rw [← eP] at hac
   (refine aQ Tryz.func12 rfl (by simp [Tryz.ntmps12]) ?_; rw [Tryz.ntmps12])
   repeat' (first|(apply aM;first|((with_reducible apply aI (k := 49));(case ha => rfl);(case h => exact hval);(case hp => (exact Pur.pf));(case hN => rfl))|((with_reducible apply aI (k := 54));(case ha => rfl);(case h => exact hfp);(case hp => (exact Pur.pf));(case hN => rfl))|((with_reducible apply aI (k := 53));(case ha => rfl);(case h => exact has);(case hp => (exact Pur.pf));(case hN => rfl))|((with_reducible apply aI (k := 52));(case ha => rfl);(case h => exact hct);(case hp => (exact Pur.pf));(case hN => rfl))|(apply BJ;rfl;(apply D1 <;> omega);rfl;rfl)|((apply Gf (s := iK v));(case ha0|ha1|ha2|hH0|hH1|hdd => rfl);(case hmc => (apply H5 <;> first|rfl|omega));(case hM|hN => rfl))|(with_reducible apply dR (d := 48))|(apply aD;rfl;rfl)|(first|(apply aL;rfl;rfl;rfl;rfl)|(apply a6;rfl;rfl;(exact (rfl:_=[_, _]));rfl;rfl;rfl))|(apply aE;rfl;rfl;rfl)|(first|(apply a9;rfl;rfl;rfl;(first|rfl|assumption))|(apply bC;(case hj|hb|hN => rfl);all_goals (intro hg;have hq := hg;(try simp only [cD] at hq);(try (exfalso;omega)))))|(apply aV;rfl;rfl;rfl;rfl)|(apply aC;rfl;rfl)|(apply bH;rfl;(first|rfl|assumption);rfl;rfl)|(first|((with_reducible apply aI (k := 50));(case ha => rfl);(case h => (apply iC <;> (fail)));(case hp => (rfl));(case hN => rfl))|((with_reducible apply aI (k := 51));(case ha => rfl);(case h => (apply rG <;> (omega)));(case hp => (exact Pur.pf));(case hN => rfl)))|(apply a8;rfl;rfl;rfl)|(apply aF;kernel_rfl)|(apply b8;rfl;(first|exact (rfl:_=some [_, _])|exact (rfl:_=some [_, _, _, _, _, _]));(first|exact (rfl:_=[_, _])|exact (rfl:_=[_, _, _, _, _, _]));rfl)|(apply cK;rfl;rfl)|(apply bW;rfl;rfl;rfl;rfl)|(apply bT;rfl;rfl)|(apply bK;rfl;rfl;rfl;(exact (rfl:_=some [_, _, _, _, _, _]));rfl;rfl)|(apply a7;rfl;rfl;rfl;rfl;rfl;(case hl => (first|decide|(simp;done)));(exact (rfl:_=[_, _]))))|(apply aO;first|apply aH|apply aB|(apply b9;kernel_rfl)|(apply aP;rfl;all_goals intro hc;have hq:=hc;(try simp only [cD] at hq);try exfalso;omega)|apply aS|apply aW)|with_reducible apply aA|with_reducible apply b0)
   ·have : gS p f k v = none := by
     unfold gS rF;rw [if_neg]; rintro ⟨_, ⟨_, _, h3⟩, _⟩; rw [Int.toNat_natCast] at h3
     rw [show (f.Aa[dL (p.body.take k)]!).testBit v.toNat = false by assumption] at h3;cases h3
    rw [this]
    exact kC (r := none) rfl rfl
   ·refine gK (fN ?_ (Le.frzC (j := 5) (i := 7) [sl cI p.types] rfl rfl (by decide)))
    repeat' (first|(apply aM;first|((with_reducible apply aI (k := 19));(case ha => rfl);(case h => exact hac);(case hp => (exact Pur.pf));(case hN => rfl))|(apply a6;rfl;rfl;(exact (rfl:_=[_, _]));rfl;rfl;rfl)|(apply aC;rfl;rfl)|(apply aF;kernel_rfl)|(apply b8;rfl;(exact (rfl:_=some [_, _]));(exact (rfl:_=[_, _]));rfl)|(apply cK;rfl;rfl)|(apply a7;rfl;rfl;rfl;rfl;rfl;(case hl => (first|decide|(simp;done)));(exact (rfl:_=[_, _]))))|(apply aO;first|apply aH|apply aB|(apply aP;rfl;all_goals intro hc;have hq:=hc;(try simp only [cD] at hq);try exfalso;omega)|apply aS|apply aW)|with_reducible apply aA|with_reducible apply b0)
    ·have : gS p f k v = none := by
      unfold gS;rw [if_neg]; rintro ⟨_, _, h3⟩; rw [Int.toNat_natCast] at h3
      rw [show rE (gN p k v) = false by assumption] at h3;cases h3
     rw [this]
     exact kC (r := none) rfl rfl
    ·have : gS p f k v = some (gN p k v) := by
      unfold gS rF;rw [if_pos]
      ·rfl
      ·rw [Int.toNat_natCast]; exact ⟨by omega, ⟨by omega, ht, by assumption⟩, by assumption⟩
     rw [this]
     have e : bQ [AV.agg [sl cI p.types, .imm (p.body.length + 1) (flat aN (eX k (iK v) p.body))], bv true] = Bp (some (gN p k v)) := by
      show AV.tup [_, _] = AV.tup [c8 (gN p k v), bv true]
      rw [eP]
     refine kC ?_ e
     rfl
  ·(refine aQ Tryz.func12 rfl (by simp [Tryz.ntmps12]) ?_; rw [Tryz.ntmps12])
   repeat' (first|(apply aM;first|((with_reducible apply aI (k := 49));(case ha => rfl);(case h => exact hval);(case hp => (exact Pur.pf));(case hN => rfl))|(apply aD;rfl;rfl)|(first|(apply aL;rfl;rfl;rfl;rfl)|(apply a6;rfl;rfl;(exact (rfl:_=[_, _]));rfl;rfl;rfl))|(apply aE;rfl;rfl;rfl)|(first|(apply a9;rfl;rfl;rfl;(first|rfl|assumption))|(apply aZ;rfl;rfl;rfl;(assumption))|(apply bC;(case hj|hb|hN => rfl);all_goals (intro hg;have hq := hg;(try simp only [cD] at hq);(try (exfalso;omega)))))|(apply aV;rfl;rfl;rfl;rfl)|(apply aC;rfl;rfl)|(first|(apply bI;rfl;(assumption);rfl;rfl)|(apply bH;rfl;(first|rfl|assumption);rfl;rfl))|(first|((with_reducible apply aI (k := 50));(case ha => rfl);(case h => (apply iC <;> (fail)));(case hp => (rfl));(case hN => rfl))|((with_reducible apply aI (k := 51));(case ha => rfl);(case h => (apply rG <;> (omega)));(case hp => (exact Pur.pf));(case hN => rfl)))|(apply a8;rfl;rfl;rfl)|(apply aF;kernel_rfl)|(apply b8;rfl;(exact (rfl:_=some [_, _]));(exact (rfl:_=[_, _]));rfl)|(apply cK;rfl;rfl)|(apply bW;rfl;rfl;rfl;rfl)|(apply bT;rfl;rfl)|(apply a7;rfl;rfl;rfl;rfl;rfl;(decide);(exact (rfl:_=[_, _]))))|(apply aO;first|apply aH|apply aB|(apply b9;kernel_rfl)|(apply bX;rfl;(rfl))|apply aW)|with_reducible apply aA|with_reducible apply b0)
   have : gS p f k v = none := by
    unfold gS rF;rw [if_neg]; rintro ⟨_, ⟨_, h2, _⟩, _⟩; exact ht h2
   rw [this]
   exact kC (r := none) rfl rfl
 ·have : gS p f k v = none := by
   unfold gS rF;rw [if_neg]; rintro ⟨h1, ⟨h2, _, _⟩, _⟩; exact h ⟨h1, by omega⟩
  rw [this]
  (refine aQ Tryz.func12 rfl (by simp [Tryz.ntmps12]) ?_; rw [Tryz.ntmps12])
  repeat' (first|(apply aM;first|((with_reducible apply aI (k := 49));(case ha => rfl);(case h => exact hval);(case hp => (exact Pur.pf));(case hN => rfl))|(apply aD;rfl;rfl)|(first|(apply aL;rfl;rfl;rfl;rfl)|(apply a6;rfl;rfl;(exact (rfl:_=[_, _]));rfl;rfl;rfl))|(apply aE;rfl;rfl;rfl)|(first|(apply a9;rfl;rfl;rfl;(rfl))|(apply aZ;rfl;rfl;rfl;(first|rfl|assumption))|(apply bC;(case hj|hb|hN => rfl);all_goals (intro hg;have hq := hg;(try simp only [cD] at hq);(try (exfalso;omega)))))|(apply aC;rfl;rfl)|(first|(apply bI;rfl;(first|rfl|assumption);rfl;rfl)|(apply bH;rfl;(rfl);rfl;rfl))|((with_reducible apply aI (k := 50));(case ha => rfl);(case h => (apply iC <;> (fail)));(case hp => (rfl));(case hN => rfl))|(apply a8;rfl;rfl;rfl)|(apply aF;kernel_rfl)|(apply b8;rfl;(exact (rfl:_=some [_, _]));(exact (rfl:_=[_, _]));rfl)|(apply cK;rfl;rfl)|(apply bW;rfl;rfl;rfl;rfl)|(apply bT;rfl;rfl)|(apply a7;rfl;rfl;rfl;rfl;rfl;(decide);(exact (rfl:_=[_, _]))))|(apply aO;first|apply aH|apply aB|(apply b9;kernel_rfl)|(apply bX;rfl;(rfl))|apply aW)|with_reducible apply aA|with_reducible apply b0)
  all_goals first
   | exact kC (r := none) rfl rfl
   | (exfalso;omega)
theorem GO {hs : List (Nat × Option (List AV))} {i k : Nat} {xs : List AL.Stmt} (hH : bU hs i = some (flat aN xs)) (hk : k ≤ xs.length) : sCells (bU hs) 6 (mQ (.own i 0 k 6)) = some (k, flat aN (xs.take k)) := by
 have h1 : (flat aN xs).length = xs.length * 6 := aK aN (e := 6) xs
 show sCells (bU hs) 6 (.own i 0 k 6) = _
 simp only [sCells, hH, Option.bind_some, List.drop_zero]
 rw [if_pos (by omega), show (flat aN xs).take (k * 6) = flat aN (xs.take k) from fA aN (e := 6) xs k]
theorem Dr {xs : List AL.Stmt} {m : Nat} (h : xs.length = m) (ys : List AL.Stmt) : ((flat aN xs).drop 0).take (m * 6) ++ flat aN ys = flat aN (xs ++ ys) := by
 have h1 : (flat aN xs).length = xs.length * 6 := aK aN (e := 6) xs
 rw [List.drop_zero, List.take_of_length_le (by omega), cT]
theorem DE {xs : List AL.Stmt} {m : Nat} (h : xs.length = m) : 0 + m * 6 ≤ (flat aN xs).length := by
 have h1 : (flat aN xs).length = xs.length * 6 := aK aN (e := 6) xs
 omega
theorem EL {xs : List AL.Stmt} {s : AL.Stmt} {k : Nat} : (xs.take k ++ [s]) ++ xs.drop k = eX k s xs := by unfold eX; rw [List.append_assoc]; rfl
theorem HE (p : Prg) (k v : Int) (hv : cM p = true) (f : Flows p.types (aR p)) : PC Tryz.prog 13 [c8 p, iv k, iv v] (fun r => r = Bp (gS p f k v)) := by
 obtain ⟨t1, t2, t3⟩ := jN hv
 have htl := eJ t1
 have hlen := cY p.body
 have hval := gZ p (by omega) (by omega)
 rw [hv] at hval
 by_cases h : (0 ≤ k ∧ k ≤ p.body.length) ∧ (0 ≤ v ∧ v < p.types.length)
 ·obtain ⟨⟨h0, h1⟩, h2, h3⟩ := h
  obtain ⟨k, rfl⟩ : ∃ j : Nat, k = j := ⟨k.toNat, by omega⟩
  obtain ⟨v, rfl⟩ : ∃ j : Nat, v = j := ⟨v.toNat, by omega⟩
  have hty : fX p.types (v : Int) = p.types[v]! := by unfold fX;rw [if_pos (by omega), Int.toNat_natCast]
  have hfp := AI p k (by omega) (by omega)
  have hpl := iW p
  have hnp := lX p.body k
  have hfa := lJ p true f.Aa (by omega) (WG.of_valid hv) (Rch.of p) (by unfold oM;exact f.ga)
  have hci := rM p.body k (v : Int)
  have hfl : (flat aN p.body).length = p.body.length * 6 := aK aN (e := 6) p.body
  have hac := H9 (gN p k (v : Int)) (by show p.types.length ≤ _; omega) (by show bJ (eX k (iK (v : Int)) p.body) ≤ _; omega)
  have htk : (p.body.take k).length = 0 + k := by rw [List.length_take]; omega
  have htk1 : (p.body.take k ++ [iK (v : Int)]).length = 0 + k + 1 := by rw [List.length_append, htk]; rfl
  have eP : AV.agg [.imm p.types.length (flat cI p.types), .imm (0 + k + 1 + (p.body.length - k)) (flat aN (p.body.take k ++ [iK (v : Int)] ++ p.body.drop k))] = c8 (gN p k (v : Int)) := by
   rw [EL]
   unfold gN;dsimp only [c8]; unfold sl;rw [sK, show 0 + k + 1 + (p.body.length - k) = p.body.length + 1 by omega]
  rw [← eP] at hac
  (refine aQ Tryz.func13 rfl (by simp [Tryz.ntmps13]) ?_; rw [Tryz.ntmps13])
  repeat' (first|(apply aM;first|((with_reducible apply aI (k := 57));(case ha => rfl);(case h => exact hval);(case hp => (exact Pur.pf));(case hN => rfl))|((with_reducible apply aI (k := 58));(case ha => rfl);(case h => exact hfp);(case hp => (exact Pur.pf));(case hN => rfl))|(apply uP;rfl;(apply w7 <;> omega);rfl;rfl)|((apply kN (d := 54) (l := 0) (h := k));(case hx|hn|hl => rfl);(case hh => exact j6 rfl rfl);(case hp => exact if_pos (by omega));(case hN => rfl))|((apply bV (d := 55) (new := flat aN (p.body.take k)) (cs' := flat aN (p.body.take k)));(case hx|hy|hze|he0|hH => rfl);(case hl => exact Nat.le_refl _);(case hs' => exact GO rfl (by omega));(case hbig => omega);(case hmx => omega);(case hcs|hM|hN => rfl))|((apply bV (d := 60) (new := flat aN [iK (v : Int)]) (cs' := flat aN (p.body.take k ++ [iK (v : Int)])));(case hx|hy|hze|he0|hH => rfl);(case hl => exact DE htk);(case hs' => exact zW rfl rfl);(case hbig => omega);(case hmx => omega);(case hcs => exact Dr htk _);(case hM|hN => rfl))|((apply kN (d := 65) (l := k) (h := p.body.length));(case hx|hn => rfl);(case hl => exact j6 rfl rfl);(case hh => rfl);(case hp => exact if_pos (by omega));(case hN => rfl))|((apply bV (d := 66) (new := flat aN (p.body.drop k)) (cs' := flat aN (p.body.take k ++ [iK (v : Int)] ++ p.body.drop k)));(case hx|hy|hze|he0|hH => rfl);(case hl => exact DE htk1);(case hs' => exact Bf rfl rfl);(case hbig => omega);(case hmx => omega);(case hcs => exact Dr htk1 _);(case hM|hN => rfl))|(with_reducible apply dR (d := 68))|(apply aD;rfl;rfl)|(first|(apply aL;rfl;rfl;rfl;rfl)|(apply a6;rfl;rfl;(exact (rfl:_=[_, _]));rfl;rfl;rfl))|(apply aE;rfl;rfl;rfl)|(first|(apply a9;rfl;rfl;rfl;(first|rfl|assumption))|(apply bC;(case hj|hb|hN => rfl);all_goals (intro hg;have hq := hg;(try simp only [cD] at hq);(try (exfalso;omega)))))|(apply aV;rfl;rfl;rfl;rfl)|(apply aC;rfl;rfl)|(apply bH;rfl;(first|rfl|assumption);rfl;rfl)|(apply bB;(case hx|hi => rfl);(case hm => (omega));(case hml => (rfl));(case hα | hf|hg => infer_instance);(case hN => rfl))|(apply a8;rfl;rfl;rfl)|(apply aF;kernel_rfl)|(apply b8;rfl;(first|exact (rfl:_=some [_, _])|exact (rfl:_=some [_, _, _, _, _, _]));(first|exact (rfl:_=[_, _])|exact (rfl:_=[_, _, _, _, _, _]));rfl)|(apply cK;rfl;rfl)|(apply bW;rfl;rfl;rfl;rfl)|(apply bT;rfl;rfl)|(apply bK;rfl;rfl;rfl;(first|exact (rfl:_=some [_, _, _, _, _, _])|rfl);rfl;rfl)|(apply a7;rfl;rfl;rfl;rfl;rfl;(case hl => (first|decide|(simp;done)));(exact (rfl:_=[_, _]))))|(apply aO;first|apply aH|apply aB|(apply aP;rfl;all_goals intro hc;have hq:=hc;(try simp only [cD] at hq);try exfalso;omega)|apply aS|apply aW)|with_reducible apply aA|with_reducible apply b0)
  ·have : gS p f (k : Int) (v : Int) = none := by
    unfold gS rF;rw [if_neg]; rintro ⟨_, ⟨_, h3, _⟩, _⟩; rw [hty] at h3
    exact (by assumption : ¬ p.types[v]! = 2) h3
   rw [this]
   exact kC (r := none) rfl rfl
  ·have hrl := gB p.types.length (aR p).length f.Aa
   have hrr := gD p.types.length (aR p).length f.Aa (dL (p.body.take k)) (by omega)
   have hrw : ((eG p.types.length (aR p).length f.Aa)[dL (p.body.take k)]!).length = p.types.length := by rw [hrr]; simp
   have hrg := kO p.types.length (aR p).length f.Aa (dL (p.body.take k)) v (by omega) (by omega)
   generalize (eG p.types.length (aR p).length f.Aa) = RB at *
   refine gK (fN (fN ?_ (Le.frzC (j := 7) (i := 12) [.imm _ _] rfl rfl (by decide))) (Le.frzC (j := 7) (i := 5) [] rfl rfl (by decide)))
   repeat' (first|(apply aM;first|((with_reducible apply aI (k := 60));(case ha => rfl);(case h => exact hfa);(case hp => (exact Pur.pf));(case hN => rfl))|((with_reducible apply aI (k := 61));(case ha => rfl);(case h => exact hac);(case hp => (exact Pur.pf));(case hN => rfl))|(apply aD;rfl;rfl)|(first|(apply aL;rfl;rfl;rfl;rfl)|(apply a6;rfl;rfl;(exact (rfl:_=[_, _]));rfl;rfl;rfl))|(first|(apply a9;rfl;rfl;rfl;(assumption))|(apply aZ;rfl;rfl;rfl;(assumption))|(apply bC;(case hj|hb|hN => rfl);all_goals (intro hg;have hq := hg;(try simp only [cD] at hq);(try (exfalso;omega)))))|(apply aC;rfl;rfl)|(first|(apply bI;rfl;(assumption);rfl;rfl)|(apply bH;rfl;(assumption);rfl;rfl))|(apply bB;(case hx|hi => rfl);(case hm => (omega));(case hml => (rfl));(case hα | hf|hg => infer_instance);(case hN => rfl))|(apply aF;kernel_rfl)|(apply b8;rfl;(exact (rfl:_=some [_, _]));(exact (rfl:_=[_, _]));rfl)|(apply cK;rfl;rfl)|(apply a7;rfl;rfl;rfl;rfl;rfl;(case hl => (first|decide|(simp;done)));(exact (rfl:_=[_, _]))))|(apply aO;first|apply aH|apply aB|(apply bX;rfl;(rfl))|(apply aP;rfl;all_goals intro hc;have hq:=hc;(try simp only [cD] at hq);try exfalso;omega)|apply aS|apply aW)|with_reducible apply aA|with_reducible apply b0)
   ·have : gS p f (k : Int) (v : Int) = none := by
     unfold gS;rw [if_neg]; rintro ⟨_, _, h3⟩; rw [Int.toNat_natCast] at h3
     rw [show rE (gN p k (v : Int)) = false by assumption] at h3;cases h3
    rw [this]
    exact kC (r := none) rfl rfl
   ·have : gS p f (k : Int) (v : Int) = some (gN p k (v : Int)) := by
     unfold gS rF;rw [if_pos]
     ·rfl
     ·rw [Int.toNat_natCast, Int.toNat_natCast]; exact ⟨by omega, ⟨by omega, by rw [hty]; assumption, by rw [← hrg]; assumption⟩, by assumption⟩
    rw [this]
    have e : bQ [AV.agg [.imm p.types.length (flat cI p.types), .imm (0 + k + 1 + (p.body.length - k)) (flat aN (p.body.take k ++ [iK (v : Int)] ++ p.body.drop k))], bv true] = Bp (some (gN p k (v : Int))) := by
     show AV.tup [_, _] = AV.tup [c8 (gN p k (v : Int)), bv true]
     rw [eP]
    refine kC ?_ e
    rfl
   ·have : gS p f (k : Int) (v : Int) = none := by
     unfold gS rF;rw [if_neg]; rintro ⟨_, ⟨_, _, h3⟩, _⟩; rw [Int.toNat_natCast, Int.toNat_natCast, ← hrg] at h3
     rw [show RB[dL (p.body.take k)]![v]! = false by assumption] at h3;cases h3
    rw [this]
    exact kC (r := none) rfl rfl
 ·have : gS p f k v = none := by
   unfold gS rF;rw [if_neg]; rintro ⟨h1, ⟨h2, h3, _⟩, _⟩
   have hv0 := (fV t1 v).1 (by omega)
   exact h ⟨⟨h1, by omega⟩, by omega, by omega⟩
  rw [this]
  (refine aQ Tryz.func13 rfl (by simp [Tryz.ntmps13]) ?_; rw [Tryz.ntmps13])
  repeat' (first|(apply aM;first|((with_reducible apply aI (k := 57));(case ha => rfl);(case h => exact hval);(case hp => (exact Pur.pf));(case hN => rfl))|(apply aD;rfl;rfl)|(first|(apply aL;rfl;rfl;rfl;rfl)|(apply a6;rfl;rfl;(exact (rfl:_=[_, _]));rfl;rfl;rfl))|(apply aE;rfl;rfl;rfl)|(first|(apply a9;rfl;rfl;rfl;(first|rfl|assumption))|(apply aZ;rfl;rfl;rfl;(first|rfl|assumption))|(apply bC;(case hj|hb|hN => rfl);all_goals (intro hg;have hq := hg;(try simp only [cD] at hq);(try (exfalso;omega)))))|(apply aV;rfl;rfl;rfl;rfl)|(apply aC;rfl;rfl)|(first|(apply bI;rfl;(first|rfl|assumption);rfl;rfl)|(apply bH;rfl;(first|rfl|assumption);rfl;rfl))|(apply a8;rfl;rfl;rfl)|(apply aF;kernel_rfl)|(apply b8;rfl;(exact (rfl:_=some [_, _]));(exact (rfl:_=[_, _]));rfl)|(apply cK;rfl;rfl)|(apply bW;rfl;rfl;rfl;rfl)|(apply bT;rfl;rfl)|(apply a7;rfl;rfl;rfl;rfl;rfl;(decide);(exact (rfl:_=[_, _]))))|(apply aO;first|apply aH|apply aB|(apply bX;rfl;(rfl))|apply aW)|with_reducible apply aA|with_reducible apply b0)
  all_goals first
   | exact kC (r := none) rfl rfl
   | (exfalso;omega)
def Jm (r : AV) : Prop := ∃ (q : Prg) (k v : Int), r = .tup [c8 q, iv k, iv v] ∧ bJ q.body ≤ 20000 ∧ q.types.length ≤ 1000
theorem C0 (bs : List UInt8) (hb : bs.length ≤ 1048576) : PC Tryz.prog 11 [sl cU bs] Jm := by
 have hb2 : (bs.take 2000).length ≤ 2000 := by rw [List.length_take]; omega
 (refine aQ Tryz.func11 rfl (by simp [Tryz.ntmps11]) ?_; rw [Tryz.ntmps11])
 repeat' (first|(apply aM;first|((with_reducible apply iO (k := 45));(case ha => rfl);(case h => exact E0 bs hb);(case hp => (exact Pur.pf));(case hN => rfl);(rintro _ ⟨q, k, rfl, h1, h2, h3, h4⟩ _))|(apply aD;rfl;rfl)|(first|(apply aL;rfl;rfl;rfl;rfl)|(apply a6;rfl;rfl;(exact (rfl:_=[_, _]));rfl;rfl;rfl))|(apply aE;rfl;rfl;rfl)|(apply aV;rfl;rfl;rfl;rfl)|(apply aC;rfl;rfl)|(first|(apply sE;rfl;(apply uH <;> (assumption));rfl;rfl)|(apply jV;rfl;rfl;(rfl);(apply l8 <;> (first|assumption|omega));rfl;rfl)|(apply pV;rfl;rfl;rfl;rfl;infer_instance;rfl;(rfl);assumption;omega;(decide);(decide);rfl;rfl))|(apply a8;rfl;rfl;rfl)|(apply aF;kernel_rfl)|(apply bT;rfl;rfl)|(apply dI;rfl;rfl;rfl)|(apply bK;rfl;rfl;rfl;(exact (rfl:_=some [_, _, _, _, _]));rfl;rfl)|(apply a7;rfl;rfl;rfl;rfl;rfl;(case hl => (simp;done));(exact (rfl:_=[_, _]))))|(apply aO;first|apply aH|apply aB|(apply b9;kernel_rfl)|(apply aP;rfl;all_goals intro hc;have hq:=hc;(try simp only [cD] at hq);try exfalso;omega)|apply aS|apply aW)|with_reducible apply aA)
 all_goals exact aU (l := [c8 q, iv _, iv _]) rfl ⟨⟨q, _, _, rfl, h1, h2⟩, Pur.pf⟩
end Go.Proofs.YtjcpngimjdckmaaGreat
