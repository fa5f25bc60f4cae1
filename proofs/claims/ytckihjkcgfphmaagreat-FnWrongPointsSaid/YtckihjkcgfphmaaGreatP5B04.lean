/-
 A part of the proofs over this program: rules and contracts of its functions (the contracts).
-/
import Derived.Test.YtckihjkcgfphmaaGreatP5B03
set_option linter.unusedVariables false
set_option linter.unusedSimpArgs false
set_option maxHeartbeats 8000000
set_option maxRecDepth 4000
attribute [local irreducible] Go.AL.RW Go.AL.AW Go.AL.Stop
namespace Go.Proofs.YtckihjkcgfphmaaGreat
open Go.AL Go.RowKit
class NumS (cs : List AV) (xs : outParam (List ByteArray)) : Prop where h : cs = aI Cp xs
instance NumS.nil : NumS [] [] := ⟨rfl⟩
instance NumS.cons {n : ByteArray} {cs : List AV} {xs : List ByteArray} [h : NumS cs xs] : NumS (.v (.string n) :: cs) (n :: xs) := ⟨by rw [h.h]; rfl⟩
theorem GQ {cs : List AV} {xs : List ByteArray} {m : Nat} (h : NumS cs xs) (hm : m = xs.length) (hs : xs.all (fun s => decide (s.size ≤ 600)) = true) : ∃ ys : List ByteArray, AV.imm m cs = sl Cp ys ∧ ys.length = m ∧ ∀ i : Nat, (ys[i]!).size ≤ 600 := by
 refine ⟨xs, by rw [h.h, hm], hm.symm, fun i => ?_⟩
 by_cases hi : i < xs.length
 ·rw [List.all_eq_true] at hs
  rw [cV _ _ hi]
  simpa using hs _ (List.getElem_mem hi)
 ·rw [getElem!_neg xs i hi]; decide
theorem D6 : PC Tryz.prog 126 [] (fun r => ∃ ys : List ByteArray, r = sl Cp ys ∧ ys.length = 25 ∧ ∀ i : Nat, (ys[i]!).size ≤ 600) := by
 (refine aU Tryz.func126 rfl (by simp [Tryz.ntmps126]) ?_; rw [Tryz.ntmps126])
 repeat' (first|(apply aL;first|((apply a7 (t := _));(case hze|hsm|hl => rfl);(case hfl => exact (rfl:_=some [_, _, _, _, _, _, _, _, _, _, _, _, _, _, _, _, _, _, _, _, _, _, _, _, _]));(case hM|hN => rfl))|(apply aC;rfl;rfl)|(apply aF;kernel_rfl))|(apply aM;first|apply aH|apply aB|apply aR)|with_reducible apply aA)
 refine uR (l := [.imm 25 [_, _, _, _, _, _, _, _, _, _, _, _, _, _, _, _, _, _, _, _, _, _, _, _, _]]) ?_ rfl ?_
 ·rintro _ ⟨ys, rfl, _⟩; exact aY _ _
 ·exact GQ inferInstance rfl (by decide)
theorem sE {P : Program} {N : Nat} {Q : Exit → AS → Prop} {all : Array Oper} {rest : List Oper} {ts : List (Nat × AV)} {hs : List (Nat × Option (List AV))} {n : Nat} {z0 : Lo} {ty : TypeId} {pos : String} {af : Array Edge} {d : Nat} {args : Array Operand} {tys : Array TypeId}
  {k : FuncId} {pv : List AV} {p0 : Prg × Nat → Prop} {i p : Nat} {bs : List UInt8} (h : MC P k (.optr 0 0 :: pv) [(0, some (fN bs p))] 1 p0 (fun x => dT x.1) (fun x => [(0, some (fN bs x.2))])) [hc : CaT P k] (ha : evL (lk ts) args.toList = some (.optr i 0 :: pv)) (hpv : dA pv = true)
  (hH : cO hs i = some (fN bs p)) (hM : Nat.ble (n + 0) eS = true) (hN : Nat.blt d N = true) (kk : ∀ x, p0 x → RW P N all Q .txt rest ⟨(d, dT x.1) :: ts, (i, some (fN bs x.2)) :: hs, n + 0, z0⟩) :
  RW P N all Q .txt (⟨some d, .call ⟨.value (.func k), args, tys⟩, ty, pos, af, none⟩ :: rest) ⟨ts, hs, n, z0⟩ :=
 Fq (σ := Prg × Nat) [i] 1 (fun x : Prg × Nat => [(i, some (fN bs x.2))]) h ha rfl ⟨⟨_, _, rfl, hH, RnL.purI inferInstance⟩, trivial⟩ rfl (RnL.cons (RnV.optr rfl) (RnL.pur hpv)) (by simpa using hM)
  (fun x _ => RnV.purI inferInstance) (fun x _ => by simp [dL]) (fun x _ => ⟨⟨0, _, rfl, rfl, RnL.purI inferInstance⟩, trivial⟩) hN kk
theorem HF (bs : List UInt8) (p : Nat) (xs : List Int) (lo hi : Int) (h0 : 0 < xs.length) (h : xs.all (fun x => decide (lo ≤ x) && decide (x ≤ hi)) = true) : lo ≤ jF bs p xs ∧ jF bs p xs ≤ hi := by
 have h1 := gJ bs p (xs.length : Int)
 rw [kM] at h
 have := h (cZ bs p (xs.length : Int)).toNat (by omega)
 simp only [Bool.and_eq_true, decide_eq_true_eq] at this
 exact this
theorem K7 (bs : List UInt8) (p : Nat) (hb : bs.length ≤ 2000) (hp : p ≤ 1000) : MC Tryz.prog 81 [.optr 0 0] [(0, some (fN bs p))] 1 (fun x : Prg × Nat => b9 x.1.body ≤ 620 ∧ x.1.types.length ≤ 620 ∧ x.2 ≤ 2000) (fun x => dT x.1) (fun x => [(0, some (fN bs x.2))]) := by
 have h0 := gJ bs p 25
 have hn := HF bs (p + 1 + 1) [5, 4, 7, 3, 8] 0 8 (by decide) (by decide)
 (refine cC Tryz.func81 rfl (by simp [Tryz.ntmps81]) ?_; rw [Tryz.ntmps81])
 repeat' (first|(apply aL;first|((with_reducible apply jN (k := 126));(case ha => rfl);(case h => exact D6);(case hp => (rfl));(case hN => rfl);(rintro _ ⟨ys, rfl, hyl, hsz⟩ _);(have hpk := gJ bs p (ys.length : Int)))|((with_reducible apply jN (k := 127));(case ha => rfl);(case h => exact tF _ (Nat.le_trans (hsz _) (by decide)));(case hp => (rfl));(case hN => rfl);(rintro _ ⟨q, b, rfl, hqc, hqt⟩ _))|((apply wW (ts := [1, 2, 2, 3, 4, 4]));(case ha0|ha1|ha2|ha3|hH0 => rfl);(case hmc => (apply GS <;> (first|assumption|omega)));(case hM|hN => rfl))|(apply aE;rfl;rfl)|(first|(apply aN;rfl;rfl;rfl;rfl)|(apply aV;rfl;rfl;(exact (rfl:_=[_, _]));rfl;rfl;rfl))|(apply aD;rfl;rfl;rfl)|(first|(apply bB;rfl;rfl;rfl;(assumption))|(apply bD;rfl;rfl;rfl;(assumption))|(apply bS;(case hj|hb|hN => rfl);all_goals (intro hg;have hq := hg;(try simp only [cJ] at hq);(try (exfalso;omega)))))|(apply aT;rfl;rfl;rfl;rfl)|(apply aC;rfl;rfl)|(first|(apply bV;rfl;(assumption);rfl;rfl)|(apply bQ;rfl;(assumption);rfl;rfl))|(apply cL;(case hx|hi => rfl);(case hm => (omega));(case hml => (rfl));(case hα | hf|hg => infer_instance);(case hN => rfl))|(first|(apply yD;rfl;rfl;rfl;rfl;infer_instance;rfl;(rfl);assumption;omega;(decide);(decide);rfl;rfl)|(apply nC;rfl;rfl;(rfl);(apply pS <;> (first|assumption|omega));rfl;rfl))|(apply bC;rfl;rfl;rfl)|(apply aF;kernel_rfl)|(apply b8;rfl;(exact (rfl:_=some [_, _]));(exact (rfl:_=[_, _]));rfl)|(apply bI;rfl;rfl)|(apply bE;rfl;rfl;rfl)|((apply a7 (t := _));(case hze|hsm|hl => rfl);(case hfl => (exact (rfl:_=some [_, _, _, _, _, _])));(case hM|hN => rfl))|(apply bZ;rfl;rfl;rfl;(exact (rfl:_=some [_, _, _, _, _]));rfl;rfl)|(apply aX;rfl;rfl;rfl;rfl;rfl;(case hl => (first|decide|(simp;done)));(exact (rfl:_=[_, _]))))|(apply aM;first|apply aH|apply aB|(apply b0;kernel_rfl)|(apply cA;rfl;(rfl))|(apply aO;rfl;all_goals intro hc;have hq:=hc;(try simp only [cJ] at hq);try exfalso;omega)|apply aS|apply aR)|with_reducible apply aA|with_reducible apply bJ)
 ·have h9 := hsz (cZ bs p (ys.length : Int)).toNat
  refine aP rfl ?_
  exact bU (q, p + 1 + 1) ⟨by dsimp only;omega, by dsimp only;omega, by dsimp only;omega⟩ rfl ⟨.inr rfl, trivial⟩
 ·have h9 := Iz bs (d := 2) (by omega) (jF bs (p + 1 + 1) [5, 4, 7, 3, 8]) (p + 1 + 1 + 1)
  have h10 := yK bs (d := 2) (by omega) (jF bs (p + 1 + 1) [5, 4, 7, 3, 8]) (p + 1 + 1 + 1)
  refine aP rfl ?_
  exact bU ((⟨[1, 2, 2, 3, 4, 4], (eT bs 2 (jF bs (p + 1 + 1) [5, 4, 7, 3, 8]) (p + 1 + 1 + 1)).1⟩ : Prg), (eT bs 2 (jF bs (p + 1 + 1) [5, 4, 7, 3, 8]) (p + 1 + 1 + 1)).2) ⟨by dsimp only;omega, by show 6 ≤ 620;decide, by dsimp only;omega⟩ rfl ⟨.inr rfl, trivial⟩
 ·have h9 := hsz (cZ bs p (ys.length : Int)).toNat
  refine aP rfl ?_
  exact bU (q, p + 1 + 1) ⟨by dsimp only;omega, by dsimp only;omega, by dsimp only;omega⟩ rfl ⟨.inr rfl, trivial⟩
theorem Bx {bs : List UInt8} {N : Nat} {Q : Exit → AS → Prop} {all : Array Oper} {rest : List Oper} {tsl : List (Nat × AV)} {hsl : List (Nat × Option (List AV))} {nidl : Nat} {z0 : Lo} {md : Md} {d : Nat} {ty : TypeId} {pos : String} {af : Array Edge} {tys : Array TypeId} {x0 : Operand} (ha0 : ev (lk tsl) x0 = some (sl cU bs)) (hmc : MC Tryz.prog 79 [sl cU bs] [] 0 (fun _ : Unit => True) (fun _ => .optr 0 0) (fun _ => [(0, some (fN (bs.take 2000) 0))])) (hM : Nat.ble (nidl + 1) eS = true) (hN : Nat.blt d N = true) {md' : Md} [hmd : MdA md (gL [x0] ++ []) (List.map Sum.inr (List.map Prod.fst ([(nidl, some (fN (bs.take 2000) 0))] : List (Nat × Option (List AV)))) ++ [.inl d]) md'] (kk : RW Tryz.prog N all Q md' rest ⟨(d, .optr nidl 0) :: tsl, iH hsl [(nidl, some (fN (bs.take 2000) 0))], nidl + 1, z0⟩) : RW Tryz.prog N all Q md (⟨some d, .call ⟨.value (.func 79), #[x0], tys⟩, ty, pos, af, none⟩ :: rest) ⟨tsl, hsl, nidl, z0⟩ := by
 refine cE [] 1 [(nidl, some (fN (bs.take 2000) 0))] hmc (avs := [sl cU bs]) ?_ rfl ?_ rfl ?_ (by simpa using hM) ?_ ?_ ?_ hN (md' := md') (hmd := hmd) kk
 ·show evL (lk tsl) [x0] = _
  simp only [evL, ha0]
 ·exact trivial
 ·(repeat' (exact RnL.purI inferInstance))
 ·(repeat' (exact RnV.optr rfl))
 ·simp [dL]
 ·(repeat' (first|exact trivial|(refine And.intro ⟨0, _, rfl, rfl, ?_⟩ ?_)|exact RnL.purI inferInstance))
theorem Ey (bs : List UInt8) (hb : bs.length ≤ 1048576) : MC Tryz.prog 79 [sl cU bs] [] 0 (fun _ : Unit => True) (fun _ => .optr 0 0) (fun _ => [(0, some (fN (bs.take 2000) 0))]) := J9 bs hb
theorem EW (p : Prg) (hv : dF p = false) (hl : p.types.length ≤ 1000000) (hs : b9 p.body ≤ 1000000) : PC Tryz.prog 32 [dT p] (fun r => r = sl pB []) := by
 (refine aU Tryz.func32 rfl (by simp [Tryz.ntmps32]) ?_; rw [Tryz.ntmps32])
 repeat' (first|(apply aL;first|((with_reducible apply aJ (k := 62));(case ha => rfl);(case h => exact (by have := kW p hl hs;rw [if_neg (by simp [hv])] at this;exact this));(case hp => (exact Pur.pf));(case hN => rfl))|(apply aE;rfl;rfl)|(apply aV;rfl;rfl;(exact (rfl:_=[_, _]));rfl;rfl;rfl)|(apply aC;rfl;rfl)|(apply aF;kernel_rfl)|(apply cG;rfl;rfl)|(apply bK;rfl;rfl;rfl;rfl)|(apply bE;rfl;rfl;rfl))|(apply aM;first|apply aH|apply aB|(apply cA;rfl;(rfl))|apply aR)|with_reducible apply aA|with_reducible apply bJ)
 (refine cD (Le.nilImm (d := 2) rfl) ?_; refine aP rfl ?_)
 exact ⟨rfl, rfl⟩
theorem qT (p : Prg) (L : List Iss) (hl : p.types.length ≤ 1000000) (hs : b9 p.body ≤ 1000000) (hC : PC Tryz.prog 32 [dT p] (fun r => r = sl pB L)) : PC Tryz.prog 15 [dT p] (fun r => r = bv (dF p && L.isEmpty)) := by
 (refine aU Tryz.func15 rfl (by simp [Tryz.ntmps15]) ?_; rw [Tryz.ntmps15])
 repeat' (first|(apply aL;first|((with_reducible apply aJ (k := 32));(case ha => rfl);(case h => exact hC);(case hp => (exact Pur.pf));(case hN => rfl))|(apply aE;rfl;rfl)|(apply aV;rfl;rfl;(exact (rfl:_=[_, _]));rfl;rfl;rfl)|(first|(apply bB;rfl;rfl;rfl;(assumption))|(apply bD;rfl;rfl;rfl;(assumption))|(apply bS;(case hj|hb|hN => rfl);all_goals (intro hg;have hq := hg;(try simp only [cJ] at hq);(try (exfalso;omega)))))|(apply aT;rfl;rfl;rfl;rfl)|(apply aC;rfl;rfl)|(first|(apply bV;rfl;(assumption);rfl;rfl)|(apply bQ;rfl;(assumption);rfl;rfl))|((with_reducible apply aJ (k := 25));(case ha => rfl);(case h => (apply mC <;> (first|assumption|omega)));(case hp => (exact Pur.pf));(case hN => rfl))|(apply bC;rfl;rfl;rfl)|(apply aF;kernel_rfl)|(apply bK;rfl;rfl;rfl;rfl))|(apply aM;first|apply aH|apply aB|apply aR)|with_reducible apply aA)
 all_goals refine aP rfl ⟨?_, rfl⟩
 all_goals simp only [bX]
 ·rw [show dF p = true by assumption]
  cases L with
  | nil => rfl
  | cons a b => simp;omega
 ·rw [show dF p = false by assumption]; rfl
theorem BE (p : Prg) (xs : List Int) (hl : p.types.length ≤ 1000000) (hs : b9 p.body ≤ 1000000) (hx : xs.length ≤ 10) : PC Tryz.prog 62 [dT p, sl cI xs] (fun r => r = if dF p = true ∧ (∀ j, j < xs.length → 0 ≤ xs[j]! ∧ xs[j]! < (cT p).length) then .tup [aG p.types p.body (cT p), bv true] else .tup [.v (.pointer none), bv false]) := by
 have hpl := pF p
 have hnl := lN p.body
 (refine aU Tryz.func62 rfl (by simp [Tryz.ntmps62]) ?_; rw [Tryz.ntmps62])
 repeat' (first|(apply aL;first|(apply aE;rfl;rfl)|(apply aV;rfl;rfl;(exact (rfl:_=[_, _]));rfl;rfl;rfl)|(apply aC;rfl;rfl)|(first|((with_reducible apply aJ (k := 25));(case ha => rfl);(case h => (apply mC <;> (first|assumption|omega)));(case hp => (exact Pur.pf));(case hN => rfl))|((with_reducible apply aJ (k := 96));(case ha => rfl);(case h => (apply Ai <;> (assumption)));(case hp => (exact Pur.pf));(case hN => rfl)))|(apply bC;rfl;rfl;rfl)|(apply aF;kernel_rfl)|(apply b8;rfl;(exact (rfl:_=some [_, _, _]));(exact (rfl:_=[_, _, _]));rfl)|(apply cG;rfl;rfl)|(apply bK;rfl;rfl;rfl;rfl))|(apply aM;first|apply aH|apply aB|(apply b0;kernel_rfl)|(apply aO;rfl;all_goals intro hc;have hq:=hc;(try simp only [cJ] at hq);try exfalso;omega)|apply aK|apply aS|apply aR)|with_reducible apply aA|with_reducible apply bJ)
 ·refine aP rfl ⟨?_, (by (rfl))⟩
  rw [if_neg (by simp [hq])]; rfl
 ·refine a6 (σ := Nat) [6, 17, 18] [(6, _), (17, _), (18, _)] [1] [(1, some _)] (fun k => [(19, iv (k : Int))]) (fun k => []) (fun k => k ≤ xs.length ∧ ∀ j, j < k → 0 ≤ xs[j]! ∧ xs[j]! < (cT p).length) (fun k => xs.length - k) (0) ⟨by omega, by omega⟩ rfl rfl (by repeat' (first | exact trivial | refine And.intro rfl ?_)) (by repeat' (exact trivial)) ?_
  rintro k ⟨hk, hall⟩
  repeat' (first|(apply aL;first|(apply aE;rfl;rfl)|(apply aN;rfl;rfl;rfl;rfl)|(apply aD;rfl;rfl;rfl)|(first|(apply bR;rfl;rfl;omega;rfl)|(apply gF;rfl;rfl;omega;rfl)|(apply aT;rfl;rfl;rfl;rfl))|(apply aC;rfl;rfl)|(apply aZ;(case hx|hi => rfl);(case hm => (omega));(case hml => (rfl));(case hα | hf|hg => infer_instance);(case hN => rfl))|((with_reducible apply aJ (k := 84));(case ha => rfl);(case h => (apply eC <;> (fail)));(case hp => (rfl));(case hN => rfl))|(apply bC;rfl;rfl;rfl)|(apply aF;kernel_rfl)|(apply cG;rfl;rfl)|(apply bY;rfl;rfl;rfl))|(apply aM;first|apply aH|apply aB|(apply aO;rfl;all_goals intro hc;have hq:=hc;(try simp only [cJ] at hq);try exfalso;omega)|apply aK|apply aS|apply bG|apply aR)|with_reducible apply aA|with_reducible apply bJ|with_reducible apply bH|with_reducible apply aW|with_reducible apply cQ|with_reducible apply bF)
  ·refine aP rfl ⟨?_, (by (rfl))⟩
   rw [if_neg (fun h => by have := h.2 k (by omega);omega)]; rfl
  ·(apply dJ (k + 1); focus (refine Le.ren [(1, 1)] rfl (by decide) ?_ ?_ <;> repeat' (first | exact trivial | refine And.intro ⟨_, rfl, ?_⟩ ?_ | refine And.intro ⟨_, _, rfl, rfl, ?_⟩ ?_ | exact Or.inr rfl | refine Or.inl ⟨?_, (by first | rfl | exact aY _ _)⟩ | refine Or.inr (All2.cons ?_ ?_) | refine All2.cons ?_ ?_ | exact All2.nil | rfl)))
   ·exact ⟨by omega, fun j hj => by
     by_cases e : j = k
     ·subst e;omega
     ·exact hall j (by omega)⟩
   ·omega
  ·refine cD (Le.frzP (d := 4) (i := 1) rfl rfl) ?_
   refine aP rfl ⟨?_, (by show (AV.tup [aG p.types p.body (cT p), bv true]).pur = true;exact PurV.pf)⟩
   rw [if_pos ⟨by assumption, fun j hj => hall j (by omega)⟩]; rfl
def MH (p : Prg) (i : Int) : Prop := dF p = true ∧ 0 ≤ i ∧ i < (cT p).length
theorem D5 (p : Prg) (i : Int) (hl : p.types.length ≤ 1000000) (hs : b9 p.body ≤ 1000000) (h : MH p i) : PC Tryz.prog 62 [dT p, .imm 1 [iv i]] (fun r => r = .tup [aG p.types p.body (cT p), bv true]) := by
 have := BE p [i] hl hs (by simp)
 rw [if_pos ⟨h.1, fun j hj => by obtain rfl : j = 0 := by simpa using hj
                                 exact h.2⟩] at this
 exact this
theorem qM (xs : List Bool) (hl : xs.length ≤ 1000000) : PC Tryz.prog 61 [sl cB xs] (fun r => r = sl cI (FN xs xs.length)) := by
 (refine aU Tryz.func61 rfl (by simp [Tryz.ntmps61]) ?_; rw [Tryz.ntmps61])
 repeat' (first|(apply aL;first|(apply aC;rfl;rfl)|(apply aF;kernel_rfl)|(apply bZ;rfl;rfl;rfl;(rfl);rfl;rfl))|(apply aM;first|apply aH|apply aB|apply aK)|with_reducible apply aA)
 refine a6 (σ := Nat × List Int × Nat) [0] [(0, _)] [] [] (fun k => [(4, iv (k.1 : Int)), (3, .own 0 0 k.2.2 1)]) (fun k => [(0, some (aI cI k.2.1))]) (fun k => k.1 ≤ xs.length ∧ k.2.1 = FN xs k.1 ∧ k.2.2 = k.2.1.length ∧ k.2.2 ≤ k.1) (fun k => xs.length - k.1) (0, [], 0) ⟨by omega, rfl, rfl, Nat.le_refl _⟩ rfl rfl (by repeat' (first|exact trivial|refine And.intro rfl ?_)) (by repeat' (first|exact trivial|refine And.intro (.inr rfl) ?_)) ?_
 rintro ⟨k, u, m⟩ ⟨hk, hu, hm, hmk⟩
 dsimp only at hk hu hm hmk ⊢
 repeat' (first|(apply aL;first|(apply aE;rfl;rfl)|(apply aN;rfl;rfl;rfl;rfl)|(first|(apply bR;rfl;rfl;omega;rfl)|(apply aT;rfl;rfl;rfl;rfl))|(apply aC;rfl;rfl)|(apply aZ;(case hx|hi => rfl);(case hm => (omega));(case hml => (rfl));(case hα | hf|hg => infer_instance);(case hN => rfl))|(first|(apply bC;rfl;rfl;rfl)|(apply bW;rfl;rfl;rfl;rfl;rfl;(rw [aQ]; omega);(rfl);omega;omega;(exact gA (by (assumption)));rfl;rfl))|(apply aF;kernel_rfl)|((apply a7 (t := _));(case hze|hsm|hl => rfl);(case hfl => exact (rfl:_=some [_]));(case hM|hN => rfl)))|(apply aM;first|apply aH|apply aB|(apply aO;rfl;all_goals intro hc;have hq:=hc;(try simp only [cJ] at hq);try exfalso;omega)|apply aK|apply aS|apply bG|apply aR)|with_reducible apply aA|with_reducible apply bH|with_reducible apply aW|with_reducible apply bF)
 ·(apply dJ (k + 1, u ++ [(k : Int)], m + 1); focus (refine Le.ren [(0, 2)] rfl (by decide) ?_ ?_ <;> repeat' (first | exact trivial | refine And.intro ⟨_, rfl, ?_⟩ ?_ | refine And.intro ⟨_, _, rfl, rfl, ?_⟩ ?_ | exact Or.inr rfl | refine Or.inl ⟨?_, (by first | rfl | exact aY _ _)⟩ | rfl)))
  ·exact ⟨by dsimp only;omega, by dsimp only;rw [hu]; exact (IL (by assumption)).symm, by simp;omega, by dsimp only;omega⟩
  ·dsimp only;omega
 ·(apply dJ (k + 1, u, m); focus (refine Le.ren [(0, 0)] rfl (by decide) ?_ ?_ <;> repeat' (first | exact trivial | refine And.intro ⟨_, rfl, ?_⟩ ?_ | refine And.intro ⟨_, _, rfl, rfl, ?_⟩ ?_ | exact Or.inr rfl | refine Or.inl ⟨?_, (by first | rfl | exact aY _ _)⟩ | rfl)))
  ·exact ⟨by dsimp only;omega, by dsimp only;rw [hu]; exact (E7 (by assumption)).symm, hm, by dsimp only;omega⟩
  ·dsimp only;omega
 ·(refine cD (Le.frzD (d := 2) (i := 0) rfl rfl) ?_; refine aP rfl ?_)
  refine ⟨?_, (by (exact aY _ _))⟩
  simp only [bX, sl]
  rw [hm, hu, show k = xs.length by omega]
theorem G3 (L : List Int) (hl : L.length ≤ 1000000) : PC Tryz.prog 28 [sl cI L, sl cI L] (fun r => r = bv true) := by
 (refine aU Tryz.func28 rfl (by simp [Tryz.ntmps28]) ?_; rw [Tryz.ntmps28])
 repeat' (first|(apply aL;first|(apply aE;rfl;rfl)|(apply aT;rfl;rfl;rfl;rfl)|(apply aC;rfl;rfl)|(apply bC;rfl;rfl;rfl)|(apply aF;kernel_rfl))|(apply aM;first|apply aH|apply aB|(apply aO;rfl;all_goals intro hc;have hq:=hc;(try simp only [cJ] at hq);try exfalso;omega)|apply aK|apply aS|apply aR)|with_reducible apply aA|with_reducible apply bJ)
 ·exact (hq trivial).elim
 refine a6 (σ := Nat) [0, 1] [(0, _), (1, _)] [] [] (fun k => [(5, iv (k : Int))]) (fun k => []) (fun k => k ≤ L.length) (fun k => L.length - k) (0) (by omega) rfl rfl (by repeat' (first|exact trivial|refine And.intro rfl ?_)) (by repeat' (exact trivial)) ?_
 rintro k hk
 repeat' (first|(apply aL;first|(apply aE;rfl;rfl)|(apply aN;rfl;rfl;rfl;rfl)|(first|(apply bR;rfl;rfl;omega;rfl)|(apply aT;rfl;rfl;rfl;rfl))|(apply aC;rfl;rfl)|(apply aZ;(case hx|hi => rfl);(case hm => (omega));(case hml => (rfl));(case hα | hf|hg => infer_instance);(case hN => rfl))|(apply bC;rfl;rfl;rfl)|(apply aF;kernel_rfl))|(apply aM;first|apply aH|apply aB|(apply b0;kernel_rfl)|(apply aO;rfl;all_goals intro hc;have hq:=hc;(try simp only [cJ] at hq);try exfalso;omega)|apply aK|apply aS|apply bG|apply aR)|with_reducible apply aA|with_reducible apply bJ|with_reducible apply bH|with_reducible apply aW|with_reducible apply cQ|with_reducible apply bF)
 ·exfalso
  simp at hq
 ·(apply dJ (k + 1); focus (refine Le.ren [] rfl (by decide) ?_ ?_ <;> repeat' (first | exact trivial | refine And.intro ⟨_, rfl, ?_⟩ ?_ | refine Or.inl ⟨?_, (by first | rfl | exact aY _ _)⟩ | rfl)))
  ·omega
  ·omega
 ·exact aP rfl ⟨rfl, rfl⟩
theorem KW (L : List Int) (n : Int) (hl : L.length ≤ 1000000) : PC Tryz.prog 29 [sl cI L, iv n] (fun r => r = bv (decide (n ∈ L))) := by
 (refine aU Tryz.func29 rfl (by simp [Tryz.ntmps29]) ?_; rw [Tryz.ntmps29])
 repeat' (first|(apply aL;first|(apply aC;rfl;rfl)|(apply aF;kernel_rfl))|(apply aM;first|apply aH|apply aB|apply aK)|with_reducible apply aA)
 refine a6 (σ := Nat) [0, 1] [(0, _), (1, _)] [] [] (fun k => [(5, iv (k : Int))]) (fun k => []) (fun k => k ≤ L.length ∧ ∀ j, j < k → L[j]! ≠ n) (fun k => L.length - k) (0) ⟨by omega, by omega⟩ rfl rfl (by repeat' (first|exact trivial|refine And.intro rfl ?_)) (by repeat' (exact trivial)) ?_
 rintro k ⟨hk, hall⟩
 repeat' (first|(apply aL;first|(apply aE;rfl;rfl)|(apply aN;rfl;rfl;rfl;rfl)|(first|(apply bR;rfl;rfl;omega;rfl)|(apply aT;rfl;rfl;rfl;rfl))|(apply aC;rfl;rfl)|(apply aZ;(case hx|hi => rfl);(case hm => (omega));(case hml => (rfl));(case hα | hf|hg => infer_instance);(case hN => rfl))|(apply bC;rfl;rfl;rfl)|(apply aF;kernel_rfl))|(apply aM;first|apply aH|apply aB|(apply aO;rfl;all_goals intro hc;have hq:=hc;(try simp only [cJ] at hq);try exfalso;omega)|apply aK|apply aS|apply bG|apply aR)|with_reducible apply aA|with_reducible apply bJ|with_reducible apply bH|with_reducible apply aW|with_reducible apply cQ|with_reducible apply bF)
 ·refine aP rfl ⟨?_, rfl⟩
  simp only [bX]
  rw [decide_eq_true (by have h := cK L k (by omega);rw [hq] at h;exact h)]
 ·(apply dJ (k + 1); focus (refine Le.ren [] rfl (by decide) ?_ ?_ <;> repeat' (first | exact trivial | refine And.intro ⟨_, rfl, ?_⟩ ?_ | refine Or.inl ⟨?_, (by first | rfl | exact aY _ _)⟩ | rfl)))
  ·exact ⟨by omega, fun j hj => by
    by_cases e : j = k
    ·subst e;exact hq
    ·exact hall j (by omega)⟩
  ·omega
 ·refine aP rfl ⟨?_, rfl⟩
  simp only [bX]
  rw [decide_eq_false (fun h => by
   obtain ⟨j, hj, e⟩ := List.getElem_of_mem h
   exact hall j (by omega) (by rw [cV _ _ hj]; exact e))]
theorem IU {m : Nat} {N : Nat} {Q : Exit → AS → Prop} {all : Array Oper} {rest : List Oper} {tsl : List (Nat × AV)} {hsl : List (Nat × Option (List AV))} {nidl : Nat} {z0 : Lo} {md : Md} {d : Nat} {ty : TypeId} {pos : String} {af : Array Edge} {tys : Array TypeId} {x0 x1 : Operand} (ha0 : ev (lk tsl) x0 = some (.v (.slice none 0 0))) (ha1 : ev (lk tsl) x1 = some (iv (m : Int))) (hmc : MC Tryz.prog 123 [.v (.slice none 0 0), iv (m : Int)] [] 0 (fun _ : Unit => True) (fun _ => .own 0 0 0 1) (fun _ => [(0, some (aI cI ([] : List Int)))])) (hM : Nat.ble (nidl + 1) eS = true) (hN : Nat.blt d N = true) {md' : Md} [hmd : MdA md (gL [x0, x1] ++ []) (List.map Sum.inr (List.map Prod.fst ([(nidl, some (aI cI ([] : List Int)))] : List (Nat × Option (List AV)))) ++ [.inl d]) md'] (kk : RW Tryz.prog N all Q md' rest ⟨(d, .own nidl 0 0 1) :: tsl, iH hsl [(nidl, some (aI cI ([] : List Int)))], nidl + 1, z0⟩) : RW Tryz.prog N all Q md (⟨some d, .call ⟨.value (.func 123), #[x0, x1], tys⟩, ty, pos, af, none⟩ :: rest) ⟨tsl, hsl, nidl, z0⟩ := by
 refine cE [] 1 [(nidl, some (aI cI ([] : List Int)))] hmc (avs := [.v (.slice none 0 0), iv (m : Int)]) ?_ rfl ?_ rfl ?_ (by simpa using hM) ?_ ?_ ?_ hN (md' := md') (hmd := hmd) kk
 ·show evL (lk tsl) [x0, x1] = _
  simp only [evL, ha0, ha1]
 ·exact trivial
 ·(repeat' (exact RnL.purI inferInstance))
 ·(repeat' (exact RnV.own rfl))
 ·simp [dL]
 ·(repeat' (first|exact trivial|(refine And.intro ⟨0, _, rfl, rfl, ?_⟩ ?_)|exact RnL.purI inferInstance))
theorem K1 (m : Nat) (hm : m ≤ 1000000) : MC Tryz.prog 123 [.v (.slice none 0 0), iv (m : Int)] [] 0 (fun _ : Unit => True) (fun _ => .own 0 0 0 1) (fun _ => [(0, some (aI cI ([] : List Int)))]) := by
 (refine cC Tryz.func123 rfl (by simp [Tryz.ntmps123]) ?_; rw [Tryz.ntmps123])
 repeat' (first|(apply aL;first|(apply Ex;rfl;rfl)|((apply Fx (m := m) (k' := .i64));(case htn => kernel_rfl);(case hx|hy => rfl);(case hzm => omega);(case hze|he0 => rfl);(case h0 => omega);(case hsm => omega);(case hmx => omega);(case hM|hN => rfl))|((apply BV (h := 0));(case hx|hy => rfl);(case hz => (rfl));(case hb => omega);(case hN => rfl))|(apply zO;rfl;rfl;rfl)|(apply aE;rfl;rfl)|(first|(apply gF;rfl;rfl;omega;rfl)|(apply aT;rfl;rfl;rfl;rfl))|(apply aC;rfl;rfl)|(apply bC;rfl;rfl;rfl)|(apply aF;kernel_rfl))|(apply aM;first|apply aH|apply aB|(apply cH;rfl;(rfl))|(apply aO;rfl;all_goals intro hc;have hq:=hc;(try simp only [cJ] at hq);try exfalso;omega)|apply aS|apply aR)|with_reducible apply aA)
 ·
  refine cD (Le.cut (i := 0) 0 rfl) ?_
  refine aP rfl ?_
  refine bU () trivial ?_ ⟨.inr (Eq.trans (b := some _) rfl ?_), trivial⟩
  all_goals first|rfl|exact congrArg some (List.take_zero)
 ·refine cD (Le.nilOwn (d := 4) 1 ?_ ?_) ?_
  ·rfl
  ·decide
  refine aP rfl ?_
  refine bU () trivial ?_ ⟨.inr (Eq.trans (b := some _) rfl ?_), trivial⟩
  all_goals rfl
theorem Fb (Ls : List (List Int)) (hn : Ls.length ≤ 1000) (hl : Ls.flatten.length ≤ 1000000) : PC Tryz.prog 77 [sl Mv Ls] (fun r => r = sl cI Ls.flatten) := by
 have hpre : ∀ k, (Ls.take k).flatten.length ≤ 1000000 := fun k => by
  have : Ls.flatten = (Ls.take k).flatten ++ (Ls.drop k).flatten := by rw [← List.flatten_append, List.take_append_drop]
  rw [this, List.length_append] at hl;omega
 have hst : ∀ k, k < Ls.length → (Ls.take (k + 1)).flatten = (Ls.take k).flatten ++ Ls[k]! := fun k hk => by rw [c5 _ _ hk]; simp
 (refine aU Tryz.func77 rfl (by simp [Tryz.ntmps77]) ?_; rw [Tryz.ntmps77])
 repeat' (first|(apply aL;first|(apply aE;rfl;rfl)|(apply aC;rfl;rfl)|(apply bC;rfl;rfl;rfl)|(apply aF;kernel_rfl))|(apply aM;first|apply aH|apply aB|apply aK)|with_reducible apply aA)
 refine a6 (σ := Nat × Int) [0, 9, 10] [(0, _), (9, _), (10, _)] [] [] (fun k => [(11, iv (k.1 : Int)), (3, iv k.2)]) (fun k => []) (fun k => k.1 ≤ Ls.length ∧ k.2 = ((Ls.take k.1).flatten.length : Int)) (fun k => Ls.length - k.1) (0, 0) ⟨by omega, rfl⟩ rfl rfl (by repeat' (first|exact trivial|refine And.intro rfl ?_)) (by repeat' (exact trivial)) ?_
 rintro ⟨k, z⟩ ⟨hk, hz⟩
 dsimp only at hk hz
 try dsimp only
 have hz2 := hpre k
 by_cases hkn : k < Ls.length
 ·have h1 := hst k hkn
  have h2 := hpre (k + 1)
  rw [h1, List.length_append] at h2
  repeat' (first|(apply aL;first|(apply aE;rfl;rfl)|(apply aN;rfl;rfl;rfl;rfl)|(first|(apply bR;rfl;rfl;omega;rfl)|(apply aT;rfl;rfl;rfl;rfl))|(apply aC;rfl;rfl)|(apply aZ;(case hx|hi => rfl);(case hm => (assumption));(case hml => (rfl));(case hα | hf|hg => infer_instance);(case hN => rfl))|(apply bC;rfl;rfl;rfl)|(apply aF;kernel_rfl))|(apply aM;first|apply aH|apply aB|(apply aO;rfl;all_goals intro hc;have hq:=hc;(try simp only [cJ] at hq);try exfalso;omega)|apply aK|apply aS)|with_reducible apply aA|with_reducible apply aW)
  (apply dJ (k + 1, _);focus (refine Le.ren [] rfl (by decide) ?_ ?_ <;> repeat' (first|exact trivial|refine And.intro ⟨_, rfl, ?_⟩ ?_|refine Or.inl ⟨?_, (by first|rfl|exact aY _ _)⟩|rfl)))
  ·exact ⟨by dsimp only;omega, by dsimp only;rw [h1, List.length_append]; omega⟩
  ·dsimp only;omega
 ·obtain ⟨z', rfl⟩ : ∃ z' : Nat, z = (z' : Int) := ⟨_, hz⟩
  repeat' (first|(apply aL;first|(apply aE;rfl;rfl)|(apply aT;rfl;rfl;rfl;rfl)|(apply aC;rfl;rfl)|(apply IU;rfl;rfl;(apply K1 <;> (omega));rfl;rfl)|(apply bC;rfl;rfl;rfl)|(apply aF;kernel_rfl))|(apply aM;first|apply aH|apply aB|(apply aO;rfl;all_goals intro hc;have hq:=hc;(try simp only [cJ] at hq);try exfalso;omega)|apply aK|apply bG)|with_reducible apply aA|with_reducible apply bH|with_reducible apply bF)
  refine a6 (σ := Nat × List Int × Nat) [25, 26] [(25, _), (26, _)] [] [] (fun k => [(27, iv (k.1 : Int)), (6, .own 0 0 k.2.2 1)]) (fun k => [(0, some (aI cI k.2.1))]) (fun k => k.1 ≤ Ls.length ∧ k.2.1 = (Ls.take k.1).flatten ∧ k.2.2 = k.2.1.length) (fun k => Ls.length - k.1) (0, [], 0) ⟨by omega, rfl, rfl⟩ rfl rfl (by repeat' (first|exact trivial|refine And.intro rfl ?_)) (by repeat' (first|exact trivial|refine And.intro (.inr rfl) ?_)) ?_
  rintro ⟨k, u, m⟩ ⟨hk, hu, hm⟩
  dsimp only at hk hu hm
  try dsimp only
  have hu2 := hpre k
  rw [← hu] at hu2
  by_cases hkn : k < Ls.length
  ·have h1 := hst k hkn
   have h2 := hpre (k + 1)
   rw [h1, List.length_append, ← hu] at h2
   repeat' (first|(apply aL;first|(apply aE;rfl;rfl)|(apply aN;rfl;rfl;rfl;rfl)|(first|(apply bR;rfl;rfl;omega;rfl)|(apply aT;rfl;rfl;rfl;rfl))|(apply aC;rfl;rfl)|(apply aZ;(case hx|hi => rfl);(case hm => (assumption));(case hml => (rfl));(case hα | hf|hg => infer_instance);(case hN => rfl))|(apply bW;rfl;rfl;rfl;rfl;rfl;(rw [aQ]; omega);(exact iJ (by (rfl)));omega;omega;(exact GB (by (assumption)));rfl;rfl)|(apply aF;kernel_rfl))|(apply aM;first|apply aH|apply aB|(apply aO;rfl;all_goals intro hc;have hq:=hc;(try simp only [cJ] at hq);try exfalso;omega)|apply aK|apply aS)|with_reducible apply aA|with_reducible apply aW)
   (apply dJ (k + 1, _, _);focus (refine Le.ren [(0, 1)] rfl (by decide) ?_ ?_ <;> repeat' (first|exact trivial|refine And.intro ⟨_, rfl, ?_⟩ ?_|refine And.intro ⟨_, _, rfl, rfl, ?_⟩ ?_|exact Or.inr rfl|refine Or.inl ⟨?_, (by first|rfl|exact aY _ _)⟩|rfl)))
   ·exact ⟨by dsimp only;omega, by dsimp only;rw [h1, hu], by dsimp only;rw [List.length_append]; omega⟩
   ·dsimp only;omega
  ·repeat' (first | (apply aL; first | (apply aE;rfl;rfl) | (apply aT;rfl;rfl;rfl;rfl) | (apply aC;rfl;rfl) | (apply aF;kernel_rfl)) | (apply aM; first | apply aH | apply aB | (apply aO;rfl;all_goals intro hc;have hq:=hc;(try simp only [cJ] at hq);try exfalso;omega) | apply bG | apply aR) | with_reducible apply aA | with_reducible apply bH | with_reducible apply bF)
   refine cD (Le.frzD (d := 2) (i := 0) rfl rfl) ?_
   refine aP rfl ⟨?_, (by (exact aY _ _))⟩
   have e : u = Ls.flatten := by rw [hu, show k = Ls.length by omega, List.take_length]
   rw [← e]
   simp only [bX, sl, hm]
def u1 (Af : List Nat) (i loan : Int) (v : Int) : Bool := (fE Af i.toNat)[v.toNat]!.testBit loan.toNat
theorem Lq (ts : List Int) (bd : List AL.Stmt) (pts : List Pnt) (a : Nat) (F0 : List Bool) (w : WG ts pts) (ha : a < pts.length) (hF0 : GoodR pts a F0) : PC Tryz.prog 64 [aG ts bd pts, iv (a : Int)] (fun r => r = sl cB F0) := by
 have hpl := w.pl
 have hnl := w.nl a ha
 have hst := RI.start w.nx ha
 have hmu := EZ hpl hnl
 (refine aU Tryz.func64 rfl (by simp [Tryz.ntmps64]) ?_; rw [Tryz.ntmps64])
 repeat' (first|(apply aL;first|(apply aE;rfl;rfl)|(apply aN;rfl;rfl;rfl;rfl)|(apply aD;rfl;rfl;rfl)|(apply aC;rfl;rfl)|(apply aZ;(case hx|hi => rfl);(case hm => (assumption));(case hml => (rfl));(case hα | hf|hg => infer_instance);(case hN => rfl))|(apply bC;rfl;rfl;rfl)|(apply aF;kernel_rfl)|(apply bY;rfl;rfl;rfl)|(apply dX;rfl;rfl;rfl;omega;omega;(exact C3);rfl;rfl))|(apply aM;first|apply aH|apply aB|apply aK)|with_reducible apply aA)
 refine a6 (σ := List Bool × List Int) [0, 5] [(0, _), (5, _)] [] [] (fun s => [(6, sl cI s.2)]) (fun s => [(0, some (aI cB s.1))]) (fun s => RI pts a s.1 s.2 ∧ BD s.1 s.2 ≤ 200) (fun s => BD s.1 s.2) (List.replicate pts.length false, pts[a]!.next) ⟨hst, hmu⟩ rfl rfl (by repeat' (first|exact trivial|refine And.intro rfl ?_)) (by repeat' (first|exact trivial|refine And.intro (.inr rfl) ?_)) ?_
 rintro ⟨F, T⟩ ⟨I, hm⟩
 dsimp only at I hm
 try dsimp only
 have hFl := I.len
 have hTl := Jn F T
 by_cases hT : 0 < T.length
 ·obtain ⟨k, T1, rfl⟩ : ∃ k T1, T = k :: T1 := by cases T with | nil => simp at hT | cons k T1 => exact ⟨k, T1, rfl⟩
  have hcl : (k :: T1).length = T1.length + 1 := rfl
  have hk := I.tw k List.mem_cons_self
  have hnk := w.nl k.toNat (by omega)
  have hmc := FJ F T1 k
  have et : List.take ((k :: T1).length - Int.toNat 1) (List.drop (Int.toNat 1) (k :: T1)) = T1 := by
   show List.take T1.length T1 = T1
   exact List.take_length
  have e0 : (k :: T1)[Int.toNat 0]! = k := rfl
  have hk1 : 0 ≤ k ∧ k < pts.length := ⟨hk.1, hk.2.1⟩
  by_cases hv : F[k.toNat]! = true
  ·repeat' (first | (apply aL; first | (with_reducible apply cS (d := 30)) | (apply aE;rfl;rfl) | (apply aN;rfl;rfl;rfl;rfl) | (apply aT;rfl;rfl;rfl;rfl) | (apply aC;rfl;rfl) | (apply aZ; (case hx | hi => rfl); (case hm => (assumption)); (case hml => (rfl)); (case hα | hf | hg => infer_instance); (case hN => rfl)) | (apply bC;rfl;rfl;rfl) | (apply aF;kernel_rfl) | (apply gN;rfl;infer_instance;rfl;rfl;(omega);rfl)) | (apply aM; first | apply aH | apply aB | (apply aO;rfl;all_goals intro hc;have hq:=hc;(try simp only [cJ] at hq);try exfalso;omega) | apply aK | apply aS) | with_reducible apply aA)
   simp only [Int.toNat_one, List.drop_one, List.tail_cons, List.getElem!_cons_zero, List.length_cons, Nat.add_sub_cancel, List.take_length]
   refine dO ?_
   repeat' (first|(apply aL;first|(apply aE;rfl;rfl)|(first|(apply eG;(case hx|hH => rfl);(case hf|hg|hα => infer_instance);(case hk => omega);(case hc|hN => rfl))|(apply aN;rfl;rfl;rfl;rfl))|(apply aD;rfl;rfl;rfl)|(first|(apply cL;(case hx|hi => rfl);(case hm => (assumption));(case hml => (rfl));(case hα | hf|hg => infer_instance);(case hN => rfl))|(apply cR;rfl;rfl;(assumption);rfl))|(apply aF;kernel_rfl)|(apply cG;rfl;rfl)|(apply bY;rfl;rfl;rfl)|((apply a7 (t := _));(case hze|hsm|hl => rfl);(case hfl => (exact (rfl:_=some [_, _])));(case hM|hN => rfl))|(apply aX;rfl;rfl;rfl;rfl;rfl;(rw [aQ]; simp only [fY] <;> omega);(exact y0 (by (omega)))))|(apply aM;first|apply aH|apply aB|(apply aO;rfl;all_goals intro hc;have hq:=hc;(try simp only [cJ] at hq);try exfalso;omega)|apply aS)|with_reducible apply aA|with_reducible apply aW)
   all_goals try exact absurd (hv.symm.trans (by assumption : F[k.toNat]! = false)) (by decide)
   (apply dJ (F, _);focus (refine Le.ren [(0, 0)] rfl (by decide) ?_ ?_ <;> repeat' (first|exact trivial|refine And.intro ⟨_, rfl, ?_⟩ ?_|refine And.intro ⟨_, _, rfl, rfl, ?_⟩ ?_|exact Or.inr rfl|refine Or.inl ⟨?_, (by first|exact aY _ _|exact Pur.pf)⟩|rfl)))
   ·exact ⟨I.vis (fun x hx => List.mem_cons.1 hx) (fun x hx => List.mem_cons_of_mem _ hx) hv, by dsimp only;omega⟩
   ·dsimp only;omega
  ·rw [Bool.not_eq_true] at hv
   have hco := Fb [T1, pts[k.toNat]!.next] (by simp) (by
    show (T1 ++ (pts[k.toNat]!.next ++ [])).length ≤ 1000000
    rw [List.length_append, List.append_nil]; omega)
   have hms := H5 (F := F) (k := k.toNat) (by omega) hv T1
   have hma := Ie (F.set k.toNat true) T1 pts[k.toNat]!.next
   have ef : [T1, pts[k.toNat]!.next].flatten = T1 ++ pts[k.toNat]!.next := by
    show T1 ++ (pts[k.toNat]!.next ++ []) = _
    rw [List.append_nil]
   rw [ef] at hco
   repeat' (first|(apply aL;first|(with_reducible apply cS (d := 30))|(apply aE;rfl;rfl)|(apply aN;rfl;rfl;rfl;rfl)|(apply aT;rfl;rfl;rfl;rfl)|(apply aC;rfl;rfl)|(apply aZ;(case hx|hi => rfl);(case hm => (assumption));(case hml => (rfl));(case hα | hf|hg => infer_instance);(case hN => rfl))|(apply bC;rfl;rfl;rfl)|(apply aF;kernel_rfl)|(apply gN;rfl;infer_instance;rfl;rfl;(omega);rfl))|(apply aM;first|apply aH|apply aB|(apply aO;rfl;all_goals intro hc;have hq:=hc;(try simp only [cJ] at hq);try exfalso;omega)|apply aK|apply aS)|with_reducible apply aA)
   simp only [Int.toNat_one, List.drop_one, List.tail_cons, List.getElem!_cons_zero, List.length_cons, Nat.add_sub_cancel, List.take_length]
   refine dO ?_
   repeat' (first|(apply aL;first|((with_reducible apply aJ (k := 77));(case ha => rfl);(case h => exact hco);(case hp => (exact Pur.pf));(case hN => rfl))|(apply aE;rfl;rfl)|(first|(apply eG;(case hx|hH => rfl);(case hf|hg|hα => infer_instance);(case hk => omega);(case hc|hN => rfl))|(apply aN;rfl;rfl;rfl;rfl))|(apply aD;rfl;rfl;rfl)|(apply aC;rfl;rfl)|(first|(apply cL;(case hx|hi => rfl);(case hm => (assumption));(case hml => (rfl));(case hα | hf|hg => infer_instance);(case hN => rfl))|(apply cR;rfl;rfl;(assumption);rfl))|(apply aF;kernel_rfl)|(apply cG;rfl;rfl)|(apply bY;rfl;rfl;rfl)|((apply a7 (t := _));(case hze|hsm|hl => rfl);(case hfl => (exact (rfl:_=some [_, _])));(case hM|hN => rfl))|(apply aX;rfl;rfl;rfl;rfl;rfl;(rw [aQ]; simp only [fY] <;> omega);(exact y0 (by (omega)))))|(apply aM;first|apply aH|apply aB|(apply aO;rfl;all_goals intro hc;have hq:=hc;(try simp only [cJ] at hq);try exfalso;omega)|apply aS)|with_reducible apply aA|with_reducible apply aW)
   all_goals try exact absurd (hv.symm.trans (by assumption : F[k.toNat]! = true)) (by decide)
   (apply dJ (F.set k.toNat true, _);focus (refine Le.ren [(0, 0)] rfl (by decide) ?_ ?_ <;> repeat' (first|exact trivial|refine And.intro ⟨_, rfl, ?_⟩ ?_|refine And.intro ⟨_, _, rfl, rfl, ?_⟩ ?_|exact Or.inr rfl|refine Or.inl ⟨?_, (by first|exact aY _ _|exact Pur.pf)⟩|rfl)))
   ·exact ⟨I.new w.nx List.mem_cons_self (fun x hx => by
     rcases List.mem_cons.1 hx with h|h
     ·exact .inl h
     ·exact .inr (List.mem_append_left _ h)) (fun x hx => List.mem_append_right _ hx) (fun x hx => by
     rcases List.mem_append.1 hx with h|h
     ·exact .inl (List.mem_cons_of_mem _ h)
     ·exact .inr h), by dsimp only;omega⟩
   ·dsimp only;omega
 ·obtain rfl : T = [] := List.eq_nil_of_length_eq_zero (by omega)
  have hT2 : ([] : List Int).length = 0 := rfl
  repeat' (first|(apply aL;first|(apply aE;rfl;rfl)|(apply aT;rfl;rfl;rfl;rfl)|(apply aC;rfl;rfl)|(apply bC;rfl;rfl;rfl)|(apply aF;kernel_rfl))|(apply aM;first|apply aH|apply aB|(apply cH;rfl;(rfl))|apply bG|apply aR)|with_reducible apply aA|with_reducible apply bH|with_reducible apply bF)
  refine cD (Le.frzD (d := 4) (i := 0) rfl rfl) ?_
  refine aP rfl ⟨?_, (by (exact aY _ _))⟩
  have e := I.fin hF0 w.nx
  rw [← e]
  simp only [bX, sl, hFl]
theorem tA {stk : List Tg} {id : Int} (h : 0 ≤ dE stk id) : ∀ k < (dE stk id).toNat, stk[k]!.id ≠ id := by
 unfold dE at h ⊢
 split
 ·rename_i k hk
  obtain ⟨h1, h2, h3⟩ := List.findIdx?_eq_some_iff_getElem.1 hk
  rw [Int.toNat_natCast]
  intro j hj he
  have := h3 j hj
  rw [cV _ _ (by omega)] at he
  simp [he] at this
 ·rename_i hk;rw [hk] at h;dsimp only at h;omega
theorem xT {stk : List Tg} {id : Int} {i : Nat} (hi : i < stk.length) (h : stk[i]!.id = id) (hn : ∀ k < i, stk[k]!.id ≠ id) : dE stk id = (i : Int) := by
 have hb := eZ stk id
 by_cases hneg : dE stk id < 0
 ·have := m9.1 hneg stk[i]! (by rw [cV _ _ hi]; exact List.getElem_mem hi)
  exact absurd h this
 ·have ha := CW (stk := stk) (id := id) (by omega)
  have hf := tA (stk := stk) (id := id) (by omega)
  rcases Nat.lt_trichotomy (dE stk id).toNat i with h1|h1|h1
  ·exact absurd ha (hn _ h1)
  ·omega
  ·exact absurd h (hf _ h1)
theorem CP (stk : List Tg) (id : Int) (hl : stk.length ≤ 1000000) : PC Tryz.prog 237 [sl dM stk, iv id] (fun r => r = iv (dE stk id)) := by
 (refine aU Tryz.func237 rfl (by simp [Tryz.ntmps237]) ?_; rw [Tryz.ntmps237])
 repeat' (first|(apply aL;first|(apply aC;rfl;rfl)|(apply aF;kernel_rfl))|(apply aM;first|apply aH|apply aB|apply aK)|with_reducible apply aA)
 refine a6 (σ := Nat) [0, 1] [(0, _), (1, _)] [] [] (fun i => [(5, iv (i : Int))]) (fun i => []) (fun i => i ≤ stk.length ∧ (∀ k < i, stk[k]!.id ≠ id)) (fun i => stk.length - i) (0) ⟨Nat.zero_le _, fun k hk => absurd hk (by omega)⟩ rfl rfl (by repeat' (first|exact trivial|refine And.intro rfl ?_)) (by repeat' (exact trivial)) ?_
 rintro i ⟨hi, hn⟩
 try dsimp only at hi hn
 repeat' (first|(apply aL;first|(apply aE;rfl;rfl)|(apply aN;rfl;rfl;rfl;rfl)|(apply aD;rfl;rfl;rfl)|(first|(apply bR;rfl;rfl;omega;rfl)|(apply aT;rfl;rfl;rfl;rfl))|(apply aC;rfl;rfl)|(apply aZ;(case hx|hi => rfl);(case hm => (omega));(case hml => (rfl));(case hα | hf|hg => infer_instance);(case hN => rfl))|(apply bC;rfl;rfl;rfl)|(apply aF;kernel_rfl))|(apply aM;first|apply aH|apply aB|(apply aO;rfl;all_goals intro hc;have hq:=hc;(try simp only [cJ] at hq);try exfalso;omega)|apply aK|apply aS|apply bG|apply aR)|with_reducible apply aA|with_reducible apply bJ|with_reducible apply bH|with_reducible apply aW|with_reducible apply cQ|with_reducible apply bF)
 ·refine aP rfl ⟨?_, rfl⟩
  simp only [bX]; rw [xT (i := i) (by omega) (by assumption) hn]
 ·(apply dJ (i + 1); focus (refine Le.ren [] rfl (by decide) ?_ ?_ <;> repeat' (first | exact trivial | refine And.intro ⟨_, rfl, ?_⟩ ?_ | refine Or.inl ⟨?_, (by first | rfl | exact aY _ _)⟩ | rfl)))
  ·refine ⟨by omega, fun k hk => ?_⟩
   rcases Nat.lt_or_ge k i with h|h
   ·exact hn k h
   ·rw [show k = i by omega]; assumption
  ·show stk.length - (i + 1) < stk.length - i;omega
 ·refine aP rfl ⟨?_, rfl⟩
  have := m9 (stk := stk) (id := id)
  have hb := eZ stk id
  have : dE stk id < 0 := this.2 (fun t ht => by obtain ⟨k, hk, rfl⟩ := List.getElem_of_mem ht;have := hn k (by omega);rwa [cV _ _ hk] at this)
  simp only [bX]; rw [show dE stk id = -1 by omega]
theorem oS (c : Cl) : OkC c ↔ (0 ≤ c.val ∧ c.val ≤ 9) ∧ (1 ≤ c.next ∧ c.next ≤ 1000) ∧ (1 ≤ c.stk.length ∧ c.stk.length ≤ 200) ∧ c.stk[0]!.uq = true ∧ (∀ k < c.stk.length, 0 ≤ c.stk[k]!.id ∧ c.stk[k]!.id < c.next ∧ dE c.stk c.stk[k]!.id = (k : Int)) := by
 constructor
 ·intro h
  refine ⟨h.v, h.n, h.l, h.u, fun k hk => ?_⟩
  have h1 := h.i c.stk[k]! (by rw [cV _ _ hk]; exact List.getElem_mem hk)
  refine ⟨h1.1, h1.2, xT hk rfl (fun j hj he => ?_)⟩
  have hd := List.nodup_iff_pairwise_ne.1 h.d |> List.pairwise_iff_getElem.1
  have := hd j k (by rw [List.length_map]; omega) (by rw [List.length_map]; omega) hj
  simp only [List.getElem_map] at this
  rw [cV _ _ (by omega), cV _ _ hk] at he
  exact this he
 ·rintro ⟨h1, h2, h3, h4, h5⟩
  refine ⟨h1, h2, h3, h4, fun t ht => ?_, ?_⟩
  ·obtain ⟨k, hk, rfl⟩ := List.getElem_of_mem ht
   have := h5 k hk;rw [cV _ _ hk] at this
   exact ⟨this.1, this.2.1⟩
  ·rw [List.nodup_iff_pairwise_ne, List.pairwise_iff_getElem]
   intro i j hi hj hij he
   rw [List.length_map] at hi hj
   simp only [List.getElem_map] at he
   have a := (h5 i hi).2.2
   have b := (h5 j hj).2.2
   rw [cV _ _ hi] at a;rw [cV _ _ hj, ← he, a] at b
   omega
instance (c : Cl) : Decidable (OkC c) := decidable_of_iff _ (oS c).symm
theorem eA (m : List Cl) : OkM m ↔ m.length ≤ 200 ∧ ∀ k < m.length, OkC m[k]! := by
 constructor
 ·exact fun h => ⟨h.l, fun k hk => h.c _ (by rw [cV _ _ hk]; exact List.getElem_mem hk)⟩
 ·exact fun h => ⟨h.1, fun c hc => by obtain ⟨k, hk, rfl⟩ := List.getElem_of_mem hc;have := h.2 k hk;rwa [cV _ _ hk] at this⟩
instance (m : List Cl) : Decidable (OkM m) := decidable_of_iff _ (eA m).symm
theorem Ff (c : Cl) : PC Tryz.prog 235 [MM c] (fun r => r = bv (decide (OkC c))) := by
 (refine aU Tryz.func235 rfl (by simp [Tryz.ntmps235]) ?_; rw [Tryz.ntmps235])
 repeat' (first|(apply aL;first|(apply aE;rfl;rfl)|(apply aN;rfl;rfl;rfl;rfl)|(apply aD;rfl;rfl;rfl)|(first|(apply bB;rfl;rfl;rfl;(assumption))|(apply bD;rfl;rfl;rfl;(first|rfl|assumption))|(apply bS;(case hj|hb|hN => rfl);all_goals (intro hg;have hq := hg;(try simp only [cJ] at hq);(try (exfalso;omega)))))|(apply aT;rfl;rfl;rfl;rfl)|(apply aC;rfl;rfl)|(first|(apply bV;rfl;(first|rfl|assumption);rfl;rfl)|(apply bQ;rfl;(assumption);rfl;rfl))|(apply cL;(case hx|hi => rfl);(case hm => (omega));(case hml => (rfl));(case hα | hf|hg => infer_instance);(case hN => rfl))|(apply bC;rfl;rfl;rfl)|(apply aF;kernel_rfl)|(apply cG;rfl;rfl)|(apply bK;rfl;rfl;rfl;rfl))|(apply aM;first|apply aH|apply aB|(apply cA;rfl;(rfl))|(apply aO;rfl;all_goals intro hc;have hq:=hc;(try simp only [cJ] at hq);try exfalso;omega)|apply aK|apply aS|apply aR)|with_reducible apply aA|with_reducible apply bJ)
 all_goals try (refine aP rfl ⟨?_, rfl⟩; simp only [bX]; rw [show decide (OkC c) = false from decide_eq_false (fun h => by
  obtain ⟨h1, h2, h3, h4, h5⟩ := (oS c).1 h
  first|omega|exact absurd (by assumption : c.stk[Int.toNat 0]!.uq = false) (by rw [show Int.toNat 0 = 0 from rfl, h4]; decide))]; done)
 have hu : c.stk[0]!.uq = true := by assumption
 refine a6 (σ := Nat) [1] [(1, _)] [0] [(0, some _)] (fun i => [(3, iv (i : Int))]) (fun i => []) (fun i => i ≤ c.stk.length ∧ (∀ k < i, 0 ≤ c.stk[k]!.id ∧ c.stk[k]!.id < c.next ∧ dE c.stk c.stk[k]!.id = (k : Int))) (fun i => c.stk.length - i) (0) ⟨Nat.zero_le _, fun k hk => absurd hk (by omega)⟩ rfl rfl (by repeat' (first|exact trivial|refine And.intro rfl ?_)) (by repeat' (exact trivial)) ?_
 rintro i ⟨hi, hn⟩
 try dsimp only at hi hn
 repeat' (first|(apply aL;first|((with_reducible apply aJ (k := 237));(case ha => rfl);(case h => exact CP c.stk c.stk[i]!.id (by omega));(case hp => (exact Pur.pf));(case hN => rfl))|(apply aE;rfl;rfl)|(apply aN;rfl;rfl;rfl;rfl)|(apply aD;rfl;rfl;rfl)|(first|(apply bB;rfl;rfl;rfl;(assumption))|(apply bD;rfl;rfl;rfl;(first|rfl|assumption))|(apply bS;(case hj|hb|hN => rfl);all_goals (intro hg;have hq := hg;(try simp only [cJ] at hq);(try (exfalso;omega)))))|(first|(apply bR;rfl;rfl;omega;rfl)|(apply aT;rfl;rfl;rfl;rfl))|(apply aC;rfl;rfl)|(first|(apply bV;rfl;(first|rfl|assumption);rfl;rfl)|(apply bQ;rfl;(assumption);rfl;rfl))|(apply aZ;(case hx|hi => rfl);(case hm => (omega));(case hml => (rfl));(case hα | hf|hg => infer_instance);(case hN => rfl))|(apply bC;rfl;rfl;rfl)|(apply aF;kernel_rfl))|(apply aM;first|apply aH|apply aB|(apply b0;kernel_rfl)|(apply cA;rfl;(rfl))|(apply aO;rfl;all_goals intro hc;have hq:=hc;(try simp only [cJ] at hq);try exfalso;omega)|apply aK|apply aS|apply bG|apply aR)|with_reducible apply aA|with_reducible apply bJ|with_reducible apply bH|with_reducible apply aW|with_reducible apply cQ|with_reducible apply bF)
 all_goals try (refine aP rfl ⟨?_, rfl⟩; simp only [bX]; rw [show decide (OkC c) = false from decide_eq_false (fun h => by
  obtain ⟨h1, h2, h3, h4, h5⟩ := (oS c).1 h
  exact absurd (h5 i (by omega)) (by omega))]; done)
 ·(apply dJ (i + 1); focus (refine Le.ren [(0, 0)] rfl (by decide) ?_ ?_ <;> repeat' (first | exact trivial | refine And.intro ⟨_, rfl, ?_⟩ ?_ | refine And.intro ⟨_, _, rfl, rfl, ?_⟩ ?_ | exact Or.inr rfl | refine Or.inl ⟨?_, (by first | rfl | exact Pur.pf)⟩ | rfl)))
  ·refine ⟨by omega, fun k hk => ?_⟩
   rcases Nat.lt_or_ge k i with h|h
   ·exact hn k h
   ·rw [show k = i by omega]; exact ⟨by assumption, by assumption, by assumption⟩
  ·show c.stk.length - (i + 1) < c.stk.length - i;omega
 ·refine aP rfl ⟨?_, rfl⟩
  simp only [bX]
  rw [show decide (OkC c) = true from decide_eq_true ((oS c).2 ⟨by omega, by omega, by omega, hu, fun k hk => hn k (by omega)⟩)]
theorem nM (m : List Cl) (hl : m.length ≤ 1000000) : PC Tryz.prog 191 [sl c7 m] (fun r => r = bv (decide (OkM m))) := by
 (refine aU Tryz.func191 rfl (by simp [Tryz.ntmps191]) ?_; rw [Tryz.ntmps191])
 repeat' (first|(apply aL;first|(apply aC;rfl;rfl)|(apply aF;kernel_rfl))|(apply aM;first|apply aH|apply aB|apply aK)|with_reducible apply aA)
 refine a6 (σ := Nat) [0] [(0, _)] [] [] (fun i => [(3, iv (i : Int))]) (fun i => []) (fun i => i ≤ m.length ∧ i ≤ 201 ∧ (∀ k < i, OkC m[k]!)) (fun i => m.length - i) (0) ⟨Nat.zero_le _, by omega, fun k hk => absurd hk (by omega)⟩ rfl rfl (by repeat' (first|exact trivial|refine And.intro rfl ?_)) (by repeat' (exact trivial)) ?_
 rintro i ⟨hi, hi2, hn⟩
 try dsimp only at hi hi2 hn
 repeat' (first|(apply aL;first|((with_reducible apply aJ (k := 235));(case ha => rfl);(case h => exact Ff m[i]!);(case hp => (exact Pur.pf));(case hN => rfl))|(apply aE;rfl;rfl)|(apply aV;rfl;rfl;(exact (rfl:_=[_, _, _, _]));rfl;rfl;rfl)|(first|(apply bB;rfl;rfl;rfl;(assumption))|(apply bD;rfl;rfl;rfl;(assumption))|(apply bS;(case hj|hb|hN => rfl);all_goals (intro hg;have hq := hg;(try simp only [cJ] at hq);(try (exfalso;omega)))))|(first|(apply bR;rfl;rfl;omega;rfl)|(apply aT;rfl;rfl;rfl;rfl))|(apply aC;rfl;rfl)|(first|(apply bV;rfl;(assumption);rfl;rfl)|(apply bQ;rfl;(assumption);rfl;rfl))|(apply aZ;(case hx|hi => rfl);(case hm => (omega));(case hml => (rfl));(case hα | hf|hg => infer_instance);(case hN => rfl))|(apply bC;rfl;rfl;rfl)|(apply aF;kernel_rfl)|(apply cG;rfl;rfl))|(apply aM;first|apply aH|apply aB|(apply cH;rfl;(rfl))|(apply aO;rfl;all_goals intro hc;have hq:=hc;(try simp only [cJ] at hq);try exfalso;omega)|apply aK|apply aS|apply bG|apply aR)|with_reducible apply aA|with_reducible apply bJ|with_reducible apply bH|with_reducible apply aW|with_reducible apply cQ|with_reducible apply bF)
 ·refine aP rfl ⟨?_, rfl⟩
  simp only [bX]; rw [show decide (OkM m) = false from decide_eq_false (fun h => by
   have h1 := ((eA m).1 h).2 i (by omega)
   have h2 : ¬ OkC m[i]! := by assumption
   exact h2 h1)]
 ·(apply dJ (i + 1); focus (refine Le.ren [] rfl (by decide) ?_ ?_ <;> repeat' (first | exact trivial | refine And.intro ⟨_, rfl, ?_⟩ ?_ | refine Or.inl ⟨?_, (by first | rfl | exact aY _ _)⟩ | rfl)))
  ·refine ⟨by omega, by omega, fun k hk => ?_⟩
   rcases Nat.lt_or_ge k i with h|h
   ·exact hn k h
   ·rw [show k = i by omega]; assumption
  ·show m.length - (i + 1) < m.length - i;omega
 ·refine aP rfl ⟨?_, rfl⟩
  simp only [bX]
  rw [show decide ((m.length : Int) ≤ 200) = false from decide_eq_false (by omega), show decide (OkM m) = false from decide_eq_false (fun h => by have := h.l;omega)]
 ·refine aP rfl ⟨?_, rfl⟩
  simp only [bX]
  rw [show decide ((m.length : Int) ≤ 200) = decide (OkM m) from decide_eq_decide.2 ⟨fun h => (eA m).2 ⟨by omega, fun k hk => hn k (by omega)⟩, fun h => by have := h.l;omega⟩]
theorem kV (k : Int) : PC Tryz.prog 142 [iv k] (fun r => r = iv (if k = 1 then 3 else if k = 0 then 0 else 4)) := by
 (refine aU Tryz.func142 rfl (by simp [Tryz.ntmps142]) ?_; rw [Tryz.ntmps142])
 repeat' (first|(apply aL;first|(apply aE;rfl;rfl)|(apply aT;rfl;rfl;rfl;rfl)|(apply aC;rfl;rfl)|(apply aF;kernel_rfl))|(apply aM;first|apply aH|apply aB|(apply aO;rfl;all_goals intro hc;have hq:=hc;(try simp only [cJ] at hq);try exfalso;omega)|apply aK|apply aS|apply aR)|with_reducible apply aA|with_reducible apply bJ|with_reducible apply aW|with_reducible apply cQ|((with_reducible apply aP);case hr => rfl))
 all_goals (refine ⟨?_, rfl⟩; simp only [bX, AV.v.injEq, Value.bool.injEq, Value.int.injEq, true_and])
 all_goals grind
theorem rT (k : Int) : PC Tryz.prog 133 [iv k] (fun r => r = iv (e8 k)) := by
 (refine aU Tryz.func133 rfl (by simp [Tryz.ntmps133]) ?_; rw [Tryz.ntmps133])
 repeat' (first|(apply aL;first|(apply aE;rfl;rfl)|(apply aT;rfl;rfl;rfl;rfl)|(apply aC;rfl;rfl)|(apply aF;kernel_rfl))|(apply aM;first|apply aH|apply aB|(apply aO;rfl;all_goals intro hc;have hq:=hc;(try simp only [cJ] at hq);try exfalso;omega)|apply aS|apply aR)|with_reducible apply aA|with_reducible apply bJ|((with_reducible apply aP);case hr => rfl))
 all_goals (refine ⟨?_, rfl⟩; simp only [bX, AV.v.injEq, Value.bool.injEq, Value.int.injEq, true_and])
 all_goals grind [e8]
theorem tL {xs : List Tg} {m : Nat} {a : Int} {b : Bool} (hm : m = xs.length) : ((aI dM xs).drop 0).take (m * 2) ++ [iv a, bv b] = aI dM (xs ++ [⟨a, b⟩]) := gI hm rfl
theorem F6 {xs : List Cl} {m : Nat} {a c : Int} {b : Bool} {s : List Tg} (hm : m = xs.length) : ((aI c7 xs).drop 0).take (m * 4) ++ [iv a, bv b, iv c, sl dM s] = aI c7 (xs ++ [⟨a, b, c, s⟩]) := gI hm rfl
theorem kO {α : Type} [Inhabited α] (l : List α) {k i : Nat} (h : k ≤ i) (hi : i < l.length) : (l.drop k).take (i + 1 - k) = (l.drop k).take (i - k) ++ [l[i]!] := by
 have hl : i - k < (l.drop k).length := by rw [List.length_drop]; omega
 have h1 := c5 (l.drop k) (i - k) hl
 rw [show i + 1 - k = i - k + 1 by omega, h1]
 congr 2
 rw [cV (l.drop k) (i - k) hl, List.getElem_drop, cV l i hi]
 congr 1;omega
theorem qD {α} {p : α → Bool} {a : α} (h : p a = true) : [a].filter p = [a] := by simp [h]
theorem m8 {α} {p : α → Bool} {a : α} (h : p a = false) : [a].filter p = [] := by simp [h]
theorem HE (stk : List Tg) (k : Nat) (hk : k < stk.length) (hl : stk.length ≤ 1000000) : PC Tryz.prog 196 [sl dM stk, iv (k : Int)] (fun r => r = sl dM (fP stk k false)) := by
 have e1 : List.take (((k : Int) + 1).toNat - 0) (List.drop 0 stk) = stk.take (k + 1) := by rw [List.drop_zero]; congr 1
 have e2 : (stk.take (k + 1)).length = k + 1 := by rw [List.length_take]; omega
 (refine aU Tryz.func196 rfl (by simp [Tryz.ntmps196]) ?_; rw [Tryz.ntmps196])
 repeat' (first|(apply aL;first|(with_reducible apply cS (d := 12))|(apply aE;rfl;rfl)|(apply bR;rfl;rfl;omega;rfl)|(apply aC;rfl;rfl)|(apply aF;kernel_rfl)|(apply gN;rfl;infer_instance;rfl;rfl;(omega);rfl)|(apply bZ;rfl;rfl;rfl;(rfl);rfl;rfl))|(apply aM;first|apply aH|apply aB)|with_reducible apply aA)
 refine dO ?_
 rw [e1]
 repeat' (first|(apply aL;first|(apply aE;rfl;rfl)|(apply bR;rfl;rfl;omega;rfl)|(apply aC;rfl;rfl)|(apply bW;rfl;rfl;rfl;rfl;rfl;(case hl => (simp [aQ]; done));(exact iJ (by (rfl)));omega;omega;(exact e9 (by (omega)));rfl;rfl)|(apply aF;kernel_rfl))|(apply aM;first|apply aH|apply aB|apply aK)|with_reducible apply aA)
 refine a6 (σ := Nat × List Tg × Nat) [0] [(0, _)] [] [] (fun s => [(6, iv (s.1 : Int)), (5, .own 1 0 s.2.2 2)]) (fun s => [(1, some (aI dM s.2.1))]) (fun s => k + 1 ≤ s.1 ∧ s.1 ≤ stk.length ∧ s.2.1 = stk.take (k + 1) ++ ((stk.drop (k + 1)).take (s.1 - (k + 1))).filter (fun t => !t.uq) ∧ s.2.2 = s.2.1.length ∧ s.2.2 ≤ s.1) (fun s => stk.length - s.1) (k + 1, stk.take (k + 1), 0 + (stk.take (k + 1)).length) ⟨Nat.le_refl _, by dsimp only;omega, by simp, by dsimp only;omega, by dsimp only;omega⟩ rfl rfl (by repeat' (first|exact trivial|refine And.intro rfl ?_)) (by repeat' (first|exact trivial|refine And.intro (.inr rfl) ?_)) ?_
 rintro ⟨i, xs, n⟩ ⟨hki, hi, hxs, hn, hni⟩
 dsimp only at hki hi hxs hn hni ⊢
 repeat' (first|(apply aL;first|(apply aE;rfl;rfl)|(first|(apply aN;rfl;rfl;rfl;rfl)|(apply aV;rfl;rfl;(exact (rfl:_=[_, _]));rfl;rfl;rfl))|(apply aD;rfl;rfl;rfl)|(first|(apply bR;rfl;rfl;omega;rfl)|(apply aT;rfl;rfl;rfl;rfl))|(apply aC;rfl;rfl)|(apply aZ;(case hx|hi => rfl);(case hm => (omega));(case hml => (rfl));(case hα | hf|hg => infer_instance);(case hN => rfl))|(first|(apply bC;rfl;rfl;rfl)|(apply bW;rfl;rfl;rfl;rfl;rfl;(rw [aQ]; omega);(rfl);omega;omega;(exact tL (by (assumption)));rfl;rfl))|(apply aF;kernel_rfl)|(apply cG;rfl;rfl)|((apply a7 (t := _));(case hze|hsm|hl => rfl);(case hfl => (exact (rfl:_=some [_, _])));(case hM|hN => rfl)))|(apply aM;first|apply aH|apply aB|(apply aO;rfl;all_goals intro hc;have hq:=hc;(try simp only [cJ] at hq);try exfalso;omega)|apply aK|apply aS|apply bG|apply aR)|with_reducible apply aA|with_reducible apply bH|with_reducible apply aW|with_reducible apply bF)
 ·(apply dJ (i + 1, _, _); focus (refine Le.ren [(1, 3)] rfl (by decide) ?_ ?_ <;> repeat' (first | exact trivial | refine And.intro ⟨_, rfl, ?_⟩ ?_ | refine And.intro ⟨_, _, rfl, rfl, ?_⟩ ?_ | exact Or.inr rfl | refine Or.inl ⟨?_, (by first | rfl | exact aY _ _)⟩ | rfl)))
  ·refine ⟨by dsimp only; omega, by dsimp only; omega, ?_, by dsimp only; rw [List.length_append, hn]; rfl, by dsimp only; omega⟩
   dsimp only
   rw [hxs, kO stk hki (by omega), List.filter_append, List.append_assoc]
   congr 2
   have hu : stk[i]!.uq = false := by assumption
   rw [qD (by rw [hu]; rfl)]
  ·dsimp only;omega
 ·(apply dJ (i + 1, xs, n); focus (refine Le.ren [(1, 1)] rfl (by decide) ?_ ?_ <;> repeat' (first | exact trivial | refine And.intro ⟨_, rfl, ?_⟩ ?_ | refine And.intro ⟨_, _, rfl, rfl, ?_⟩ ?_ | exact Or.inr rfl | refine Or.inl ⟨?_, (by first | rfl | exact aY _ _)⟩ | rfl)))
  ·refine ⟨by dsimp only; omega, by dsimp only; omega, ?_, hn, by dsimp only; omega⟩
   dsimp only
   have hu : stk[i]!.uq = true := by assumption
   rw [hxs, kO stk hki (by omega), List.filter_append, m8 (by rw [hu]; rfl), List.append_nil]
  ·dsimp only;omega
 ·(refine cD (Le.frzD (d := 4) (i := 1) rfl rfl) ?_; refine aP rfl ?_)
  refine ⟨?_, (by (exact aY _ _))⟩
  have hie : i = stk.length := by omega
  simp only [bX, sl]
  have hd : (stk.drop (k + 1)).take (stk.length - (k + 1)) = stk.drop (k + 1) := List.take_of_length_le (by rw [List.length_drop]; exact Nat.le_refl _)
  rw [hn, hxs, hie, hd]
  rfl
theorem GI (m : List Cl) (hm : OkM m) : PC Tryz.prog 192 [sl c7 m] (fun r => r = sl c7 m) := by
 have hml := hm.l
 (refine aU Tryz.func192 rfl (by simp [Tryz.ntmps192]) ?_; rw [Tryz.ntmps192])
 repeat' (first|(apply aL;first|(apply aC;rfl;rfl)|(apply aF;kernel_rfl)|(apply bZ;rfl;rfl;rfl;(rfl);rfl;rfl))|(apply aM;first|apply aH|apply aB|apply aK)|with_reducible apply aA)
 refine a6 (σ := Nat × List Cl) [0] [(0, _)] [] [] (fun k => [(4, iv (k.1 : Int)), (3, .own 0 0 k.1 4)]) (fun k => [(0, some (aI c7 k.2))]) (fun k => k.1 ≤ m.length ∧ k.2 = m.take k.1) (fun k => m.length - k.1) (0, []) ⟨by omega, rfl⟩ rfl rfl (by repeat' (first|exact trivial|refine And.intro rfl ?_)) (by repeat' (first|exact trivial|refine And.intro (.inr rfl) ?_)) ?_
 rintro ⟨i, xs⟩ ⟨hi, hxs⟩
 dsimp only at hi hxs ⊢
 have hln : xs.length = i := by rw [hxs, List.length_take]; exact Nat.min_eq_left hi
 have hst : i < m.length → m[i]!.stk.length ≤ 200 := fun h => (((eA m).1 hm).2 i h).l.2
 repeat' (first|(apply aL;first|(with_reducible apply cS (d := 21))|(apply aE;rfl;rfl)|(first|(apply aN;rfl;rfl;rfl;rfl)|(apply aV;rfl;rfl;(exact (rfl:_=[_, _, _, _]));rfl;rfl;rfl))|(apply aD;rfl;rfl;rfl)|(apply aT;rfl;rfl;rfl;rfl)|(apply aC;rfl;rfl)|(apply aZ;(case hx|hi => rfl);(case hm => (omega));(case hml => (rfl));(case hα | hf|hg => infer_instance);(case hN => rfl))|(first|(apply bC;rfl;rfl;rfl)|(apply bW;rfl;rfl;rfl;rfl;rfl;(case hl => (simp [aQ]; done));(exact iJ (by (rfl)));omega;omega;(exact e9 (by (omega)));rfl;rfl))|(apply aF;kernel_rfl)|(apply bI;rfl;rfl)|(apply bZ;rfl;rfl;rfl;(rfl);rfl;rfl)|(apply aX;rfl;rfl;rfl;rfl;rfl;(case hl => (simp;done));(exact (rfl:_=[_, _, _, _]))))|(apply aM;first|apply aH|apply aB|(apply aO;rfl;all_goals intro hc;have hq:=hc;(try simp only [cJ] at hq);try exfalso;omega)|apply aK|apply aS|apply bG|apply aR)|with_reducible apply aA|with_reducible apply bH|with_reducible apply bF)
 ·refine dO (hO ?_ (Le.frzD (d := 20) (i := 3) rfl rfl))
  rw [Nat.zero_add m[i]!.stk.length]
  repeat' (first|(apply aL;first|(apply aE;rfl;rfl)|(apply aV;rfl;rfl;(exact (rfl:_=[_, _, _, _]));rfl;rfl;rfl)|(apply aD;rfl;rfl;rfl)|(apply bR;rfl;rfl;omega;rfl)|(apply aC;rfl;rfl)|(apply bW;rfl;rfl;rfl;rfl;rfl;(rw [aQ]; omega);(rfl);omega;omega;(exact F6 (by (omega)));rfl;rfl)|(apply aF;kernel_rfl)|((apply a7 (t := _));(case hze|hsm|hl => rfl);(case hfl => (exact (rfl:_=some [_, _, _, _])));(case hM|hN => rfl))|(apply aX;rfl;rfl;rfl;rfl;rfl;(case hl => (simp;done));(exact (rfl:_=[_, _, _, _]))))|(apply aM;(apply aB))|with_reducible apply aA|with_reducible apply aW)
  (apply dJ (i + 1, _);focus (refine Le.ren [(0, 5)] rfl (by decide) ?_ ?_ <;> repeat' (first|exact trivial|refine And.intro ⟨_, rfl, ?_⟩ ?_|refine And.intro ⟨_, _, rfl, rfl, ?_⟩ ?_|exact Or.inr rfl|refine Or.inl ⟨?_, (by first|rfl|exact aY _ _)⟩|rfl)))
  ·exact ⟨by dsimp only;omega, by dsimp only;rw [hxs, c5 m i (by omega)]⟩
  ·dsimp only;omega
 ·(refine cD (Le.frzD (d := 2) (i := 0) rfl rfl) ?_; refine aP rfl ?_)
  refine ⟨?_, (by (exact aY _ _))⟩
  have hie : i = m.length := by omega
  simp only [bX, sl]
  rw [hxs, hie, List.take_length]
theorem Cb {m : List Cl} {x : Pt} {wr : Bool} (h : x.cell < 0 ∨ (m.length : Int) ≤ x.cell) : cP m x wr = 4 := by
 unfold cP;rw [if_pos (by omega)]
theorem FG {m : List Cl} {x : Pt} {wr : Bool} (h : 0 ≤ x.cell) (h2 : x.cell < m.length) (h3 : m[x.cell.toNat]!.alive = false) : cP m x wr = 1 := by
 unfold cP;rw [if_neg (by omega), if_pos h3]
theorem Ge {m : List Cl} {x : Pt} {wr : Bool} (h : 0 ≤ x.cell) (h2 : x.cell < m.length) (h3 : m[x.cell.toNat]!.alive = true) (h4 : dE m[x.cell.toNat]!.stk x.tag < 0) : cP m x wr = 2 := by
 unfold cP;rw [if_neg (by omega), if_neg (by rw [h3]; decide), if_pos h4]
theorem rU {m : List Cl} {x : Pt} (h : 0 ≤ x.cell) (h2 : x.cell < m.length) (h3 : m[x.cell.toNat]!.alive = true) (h4 : 0 ≤ dE m[x.cell.toNat]!.stk x.tag) : cP m x false = 0 := by
 unfold cP;rw [if_neg (by omega), if_neg (by rw [h3]; decide), if_neg (by omega), if_neg (by intro q;exact absurd q.1 (by decide))]
theorem yZ {m : List Cl} {x : Pt} : cP m x true = if cP m x false = 0 then (if m[x.cell.toNat]!.stk[(dE m[x.cell.toNat]!.stk x.tag).toNat]!.uq = false then 3 else 0) else cP m x false := by
 unfold cP
 split
 ·rw [if_neg (by decide)]
 ·split
  ·rw [if_neg (by decide)]
  ·split
   ·rw [if_neg (by decide)]
   ·rw [if_neg (c := false = true ∧ _) (by intro q; exact absurd q.1 (by decide)), if_pos rfl]
    simp only [true_and]
theorem eU {m : List Cl} {x : Pt} {wr : Bool} (h : cP m x wr = 0) : 0 ≤ x.cell ∧ x.cell < m.length ∧ m[x.cell.toNat]!.alive = true ∧ 0 ≤ dE m[x.cell.toNat]!.stk x.tag ∧ (wr = true → m[x.cell.toNat]!.stk[(dE m[x.cell.toNat]!.stk x.tag).toNat]!.uq = true) := by
 unfold cP at h
 split at h
 ·omega
 ·split at h
  ·omega
  ·split at h
   ·omega
   ·split at h
    ·omega
    ·rename_i a b c d
     refine ⟨by omega, by omega, by simpa using b, by omega, fun hw => ?_⟩
     by_cases q : m[x.cell.toNat]!.stk[(dE m[x.cell.toNat]!.stk x.tag).toNat]!.uq = false
     ·exact absurd ⟨hw, q⟩ d
     ·simpa using q
theorem fW {m : List Cl} {N : Nat} {Q : Exit → AS → Prop} {all : Array Oper} {rest : List Oper} {tsl : List (Nat × AV)} {hsl : List (Nat × Option (List AV))} {nidl : Nat} {z0 : Lo} {md : Md} {d : Nat} {ty : TypeId} {pos : String} {af : Array Edge} {tys : Array TypeId} {x0 : Operand} (ha0 : ev (lk tsl) x0 = some (sl c7 m)) (hmc : MC Tryz.prog 192 [sl c7 m] [] 0 (fun _ : Unit => True) (fun _ => .own 0 0 m.length 4) (fun _ => [(0, some (aI c7 m))])) (hM : Nat.ble (nidl + 1) eS = true) (hN : Nat.blt d N = true) {md' : Md} [hmd : MdA md (gL [x0] ++ []) (List.map Sum.inr (List.map Prod.fst ([(nidl, some (aI c7 m))] : List (Nat × Option (List AV)))) ++ [.inl d]) md'] (kk : RW Tryz.prog N all Q md' rest ⟨(d, .own nidl 0 m.length 4) :: tsl, iH hsl [(nidl, some (aI c7 m))], nidl + 1, z0⟩) : RW Tryz.prog N all Q md (⟨some d, .call ⟨.value (.func 192), #[x0], tys⟩, ty, pos, af, none⟩ :: rest) ⟨tsl, hsl, nidl, z0⟩ := by
 refine cE [] 1 [(nidl, some (aI c7 m))] hmc (avs := [sl c7 m]) ?_ rfl ?_ rfl ?_ (by simpa using hM) ?_ ?_ ?_ hN (md' := md') (hmd := hmd) kk
 ·show evL (lk tsl) [x0] = _
  simp only [evL, ha0]
 ·exact trivial
 ·(repeat' (exact RnL.purI inferInstance))
 ·(repeat' (exact RnV.own rfl))
 ·simp [dL]
 ·(repeat' (first|exact trivial|(refine And.intro ⟨0, _, rfl, rfl, ?_⟩ ?_)|exact RnL.purI inferInstance))
theorem gP (m : List Cl) (hm : OkM m) : MC Tryz.prog 192 [sl c7 m] [] 0 (fun _ : Unit => True) (fun _ => .own 0 0 m.length 4) (fun _ => [(0, some (aI c7 m))]) := by
 have hml := hm.l
 (refine cC Tryz.func192 rfl (by simp [Tryz.ntmps192]) ?_; rw [Tryz.ntmps192])
 repeat' (first|(apply aL;first|(apply aC;rfl;rfl)|(apply aF;kernel_rfl)|(apply bZ;rfl;rfl;rfl;(rfl);rfl;rfl))|(apply aM;first|apply aH|apply aB|apply aK)|with_reducible apply aA)
 refine a6 (σ := Nat × List Cl) [0] [(0, _)] [] [] (fun k => [(4, iv (k.1 : Int)), (3, .own 0 0 k.1 4)]) (fun k => [(0, some (aI c7 k.2))]) (fun k => k.1 ≤ m.length ∧ k.2 = m.take k.1) (fun k => m.length - k.1) (0, []) ⟨by omega, rfl⟩ rfl rfl (by repeat' (first|exact trivial|refine And.intro rfl ?_)) (by repeat' (first|exact trivial|refine And.intro (.inr rfl) ?_)) ?_
 rintro ⟨i, xs⟩ ⟨hi, hxs⟩
 dsimp only at hi hxs ⊢
 have hln : xs.length = i := by rw [hxs, List.length_take]; exact Nat.min_eq_left hi
 have hst : i < m.length → m[i]!.stk.length ≤ 200 := fun h => (((eA m).1 hm).2 i h).l.2
 repeat' (first|(apply aL;first|(with_reducible apply cS (d := 21))|(apply aE;rfl;rfl)|(first|(apply aN;rfl;rfl;rfl;rfl)|(apply aV;rfl;rfl;(exact (rfl:_=[_, _, _, _]));rfl;rfl;rfl))|(apply aD;rfl;rfl;rfl)|(apply aT;rfl;rfl;rfl;rfl)|(apply aC;rfl;rfl)|(apply aZ;(case hx|hi => rfl);(case hm => (omega));(case hml => (rfl));(case hα | hf|hg => infer_instance);(case hN => rfl))|(first|(apply bC;rfl;rfl;rfl)|(apply bW;rfl;rfl;rfl;rfl;rfl;(case hl => (simp [aQ]; done));(exact iJ (by (rfl)));omega;omega;(exact e9 (by (omega)));rfl;rfl))|(apply aF;kernel_rfl)|(apply bI;rfl;rfl)|(apply bZ;rfl;rfl;rfl;(rfl);rfl;rfl)|(apply aX;rfl;rfl;rfl;rfl;rfl;(case hl => (simp;done));(exact (rfl:_=[_, _, _, _]))))|(apply aM;first|apply aH|apply aB|(apply aO;rfl;all_goals intro hc;have hq:=hc;(try simp only [cJ] at hq);try exfalso;omega)|apply aK|apply aS|apply bG|apply aR)|with_reducible apply aA|with_reducible apply bH|with_reducible apply bF)
 ·refine dO (hO ?_ (Le.frzD (d := 20) (i := 3) rfl rfl))
  rw [Nat.zero_add m[i]!.stk.length]
  repeat' (first|(apply aL;first|(apply aE;rfl;rfl)|(apply aV;rfl;rfl;(exact (rfl:_=[_, _, _, _]));rfl;rfl;rfl)|(apply aD;rfl;rfl;rfl)|(apply bR;rfl;rfl;omega;rfl)|(apply aC;rfl;rfl)|(apply bW;rfl;rfl;rfl;rfl;rfl;(rw [aQ]; omega);(rfl);omega;omega;(exact F6 (by (omega)));rfl;rfl)|(apply aF;kernel_rfl)|((apply a7 (t := _));(case hze|hsm|hl => rfl);(case hfl => (exact (rfl:_=some [_, _, _, _])));(case hM|hN => rfl))|(apply aX;rfl;rfl;rfl;rfl;rfl;(case hl => (simp;done));(exact (rfl:_=[_, _, _, _]))))|(apply aM;(apply aB))|with_reducible apply aA|with_reducible apply aW)
  (apply dJ (i + 1, _);focus (refine Le.ren [(0, 5)] rfl (by decide) ?_ ?_ <;> repeat' (first|exact trivial|refine And.intro ⟨_, rfl, ?_⟩ ?_|refine And.intro ⟨_, _, rfl, rfl, ?_⟩ ?_|exact Or.inr rfl|refine Or.inl ⟨?_, (by first|rfl|exact aY _ _)⟩|rfl)))
  ·exact ⟨by dsimp only;omega, by dsimp only;rw [hxs, c5 m i (by omega)]⟩
  ·dsimp only;omega
 ·have hie : i = m.length := by omega
  (refine aP rfl ?_; refine bU () trivial ?_ ⟨.inr (Eq.trans (b := some _) rfl ?_), trivial⟩)
  ·rw [hie]; rfl
  ·rw [hxs, hie, List.take_length]
theorem k7 (m : List Cl) (hm : OkM m) (x : Pt) : PC Tryz.prog 195 [sl c7 m, m5 x] (fun r => r = .tup [iv (if cP m x false = 0 then dE m[x.cell.toNat]!.stk x.tag else 0), iv (cP m x false)]) := by
 have hml := hm.l
 have hcv := nM m (by omega)
 rw [decide_eq_true hm] at hcv
 have hst : 0 ≤ x.cell → x.cell < m.length → m[x.cell.toNat]!.stk.length ≤ 1000000 := fun h1 h2 => Nat.le_trans (((eA m).1 hm).2 x.cell.toNat (by omega)).l.2 (by decide)
 (refine aU Tryz.func195 rfl (by simp [Tryz.ntmps195]) ?_; rw [Tryz.ntmps195])
 repeat' (first|(apply aL;first|((with_reducible apply aJ (k := 191));(case ha => rfl);(case h => exact hcv);(case hp => (exact Pur.pf));(case hN => rfl))|((with_reducible apply aJ (k := 237));(case ha => rfl);(case h => exact CP m[x.cell.toNat]!.stk x.tag (hst (by assumption) (by assumption)));(case hp => (exact Pur.pf));(case hN => rfl))|(apply aE;rfl;rfl)|(apply aN;rfl;rfl;rfl;rfl)|(apply aD;rfl;rfl;rfl)|(first|(apply bB;rfl;rfl;rfl;(first|rfl|assumption))|(apply bD;rfl;rfl;rfl;(assumption))|(apply bS;(case hj|hb|hN => rfl);all_goals (intro hg;have hq := hg;(try simp only [cJ] at hq);(try (exfalso;omega)))))|(apply aT;rfl;rfl;rfl;rfl)|(apply aC;rfl;rfl)|(first|(apply bV;rfl;(assumption);rfl;rfl)|(apply bQ;rfl;(first|rfl|assumption);rfl;rfl))|(apply cL;(case hx|hi => rfl);(case hm => (omega));(case hml => (rfl));(case hα | hf|hg => infer_instance);(case hN => rfl))|(apply bC;rfl;rfl;rfl)|(apply aF;kernel_rfl)|(apply cG;rfl;rfl)|(apply bK;rfl;rfl;rfl;rfl))|(apply aM;first|apply aH|apply aB|(apply b0;kernel_rfl)|(apply cA;rfl;(rfl))|(apply aO;rfl;all_goals intro hc;have hq:=hc;(try simp only [cJ] at hq);try exfalso;omega)|apply aS|apply aR)|with_reducible apply aA|with_reducible apply bJ)
 all_goals (refine aP rfl ⟨?_, rfl⟩; simp only [bX])
 ·rw [Cb (by omega)]; rfl
 ·rw [FG (by assumption) (by assumption) (by assumption)]; rfl
 ·rw [Ge (by assumption) (by assumption) (by assumption) (by assumption)]; rfl
 ·rw [rU (by assumption) (by assumption) (by assumption) (by assumption)]; rfl
 ·rw [Cb (by omega)]; rfl
theorem Ck {xs : List Cl} {k : Nat} {s : List Tg} (hk : k < xs.length) : iN (aI c7 xs) (0 + k * 4 + 3) [sl dM s] = aI c7 (xs.set k { xs[k]! with stk := s }) := fF hk (by simp) rfl
theorem Kg {xs : List Cl} {k : Nat} {v : Int} (hk : k < xs.length) : iN (aI c7 xs) (0 + k * 4 + 0) [iv v] = aI c7 (xs.set k { xs[k]! with val := v }) := fF hk (by simp) rfl
theorem KH {xs : List Cl} {k : Nat} {b : Bool} (hk : k < xs.length) : iN (aI c7 xs) (0 + k * 4 + 1) [.v (.bool b)] = aI c7 (xs.set k { xs[k]! with alive := b }) := fF hk (by simp) rfl
theorem fO {α : Type} {f : α → List AV} {xs : List α} {n : Nat} (h : n = xs.length) : AV.imm n (aI f xs) = sl f xs := by subst h; rfl
theorem qG (m : List Cl) (hm : OkM m) (x : Pt) : PC Tryz.prog 148 [sl c7 m, m5 x] (fun r => r = .tup [sl c7 (dS m x false), iv (nK m x), iv (cP m x false)]) := by
 have hml := hm.l
 have hst : 0 ≤ x.cell → x.cell < m.length → m[x.cell.toNat]!.stk.length ≤ 1000000 := fun h1 h2 => Nat.le_trans (((eA m).1 hm).2 x.cell.toNat (by omega)).l.2 (by decide)
 by_cases hk : cP m x false = 0
 ·have hpl := k7 m hm x
  rw [if_pos hk, hk] at hpl
  obtain ⟨h1, h2, h3, h4, _⟩ := eU hk
  have hbd := eZ m[x.cell.toNat]!.stk x.tag
  have hrd := HE m[x.cell.toNat]!.stk (dE m[x.cell.toNat]!.stk x.tag).toNat (by omega) (hst h1 h2)
  rw [Int.toNat_of_nonneg h4] at hrd
  (refine aU Tryz.func148 rfl (by simp [Tryz.ntmps148]) ?_; rw [Tryz.ntmps148])
  repeat' (first|(apply aL;first|(apply fW;rfl;exact gP m hm;rfl;rfl)|((with_reducible apply aJ (k := 195));(case ha => rfl);(case h => exact hpl);(case hp => (exact Pur.pf));(case hN => rfl))|((with_reducible apply aJ (k := 196));(case ha => rfl);(case h => exact hrd);(case hp => (exact Pur.pf));(case hN => rfl))|(apply aE;rfl;rfl)|(first|(apply aN;rfl;rfl;rfl;rfl)|(apply aV;rfl;rfl;(exact (rfl:_=[_, _]));rfl;rfl;rfl))|(apply aD;rfl;rfl;rfl)|(apply aT;rfl;rfl;rfl;rfl)|(apply aC;rfl;rfl)|(first|(apply cL;(case hx|hi => rfl);(case hm => (omega));(case hml => (rfl));(case hα | hf|hg => infer_instance);(case hN => rfl))|(apply cR;rfl;rfl;(omega);rfl))|(apply aF;kernel_rfl)|(apply bK;rfl;rfl;rfl;rfl)|(apply bE;rfl;rfl;rfl)|(apply aX;rfl;rfl;rfl;rfl;rfl;(rw [aQ]; simp only [fY] <;> omega);(exact Ck (by (omega)))))|(apply aM;first|apply aH|apply aB|(apply b0;kernel_rfl)|(apply cH;rfl;(rfl))|apply aS|apply aR)|with_reducible apply aA)
  (refine cD (Le.frzD (d := 4) (i := 1) rfl rfl) ?_; refine aP rfl ?_)
  refine ⟨?_, by (exact Pur.pf)⟩
  simp only [bX]
  rw [fO (by rw [List.length_set]), hk]
  unfold dS nK;rw [if_pos hk, if_pos hk]; rfl
 ·have hpl := k7 m hm x
  rw [if_neg hk] at hpl
  (refine aU Tryz.func148 rfl (by simp [Tryz.ntmps148]) ?_; rw [Tryz.ntmps148])
  repeat' (first|(apply aL;first|(apply fW;rfl;exact gP m hm;rfl;rfl)|((with_reducible apply aJ (k := 195));(case ha => rfl);(case h => exact hpl);(case hp => (exact Pur.pf));(case hN => rfl))|(apply aE;rfl;rfl)|(apply aV;rfl;rfl;(exact (rfl:_=[_, _]));rfl;rfl;rfl)|(apply aT;rfl;rfl;rfl;rfl)|(apply aC;rfl;rfl)|(apply aF;kernel_rfl)|(apply bK;rfl;rfl;rfl;rfl)|(apply bE;rfl;rfl;rfl))|(apply aM;first|apply aH|apply aB|(apply aO;rfl;all_goals intro hc;have hq:=hc;(try simp only [cJ] at hq);try exfalso;omega)|apply aR)|with_reducible apply aA|with_reducible apply bJ)
  (refine cD (Le.frzD (d := 4) (i := 1) rfl rfl) ?_; refine aP rfl ?_)
  refine ⟨?_, by (exact Pur.pf)⟩
  simp only [bX]
  unfold dS nK;rw [if_neg hk, if_neg hk]
theorem KA {cs : List AV} {i : Nat} {c : AV} : iN cs i [c] = cs.take i ++ c :: cs.drop (i + 1) := by
 have := IE (cs := cs) (v := i) (c := c)
 rwa [Nat.zero_add, Nat.mul_one] at this
theorem Le.frzCl {ts : List (Nat × AV)} {hs : List (Nat × Option (List AV))} {n : Nat} {z0 : Lo} {j q v m : Nat} {u : List Cl} {r : List Tg} (hj : cO hs j = some (iN (aI c7 u) (0 + v * 4 + 3) [.own q 0 m 2])) (hq : cO hs q = some (aI dM r)) (hm : m = r.length) (hv : v < u.length) (hjq : j ≠ q) :
  Le ⟨ts, hs, n, z0⟩ ⟨ts, (j, some (aI c7 (u.set v { u[v]! with stk := r }))) :: (q, none) :: hs, n, z0⟩ := by
 subst hm
 have hl : (aI c7 u).length = u.length * 4 := aQ c7 u
 have e := Ck (s := r) hv
 rw [KA] at hj e
 have h := Le.frzC (ts := ts) (n := n) (z0 := z0) ((aI c7 u).take (0 + v * 4 + 3)) hj hq hjq
 rw [← e]; exact h
theorem mB {m : List Cl} {x : Pt} {wr : Bool} : (dS m x wr).length = m.length := by
 unfold dS;split
 ·rw [List.length_set]
 ·rfl
theorem iV {m : List Cl} {x : Pt} {N : Nat} {Q : Exit → AS → Prop} {all : Array Oper} {rest : List Oper} {tsl : List (Nat × AV)} {hsl : List (Nat × Option (List AV))} {nidl : Nat} {z0 : Lo} {md : Md} {d : Nat} {ty : TypeId} {pos : String} {af : Array Edge} {tys : Array TypeId} {x0 x1 : Operand} (ha0 : ev (lk tsl) x0 = some (sl c7 m)) (ha1 : ev (lk tsl) x1 = some (m5 x)) (hmc : MC Tryz.prog 190 [sl c7 m, m5 x] [] 0 (fun _ : Unit => True) (fun _ => .tup [.own 1 0 m.length 4, iv (cP m x true)]) (fun _ => [(1, some (aI c7 (dS m x true)))])) (hM : Nat.ble (nidl + 2) eS = true) (hN : Nat.blt d N = true) {md' : Md} [hmd : MdA md (gL [x0, x1] ++ []) (List.map Sum.inr (List.map Prod.fst ([((nidl + 1), some (aI c7 (dS m x true)))] : List (Nat × Option (List AV)))) ++ [.inl d]) md'] (kk : RW Tryz.prog N all Q md' rest ⟨(d, .tup [.own (nidl + 1) 0 m.length 4, iv (cP m x true)]) :: tsl, iH hsl [((nidl + 1), some (aI c7 (dS m x true)))], nidl + 2, z0⟩) : RW Tryz.prog N all Q md (⟨some d, .call ⟨.value (.func 190), #[x0, x1], tys⟩, ty, pos, af, none⟩ :: rest) ⟨tsl, hsl, nidl, z0⟩ := by
 refine cE [] 2 [((nidl + 1), some (aI c7 (dS m x true)))] hmc (avs := [sl c7 m, m5 x]) ?_ rfl ?_ rfl ?_ (by simpa using hM) ?_ ?_ ?_ hN (md' := md') (hmd := hmd) kk
 ·show evL (lk tsl) [x0, x1] = _
  simp only [evL, ha0, ha1]
 ·exact trivial
 ·(repeat' (exact RnL.purI inferInstance))
 ·(repeat' (first|exact RnL.purI inferInstance|exact RnV.own rfl|refine RnL.cons ?_ ?_|refine RnV.tup ?_))
 ·simp [dL]
 ·(repeat' (first|exact trivial|(refine And.intro ⟨1, _, rfl, rfl, ?_⟩ ?_)|exact RnL.purI inferInstance))
theorem jY (m : List Cl) (x : Pt) (hm : OkM m) : MC Tryz.prog 190 [sl c7 m, m5 x] [] 0 (fun _ : Unit => True) (fun _ => .tup [.own 1 0 m.length 4, iv (cP m x true)]) (fun _ => [(1, some (aI c7 (dS m x true)))]) := by
 have hml := hm.l
 have hst : 0 ≤ x.cell → x.cell < m.length → m[x.cell.toNat]!.stk.length ≤ 200 := fun h1 h2 => (((eA m).1 hm).2 x.cell.toNat (by omega)).l.2
 have hpl := k7 m hm x
 by_cases hk : cP m x false = 0
 ·rw [if_pos hk, hk] at hpl
  obtain ⟨h1, h2, h3, h4, _⟩ := eU hk
  have hbd := eZ m[x.cell.toNat]!.stk x.tag
  have hs2 := hst h1 h2
  obtain ⟨k, hkk⟩ := Int.eq_ofNat_of_zero_le h4
  rw [hkk] at hpl
  have hkn : k < m[x.cell.toNat]!.stk.length := by omega
  have hkt : (dE m[x.cell.toNat]!.stk x.tag).toNat = k := by omega
  have hwr := yZ (m := m) (x := x)
  rw [if_pos hk, hkt] at hwr
  have e1 : List.take (((k : Int) + 1).toNat - 0) (List.drop 0 m[x.cell.toNat]!.stk) = m[x.cell.toNat]!.stk.take (k + 1) := by rw [List.drop_zero]; congr 1
  have e2 : (m[x.cell.toNat]!.stk.take (k + 1)).length = k + 1 := by rw [List.length_take]; omega
  (refine cC Tryz.func190 rfl (by simp [Tryz.ntmps190]) ?_; rw [Tryz.ntmps190])
  repeat' (first|(apply aL;first|(apply fW;rfl;exact gP m hm;rfl;rfl)|((with_reducible apply aJ (k := 195));(case ha => rfl);(case h => exact hpl);(case hp => (exact Pur.pf));(case hN => rfl))|(with_reducible apply cS (d := 46))|(apply aE;rfl;rfl)|(first|(apply aN;rfl;rfl;rfl;rfl)|(apply aV;rfl;rfl;(exact (rfl:_=[_, _]));rfl;rfl;rfl))|(apply aD;rfl;rfl;rfl)|(first|(apply bR;rfl;rfl;omega;rfl)|(apply aT;rfl;rfl;rfl;rfl))|(apply aC;rfl;rfl)|(first|(apply aZ;(case hx|hi => rfl);(case hm => (assumption));(case hml => (rfl));(case hα | hf|hg => infer_instance);(case hN => rfl))|(apply cL;(case hx|hi => rfl);(case hm => (omega));(case hml => (rfl));(case hα | hf|hg => infer_instance);(case hN => rfl)))|(apply aF;kernel_rfl)|(apply gN;rfl;infer_instance;rfl;rfl;(omega);rfl)|(apply cG;rfl;rfl)|(apply bK;rfl;rfl;rfl;rfl)|(apply bE;rfl;rfl;rfl)|(apply bZ;rfl;rfl;rfl;(rfl);rfl;rfl))|(apply aM;first|apply aH|apply aB|(apply b0;kernel_rfl)|(apply cH;rfl;(rfl))|(apply aO;rfl;all_goals intro hc;have hq:=hc;(try simp only [cJ] at hq);try exfalso;omega)|apply aS|apply aR)|with_reducible apply aA|with_reducible apply bJ)
  ·have hu : m[x.cell.toNat]!.stk[k]!.uq = false := by assumption
   rw [if_pos hu] at hwr
   (refine aP rfl ?_; refine bU () trivial ?_ ⟨.inr (Eq.trans (b := some _) rfl ?_), trivial⟩)
   ·rw [hwr]; rfl
   ·unfold dS;rw [if_neg (by rw [hwr]; decide)]
  ·have hu : m[x.cell.toNat]!.stk[k]!.uq = true := by assumption
   rw [if_neg (by rw [hu]; decide)] at hwr
   refine dO ?_
   rw [e1]
   repeat' (first|(apply aL;first|(with_reducible apply cS (d := 49))|(apply aD;rfl;rfl;rfl)|(apply cR;rfl;rfl;(omega);rfl)|(apply bW;rfl;rfl;rfl;rfl;rfl;(case hl => (simp [aQ]; done));(exact iJ (by (rfl)));omega;omega;(exact e9 (by (omega)));rfl;rfl)|(apply aF;kernel_rfl)|(apply aX;rfl;rfl;rfl;rfl;rfl;(rw [aQ]; simp only [fY] <;> omega);(rfl)))|(apply aM;first|apply aH|apply aB)|with_reducible apply aA)
   refine dO (hO ?_ (Le.frzCl (j := 1) (q := 3) (v := x.cell.toNat) (u := m) (r := m[x.cell.toNat]!.stk.take (k + 1)) rfl rfl (Nat.zero_add _) (by omega) (by decide)))
   repeat' (first|(apply aL;first|(apply aE;rfl;rfl)|(apply aC;rfl;rfl)|(apply aF;kernel_rfl))|(apply aM;(apply aR))|with_reducible apply aA)
   (refine aP rfl ?_; refine bU () trivial ?_ ⟨.inr (Eq.trans (b := some _) rfl ?_), trivial⟩)
   ·rw [hwr]; rfl
   ·unfold dS iY fP;rw [if_pos hwr, hkt, if_pos rfl]
 ·rw [if_neg hk] at hpl
  have hk2 : cP m x true = cP m x false := by rw [yZ, if_neg hk]
  (refine cC Tryz.func190 rfl (by simp [Tryz.ntmps190]) ?_; rw [Tryz.ntmps190])
  repeat' (first|(apply aL;first|(apply fW;rfl;exact gP m hm;rfl;rfl)|((with_reducible apply aJ (k := 195));(case ha => rfl);(case h => exact hpl);(case hp => (exact Pur.pf));(case hN => rfl))|(apply aE;rfl;rfl)|(apply aV;rfl;rfl;(exact (rfl:_=[_, _]));rfl;rfl;rfl)|(apply aT;rfl;rfl;rfl;rfl)|(apply aC;rfl;rfl)|(apply aF;kernel_rfl)|(apply bK;rfl;rfl;rfl;rfl)|(apply bE;rfl;rfl;rfl))|(apply aM;first|apply aH|apply aB|(apply aO;rfl;all_goals intro hc;have hq:=hc;(try simp only [cJ] at hq);try exfalso;omega)|apply aR)|with_reducible apply aA|with_reducible apply bJ)
  (refine aP rfl ?_; refine bU () trivial ?_ ⟨.inr (Eq.trans (b := some _) rfl ?_), trivial⟩)
  ·rw [hk2]; rfl
  ·unfold dS;rw [if_neg (by rw [hk2]; exact hk)]
theorem set_set {α : Type} {l : List α} {i : Nat} {a b : α} : (l.set i a).set i b = l.set i b := by simp
theorem lI {α : Type} [Inhabited α] {l : List α} {i : Nat} {a : α} (h : i < l.length) : (l.set i a)[i]! = a := by rw [cV _ _ (by rw [List.length_set]; exact h), List.getElem_set_self]
theorem yW (m : List Cl) (hm : OkM m) (x : Pt) (v : Int) : PC Tryz.prog 149 [sl c7 m, m5 x, iv v] (fun r => r = .tup [sl c7 (nP m x v), iv (oJ m x v)]) := by
 have hml := hm.l
 have hlt := mB (m := m) (x := x) (wr := true)
 have hin := eU (m := m) (x := x) (wr := true)
 by_cases hv : 0 ≤ v ∧ v ≤ 9
 ·have hwk : oJ m x v = cP m x true := by unfold oJ; rw [if_pos hv]
  by_cases hk : cP m x true = 0
  ·obtain ⟨h1, h2, _⟩ := hin hk
   (refine aU Tryz.func149 rfl (by simp [Tryz.ntmps149]) ?_; rw [Tryz.ntmps149])
   repeat' (first|(apply aL;first|(apply iV;rfl;rfl;exact jY m x hm;rfl;rfl)|(apply aE;rfl;rfl)|(first|(apply aN;rfl;rfl;rfl;rfl)|(apply aV;rfl;rfl;(exact (rfl:_=[_, _]));rfl;rfl;rfl))|(apply aD;rfl;rfl;rfl)|(first|(apply bB;rfl;rfl;rfl;(assumption))|(apply bS;(case hj|hb|hN => rfl);all_goals (intro hg;have hq := hg;(try simp only [cJ] at hq);(try (exfalso;omega)))))|(apply aT;rfl;rfl;rfl;rfl)|(apply aC;rfl;rfl)|(apply bQ;rfl;(assumption);rfl;rfl)|(apply cR;rfl;rfl;(omega);rfl)|(apply aF;kernel_rfl)|(apply bK;rfl;rfl;rfl;rfl)|(apply bE;rfl;rfl;rfl)|(apply aX;rfl;rfl;rfl;rfl;rfl;(rw [aQ]; simp only [fY] <;> omega);(exact Kg (by (omega)))))|(apply aM;first|apply aH|apply aB|(apply aO;rfl;all_goals intro hc;have hq:=hc;(try simp only [cJ] at hq);try exfalso;omega)|apply aS|apply aR)|with_reducible apply aA)
   (refine cD (Le.frzD (d := 6) (i := 2) rfl rfl) ?_; refine aP rfl ?_)
   refine ⟨?_, by (exact Pur.pf)⟩
   simp only [bX]
   rw [fO (by rw [List.length_set, hlt]), hwk]
   unfold nP dS;rw [if_pos hk, if_pos (by rw [hwk]; exact hk), lI (by omega), set_set]
  ·(refine aU Tryz.func149 rfl (by simp [Tryz.ntmps149]) ?_; rw [Tryz.ntmps149])
   repeat' (first|(apply aL;first|(apply iV;rfl;rfl;exact jY m x hm;rfl;rfl)|(apply aE;rfl;rfl)|(apply aV;rfl;rfl;(exact (rfl:_=[_, _]));rfl;rfl;rfl)|(first|(apply bB;rfl;rfl;rfl;(assumption))|(apply bS;(case hj|hb|hN => rfl);all_goals (intro hg;have hq := hg;(try simp only [cJ] at hq);(try (exfalso;omega)))))|(apply aT;rfl;rfl;rfl;rfl)|(apply aC;rfl;rfl)|(apply bQ;rfl;(assumption);rfl;rfl)|(apply aF;kernel_rfl)|(apply bK;rfl;rfl;rfl;rfl)|(apply bE;rfl;rfl;rfl))|(apply aM;first|apply aH|apply aB|(apply aO;rfl;all_goals intro hc;have hq:=hc;(try simp only [cJ] at hq);try exfalso;omega)|apply aS|apply aR)|with_reducible apply aA)
   (refine cD (Le.frzD (d := 6) (i := 2) rfl rfl) ?_; refine aP rfl ?_)
   refine ⟨?_, by (exact Pur.pf)⟩
   simp only [bX]
   rw [fO (by rw [hlt]), hwk]
   unfold nP dS;rw [if_neg hk, if_neg (by rw [hwk]; exact hk)]
 ·have hwk : oJ m x v = 4 := by unfold oJ; rw [if_neg hv]
  have e : nP m x v = m := by unfold nP;rw [if_neg (by rw [hwk]; decide)]
  (refine aU Tryz.func149 rfl (by simp [Tryz.ntmps149]) ?_; rw [Tryz.ntmps149])
  repeat' (first|(apply aL;first|(apply fW;rfl;exact gP m hm;rfl;rfl)|(apply aE;rfl;rfl)|(first|(apply bB;rfl;rfl;rfl;(assumption))|(apply bD;rfl;rfl;rfl;(assumption))|(apply bS;(case hj|hb|hN => rfl);all_goals (intro hg;have hq := hg;(try simp only [cJ] at hq);(try (exfalso;omega)))))|(apply aT;rfl;rfl;rfl;rfl)|(apply aC;rfl;rfl)|(first|(apply bV;rfl;(assumption);rfl;rfl)|(apply bQ;rfl;(assumption);rfl;rfl))|(apply aF;kernel_rfl)|(apply bK;rfl;rfl;rfl;rfl))|(apply aM;first|apply aH|apply aB|(apply cA;rfl;(rfl))|(apply aO;rfl;all_goals intro hc;have hq:=hc;(try simp only [cJ] at hq);try exfalso;omega)|apply aR)|with_reducible apply aA|with_reducible apply bJ)
  all_goals (try (exfalso;omega))
  all_goals (
   (refine cD (Le.frzD (d := 6) (i := 1) rfl rfl) ?_; refine aP rfl ?_)
   refine ⟨?_, by (exact Pur.pf)⟩
   simp only [bX]
   rw [e, hwk])
theorem mE (m : List Cl) (hm : OkM m) (x : Pt) : PC Tryz.prog 141 [sl c7 m, m5 x] (fun r => r = .tup [sl c7 (iD m x), iv (cP m x true)]) := by
 have hml := hm.l
 have hlt := mB (m := m) (x := x) (wr := true)
 have hin := eU (m := m) (x := x) (wr := true)
 by_cases hk : cP m x true = 0
 ·obtain ⟨h1, h2, _⟩ := hin hk
  (refine aU Tryz.func141 rfl (by simp [Tryz.ntmps141]) ?_; rw [Tryz.ntmps141])
  repeat' (first|(apply aL;first|(apply iV;rfl;rfl;exact jY m x hm;rfl;rfl)|(apply aE;rfl;rfl)|(first|(apply aN;rfl;rfl;rfl;rfl)|(apply aV;rfl;rfl;(exact (rfl:_=[_, _]));rfl;rfl;rfl))|(apply aD;rfl;rfl;rfl)|(apply aT;rfl;rfl;rfl;rfl)|(apply aC;rfl;rfl)|(apply cR;rfl;rfl;(omega);rfl)|(apply aF;kernel_rfl)|(apply bK;rfl;rfl;rfl;rfl)|(apply bE;rfl;rfl;rfl)|(apply aX;rfl;rfl;rfl;rfl;rfl;(rw [aQ]; simp only [fY] <;> omega);(exact KH (by (omega)))))|(apply aM;first|apply aH|apply aB|(apply aO;rfl;all_goals intro hc;have hq:=hc;(try simp only [cJ] at hq);try exfalso;omega)|apply aR)|with_reducible apply aA)
  (refine cD (Le.frzD (d := 4) (i := 2) rfl rfl) ?_; refine aP rfl ?_)
  refine ⟨?_, by (exact Pur.pf)⟩
  simp only [bX]
  rw [fO (by rw [List.length_set, hlt])]
  unfold iD dS;rw [if_pos hk, if_pos hk, lI (by omega), set_set]
 ·(refine aU Tryz.func141 rfl (by simp [Tryz.ntmps141]) ?_; rw [Tryz.ntmps141])
  repeat' (first|(apply aL;first|(apply iV;rfl;rfl;exact jY m x hm;rfl;rfl)|(apply aE;rfl;rfl)|(apply aV;rfl;rfl;(exact (rfl:_=[_, _]));rfl;rfl;rfl)|(apply aT;rfl;rfl;rfl;rfl)|(apply aC;rfl;rfl)|(apply aF;kernel_rfl)|(apply bK;rfl;rfl;rfl;rfl)|(apply bE;rfl;rfl;rfl))|(apply aM;first|apply aH|apply aB|(apply aO;rfl;all_goals intro hc;have hq:=hc;(try simp only [cJ] at hq);try exfalso;omega)|apply aS|apply aR)|with_reducible apply aA)
  (refine cD (Le.frzD (d := 4) (i := 2) rfl rfl) ?_; refine aP rfl ?_)
  refine ⟨?_, by (exact Pur.pf)⟩
  simp only [bX]
  rw [fO (by rw [hlt])]
  unfold iD dS;rw [if_neg hk, if_neg hk]
theorem Cm (m : List Cl) (hm : OkM m) (v : Int) : PC Tryz.prog 145 [sl c7 m, iv v] (fun r => r = .tup (if 0 ≤ v ∧ v ≤ 9 ∧ m.length < 200 then [sl c7 (m ++ [nT v]), .agg [iv m.length, iv 0], bv true] else [sl c7 [], .agg [iv 0, iv 0], bv false])) := by
 have hml := hm.l
 have hcv := nM m (by omega)
 rw [decide_eq_true hm] at hcv
 (refine aU Tryz.func145 rfl (by simp [Tryz.ntmps145]) ?_; rw [Tryz.ntmps145])
 repeat' (first|(apply aL;first|(apply fW;rfl;exact gP m hm;rfl;rfl)|((with_reducible apply aJ (k := 191));(case ha => rfl);(case h => exact hcv);(case hp => (exact Pur.pf));(case hN => rfl))|(apply aE;rfl;rfl)|(first|(apply bB;rfl;rfl;rfl;(first|rfl|assumption))|(apply bD;rfl;rfl;rfl;(first|rfl|assumption))|(apply bS;(case hj|hb|hN => rfl);all_goals (intro hg;have hq := hg;(try simp only [cJ] at hq);(try (exfalso;omega)))))|(apply aT;rfl;rfl;rfl;rfl)|(apply aC;rfl;rfl)|(first|(apply bV;rfl;(first|rfl|assumption);rfl;rfl)|(apply bQ;rfl;(first|rfl|assumption);rfl;rfl))|(first|(apply bC;rfl;rfl;rfl)|(apply bW;rfl;rfl;rfl;rfl;rfl;(rw [aQ]; omega);(rfl);omega;omega;(rfl);rfl;rfl))|(apply aF;kernel_rfl)|(apply b8;rfl;(first|exact (rfl:_=some [_, _])|exact (rfl:_=some [_, _, _, _]));(first|exact (rfl:_=[_, _])|exact (rfl:_=[_, _, _, _]));rfl)|(apply cG;rfl;rfl)|(apply bI;rfl;rfl)|((apply a7 (t := _));(case hze|hsm|hl => rfl);(case hfl => (first|exact (rfl:_=some [_, _])|exact (rfl:_=some [_, _, _, _])|rfl));(case hM|hN => rfl))|(apply aX;rfl;rfl;rfl;rfl;rfl;(case hl => (first|decide|(simp;done)));(exact (rfl:_=[_, _]))))|(apply aM;first|apply aH|apply aB|(apply cA;rfl;(rfl))|(apply aO;rfl;all_goals intro hc;have hq:=hc;(try simp only [cJ] at hq);try exfalso;omega)|apply aS|apply aR)|with_reducible apply aA|with_reducible apply bJ)
 all_goals try exact aP (l := [sl c7 [], .agg [iv 0, iv 0], bv false]) rfl ⟨by rw [if_neg (by omega)]; rfl, rfl⟩
 have e : ((aI c7 m).drop 0).take (m.length * 4) ++ [iv v, bv true, iv 1, .imm 1 [iv 0, bv true]] = aI c7 (m ++ [nT v]) := gI rfl rfl
 have e2 : AV.imm (m.length + 1) (((aI c7 m).drop 0).take (m.length * 4) ++ [iv v, bv true, iv 1, .imm 1 [iv 0, bv true]]) = sl c7 (m ++ [nT v]) := by
  rw [e]; exact fO (by rw [List.length_append]; rfl)
 refine cD (Le.frzD (d := 4) (i := 4) rfl rfl) ?_
 refine aP (l := [AV.imm (m.length + 1) (((aI c7 m).drop 0).take (m.length * 4) ++ [iv v, bv true, iv 1, .imm 1 [iv 0, bv true]]), .agg [iv m.length, iv 0], bv true]) rfl ?_
 rw [e2, if_pos (by omega)]
 exact ⟨rfl, by (exact Pur.pf)⟩
def oB (m : List Cl) (j : Nat) (r : List Tg) : Prop := r.length = 200 ∨ m[j]!.next = 1000
instance (m : List Cl) (j : Nat) (r : List Tg) : Decidable (oB m j r) := by unfold oB; infer_instance
def j9 (m b : List Cl) (j : Nat) (u : Bool) (r : List Tg) : List Cl := if oB m j r then b else m.set j (psh { m[j]! with stk := r } u)
def kB (m : List Cl) (j : Nat) (r : List Tg) : Pt := if oB m j r then ⟨0, 0⟩ else ⟨j, m[j]!.next⟩
def kA (m : List Cl) (j : Nat) (r : List Tg) : Int := if oB m j r then 4 else 0
theorem v7 {m b : List Cl} {j : Nat} {u : Bool} {r : List Tg} {n k : Nat} {N : Nat} {Q : Exit → AS → Prop} {all : Array Oper} {rest : List Oper} {tsl : List (Nat × AV)} {hsl : List (Nat × Option (List AV))} {nidl : Nat} {z0 : Lo} {md : Md} {d : Nat} {ty : TypeId} {pos : String} {af : Array Edge} {tys : Array TypeId} {x0 x1 x2 x3 : Operand} {i0 i1 : Nat} (ha0 : ev (lk tsl) x0 = some (.own i0 0 n 4)) (ha1 : ev (lk tsl) x1 = some (sl c7 b)) (ha2 : ev (lk tsl) x2 = some (iv (j : Int))) (ha3 : ev (lk tsl) x3 = some (bv u)) (hH0 : cO hsl i0 = some (aI fR (eE m j (.own i1 0 k 2)))) (hH1 : cO hsl i1 = some (aI dM r)) (hdd : Go.AL.distinct [i0, i1] = true) (hmc : MC Tryz.prog 236 [.own 0 0 n 4, sl c7 b, iv (j : Int), bv u] [(0, some (aI fR (eE m j (.own 1 0 k 2)))), (1, some (aI dM r))] 2 (fun _ : Unit => True) (fun _ => .tup [sl c7 (j9 m b j u r), m5 (kB m j r), iv (kA m j r)]) (fun _ => [])) (hM : Nat.ble (nidl + 0) eS = true) (hN : Nat.blt d N = true) {md' : Md} [hmd : MdA md (gL [x0, x1, x2, x3] ++ [.inr i0, .inr i1]) (List.map Sum.inr (List.map Prod.fst ([(i0, none), (i1, none)] : List (Nat × Option (List AV)))) ++ [.inl d]) md'] (kk : RW Tryz.prog N all Q md' rest ⟨(d, .tup [sl c7 (j9 m b j u r), m5 (kB m j r), iv (kA m j r)]) :: tsl, iH hsl [(i0, none), (i1, none)], nidl + 0, z0⟩) : RW Tryz.prog N all Q md (⟨some d, .call ⟨.value (.func 236), #[x0, x1, x2, x3], tys⟩, ty, pos, af, none⟩ :: rest) ⟨tsl, hsl, nidl, z0⟩ := by
 refine cE [i0, i1] 2 [(i0, none), (i1, none)] hmc (avs := [.own i0 0 n 4, sl c7 b, iv (j : Int), bv u]) ?_ hdd ?_ rfl ?_ (by simpa using hM) ?_ ?_ ?_ hN (md' := md') (hmd := hmd) kk
 ·show evL (lk tsl) [x0, x1, x2, x3] = _
  simp only [evL, ha0, ha1, ha2, ha3]
 ·exact ⟨⟨_, _, rfl, hH0, by (repeat' (exact kP rfl))⟩, ⟨⟨_, _, rfl, hH1, by (repeat' (exact RnL.purI inferInstance))⟩, trivial⟩⟩
 ·(repeat' (first|exact RnL.purI inferInstance|exact RnV.own rfl|refine RnL.cons ?_ ?_))
 ·(repeat' (exact RnV.purI inferInstance))
 ·simp [dL]
 ·(repeat' (exact trivial))
theorem Av (m b : List Cl) (j : Nat) (u : Bool) (r : List Tg) (n k : Nat) (hb : OkM b) (hn : n = m.length) (hk : k = r.length) (hj : j < m.length) (hnx : 0 ≤ m[j]!.next ∧ m[j]!.next ≤ 1000) (hr : r.length ≤ 200) (hml : m.length ≤ 200) : MC Tryz.prog 236 [.own 0 0 n 4, sl c7 b, iv (j : Int), bv u] [(0, some (aI fR (eE m j (.own 1 0 k 2)))), (1, some (aI dM r))] 2 (fun _ : Unit => True) (fun _ => .tup [sl c7 (j9 m b j u r), m5 (kB m j r), iv (kA m j r)]) (fun _ => []) := by
 have hol := eD (m := m) (j := j) (X := .own 1 0 k 2)
 have hog := iP (m := m) (j := j) (X := .own 1 0 k 2) hj
 have hol2 := eD (m := m) (j := j) (X := .own (2 + 1 + 1 + 1) 0 (r.length + 1) 2)
 subst hn hk
 (refine cC Tryz.func236 rfl (by simp [Tryz.ntmps236]) ?_; rw [Tryz.ntmps236])
 repeat' (first|(apply aL;first|(with_reducible apply cS (d := 11))|(apply aE;rfl;rfl)|(apply gS;(case hx|hH => rfl);(case hf|hg|hα => infer_instance);(case hk => omega);(case h0|hN => rfl))|(apply aC;rfl;rfl)|(apply cM;rfl;rfl;(assumption);rfl)|(apply aF;kernel_rfl)|(apply bI;rfl;rfl))|(apply aM;first|apply aH|apply aB)|with_reducible apply aA)
 refine dO ?_
 rw [hog]
 dsimp only
 repeat' (first|(apply aL;first|((with_reducible apply aJ (k := 192));(case ha => rfl);(case h => exact GI b hb);(case hp => (exact Pur.pf));(case hN => rfl))|(apply aE;rfl;rfl)|(apply aN;rfl;rfl;rfl;rfl)|(apply aD;rfl;rfl;rfl)|(first|(apply bB;rfl;rfl;rfl;(assumption))|(apply bD;rfl;rfl;rfl;(assumption))|(apply bS;(case hj|hb|hN => rfl);all_goals (intro hg;have hq := hg;(try simp only [cJ] at hq);(try (exfalso;omega)))))|(first|(apply bR;rfl;rfl;omega;rfl)|(apply aT;rfl;rfl;rfl;rfl))|(apply aC;rfl;rfl)|(first|(apply bV;rfl;(assumption);rfl;rfl)|(apply bQ;rfl;(assumption);rfl;rfl))|(apply cM;rfl;rfl;(assumption);rfl)|(first|(apply bC;rfl;rfl;rfl)|(apply bW;rfl;rfl;rfl;rfl;rfl;(rw [aQ]; omega);(rfl);omega;omega;(exact tL (by (omega)));rfl;rfl))|(apply aF;kernel_rfl)|(apply b8;rfl;(exact (rfl:_=some [_, _]));(exact (rfl:_=[_, _]));rfl)|(apply bI;rfl;rfl)|((apply a7 (t := _));(case hze|hsm|hl => rfl);(case hfl => (exact (rfl:_=some [_, _])));(case hM|hN => rfl))|(apply aX;rfl;rfl;rfl;rfl;rfl;(case hl => (first|decide|(rw [aQ]; simp only [fY] <;> omega)|(simp;done)));(first|exact s8 (by (assumption))|exact xD (by (assumption))|exact (rfl:_=[_, _])|exact (rfl:_=[_, _, _, _]))))|(apply aM;first|apply aH|apply aB|(apply cA;rfl;(rfl))|(apply aO;rfl;all_goals intro hc;have hq:=hc;(try simp only [cJ] at hq);try exfalso;omega)|apply aS|apply aR)|with_reducible apply aA|with_reducible apply bJ)
 ·have hf : oB m j r := .inr (by assumption)
  refine aP (l := [sl c7 b, .agg [iv 0, iv 0], iv 4]) rfl ?_
  refine bU () trivial ?_ trivial
  unfold j9 kB kA;rw [if_pos hf, if_pos hf, if_pos hf]; rfl
 ·have hf : ¬ oB m j r := by unfold oB; omega
  have hm2 : (m.set j { m[j]! with next := m[j]!.next + 1 }).length = m.length := List.length_set
  refine cD (Le.cls (o := 0) (q := 5) (j := j) (k := r.length + 1) (m := m.set j { m[j]! with next := m[j]!.next + 1 }) (r := r ++ [⟨m[j]!.next, u⟩]) rfl rfl (by rw [List.length_append]; rfl) (by omega) (by decide)) ?_
  refine cD (Le.frzD (d := 8) (i := 0) rfl rfl) ?_
  have e : (m.set j { m[j]! with next := m[j]!.next + 1 }).set j { (m.set j { m[j]! with next := m[j]!.next + 1 })[j]! with stk := r ++ [⟨m[j]!.next, u⟩] } = m.set j (psh { m[j]! with stk := r } u) := by
   rw [lI hj, set_set]; rfl
  rw [e]
  refine aP (l := [.imm m.length (aI c7 (m.set j (psh { m[j]! with stk := r } u))), .agg [iv (j : Int), iv m[j]!.next], iv 0]) rfl ?_
  refine bU () trivial ?_ trivial
  unfold j9 kB kA;rw [if_neg hf, if_neg hf, if_neg hf, fO (by rw [List.length_set])]; rfl
 ·have hf : oB m j r := .inl (by omega)
  refine aP (l := [sl c7 b, .agg [iv 0, iv 0], iv 4]) rfl ?_
  refine bU () trivial ?_ trivial
  unfold j9 kB kA;rw [if_pos hf, if_pos hf, if_pos hf]; rfl
end Go.Proofs.YtckihjkcgfphmaaGreat
