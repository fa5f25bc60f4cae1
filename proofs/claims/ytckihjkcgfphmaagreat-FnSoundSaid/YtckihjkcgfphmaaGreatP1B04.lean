/-
 A part of the proofs over this program: rules and contracts of its functions (the contracts).
-/
import Derived.Test.YtckihjkcgfphmaaGreatP1B03
set_option linter.unusedVariables false
set_option linter.unusedSimpArgs false
set_option maxHeartbeats 8000000
set_option maxRecDepth 4000
attribute [local irreducible] Go.AL.RW Go.AL.AW Go.AL.Stop
namespace Go.Proofs.YtckihjkcgfphmaaGreat
open Go.AL Go.RowKit
class NumS (cs : List AV) (xs : outParam (List ByteArray)) : Prop where h : cs = aJ Bt xs
instance NumS.nil : NumS [] [] := ⟨rfl⟩
instance NumS.cons {n : ByteArray} {cs : List AV} {xs : List ByteArray} [h : NumS cs xs] : NumS (.v (.string n) :: cs) (n :: xs) := ⟨by rw [h.h]; rfl⟩
theorem E5 {cs : List AV} {xs : List ByteArray} {m : Nat} (h : NumS cs xs) (hm : m = xs.length) (hs : xs.all (fun s => decide (s.size ≤ 600)) = true) : ∃ ys : List ByteArray, AV.imm m cs = sl Bt ys ∧ ys.length = m ∧ ∀ i : Nat, (ys[i]!).size ≤ 600 := by
 refine ⟨xs, by rw [h.h, hm], hm.symm, fun i => ?_⟩
 by_cases hi : i < xs.length
 ·rw [List.all_eq_true] at hs
  rw [cT _ _ hi]
  simpa using hs _ (List.getElem_mem hi)
 ·rw [getElem!_neg xs i hi]; decide
theorem Eo : PC Tryz.prog 126 [] (fun r => ∃ ys : List ByteArray, r = sl Bt ys ∧ ys.length = 25 ∧ ∀ i : Nat, (ys[i]!).size ≤ 600) := by
 (refine aS Tryz.func126 rfl (by simp [Tryz.ntmps126]) ?_; rw [Tryz.ntmps126])
 repeat' (first|(apply aL;first|((apply bC (t := _));(case hze|hsm|hl => rfl);(case hfl => exact (rfl:_=some [_, _, _, _, _, _, _, _, _, _, _, _, _, _, _, _, _, _, _, _, _, _, _, _, _]));(case hM|hN => rfl))|(apply aC;rfl;rfl)|(apply aF;kernel_rfl))|(apply aM;first|apply aH|apply aB|apply aQ)|with_reducible apply aA)
 refine tQ (l := [.imm 25 [_, _, _, _, _, _, _, _, _, _, _, _, _, _, _, _, _, _, _, _, _, _, _, _, _]]) ?_ rfl ?_
 ·rintro _ ⟨ys, rfl, _⟩; exact aY _ _
 ·exact E5 inferInstance rfl (by decide)
theorem lI {P : Program} {N : Nat} {Q : Exit → AS → Prop} {all : Array Oper} {rest : List Oper} {ts : List (Nat × AV)} {hs : List (Nat × Option (List AV))} {n : Nat} {z0 : Lo} {ty : TypeId} {pos : String} {af : Array Edge} {d : Nat} {args : Array Operand} {tys : Array TypeId}
  {k : FuncId} {pv : List AV} {p0 : Prg × Nat → Prop} {i p : Nat} {bs : List UInt8} (h : MC P k (.optr 0 0 :: pv) [(0, some (e5 bs p))] 1 p0 (fun x => dM x.1) (fun x => [(0, some (e5 bs x.2))])) [hc : CaT P k] (ha : evL (lk ts) args.toList = some (.optr i 0 :: pv)) (hpv : dC pv = true)
  (hH : cQ hs i = some (e5 bs p)) (hM : Nat.ble (n + 0) eX = true) (hN : Nat.blt d N = true) (kk : ∀ x, p0 x → RW P N all Q .txt rest ⟨(d, dM x.1) :: ts, (i, some (e5 bs x.2)) :: hs, n + 0, z0⟩) :
  RW P N all Q .txt (⟨some d, .call ⟨.value (.func k), args, tys⟩, ty, pos, af, none⟩ :: rest) ⟨ts, hs, n, z0⟩ :=
 AP (σ := Prg × Nat) [i] 1 (fun x : Prg × Nat => [(i, some (e5 bs x.2))]) h ha rfl ⟨⟨_, _, rfl, hH, RnL.purI inferInstance⟩, trivial⟩ rfl (RnL.cons (RnV.optr rfl) (RnL.pur hpv)) (by simpa using hM)
  (fun x _ => RnV.purI inferInstance) (fun x _ => by simp [dJ]) (fun x _ => ⟨⟨0, _, rfl, rfl, RnL.purI inferInstance⟩, trivial⟩) hN kk
theorem xS (bs : List UInt8) (p : Nat) (xs : List Int) (lo hi : Int) (h0 : 0 < xs.length) (h : xs.all (fun x => decide (lo ≤ x) && decide (x ≤ hi)) = true) : lo ≤ iD bs p xs ∧ iD bs p xs ≤ hi := by
 have h1 := gH bs p (xs.length : Int)
 rw [kG] at h
 have := h (c5 bs p (xs.length : Int)).toNat (by omega)
 simp only [Bool.and_eq_true, decide_eq_true_eq] at this
 exact this
theorem Ga (bs : List UInt8) (p : Nat) (hb : bs.length ≤ 2000) (hp : p ≤ 1000) : MC Tryz.prog 81 [.optr 0 0] [(0, some (e5 bs p))] 1 (fun x : Prg × Nat => b9 x.1.body ≤ 620 ∧ x.1.types.length ≤ 620 ∧ x.2 ≤ 2000) (fun x => dM x.1) (fun x => [(0, some (e5 bs x.2))]) := by
 have h0 := gH bs p 25
 have hn := xS bs (p + 1 + 1) [5, 4, 7, 3, 8] 0 8 (by decide) (by decide)
 (refine cA Tryz.func81 rfl (by simp [Tryz.ntmps81]) ?_; rw [Tryz.ntmps81])
 repeat' (first|(apply aL;first|((with_reducible apply gK (k := 126));(case ha => rfl);(case h => exact Eo);(case hp => (rfl));(case hN => rfl);(rintro _ ⟨ys, rfl, hyl, hsz⟩ _);(have hpk := gH bs p (ys.length : Int)))|((with_reducible apply gK (k := 127));(case ha => rfl);(case h => exact sJ _ (Nat.le_trans (hsz _) (by decide)));(case hp => (rfl));(case hN => rfl);(rintro _ ⟨q, b, rfl, hqc, hqt⟩ _))|((apply wX (ts := [1, 2, 2, 3, 4, 4]));(case ha0|ha1|ha2|ha3|hH0 => rfl);(case hmc => (apply FG <;> (first|assumption|omega)));(case hM|hN => rfl))|(apply aE;rfl;rfl)|(first|(apply aN;rfl;rfl;rfl;rfl)|(apply aV;rfl;rfl;(exact (rfl:_=[_, _]));rfl;rfl;rfl))|(apply aD;rfl;rfl;rfl)|(first|(apply a6;rfl;rfl;rfl;(assumption))|(apply a7;rfl;rfl;rfl;(assumption))|(apply bI;(case hj|hb|hN => rfl);all_goals (intro hg;have hq := hg;(try simp only [cH] at hq);(try (exfalso;omega)))))|(apply aT;rfl;rfl;rfl;rfl)|(apply aC;rfl;rfl)|(first|(apply bT;rfl;(assumption);rfl;rfl)|(apply bH;rfl;(assumption);rfl;rfl))|(apply cK;(case hx|hi => rfl);(case hm => (omega));(case hml => (rfl));(case hα | hf|hg => infer_instance);(case hN => rfl))|(first|(apply o8;rfl;rfl;rfl;rfl;infer_instance;rfl;(rfl);assumption;omega;(decide);(decide);rfl;rfl)|(apply m9;rfl;rfl;(rfl);(apply pZ <;> (first|assumption|omega));rfl;rfl))|(apply bF;rfl;rfl;rfl)|(apply aF;kernel_rfl)|(apply cC;rfl;(exact (rfl:_=some [_, _]));(exact (rfl:_=[_, _]));rfl)|(apply bE;rfl;rfl)|(apply a8;rfl;rfl;rfl)|((apply bC (t := _));(case hze|hsm|hl => rfl);(case hfl => (exact (rfl:_=some [_, _, _, _, _, _])));(case hM|hN => rfl))|(apply bX;rfl;rfl;rfl;(exact (rfl:_=some [_, _, _, _, _]));rfl;rfl)|(apply aW;rfl;rfl;rfl;rfl;rfl;(case hl => (first|decide|(simp;done)));(exact (rfl:_=[_, _]))))|(apply aM;first|apply aH|apply aB|(apply b0;kernel_rfl)|(apply b8;rfl;(rfl))|(apply aP;rfl;all_goals intro hc;have hq:=hc;(try simp only [cH] at hq);try exfalso;omega)|apply aR|apply aQ)|with_reducible apply aA|with_reducible apply bD)
 ·have h9 := hsz (c5 bs p (ys.length : Int)).toNat
  refine aO rfl ?_
  exact bW (q, p + 1 + 1) ⟨by dsimp only;omega, by dsimp only;omega, by dsimp only;omega⟩ rfl ⟨.inr rfl, trivial⟩
 ·have h9 := Ih bs (d := 2) (by omega) (iD bs (p + 1 + 1) [5, 4, 7, 3, 8]) (p + 1 + 1 + 1)
  have h10 := xO bs (d := 2) (by omega) (iD bs (p + 1 + 1) [5, 4, 7, 3, 8]) (p + 1 + 1 + 1)
  refine aO rfl ?_
  exact bW ((⟨[1, 2, 2, 3, 4, 4], (eV bs 2 (iD bs (p + 1 + 1) [5, 4, 7, 3, 8]) (p + 1 + 1 + 1)).1⟩ : Prg), (eV bs 2 (iD bs (p + 1 + 1) [5, 4, 7, 3, 8]) (p + 1 + 1 + 1)).2) ⟨by dsimp only;omega, by show 6 ≤ 620;decide, by dsimp only;omega⟩ rfl ⟨.inr rfl, trivial⟩
 ·have h9 := hsz (c5 bs p (ys.length : Int)).toNat
  refine aO rfl ?_
  exact bW (q, p + 1 + 1) ⟨by dsimp only;omega, by dsimp only;omega, by dsimp only;omega⟩ rfl ⟨.inr rfl, trivial⟩
theorem sG {bs : List UInt8} {N : Nat} {Q : Exit → AS → Prop} {all : Array Oper} {rest : List Oper} {tsl : List (Nat × AV)} {hsl : List (Nat × Option (List AV))} {nidl : Nat} {z0 : Lo} {md : Md} {d : Nat} {ty : TypeId} {pos : String} {af : Array Edge} {tys : Array TypeId} {x0 : Operand} (ha0 : ev (lk tsl) x0 = some (sl cU bs)) (hmc : MC Tryz.prog 79 [sl cU bs] [] 0 (fun _ : Unit => True) (fun _ => .optr 0 0) (fun _ => [(0, some (e5 (bs.take 2000) 0))])) (hM : Nat.ble (nidl + 1) eX = true) (hN : Nat.blt d N = true) {md' : Md} [hmd : MdA md (gJ [x0] ++ []) (List.map Sum.inr (List.map Prod.fst ([(nidl, some (e5 (bs.take 2000) 0))] : List (Nat × Option (List AV)))) ++ [.inl d]) md'] (kk : RW Tryz.prog N all Q md' rest ⟨(d, .optr nidl 0) :: tsl, iJ hsl [(nidl, some (e5 (bs.take 2000) 0))], nidl + 1, z0⟩) : RW Tryz.prog N all Q md (⟨some d, .call ⟨.value (.func 79), #[x0], tys⟩, ty, pos, af, none⟩ :: rest) ⟨tsl, hsl, nidl, z0⟩ := by
 refine cJ [] 1 [(nidl, some (e5 (bs.take 2000) 0))] hmc (avs := [sl cU bs]) ?_ rfl ?_ rfl ?_ (by simpa using hM) ?_ ?_ ?_ hN (md' := md') (hmd := hmd) kk
 ·show evL (lk tsl) [x0] = _
  simp only [evL, ha0]
 ·exact trivial
 ·(repeat' (exact RnL.purI inferInstance))
 ·(repeat' (exact RnV.optr rfl))
 ·simp [dJ]
 ·(repeat' (first|exact trivial|(refine And.intro ⟨0, _, rfl, rfl, ?_⟩ ?_)|exact RnL.purI inferInstance))
theorem wG (bs : List UInt8) (hb : bs.length ≤ 1048576) : MC Tryz.prog 79 [sl cU bs] [] 0 (fun _ : Unit => True) (fun _ => .optr 0 0) (fun _ => [(0, some (e5 (bs.take 2000) 0))]) := JO bs hb
theorem DH (p : Prg) (hv : cZ p = false) (hl : p.types.length ≤ 1000000) (hs : b9 p.body ≤ 1000000) : PC Tryz.prog 32 [dM p] (fun r => r = sl oD []) := by
 (refine aS Tryz.func32 rfl (by simp [Tryz.ntmps32]) ?_; rw [Tryz.ntmps32])
 repeat' (first|(apply aL;first|((with_reducible apply aI (k := 62));(case ha => rfl);(case h => exact (by have := kR p hl hs;rw [if_neg (by simp [hv])] at this;exact this));(case hp => (exact Pur.pf));(case hN => rfl))|(apply aE;rfl;rfl)|(apply aV;rfl;rfl;(exact (rfl:_=[_, _]));rfl;rfl;rfl)|(apply aC;rfl;rfl)|(apply aF;kernel_rfl)|(apply cG;rfl;rfl)|(apply bQ;rfl;rfl;rfl;rfl)|(apply a8;rfl;rfl;rfl))|(apply aM;first|apply aH|apply aB|(apply b8;rfl;(rfl))|apply aQ)|with_reducible apply aA|with_reducible apply bD)
 (refine cE (Le.nilImm (d := 2) rfl) ?_; refine aO rfl ?_)
 exact ⟨rfl, rfl⟩
theorem qD (p : Prg) (L : List Iss) (hl : p.types.length ≤ 1000000) (hs : b9 p.body ≤ 1000000) (hC : PC Tryz.prog 32 [dM p] (fun r => r = sl oD L)) : PC Tryz.prog 15 [dM p] (fun r => r = bv (cZ p && L.isEmpty)) := by
 (refine aS Tryz.func15 rfl (by simp [Tryz.ntmps15]) ?_; rw [Tryz.ntmps15])
 repeat' (first|(apply aL;first|((with_reducible apply aI (k := 32));(case ha => rfl);(case h => exact hC);(case hp => (exact Pur.pf));(case hN => rfl))|(apply aE;rfl;rfl)|(apply aV;rfl;rfl;(exact (rfl:_=[_, _]));rfl;rfl;rfl)|(first|(apply a6;rfl;rfl;rfl;(assumption))|(apply a7;rfl;rfl;rfl;(assumption))|(apply bI;(case hj|hb|hN => rfl);all_goals (intro hg;have hq := hg;(try simp only [cH] at hq);(try (exfalso;omega)))))|(apply aT;rfl;rfl;rfl;rfl)|(apply aC;rfl;rfl)|(first|(apply bT;rfl;(assumption);rfl;rfl)|(apply bH;rfl;(assumption);rfl;rfl))|((with_reducible apply aI (k := 25));(case ha => rfl);(case h => (apply l5 <;> (first|assumption|omega)));(case hp => (exact Pur.pf));(case hN => rfl))|(apply bF;rfl;rfl;rfl)|(apply aF;kernel_rfl)|(apply bQ;rfl;rfl;rfl;rfl))|(apply aM;first|apply aH|apply aB|apply aQ)|with_reducible apply aA)
 all_goals refine aO rfl ⟨?_, rfl⟩
 all_goals simp only [bV]
 ·rw [show cZ p = true by assumption]
  cases L with
  | nil => rfl
  | cons a b => simp;omega
 ·rw [show cZ p = false by assumption]; rfl
theorem BR (p : Prg) (xs : List Int) (hl : p.types.length ≤ 1000000) (hs : b9 p.body ≤ 1000000) (hx : xs.length ≤ 10) : PC Tryz.prog 62 [dM p, sl cI xs] (fun r => r = if cZ p = true ∧ (∀ j, j < xs.length → 0 ≤ xs[j]! ∧ xs[j]! < (cX p).length) then .tup [aG p.types p.body (cX p), bv true] else .tup [.v (.pointer none), bv false]) := by
 have hpl := pF p
 have hnl := k9 p.body
 (refine aS Tryz.func62 rfl (by simp [Tryz.ntmps62]) ?_; rw [Tryz.ntmps62])
 repeat' (first|(apply aL;first|(apply aE;rfl;rfl)|(apply aV;rfl;rfl;(exact (rfl:_=[_, _]));rfl;rfl;rfl)|(apply aC;rfl;rfl)|(first|((with_reducible apply aI (k := 25));(case ha => rfl);(case h => (apply l5 <;> (first|assumption|omega)));(case hp => (exact Pur.pf));(case hN => rfl))|((with_reducible apply aI (k := 96));(case ha => rfl);(case h => (apply Ad <;> (assumption)));(case hp => (exact Pur.pf));(case hN => rfl)))|(apply bF;rfl;rfl;rfl)|(apply aF;kernel_rfl)|(apply cC;rfl;(exact (rfl:_=some [_, _, _]));(exact (rfl:_=[_, _, _]));rfl)|(apply cG;rfl;rfl)|(apply bQ;rfl;rfl;rfl;rfl))|(apply aM;first|apply aH|apply aB|(apply b0;kernel_rfl)|(apply aP;rfl;all_goals intro hc;have hq:=hc;(try simp only [cH] at hq);try exfalso;omega)|apply aK|apply aR|apply aQ)|with_reducible apply aA|with_reducible apply bD)
 ·refine aO rfl ⟨?_, (by (rfl))⟩
  rw [if_neg (by simp [hq])]; rfl
 ·refine bB (σ := Nat) [6, 17, 18] [(6, _), (17, _), (18, _)] [1] [(1, some _)] (fun k => [(19, iv (k : Int))]) (fun k => []) (fun k => k ≤ xs.length ∧ ∀ j, j < k → 0 ≤ xs[j]! ∧ xs[j]! < (cX p).length) (fun k => xs.length - k) (0) ⟨by omega, by omega⟩ rfl rfl (by repeat' (first | exact trivial | refine And.intro rfl ?_)) (by repeat' (exact trivial)) ?_
  rintro k ⟨hk, hall⟩
  repeat' (first|(apply aL;first|(apply aE;rfl;rfl)|(apply aN;rfl;rfl;rfl;rfl)|(apply aD;rfl;rfl;rfl)|(first|(apply bS;rfl;rfl;omega;rfl)|(apply fU;rfl;rfl;omega;rfl)|(apply aT;rfl;rfl;rfl;rfl))|(apply aC;rfl;rfl)|(apply aZ;(case hx|hi => rfl);(case hm => (omega));(case hml => (rfl));(case hα | hf|hg => infer_instance);(case hN => rfl))|((with_reducible apply aI (k := 84));(case ha => rfl);(case h => (apply eA <;> (fail)));(case hp => (rfl));(case hN => rfl))|(apply bF;rfl;rfl;rfl)|(apply aF;kernel_rfl)|(apply cG;rfl;rfl)|(apply bZ;rfl;rfl;rfl))|(apply aM;first|apply aH|apply aB|(apply aP;rfl;all_goals intro hc;have hq:=hc;(try simp only [cH] at hq);try exfalso;omega)|apply aK|apply aR|apply bJ|apply aQ)|with_reducible apply aA|with_reducible apply bD|with_reducible apply bO|with_reducible apply aX|with_reducible apply cL|with_reducible apply bK)
  ·refine aO rfl ⟨?_, (by (rfl))⟩
   rw [if_neg (fun h => by have := h.2 k (by omega);omega)]; rfl
  ·(apply dK (k + 1); focus (refine Le.ren [(1, 1)] rfl (by decide) ?_ ?_ <;> repeat' (first | exact trivial | refine And.intro ⟨_, rfl, ?_⟩ ?_ | refine And.intro ⟨_, _, rfl, rfl, ?_⟩ ?_ | exact Or.inr rfl | refine Or.inl ⟨?_, (by first | rfl | exact aY _ _)⟩ | refine Or.inr (All2.cons ?_ ?_) | refine All2.cons ?_ ?_ | exact All2.nil | rfl)))
   ·exact ⟨by omega, fun j hj => by
     by_cases e : j = k
     ·subst e;omega
     ·exact hall j (by omega)⟩
   ·omega
  ·refine cE (Le.frzP (d := 4) (i := 1) rfl rfl) ?_
   refine aO rfl ⟨?_, (by show (AV.tup [aG p.types p.body (cX p), bv true]).pur = true;exact PurV.pf)⟩
   rw [if_pos ⟨by assumption, fun j hj => hall j (by omega)⟩]; rfl
def Mr (p : Prg) (i : Int) : Prop := cZ p = true ∧ 0 ≤ i ∧ i < (cX p).length
theorem Dw (p : Prg) (i : Int) (hl : p.types.length ≤ 1000000) (hs : b9 p.body ≤ 1000000) (h : Mr p i) : PC Tryz.prog 62 [dM p, .imm 1 [iv i]] (fun r => r = .tup [aG p.types p.body (cX p), bv true]) := by
 have := BR p [i] hl hs (by simp)
 rw [if_pos ⟨h.1, fun j hj => by obtain rfl : j = 0 := by simpa using hj
                                 exact h.2⟩] at this
 exact this
theorem Lc (L : List Int) (n : Int) (hl : L.length ≤ 1000000) : PC Tryz.prog 29 [sl cI L, iv n] (fun r => r = bv (decide (n ∈ L))) := by
 (refine aS Tryz.func29 rfl (by simp [Tryz.ntmps29]) ?_; rw [Tryz.ntmps29])
 repeat' (first|(apply aL;first|(apply aC;rfl;rfl)|(apply aF;kernel_rfl))|(apply aM;first|apply aH|apply aB|apply aK)|with_reducible apply aA)
 refine bB (σ := Nat) [0, 1] [(0, _), (1, _)] [] [] (fun k => [(5, iv (k : Int))]) (fun k => []) (fun k => k ≤ L.length ∧ ∀ j, j < k → L[j]! ≠ n) (fun k => L.length - k) (0) ⟨by omega, by omega⟩ rfl rfl (by repeat' (first|exact trivial|refine And.intro rfl ?_)) (by repeat' (exact trivial)) ?_
 rintro k ⟨hk, hall⟩
 repeat' (first|(apply aL;first|(apply aE;rfl;rfl)|(apply aN;rfl;rfl;rfl;rfl)|(first|(apply bS;rfl;rfl;omega;rfl)|(apply aT;rfl;rfl;rfl;rfl))|(apply aC;rfl;rfl)|(apply aZ;(case hx|hi => rfl);(case hm => (omega));(case hml => (rfl));(case hα | hf|hg => infer_instance);(case hN => rfl))|(apply bF;rfl;rfl;rfl)|(apply aF;kernel_rfl))|(apply aM;first|apply aH|apply aB|(apply aP;rfl;all_goals intro hc;have hq:=hc;(try simp only [cH] at hq);try exfalso;omega)|apply aK|apply aR|apply bJ|apply aQ)|with_reducible apply aA|with_reducible apply bD|with_reducible apply bO|with_reducible apply aX|with_reducible apply cL|with_reducible apply bK)
 ·refine aO rfl ⟨?_, rfl⟩
  simp only [bV]
  rw [decide_eq_true (by have h := cO L k (by omega);rw [hq] at h;exact h)]
 ·(apply dK (k + 1); focus (refine Le.ren [] rfl (by decide) ?_ ?_ <;> repeat' (first | exact trivial | refine And.intro ⟨_, rfl, ?_⟩ ?_ | refine Or.inl ⟨?_, (by first | rfl | exact aY _ _)⟩ | rfl)))
  ·exact ⟨by omega, fun j hj => by
    by_cases e : j = k
    ·subst e;exact hq
    ·exact hall j (by omega)⟩
  ·omega
 ·refine aO rfl ⟨?_, rfl⟩
  simp only [bV]
  rw [decide_eq_false (fun h => by
   obtain ⟨j, hj, e⟩ := List.getElem_of_mem h
   exact hall j (by omega) (by rw [cT _ _ hj]; exact e))]
theorem IU {m : Nat} {N : Nat} {Q : Exit → AS → Prop} {all : Array Oper} {rest : List Oper} {tsl : List (Nat × AV)} {hsl : List (Nat × Option (List AV))} {nidl : Nat} {z0 : Lo} {md : Md} {d : Nat} {ty : TypeId} {pos : String} {af : Array Edge} {tys : Array TypeId} {x0 x1 : Operand} (ha0 : ev (lk tsl) x0 = some (.v (.slice none 0 0))) (ha1 : ev (lk tsl) x1 = some (iv (m : Int))) (hmc : MC Tryz.prog 123 [.v (.slice none 0 0), iv (m : Int)] [] 0 (fun _ : Unit => True) (fun _ => .own 0 0 0 1) (fun _ => [(0, some (aJ cI ([] : List Int)))])) (hM : Nat.ble (nidl + 1) eX = true) (hN : Nat.blt d N = true) {md' : Md} [hmd : MdA md (gJ [x0, x1] ++ []) (List.map Sum.inr (List.map Prod.fst ([(nidl, some (aJ cI ([] : List Int)))] : List (Nat × Option (List AV)))) ++ [.inl d]) md'] (kk : RW Tryz.prog N all Q md' rest ⟨(d, .own nidl 0 0 1) :: tsl, iJ hsl [(nidl, some (aJ cI ([] : List Int)))], nidl + 1, z0⟩) : RW Tryz.prog N all Q md (⟨some d, .call ⟨.value (.func 123), #[x0, x1], tys⟩, ty, pos, af, none⟩ :: rest) ⟨tsl, hsl, nidl, z0⟩ := by
 refine cJ [] 1 [(nidl, some (aJ cI ([] : List Int)))] hmc (avs := [.v (.slice none 0 0), iv (m : Int)]) ?_ rfl ?_ rfl ?_ (by simpa using hM) ?_ ?_ ?_ hN (md' := md') (hmd := hmd) kk
 ·show evL (lk tsl) [x0, x1] = _
  simp only [evL, ha0, ha1]
 ·exact trivial
 ·(repeat' (exact RnL.purI inferInstance))
 ·(repeat' (exact RnV.own rfl))
 ·simp [dJ]
 ·(repeat' (first|exact trivial|(refine And.intro ⟨0, _, rfl, rfl, ?_⟩ ?_)|exact RnL.purI inferInstance))
theorem KU (m : Nat) (hm : m ≤ 1000000) : MC Tryz.prog 123 [.v (.slice none 0 0), iv (m : Int)] [] 0 (fun _ : Unit => True) (fun _ => .own 0 0 0 1) (fun _ => [(0, some (aJ cI ([] : List Int)))]) := by
 (refine cA Tryz.func123 rfl (by simp [Tryz.ntmps123]) ?_; rw [Tryz.ntmps123])
 repeat' (first|(apply aL;first|(apply Du;rfl;rfl)|((apply EZ (m := m) (k' := .i64));(case htn => kernel_rfl);(case hx|hy => rfl);(case hzm => omega);(case hze|he0 => rfl);(case h0 => omega);(case hsm => omega);(case hmx => omega);(case hM|hN => rfl))|((apply BB (h := 0));(case hx|hy => rfl);(case hz => (rfl));(case hb => omega);(case hN => rfl))|(apply zQ;rfl;rfl;rfl)|(apply aE;rfl;rfl)|(first|(apply fU;rfl;rfl;omega;rfl)|(apply aT;rfl;rfl;rfl;rfl))|(apply aC;rfl;rfl)|(apply bF;rfl;rfl;rfl)|(apply aF;kernel_rfl))|(apply aM;first|apply aH|apply aB|(apply cF;rfl;(rfl))|(apply aP;rfl;all_goals intro hc;have hq:=hc;(try simp only [cH] at hq);try exfalso;omega)|apply aR|apply aQ)|with_reducible apply aA)
 ·
  refine cE (Le.cut (i := 0) 0 rfl) ?_
  refine aO rfl ?_
  refine bW () trivial ?_ ⟨.inr (Eq.trans (b := some _) rfl ?_), trivial⟩
  all_goals first|rfl|exact congrArg some (List.take_zero)
 ·refine cE (Le.nilOwn (d := 4) 1 ?_ ?_) ?_
  ·rfl
  ·decide
  refine aO rfl ?_
  refine bW () trivial ?_ ⟨.inr (Eq.trans (b := some _) rfl ?_), trivial⟩
  all_goals rfl
theorem FJ (Ls : List (List Int)) (hn : Ls.length ≤ 1000) (hl : Ls.flatten.length ≤ 1000000) : PC Tryz.prog 77 [sl Mq Ls] (fun r => r = sl cI Ls.flatten) := by
 have hpre : ∀ k, (Ls.take k).flatten.length ≤ 1000000 := fun k => by
  have : Ls.flatten = (Ls.take k).flatten ++ (Ls.drop k).flatten := by rw [← List.flatten_append, List.take_append_drop]
  rw [this, List.length_append] at hl;omega
 have hst : ∀ k, k < Ls.length → (Ls.take (k + 1)).flatten = (Ls.take k).flatten ++ Ls[k]! := fun k hk => by rw [c7 _ _ hk]; simp
 (refine aS Tryz.func77 rfl (by simp [Tryz.ntmps77]) ?_; rw [Tryz.ntmps77])
 repeat' (first|(apply aL;first|(apply aE;rfl;rfl)|(apply aC;rfl;rfl)|(apply bF;rfl;rfl;rfl)|(apply aF;kernel_rfl))|(apply aM;first|apply aH|apply aB|apply aK)|with_reducible apply aA)
 refine bB (σ := Nat × Int) [0, 9, 10] [(0, _), (9, _), (10, _)] [] [] (fun k => [(11, iv (k.1 : Int)), (3, iv k.2)]) (fun k => []) (fun k => k.1 ≤ Ls.length ∧ k.2 = ((Ls.take k.1).flatten.length : Int)) (fun k => Ls.length - k.1) (0, 0) ⟨by omega, rfl⟩ rfl rfl (by repeat' (first|exact trivial|refine And.intro rfl ?_)) (by repeat' (exact trivial)) ?_
 rintro ⟨k, z⟩ ⟨hk, hz⟩
 dsimp only at hk hz
 try dsimp only
 have hz2 := hpre k
 by_cases hkn : k < Ls.length
 ·have h1 := hst k hkn
  have h2 := hpre (k + 1)
  rw [h1, List.length_append] at h2
  repeat' (first|(apply aL;first|(apply aE;rfl;rfl)|(apply aN;rfl;rfl;rfl;rfl)|(first|(apply bS;rfl;rfl;omega;rfl)|(apply aT;rfl;rfl;rfl;rfl))|(apply aC;rfl;rfl)|(apply aZ;(case hx|hi => rfl);(case hm => (assumption));(case hml => (rfl));(case hα | hf|hg => infer_instance);(case hN => rfl))|(apply bF;rfl;rfl;rfl)|(apply aF;kernel_rfl))|(apply aM;first|apply aH|apply aB|(apply aP;rfl;all_goals intro hc;have hq:=hc;(try simp only [cH] at hq);try exfalso;omega)|apply aK|apply aR)|with_reducible apply aA|with_reducible apply aX)
  (apply dK (k + 1, _);focus (refine Le.ren [] rfl (by decide) ?_ ?_ <;> repeat' (first|exact trivial|refine And.intro ⟨_, rfl, ?_⟩ ?_|refine Or.inl ⟨?_, (by first|rfl|exact aY _ _)⟩|rfl)))
  ·exact ⟨by dsimp only;omega, by dsimp only;rw [h1, List.length_append]; omega⟩
  ·dsimp only;omega
 ·obtain ⟨z', rfl⟩ : ∃ z' : Nat, z = (z' : Int) := ⟨_, hz⟩
  repeat' (first|(apply aL;first|(apply aE;rfl;rfl)|(apply aT;rfl;rfl;rfl;rfl)|(apply aC;rfl;rfl)|(apply IU;rfl;rfl;(apply KU <;> (omega));rfl;rfl)|(apply bF;rfl;rfl;rfl)|(apply aF;kernel_rfl))|(apply aM;first|apply aH|apply aB|(apply aP;rfl;all_goals intro hc;have hq:=hc;(try simp only [cH] at hq);try exfalso;omega)|apply aK|apply bJ)|with_reducible apply aA|with_reducible apply bO|with_reducible apply bK)
  refine bB (σ := Nat × List Int × Nat) [25, 26] [(25, _), (26, _)] [] [] (fun k => [(27, iv (k.1 : Int)), (6, .own 0 0 k.2.2 1)]) (fun k => [(0, some (aJ cI k.2.1))]) (fun k => k.1 ≤ Ls.length ∧ k.2.1 = (Ls.take k.1).flatten ∧ k.2.2 = k.2.1.length) (fun k => Ls.length - k.1) (0, [], 0) ⟨by omega, rfl, rfl⟩ rfl rfl (by repeat' (first|exact trivial|refine And.intro rfl ?_)) (by repeat' (first|exact trivial|refine And.intro (.inr rfl) ?_)) ?_
  rintro ⟨k, u, m⟩ ⟨hk, hu, hm⟩
  dsimp only at hk hu hm
  try dsimp only
  have hu2 := hpre k
  rw [← hu] at hu2
  by_cases hkn : k < Ls.length
  ·have h1 := hst k hkn
   have h2 := hpre (k + 1)
   rw [h1, List.length_append, ← hu] at h2
   repeat' (first|(apply aL;first|(apply aE;rfl;rfl)|(apply aN;rfl;rfl;rfl;rfl)|(first|(apply bS;rfl;rfl;omega;rfl)|(apply aT;rfl;rfl;rfl;rfl))|(apply aC;rfl;rfl)|(apply aZ;(case hx|hi => rfl);(case hm => (assumption));(case hml => (rfl));(case hα | hf|hg => infer_instance);(case hN => rfl))|(apply bY;rfl;rfl;rfl;rfl;rfl;(rw [aU]; omega);(exact iN (by (rfl)));omega;omega;(exact Gv (by (assumption)));rfl;rfl)|(apply aF;kernel_rfl))|(apply aM;first|apply aH|apply aB|(apply aP;rfl;all_goals intro hc;have hq:=hc;(try simp only [cH] at hq);try exfalso;omega)|apply aK|apply aR)|with_reducible apply aA|with_reducible apply aX)
   (apply dK (k + 1, _, _);focus (refine Le.ren [(0, 1)] rfl (by decide) ?_ ?_ <;> repeat' (first|exact trivial|refine And.intro ⟨_, rfl, ?_⟩ ?_|refine And.intro ⟨_, _, rfl, rfl, ?_⟩ ?_|exact Or.inr rfl|refine Or.inl ⟨?_, (by first|rfl|exact aY _ _)⟩|rfl)))
   ·exact ⟨by dsimp only;omega, by dsimp only;rw [h1, hu], by dsimp only;rw [List.length_append]; omega⟩
   ·dsimp only;omega
  ·repeat' (first | (apply aL; first | (apply aE;rfl;rfl) | (apply aT;rfl;rfl;rfl;rfl) | (apply aC;rfl;rfl) | (apply aF;kernel_rfl)) | (apply aM; first | apply aH | apply aB | (apply aP;rfl;all_goals intro hc;have hq:=hc;(try simp only [cH] at hq);try exfalso;omega) | apply bJ | apply aQ) | with_reducible apply aA | with_reducible apply bO | with_reducible apply bK)
   refine cE (Le.frzD (d := 2) (i := 0) rfl rfl) ?_
   refine aO rfl ⟨?_, (by (exact aY _ _))⟩
   have e : u = Ls.flatten := by rw [hu, show k = Ls.length by omega, List.take_length]
   rw [← e]
   simp only [bV, sl, hm]
def u1 (Af : List Nat) (i loan : Int) (v : Int) : Bool := (fJ Af i.toNat)[v.toNat]!.testBit loan.toNat
theorem J6 (ts : List Int) (bd : List AL.Stmt) (pts : List Pnt) (a : Nat) (F0 : List Bool) (w : WG ts pts) (ha : a < pts.length) (hF0 : GoodR pts a F0) : PC Tryz.prog 64 [aG ts bd pts, iv (a : Int)] (fun r => r = sl cB F0) := by
 have hpl := w.pl
 have hnl := w.nl a ha
 have hst := RI.start w.nx ha
 have hmu := Eg hpl hnl
 (refine aS Tryz.func64 rfl (by simp [Tryz.ntmps64]) ?_; rw [Tryz.ntmps64])
 repeat' (first|(apply aL;first|(apply aE;rfl;rfl)|(apply aN;rfl;rfl;rfl;rfl)|(apply aD;rfl;rfl;rfl)|(apply aC;rfl;rfl)|(apply aZ;(case hx|hi => rfl);(case hm => (assumption));(case hml => (rfl));(case hα | hf|hg => infer_instance);(case hN => rfl))|(apply bF;rfl;rfl;rfl)|(apply aF;kernel_rfl)|(apply bZ;rfl;rfl;rfl)|(apply eC;rfl;rfl;rfl;omega;omega;(exact HQ);rfl;rfl))|(apply aM;first|apply aH|apply aB|apply aK)|with_reducible apply aA)
 refine bB (σ := List Bool × List Int) [0, 5] [(0, _), (5, _)] [] [] (fun s => [(6, sl cI s.2)]) (fun s => [(0, some (aJ cB s.1))]) (fun s => RI pts a s.1 s.2 ∧ Cd s.1 s.2 ≤ 200) (fun s => Cd s.1 s.2) (List.replicate pts.length false, pts[a]!.next) ⟨hst, hmu⟩ rfl rfl (by repeat' (first|exact trivial|refine And.intro rfl ?_)) (by repeat' (first|exact trivial|refine And.intro (.inr rfl) ?_)) ?_
 rintro ⟨F, T⟩ ⟨I, hm⟩
 dsimp only at I hm
 try dsimp only
 have hFl := I.len
 have hTl := Jf F T
 by_cases hT : 0 < T.length
 ·obtain ⟨k, T1, rfl⟩ : ∃ k T1, T = k :: T1 := by cases T with | nil => simp at hT | cons k T1 => exact ⟨k, T1, rfl⟩
  have hcl : (k :: T1).length = T1.length + 1 := rfl
  have hk := I.tw k List.mem_cons_self
  have hnk := w.nl k.toNat (by omega)
  have hmc := Gc F T1 k
  have et : List.take ((k :: T1).length - Int.toNat 1) (List.drop (Int.toNat 1) (k :: T1)) = T1 := by
   show List.take T1.length T1 = T1
   exact List.take_length
  have e0 : (k :: T1)[Int.toNat 0]! = k := rfl
  have hk1 : 0 ≤ k ∧ k < pts.length := ⟨hk.1, hk.2.1⟩
  by_cases hv : F[k.toNat]! = true
  ·repeat' (first | (apply aL; first | (with_reducible apply cS (d := 30)) | (apply aE;rfl;rfl) | (apply aN;rfl;rfl;rfl;rfl) | (apply aT;rfl;rfl;rfl;rfl) | (apply aC;rfl;rfl) | (apply aZ; (case hx | hi => rfl); (case hm => (assumption)); (case hml => (rfl)); (case hα | hf | hg => infer_instance); (case hN => rfl)) | (apply bF;rfl;rfl;rfl) | (apply aF;kernel_rfl) | (apply gV;rfl;infer_instance;rfl;rfl;(omega);rfl)) | (apply aM; first | apply aH | apply aB | (apply aP;rfl;all_goals intro hc;have hq:=hc;(try simp only [cH] at hq);try exfalso;omega) | apply aK | apply aR) | with_reducible apply aA)
   simp only [Int.toNat_one, List.drop_one, List.tail_cons, List.getElem!_cons_zero, List.length_cons, Nat.add_sub_cancel, List.take_length]
   refine dP ?_
   repeat' (first|(apply aL;first|(apply aE;rfl;rfl)|(first|(apply eG;(case hx|hH => rfl);(case hf|hg|hα => infer_instance);(case hk => omega);(case hc|hN => rfl))|(apply aN;rfl;rfl;rfl;rfl))|(apply aD;rfl;rfl;rfl)|(first|(apply cK;(case hx|hi => rfl);(case hm => (assumption));(case hml => (rfl));(case hα | hf|hg => infer_instance);(case hN => rfl))|(apply cR;rfl;rfl;(assumption);rfl))|(apply aF;kernel_rfl)|(apply cG;rfl;rfl)|(apply bZ;rfl;rfl;rfl)|((apply bC (t := _));(case hze|hsm|hl => rfl);(case hfl => (exact (rfl:_=some [_, _])));(case hM|hN => rfl))|(apply aW;rfl;rfl;rfl;rfl;rfl;(rw [aU]; simp only [fY] <;> omega);(exact Da (by (omega)))))|(apply aM;first|apply aH|apply aB|(apply aP;rfl;all_goals intro hc;have hq:=hc;(try simp only [cH] at hq);try exfalso;omega)|apply aR)|with_reducible apply aA|with_reducible apply aX)
   all_goals try exact absurd (hv.symm.trans (by assumption : F[k.toNat]! = false)) (by decide)
   (apply dK (F, _);focus (refine Le.ren [(0, 0)] rfl (by decide) ?_ ?_ <;> repeat' (first|exact trivial|refine And.intro ⟨_, rfl, ?_⟩ ?_|refine And.intro ⟨_, _, rfl, rfl, ?_⟩ ?_|exact Or.inr rfl|refine Or.inl ⟨?_, (by first|exact aY _ _|exact Pur.pf)⟩|rfl)))
   ·exact ⟨I.vis (fun x hx => List.mem_cons.1 hx) (fun x hx => List.mem_cons_of_mem _ hx) hv, by dsimp only;omega⟩
   ·dsimp only;omega
  ·rw [Bool.not_eq_true] at hv
   have hco := FJ [T1, pts[k.toNat]!.next] (by simp) (by
    show (T1 ++ (pts[k.toNat]!.next ++ [])).length ≤ 1000000
    rw [List.length_append, List.append_nil]; omega)
   have hms := Ic (F := F) (k := k.toNat) (by omega) hv T1
   have hma := Iv (F.set k.toNat true) T1 pts[k.toNat]!.next
   have ef : [T1, pts[k.toNat]!.next].flatten = T1 ++ pts[k.toNat]!.next := by
    show T1 ++ (pts[k.toNat]!.next ++ []) = _
    rw [List.append_nil]
   rw [ef] at hco
   repeat' (first|(apply aL;first|(with_reducible apply cS (d := 30))|(apply aE;rfl;rfl)|(apply aN;rfl;rfl;rfl;rfl)|(apply aT;rfl;rfl;rfl;rfl)|(apply aC;rfl;rfl)|(apply aZ;(case hx|hi => rfl);(case hm => (assumption));(case hml => (rfl));(case hα | hf|hg => infer_instance);(case hN => rfl))|(apply bF;rfl;rfl;rfl)|(apply aF;kernel_rfl)|(apply gV;rfl;infer_instance;rfl;rfl;(omega);rfl))|(apply aM;first|apply aH|apply aB|(apply aP;rfl;all_goals intro hc;have hq:=hc;(try simp only [cH] at hq);try exfalso;omega)|apply aK|apply aR)|with_reducible apply aA)
   simp only [Int.toNat_one, List.drop_one, List.tail_cons, List.getElem!_cons_zero, List.length_cons, Nat.add_sub_cancel, List.take_length]
   refine dP ?_
   repeat' (first|(apply aL;first|((with_reducible apply aI (k := 77));(case ha => rfl);(case h => exact hco);(case hp => (exact Pur.pf));(case hN => rfl))|(apply aE;rfl;rfl)|(first|(apply eG;(case hx|hH => rfl);(case hf|hg|hα => infer_instance);(case hk => omega);(case hc|hN => rfl))|(apply aN;rfl;rfl;rfl;rfl))|(apply aD;rfl;rfl;rfl)|(apply aC;rfl;rfl)|(first|(apply cK;(case hx|hi => rfl);(case hm => (assumption));(case hml => (rfl));(case hα | hf|hg => infer_instance);(case hN => rfl))|(apply cR;rfl;rfl;(assumption);rfl))|(apply aF;kernel_rfl)|(apply cG;rfl;rfl)|(apply bZ;rfl;rfl;rfl)|((apply bC (t := _));(case hze|hsm|hl => rfl);(case hfl => (exact (rfl:_=some [_, _])));(case hM|hN => rfl))|(apply aW;rfl;rfl;rfl;rfl;rfl;(rw [aU]; simp only [fY] <;> omega);(exact Da (by (omega)))))|(apply aM;first|apply aH|apply aB|(apply aP;rfl;all_goals intro hc;have hq:=hc;(try simp only [cH] at hq);try exfalso;omega)|apply aR)|with_reducible apply aA|with_reducible apply aX)
   all_goals try exact absurd (hv.symm.trans (by assumption : F[k.toNat]! = true)) (by decide)
   (apply dK (F.set k.toNat true, _);focus (refine Le.ren [(0, 0)] rfl (by decide) ?_ ?_ <;> repeat' (first|exact trivial|refine And.intro ⟨_, rfl, ?_⟩ ?_|refine And.intro ⟨_, _, rfl, rfl, ?_⟩ ?_|exact Or.inr rfl|refine Or.inl ⟨?_, (by first|exact aY _ _|exact Pur.pf)⟩|rfl)))
   ·exact ⟨I.new w.nx List.mem_cons_self (fun x hx => by
     rcases List.mem_cons.1 hx with h|h
     ·exact .inl h
     ·exact .inr (List.mem_append_left _ h)) (fun x hx => List.mem_append_right _ hx) (fun x hx => by
     rcases List.mem_append.1 hx with h|h
     ·exact .inl (List.mem_cons_of_mem _ h)
     ·exact .inr h), by dsimp only;omega⟩
   ·dsimp only;omega
 ·obtain rfl : T = [] := List.eq_nil_of_length_eq_zero (by omega)
  have hT2 : ([] : List Int).length = 0 := rfl
  repeat' (first|(apply aL;first|(apply aE;rfl;rfl)|(apply aT;rfl;rfl;rfl;rfl)|(apply aC;rfl;rfl)|(apply bF;rfl;rfl;rfl)|(apply aF;kernel_rfl))|(apply aM;first|apply aH|apply aB|(apply cF;rfl;(rfl))|apply bJ|apply aQ)|with_reducible apply aA|with_reducible apply bO|with_reducible apply bK)
  refine cE (Le.frzD (d := 4) (i := 0) rfl rfl) ?_
  refine aO rfl ⟨?_, (by (exact aY _ _))⟩
  have e := I.fin hF0 w.nx
  rw [← e]
  simp only [bV, sl, hFl]
theorem tZ {stk : List Tg} {id : Int} (h : 0 ≤ dE stk id) : ∀ k < (dE stk id).toNat, stk[k]!.id ≠ id := by
 unfold dE at h ⊢
 split
 ·rename_i k hk
  obtain ⟨h1, h2, h3⟩ := List.findIdx?_eq_some_iff_getElem.1 hk
  rw [Int.toNat_natCast]
  intro j hj he
  have := h3 j hj
  rw [cT _ _ (by omega)] at he
  simp [he] at this
 ·rename_i hk;rw [hk] at h;dsimp only at h;omega
theorem w4 {stk : List Tg} {id : Int} {i : Nat} (hi : i < stk.length) (h : stk[i]!.id = id) (hn : ∀ k < i, stk[k]!.id ≠ id) : dE stk id = (i : Int) := by
 have hb := eZ stk id
 by_cases hneg : dE stk id < 0
 ·have := nA.1 hneg stk[i]! (by rw [cT _ _ hi]; exact List.getElem_mem hi)
  exact absurd h this
 ·have ha := CA (stk := stk) (id := id) (by omega)
  have hf := tZ (stk := stk) (id := id) (by omega)
  rcases Nat.lt_trichotomy (dE stk id).toNat i with h1|h1|h1
  ·exact absurd ha (hn _ h1)
  ·omega
  ·exact absurd h (hf _ h1)
theorem CI (stk : List Tg) (id : Int) (hl : stk.length ≤ 1000000) : PC Tryz.prog 237 [sl dN stk, iv id] (fun r => r = iv (dE stk id)) := by
 (refine aS Tryz.func237 rfl (by simp [Tryz.ntmps237]) ?_; rw [Tryz.ntmps237])
 repeat' (first|(apply aL;first|(apply aC;rfl;rfl)|(apply aF;kernel_rfl))|(apply aM;first|apply aH|apply aB|apply aK)|with_reducible apply aA)
 refine bB (σ := Nat) [0, 1] [(0, _), (1, _)] [] [] (fun i => [(5, iv (i : Int))]) (fun i => []) (fun i => i ≤ stk.length ∧ (∀ k < i, stk[k]!.id ≠ id)) (fun i => stk.length - i) (0) ⟨Nat.zero_le _, fun k hk => absurd hk (by omega)⟩ rfl rfl (by repeat' (first|exact trivial|refine And.intro rfl ?_)) (by repeat' (exact trivial)) ?_
 rintro i ⟨hi, hn⟩
 try dsimp only at hi hn
 repeat' (first|(apply aL;first|(apply aE;rfl;rfl)|(apply aN;rfl;rfl;rfl;rfl)|(apply aD;rfl;rfl;rfl)|(first|(apply bS;rfl;rfl;omega;rfl)|(apply aT;rfl;rfl;rfl;rfl))|(apply aC;rfl;rfl)|(apply aZ;(case hx|hi => rfl);(case hm => (omega));(case hml => (rfl));(case hα | hf|hg => infer_instance);(case hN => rfl))|(apply bF;rfl;rfl;rfl)|(apply aF;kernel_rfl))|(apply aM;first|apply aH|apply aB|(apply aP;rfl;all_goals intro hc;have hq:=hc;(try simp only [cH] at hq);try exfalso;omega)|apply aK|apply aR|apply bJ|apply aQ)|with_reducible apply aA|with_reducible apply bD|with_reducible apply bO|with_reducible apply aX|with_reducible apply cL|with_reducible apply bK)
 ·refine aO rfl ⟨?_, rfl⟩
  simp only [bV]; rw [w4 (i := i) (by omega) (by assumption) hn]
 ·(apply dK (i + 1); focus (refine Le.ren [] rfl (by decide) ?_ ?_ <;> repeat' (first | exact trivial | refine And.intro ⟨_, rfl, ?_⟩ ?_ | refine Or.inl ⟨?_, (by first | rfl | exact aY _ _)⟩ | rfl)))
  ·refine ⟨by omega, fun k hk => ?_⟩
   rcases Nat.lt_or_ge k i with h|h
   ·exact hn k h
   ·rw [show k = i by omega]; assumption
  ·show stk.length - (i + 1) < stk.length - i;omega
 ·refine aO rfl ⟨?_, rfl⟩
  have := nA (stk := stk) (id := id)
  have hb := eZ stk id
  have : dE stk id < 0 := this.2 (fun t ht => by obtain ⟨k, hk, rfl⟩ := List.getElem_of_mem ht;have := hn k (by omega);rwa [cT _ _ hk] at this)
  simp only [bV]; rw [show dE stk id = -1 by omega]
theorem pC (c : Cl) : OkC c ↔ (0 ≤ c.val ∧ c.val ≤ 9) ∧ (1 ≤ c.next ∧ c.next ≤ 1000) ∧ (1 ≤ c.stk.length ∧ c.stk.length ≤ 200) ∧ c.stk[0]!.uq = true ∧ (∀ k < c.stk.length, 0 ≤ c.stk[k]!.id ∧ c.stk[k]!.id < c.next ∧ dE c.stk c.stk[k]!.id = (k : Int)) := by
 constructor
 ·intro h
  refine ⟨h.v, h.n, h.l, h.u, fun k hk => ?_⟩
  have h1 := h.i c.stk[k]! (by rw [cT _ _ hk]; exact List.getElem_mem hk)
  refine ⟨h1.1, h1.2, w4 hk rfl (fun j hj he => ?_)⟩
  have hd := List.nodup_iff_pairwise_ne.1 h.d |> List.pairwise_iff_getElem.1
  have := hd j k (by rw [List.length_map]; omega) (by rw [List.length_map]; omega) hj
  simp only [List.getElem_map] at this
  rw [cT _ _ (by omega), cT _ _ hk] at he
  exact this he
 ·rintro ⟨h1, h2, h3, h4, h5⟩
  refine ⟨h1, h2, h3, h4, fun t ht => ?_, ?_⟩
  ·obtain ⟨k, hk, rfl⟩ := List.getElem_of_mem ht
   have := h5 k hk;rw [cT _ _ hk] at this
   exact ⟨this.1, this.2.1⟩
  ·rw [List.nodup_iff_pairwise_ne, List.pairwise_iff_getElem]
   intro i j hi hj hij he
   rw [List.length_map] at hi hj
   simp only [List.getElem_map] at he
   have a := (h5 i hi).2.2
   have b := (h5 j hj).2.2
   rw [cT _ _ hi] at a;rw [cT _ _ hj, ← he, a] at b
   omega
instance (c : Cl) : Decidable (OkC c) := decidable_of_iff _ (pC c).symm
theorem dX (m : List Cl) : OkM m ↔ m.length ≤ 200 ∧ ∀ k < m.length, OkC m[k]! := by
 constructor
 ·exact fun h => ⟨h.l, fun k hk => h.c _ (by rw [cT _ _ hk]; exact List.getElem_mem hk)⟩
 ·exact fun h => ⟨h.1, fun c hc => by obtain ⟨k, hk, rfl⟩ := List.getElem_of_mem hc;have := h.2 k hk;rwa [cT _ _ hk] at this⟩
instance (m : List Cl) : Decidable (OkM m) := decidable_of_iff _ (dX m).symm
theorem FX (c : Cl) : PC Tryz.prog 235 [MB c] (fun r => r = bv (decide (OkC c))) := by
 (refine aS Tryz.func235 rfl (by simp [Tryz.ntmps235]) ?_; rw [Tryz.ntmps235])
 repeat' (first|(apply aL;first|(apply aE;rfl;rfl)|(apply aN;rfl;rfl;rfl;rfl)|(apply aD;rfl;rfl;rfl)|(first|(apply a6;rfl;rfl;rfl;(assumption))|(apply a7;rfl;rfl;rfl;(first|rfl|assumption))|(apply bI;(case hj|hb|hN => rfl);all_goals (intro hg;have hq := hg;(try simp only [cH] at hq);(try (exfalso;omega)))))|(apply aT;rfl;rfl;rfl;rfl)|(apply aC;rfl;rfl)|(first|(apply bT;rfl;(first|rfl|assumption);rfl;rfl)|(apply bH;rfl;(assumption);rfl;rfl))|(apply cK;(case hx|hi => rfl);(case hm => (omega));(case hml => (rfl));(case hα | hf|hg => infer_instance);(case hN => rfl))|(apply bF;rfl;rfl;rfl)|(apply aF;kernel_rfl)|(apply cG;rfl;rfl)|(apply bQ;rfl;rfl;rfl;rfl))|(apply aM;first|apply aH|apply aB|(apply b8;rfl;(rfl))|(apply aP;rfl;all_goals intro hc;have hq:=hc;(try simp only [cH] at hq);try exfalso;omega)|apply aK|apply aR|apply aQ)|with_reducible apply aA|with_reducible apply bD)
 all_goals try (refine aO rfl ⟨?_, rfl⟩; simp only [bV]; rw [show decide (OkC c) = false from decide_eq_false (fun h => by
  obtain ⟨h1, h2, h3, h4, h5⟩ := (pC c).1 h
  first|omega|exact absurd (by assumption : c.stk[Int.toNat 0]!.uq = false) (by rw [show Int.toNat 0 = 0 from rfl, h4]; decide))]; done)
 have hu : c.stk[0]!.uq = true := by assumption
 refine bB (σ := Nat) [1] [(1, _)] [0] [(0, some _)] (fun i => [(3, iv (i : Int))]) (fun i => []) (fun i => i ≤ c.stk.length ∧ (∀ k < i, 0 ≤ c.stk[k]!.id ∧ c.stk[k]!.id < c.next ∧ dE c.stk c.stk[k]!.id = (k : Int))) (fun i => c.stk.length - i) (0) ⟨Nat.zero_le _, fun k hk => absurd hk (by omega)⟩ rfl rfl (by repeat' (first|exact trivial|refine And.intro rfl ?_)) (by repeat' (exact trivial)) ?_
 rintro i ⟨hi, hn⟩
 try dsimp only at hi hn
 repeat' (first|(apply aL;first|((with_reducible apply aI (k := 237));(case ha => rfl);(case h => exact CI c.stk c.stk[i]!.id (by omega));(case hp => (exact Pur.pf));(case hN => rfl))|(apply aE;rfl;rfl)|(apply aN;rfl;rfl;rfl;rfl)|(apply aD;rfl;rfl;rfl)|(first|(apply a6;rfl;rfl;rfl;(assumption))|(apply a7;rfl;rfl;rfl;(first|rfl|assumption))|(apply bI;(case hj|hb|hN => rfl);all_goals (intro hg;have hq := hg;(try simp only [cH] at hq);(try (exfalso;omega)))))|(first|(apply bS;rfl;rfl;omega;rfl)|(apply aT;rfl;rfl;rfl;rfl))|(apply aC;rfl;rfl)|(first|(apply bT;rfl;(first|rfl|assumption);rfl;rfl)|(apply bH;rfl;(assumption);rfl;rfl))|(apply aZ;(case hx|hi => rfl);(case hm => (omega));(case hml => (rfl));(case hα | hf|hg => infer_instance);(case hN => rfl))|(apply bF;rfl;rfl;rfl)|(apply aF;kernel_rfl))|(apply aM;first|apply aH|apply aB|(apply b0;kernel_rfl)|(apply b8;rfl;(rfl))|(apply aP;rfl;all_goals intro hc;have hq:=hc;(try simp only [cH] at hq);try exfalso;omega)|apply aK|apply aR|apply bJ|apply aQ)|with_reducible apply aA|with_reducible apply bD|with_reducible apply bO|with_reducible apply aX|with_reducible apply cL|with_reducible apply bK)
 all_goals try (refine aO rfl ⟨?_, rfl⟩; simp only [bV]; rw [show decide (OkC c) = false from decide_eq_false (fun h => by
  obtain ⟨h1, h2, h3, h4, h5⟩ := (pC c).1 h
  exact absurd (h5 i (by omega)) (by omega))]; done)
 ·(apply dK (i + 1); focus (refine Le.ren [(0, 0)] rfl (by decide) ?_ ?_ <;> repeat' (first | exact trivial | refine And.intro ⟨_, rfl, ?_⟩ ?_ | refine And.intro ⟨_, _, rfl, rfl, ?_⟩ ?_ | exact Or.inr rfl | refine Or.inl ⟨?_, (by first | rfl | exact Pur.pf)⟩ | rfl)))
  ·refine ⟨by omega, fun k hk => ?_⟩
   rcases Nat.lt_or_ge k i with h|h
   ·exact hn k h
   ·rw [show k = i by omega]; exact ⟨by assumption, by assumption, by assumption⟩
  ·show c.stk.length - (i + 1) < c.stk.length - i;omega
 ·refine aO rfl ⟨?_, rfl⟩
  simp only [bV]
  rw [show decide (OkC c) = true from decide_eq_true ((pC c).2 ⟨by omega, by omega, by omega, hu, fun k hk => hn k (by omega)⟩)]
theorem nJ (m : List Cl) (hl : m.length ≤ 1000000) : PC Tryz.prog 191 [sl c8 m] (fun r => r = bv (decide (OkM m))) := by
 (refine aS Tryz.func191 rfl (by simp [Tryz.ntmps191]) ?_; rw [Tryz.ntmps191])
 repeat' (first|(apply aL;first|(apply aC;rfl;rfl)|(apply aF;kernel_rfl))|(apply aM;first|apply aH|apply aB|apply aK)|with_reducible apply aA)
 refine bB (σ := Nat) [0] [(0, _)] [] [] (fun i => [(3, iv (i : Int))]) (fun i => []) (fun i => i ≤ m.length ∧ i ≤ 201 ∧ (∀ k < i, OkC m[k]!)) (fun i => m.length - i) (0) ⟨Nat.zero_le _, by omega, fun k hk => absurd hk (by omega)⟩ rfl rfl (by repeat' (first|exact trivial|refine And.intro rfl ?_)) (by repeat' (exact trivial)) ?_
 rintro i ⟨hi, hi2, hn⟩
 try dsimp only at hi hi2 hn
 repeat' (first|(apply aL;first|((with_reducible apply aI (k := 235));(case ha => rfl);(case h => exact FX m[i]!);(case hp => (exact Pur.pf));(case hN => rfl))|(apply aE;rfl;rfl)|(apply aV;rfl;rfl;(exact (rfl:_=[_, _, _, _]));rfl;rfl;rfl)|(first|(apply a6;rfl;rfl;rfl;(assumption))|(apply a7;rfl;rfl;rfl;(assumption))|(apply bI;(case hj|hb|hN => rfl);all_goals (intro hg;have hq := hg;(try simp only [cH] at hq);(try (exfalso;omega)))))|(first|(apply bS;rfl;rfl;omega;rfl)|(apply aT;rfl;rfl;rfl;rfl))|(apply aC;rfl;rfl)|(first|(apply bT;rfl;(assumption);rfl;rfl)|(apply bH;rfl;(assumption);rfl;rfl))|(apply aZ;(case hx|hi => rfl);(case hm => (omega));(case hml => (rfl));(case hα | hf|hg => infer_instance);(case hN => rfl))|(apply bF;rfl;rfl;rfl)|(apply aF;kernel_rfl)|(apply cG;rfl;rfl))|(apply aM;first|apply aH|apply aB|(apply cF;rfl;(rfl))|(apply aP;rfl;all_goals intro hc;have hq:=hc;(try simp only [cH] at hq);try exfalso;omega)|apply aK|apply aR|apply bJ|apply aQ)|with_reducible apply aA|with_reducible apply bD|with_reducible apply bO|with_reducible apply aX|with_reducible apply cL|with_reducible apply bK)
 ·refine aO rfl ⟨?_, rfl⟩
  simp only [bV]; rw [show decide (OkM m) = false from decide_eq_false (fun h => by
   have h1 := ((dX m).1 h).2 i (by omega)
   have h2 : ¬ OkC m[i]! := by assumption
   exact h2 h1)]
 ·(apply dK (i + 1); focus (refine Le.ren [] rfl (by decide) ?_ ?_ <;> repeat' (first | exact trivial | refine And.intro ⟨_, rfl, ?_⟩ ?_ | refine Or.inl ⟨?_, (by first | rfl | exact aY _ _)⟩ | rfl)))
  ·refine ⟨by omega, by omega, fun k hk => ?_⟩
   rcases Nat.lt_or_ge k i with h|h
   ·exact hn k h
   ·rw [show k = i by omega]; assumption
  ·show m.length - (i + 1) < m.length - i;omega
 ·refine aO rfl ⟨?_, rfl⟩
  simp only [bV]
  rw [show decide ((m.length : Int) ≤ 200) = false from decide_eq_false (by omega), show decide (OkM m) = false from decide_eq_false (fun h => by have := h.l;omega)]
 ·refine aO rfl ⟨?_, rfl⟩
  simp only [bV]
  rw [show decide ((m.length : Int) ≤ 200) = decide (OkM m) from decide_eq_decide.2 ⟨fun h => (dX m).2 ⟨by omega, fun k hk => hn k (by omega)⟩, fun h => by have := h.l;omega⟩]
theorem kX (k : Int) : PC Tryz.prog 142 [iv k] (fun r => r = iv (if k = 1 then 3 else if k = 0 then 0 else 4)) := by
 (refine aS Tryz.func142 rfl (by simp [Tryz.ntmps142]) ?_; rw [Tryz.ntmps142])
 repeat' (first|(apply aL;first|(apply aE;rfl;rfl)|(apply aT;rfl;rfl;rfl;rfl)|(apply aC;rfl;rfl)|(apply aF;kernel_rfl))|(apply aM;first|apply aH|apply aB|(apply aP;rfl;all_goals intro hc;have hq:=hc;(try simp only [cH] at hq);try exfalso;omega)|apply aK|apply aR|apply aQ)|with_reducible apply aA|with_reducible apply bD|with_reducible apply aX|with_reducible apply cL|((with_reducible apply aO);case hr => rfl))
 all_goals (refine ⟨?_, rfl⟩; simp only [bV, AV.v.injEq, Value.bool.injEq, Value.int.injEq, true_and])
 all_goals grind
theorem rM (k : Int) : PC Tryz.prog 133 [iv k] (fun r => r = iv (e9 k)) := by
 (refine aS Tryz.func133 rfl (by simp [Tryz.ntmps133]) ?_; rw [Tryz.ntmps133])
 repeat' (first|(apply aL;first|(apply aE;rfl;rfl)|(apply aT;rfl;rfl;rfl;rfl)|(apply aC;rfl;rfl)|(apply aF;kernel_rfl))|(apply aM;first|apply aH|apply aB|(apply aP;rfl;all_goals intro hc;have hq:=hc;(try simp only [cH] at hq);try exfalso;omega)|apply aR|apply aQ)|with_reducible apply aA|with_reducible apply bD|((with_reducible apply aO);case hr => rfl))
 all_goals (refine ⟨?_, rfl⟩; simp only [bV, AV.v.injEq, Value.bool.injEq, Value.int.injEq, true_and])
 all_goals grind [e9]
theorem uJ {xs : List Tg} {m : Nat} {a : Int} {b : Bool} (hm : m = xs.length) : ((aJ dN xs).drop 0).take (m * 2) ++ [iv a, bv b] = aJ dN (xs ++ [⟨a, b⟩]) := gE hm rfl
theorem G3 {xs : List Cl} {m : Nat} {a c : Int} {b : Bool} {s : List Tg} (hm : m = xs.length) : ((aJ c8 xs).drop 0).take (m * 4) ++ [iv a, bv b, iv c, sl dN s] = aJ c8 (xs ++ [⟨a, b, c, s⟩]) := gE hm rfl
theorem kA {α : Type} [Inhabited α] (l : List α) {k i : Nat} (h : k ≤ i) (hi : i < l.length) : (l.drop k).take (i + 1 - k) = (l.drop k).take (i - k) ++ [l[i]!] := by
 have hl : i - k < (l.drop k).length := by rw [List.length_drop]; omega
 have h1 := c7 (l.drop k) (i - k) hl
 rw [show i + 1 - k = i - k + 1 by omega, h1]
 congr 2
 rw [cT (l.drop k) (i - k) hl, List.getElem_drop, cT l i hi]
 congr 1;omega
theorem pN {α} {p : α → Bool} {a : α} (h : p a = true) : [a].filter p = [a] := by simp [h]
theorem mR {α} {p : α → Bool} {a : α} (h : p a = false) : [a].filter p = [] := by simp [h]
theorem F7 (stk : List Tg) (k : Nat) (hk : k < stk.length) (hl : stk.length ≤ 1000000) : PC Tryz.prog 196 [sl dN stk, iv (k : Int)] (fun r => r = sl dN (fO stk k false)) := by
 have e1 : List.take (((k : Int) + 1).toNat - 0) (List.drop 0 stk) = stk.take (k + 1) := by rw [List.drop_zero]; congr 1
 have e2 : (stk.take (k + 1)).length = k + 1 := by rw [List.length_take]; omega
 (refine aS Tryz.func196 rfl (by simp [Tryz.ntmps196]) ?_; rw [Tryz.ntmps196])
 repeat' (first|(apply aL;first|(with_reducible apply cS (d := 12))|(apply aE;rfl;rfl)|(apply bS;rfl;rfl;omega;rfl)|(apply aC;rfl;rfl)|(apply aF;kernel_rfl)|(apply gV;rfl;infer_instance;rfl;rfl;(omega);rfl)|(apply bX;rfl;rfl;rfl;(rfl);rfl;rfl))|(apply aM;first|apply aH|apply aB)|with_reducible apply aA)
 refine dP ?_
 rw [e1]
 repeat' (first|(apply aL;first|(apply aE;rfl;rfl)|(apply bS;rfl;rfl;omega;rfl)|(apply aC;rfl;rfl)|(apply bY;rfl;rfl;rfl;rfl;rfl;(case hl => (simp [aU]; done));(exact iN (by (rfl)));omega;omega;(exact e7 (by (omega)));rfl;rfl)|(apply aF;kernel_rfl))|(apply aM;first|apply aH|apply aB|apply aK)|with_reducible apply aA)
 refine bB (σ := Nat × List Tg × Nat) [0] [(0, _)] [] [] (fun s => [(6, iv (s.1 : Int)), (5, .own 1 0 s.2.2 2)]) (fun s => [(1, some (aJ dN s.2.1))]) (fun s => k + 1 ≤ s.1 ∧ s.1 ≤ stk.length ∧ s.2.1 = stk.take (k + 1) ++ ((stk.drop (k + 1)).take (s.1 - (k + 1))).filter (fun t => !t.uq) ∧ s.2.2 = s.2.1.length ∧ s.2.2 ≤ s.1) (fun s => stk.length - s.1) (k + 1, stk.take (k + 1), 0 + (stk.take (k + 1)).length) ⟨Nat.le_refl _, by dsimp only;omega, by simp, by dsimp only;omega, by dsimp only;omega⟩ rfl rfl (by repeat' (first|exact trivial|refine And.intro rfl ?_)) (by repeat' (first|exact trivial|refine And.intro (.inr rfl) ?_)) ?_
 rintro ⟨i, xs, n⟩ ⟨hki, hi, hxs, hn, hni⟩
 dsimp only at hki hi hxs hn hni ⊢
 repeat' (first|(apply aL;first|(apply aE;rfl;rfl)|(first|(apply aN;rfl;rfl;rfl;rfl)|(apply aV;rfl;rfl;(exact (rfl:_=[_, _]));rfl;rfl;rfl))|(apply aD;rfl;rfl;rfl)|(first|(apply bS;rfl;rfl;omega;rfl)|(apply aT;rfl;rfl;rfl;rfl))|(apply aC;rfl;rfl)|(apply aZ;(case hx|hi => rfl);(case hm => (omega));(case hml => (rfl));(case hα | hf|hg => infer_instance);(case hN => rfl))|(first|(apply bF;rfl;rfl;rfl)|(apply bY;rfl;rfl;rfl;rfl;rfl;(rw [aU]; omega);(rfl);omega;omega;(exact uJ (by (assumption)));rfl;rfl))|(apply aF;kernel_rfl)|(apply cG;rfl;rfl)|((apply bC (t := _));(case hze|hsm|hl => rfl);(case hfl => (exact (rfl:_=some [_, _])));(case hM|hN => rfl)))|(apply aM;first|apply aH|apply aB|(apply aP;rfl;all_goals intro hc;have hq:=hc;(try simp only [cH] at hq);try exfalso;omega)|apply aK|apply aR|apply bJ|apply aQ)|with_reducible apply aA|with_reducible apply bO|with_reducible apply aX|with_reducible apply bK)
 ·(apply dK (i + 1, _, _); focus (refine Le.ren [(1, 3)] rfl (by decide) ?_ ?_ <;> repeat' (first | exact trivial | refine And.intro ⟨_, rfl, ?_⟩ ?_ | refine And.intro ⟨_, _, rfl, rfl, ?_⟩ ?_ | exact Or.inr rfl | refine Or.inl ⟨?_, (by first | rfl | exact aY _ _)⟩ | rfl)))
  ·refine ⟨by dsimp only; omega, by dsimp only; omega, ?_, by dsimp only; rw [List.length_append, hn]; rfl, by dsimp only; omega⟩
   dsimp only
   rw [hxs, kA stk hki (by omega), List.filter_append, List.append_assoc]
   congr 2
   have hu : stk[i]!.uq = false := by assumption
   rw [pN (by rw [hu]; rfl)]
  ·dsimp only;omega
 ·(apply dK (i + 1, xs, n); focus (refine Le.ren [(1, 1)] rfl (by decide) ?_ ?_ <;> repeat' (first | exact trivial | refine And.intro ⟨_, rfl, ?_⟩ ?_ | refine And.intro ⟨_, _, rfl, rfl, ?_⟩ ?_ | exact Or.inr rfl | refine Or.inl ⟨?_, (by first | rfl | exact aY _ _)⟩ | rfl)))
  ·refine ⟨by dsimp only; omega, by dsimp only; omega, ?_, hn, by dsimp only; omega⟩
   dsimp only
   have hu : stk[i]!.uq = true := by assumption
   rw [hxs, kA stk hki (by omega), List.filter_append, mR (by rw [hu]; rfl), List.append_nil]
  ·dsimp only;omega
 ·(refine cE (Le.frzD (d := 4) (i := 1) rfl rfl) ?_; refine aO rfl ?_)
  refine ⟨?_, (by (exact aY _ _))⟩
  have hie : i = stk.length := by omega
  simp only [bV, sl]
  have hd : (stk.drop (k + 1)).take (stk.length - (k + 1)) = stk.drop (k + 1) := List.take_of_length_le (by rw [List.length_drop]; exact Nat.le_refl _)
  rw [hn, hxs, hie, hd]
  rfl
theorem E1 (m : List Cl) (hm : OkM m) : PC Tryz.prog 192 [sl c8 m] (fun r => r = sl c8 m) := by
 have hml := hm.l
 (refine aS Tryz.func192 rfl (by simp [Tryz.ntmps192]) ?_; rw [Tryz.ntmps192])
 repeat' (first|(apply aL;first|(apply aC;rfl;rfl)|(apply aF;kernel_rfl)|(apply bX;rfl;rfl;rfl;(rfl);rfl;rfl))|(apply aM;first|apply aH|apply aB|apply aK)|with_reducible apply aA)
 refine bB (σ := Nat × List Cl) [0] [(0, _)] [] [] (fun k => [(4, iv (k.1 : Int)), (3, .own 0 0 k.1 4)]) (fun k => [(0, some (aJ c8 k.2))]) (fun k => k.1 ≤ m.length ∧ k.2 = m.take k.1) (fun k => m.length - k.1) (0, []) ⟨by omega, rfl⟩ rfl rfl (by repeat' (first|exact trivial|refine And.intro rfl ?_)) (by repeat' (first|exact trivial|refine And.intro (.inr rfl) ?_)) ?_
 rintro ⟨i, xs⟩ ⟨hi, hxs⟩
 dsimp only at hi hxs ⊢
 have hln : xs.length = i := by rw [hxs, List.length_take]; exact Nat.min_eq_left hi
 have hst : i < m.length → m[i]!.stk.length ≤ 200 := fun h => (((dX m).1 hm).2 i h).l.2
 repeat' (first|(apply aL;first|(with_reducible apply cS (d := 21))|(apply aE;rfl;rfl)|(first|(apply aN;rfl;rfl;rfl;rfl)|(apply aV;rfl;rfl;(exact (rfl:_=[_, _, _, _]));rfl;rfl;rfl))|(apply aD;rfl;rfl;rfl)|(apply aT;rfl;rfl;rfl;rfl)|(apply aC;rfl;rfl)|(apply aZ;(case hx|hi => rfl);(case hm => (omega));(case hml => (rfl));(case hα | hf|hg => infer_instance);(case hN => rfl))|(first|(apply bF;rfl;rfl;rfl)|(apply bY;rfl;rfl;rfl;rfl;rfl;(case hl => (simp [aU]; done));(exact iN (by (rfl)));omega;omega;(exact e7 (by (omega)));rfl;rfl))|(apply aF;kernel_rfl)|(apply bE;rfl;rfl)|(apply bX;rfl;rfl;rfl;(rfl);rfl;rfl)|(apply aW;rfl;rfl;rfl;rfl;rfl;(case hl => (simp;done));(exact (rfl:_=[_, _, _, _]))))|(apply aM;first|apply aH|apply aB|(apply aP;rfl;all_goals intro hc;have hq:=hc;(try simp only [cH] at hq);try exfalso;omega)|apply aK|apply aR|apply bJ|apply aQ)|with_reducible apply aA|with_reducible apply bO|with_reducible apply bK)
 ·refine dP (jH ?_ (Le.frzD (d := 20) (i := 3) rfl rfl))
  rw [Nat.zero_add m[i]!.stk.length]
  repeat' (first|(apply aL;first|(apply aE;rfl;rfl)|(apply aV;rfl;rfl;(exact (rfl:_=[_, _, _, _]));rfl;rfl;rfl)|(apply aD;rfl;rfl;rfl)|(apply bS;rfl;rfl;omega;rfl)|(apply aC;rfl;rfl)|(apply bY;rfl;rfl;rfl;rfl;rfl;(rw [aU]; omega);(rfl);omega;omega;(exact G3 (by (omega)));rfl;rfl)|(apply aF;kernel_rfl)|((apply bC (t := _));(case hze|hsm|hl => rfl);(case hfl => (exact (rfl:_=some [_, _, _, _])));(case hM|hN => rfl))|(apply aW;rfl;rfl;rfl;rfl;rfl;(case hl => (simp;done));(exact (rfl:_=[_, _, _, _]))))|(apply aM;(apply aB))|with_reducible apply aA|with_reducible apply aX)
  (apply dK (i + 1, _);focus (refine Le.ren [(0, 5)] rfl (by decide) ?_ ?_ <;> repeat' (first|exact trivial|refine And.intro ⟨_, rfl, ?_⟩ ?_|refine And.intro ⟨_, _, rfl, rfl, ?_⟩ ?_|exact Or.inr rfl|refine Or.inl ⟨?_, (by first|rfl|exact aY _ _)⟩|rfl)))
  ·exact ⟨by dsimp only;omega, by dsimp only;rw [hxs, c7 m i (by omega)]⟩
  ·dsimp only;omega
 ·(refine cE (Le.frzD (d := 2) (i := 0) rfl rfl) ?_; refine aO rfl ?_)
  refine ⟨?_, (by (exact aY _ _))⟩
  have hie : i = m.length := by omega
  simp only [bV, sl]
  rw [hxs, hie, List.take_length]
theorem Cr {m : List Cl} {x : Pt} {wr : Bool} (h : x.cell < 0 ∨ (m.length : Int) ≤ x.cell) : cM m x wr = 4 := by
 unfold cM;rw [if_pos (by omega)]
theorem GL {m : List Cl} {x : Pt} {wr : Bool} (h : 0 ≤ x.cell) (h2 : x.cell < m.length) (h3 : m[x.cell.toNat]!.alive = false) : cM m x wr = 1 := by
 unfold cM;rw [if_neg (by omega), if_pos h3]
theorem Gh {m : List Cl} {x : Pt} {wr : Bool} (h : 0 ≤ x.cell) (h2 : x.cell < m.length) (h3 : m[x.cell.toNat]!.alive = true) (h4 : dE m[x.cell.toNat]!.stk x.tag < 0) : cM m x wr = 2 := by
 unfold cM;rw [if_neg (by omega), if_neg (by rw [h3]; decide), if_pos h4]
theorem rC {m : List Cl} {x : Pt} (h : 0 ≤ x.cell) (h2 : x.cell < m.length) (h3 : m[x.cell.toNat]!.alive = true) (h4 : 0 ≤ dE m[x.cell.toNat]!.stk x.tag) : cM m x false = 0 := by
 unfold cM;rw [if_neg (by omega), if_neg (by rw [h3]; decide), if_neg (by omega), if_neg (by intro q;exact absurd q.1 (by decide))]
theorem yS {m : List Cl} {x : Pt} : cM m x true = if cM m x false = 0 then (if m[x.cell.toNat]!.stk[(dE m[x.cell.toNat]!.stk x.tag).toNat]!.uq = false then 3 else 0) else cM m x false := by
 unfold cM
 split
 ·rw [if_neg (by decide)]
 ·split
  ·rw [if_neg (by decide)]
  ·split
   ·rw [if_neg (by decide)]
   ·rw [if_neg (c := false = true ∧ _) (by intro q; exact absurd q.1 (by decide)), if_pos rfl]
    simp only [true_and]
theorem eT {m : List Cl} {x : Pt} {wr : Bool} (h : cM m x wr = 0) : 0 ≤ x.cell ∧ x.cell < m.length ∧ m[x.cell.toNat]!.alive = true ∧ 0 ≤ dE m[x.cell.toNat]!.stk x.tag ∧ (wr = true → m[x.cell.toNat]!.stk[(dE m[x.cell.toNat]!.stk x.tag).toNat]!.uq = true) := by
 unfold cM at h
 split at h
 ·omega
 ·split at h
  ·omega
  ·split at h
   ·omega
   ·split at h
    ·omega
    ·rename_i a b c d
     refine ⟨by omega, by omega, by simpa using b, by omega, fun hw => ?_⟩
     by_cases q : m[x.cell.toNat]!.stk[(dE m[x.cell.toNat]!.stk x.tag).toNat]!.uq = false
     ·exact absurd ⟨hw, q⟩ d
     ·simpa using q
theorem fW {m : List Cl} {N : Nat} {Q : Exit → AS → Prop} {all : Array Oper} {rest : List Oper} {tsl : List (Nat × AV)} {hsl : List (Nat × Option (List AV))} {nidl : Nat} {z0 : Lo} {md : Md} {d : Nat} {ty : TypeId} {pos : String} {af : Array Edge} {tys : Array TypeId} {x0 : Operand} (ha0 : ev (lk tsl) x0 = some (sl c8 m)) (hmc : MC Tryz.prog 192 [sl c8 m] [] 0 (fun _ : Unit => True) (fun _ => .own 0 0 m.length 4) (fun _ => [(0, some (aJ c8 m))])) (hM : Nat.ble (nidl + 1) eX = true) (hN : Nat.blt d N = true) {md' : Md} [hmd : MdA md (gJ [x0] ++ []) (List.map Sum.inr (List.map Prod.fst ([(nidl, some (aJ c8 m))] : List (Nat × Option (List AV)))) ++ [.inl d]) md'] (kk : RW Tryz.prog N all Q md' rest ⟨(d, .own nidl 0 m.length 4) :: tsl, iJ hsl [(nidl, some (aJ c8 m))], nidl + 1, z0⟩) : RW Tryz.prog N all Q md (⟨some d, .call ⟨.value (.func 192), #[x0], tys⟩, ty, pos, af, none⟩ :: rest) ⟨tsl, hsl, nidl, z0⟩ := by
 refine cJ [] 1 [(nidl, some (aJ c8 m))] hmc (avs := [sl c8 m]) ?_ rfl ?_ rfl ?_ (by simpa using hM) ?_ ?_ ?_ hN (md' := md') (hmd := hmd) kk
 ·show evL (lk tsl) [x0] = _
  simp only [evL, ha0]
 ·exact trivial
 ·(repeat' (exact RnL.purI inferInstance))
 ·(repeat' (exact RnV.own rfl))
 ·simp [dJ]
 ·(repeat' (first|exact trivial|(refine And.intro ⟨0, _, rfl, rfl, ?_⟩ ?_)|exact RnL.purI inferInstance))
theorem gW (m : List Cl) (hm : OkM m) : MC Tryz.prog 192 [sl c8 m] [] 0 (fun _ : Unit => True) (fun _ => .own 0 0 m.length 4) (fun _ => [(0, some (aJ c8 m))]) := by
 have hml := hm.l
 (refine cA Tryz.func192 rfl (by simp [Tryz.ntmps192]) ?_; rw [Tryz.ntmps192])
 repeat' (first|(apply aL;first|(apply aC;rfl;rfl)|(apply aF;kernel_rfl)|(apply bX;rfl;rfl;rfl;(rfl);rfl;rfl))|(apply aM;first|apply aH|apply aB|apply aK)|with_reducible apply aA)
 refine bB (σ := Nat × List Cl) [0] [(0, _)] [] [] (fun k => [(4, iv (k.1 : Int)), (3, .own 0 0 k.1 4)]) (fun k => [(0, some (aJ c8 k.2))]) (fun k => k.1 ≤ m.length ∧ k.2 = m.take k.1) (fun k => m.length - k.1) (0, []) ⟨by omega, rfl⟩ rfl rfl (by repeat' (first|exact trivial|refine And.intro rfl ?_)) (by repeat' (first|exact trivial|refine And.intro (.inr rfl) ?_)) ?_
 rintro ⟨i, xs⟩ ⟨hi, hxs⟩
 dsimp only at hi hxs ⊢
 have hln : xs.length = i := by rw [hxs, List.length_take]; exact Nat.min_eq_left hi
 have hst : i < m.length → m[i]!.stk.length ≤ 200 := fun h => (((dX m).1 hm).2 i h).l.2
 repeat' (first|(apply aL;first|(with_reducible apply cS (d := 21))|(apply aE;rfl;rfl)|(first|(apply aN;rfl;rfl;rfl;rfl)|(apply aV;rfl;rfl;(exact (rfl:_=[_, _, _, _]));rfl;rfl;rfl))|(apply aD;rfl;rfl;rfl)|(apply aT;rfl;rfl;rfl;rfl)|(apply aC;rfl;rfl)|(apply aZ;(case hx|hi => rfl);(case hm => (omega));(case hml => (rfl));(case hα | hf|hg => infer_instance);(case hN => rfl))|(first|(apply bF;rfl;rfl;rfl)|(apply bY;rfl;rfl;rfl;rfl;rfl;(case hl => (simp [aU]; done));(exact iN (by (rfl)));omega;omega;(exact e7 (by (omega)));rfl;rfl))|(apply aF;kernel_rfl)|(apply bE;rfl;rfl)|(apply bX;rfl;rfl;rfl;(rfl);rfl;rfl)|(apply aW;rfl;rfl;rfl;rfl;rfl;(case hl => (simp;done));(exact (rfl:_=[_, _, _, _]))))|(apply aM;first|apply aH|apply aB|(apply aP;rfl;all_goals intro hc;have hq:=hc;(try simp only [cH] at hq);try exfalso;omega)|apply aK|apply aR|apply bJ|apply aQ)|with_reducible apply aA|with_reducible apply bO|with_reducible apply bK)
 ·refine dP (jH ?_ (Le.frzD (d := 20) (i := 3) rfl rfl))
  rw [Nat.zero_add m[i]!.stk.length]
  repeat' (first|(apply aL;first|(apply aE;rfl;rfl)|(apply aV;rfl;rfl;(exact (rfl:_=[_, _, _, _]));rfl;rfl;rfl)|(apply aD;rfl;rfl;rfl)|(apply bS;rfl;rfl;omega;rfl)|(apply aC;rfl;rfl)|(apply bY;rfl;rfl;rfl;rfl;rfl;(rw [aU]; omega);(rfl);omega;omega;(exact G3 (by (omega)));rfl;rfl)|(apply aF;kernel_rfl)|((apply bC (t := _));(case hze|hsm|hl => rfl);(case hfl => (exact (rfl:_=some [_, _, _, _])));(case hM|hN => rfl))|(apply aW;rfl;rfl;rfl;rfl;rfl;(case hl => (simp;done));(exact (rfl:_=[_, _, _, _]))))|(apply aM;(apply aB))|with_reducible apply aA|with_reducible apply aX)
  (apply dK (i + 1, _);focus (refine Le.ren [(0, 5)] rfl (by decide) ?_ ?_ <;> repeat' (first|exact trivial|refine And.intro ⟨_, rfl, ?_⟩ ?_|refine And.intro ⟨_, _, rfl, rfl, ?_⟩ ?_|exact Or.inr rfl|refine Or.inl ⟨?_, (by first|rfl|exact aY _ _)⟩|rfl)))
  ·exact ⟨by dsimp only;omega, by dsimp only;rw [hxs, c7 m i (by omega)]⟩
  ·dsimp only;omega
 ·have hie : i = m.length := by omega
  (refine aO rfl ?_; refine bW () trivial ?_ ⟨.inr (Eq.trans (b := some _) rfl ?_), trivial⟩)
  ·rw [hie]; rfl
  ·rw [hxs, hie, List.take_length]
theorem k6 (m : List Cl) (hm : OkM m) (x : Pt) : PC Tryz.prog 195 [sl c8 m, m3 x] (fun r => r = .tup [iv (if cM m x false = 0 then dE m[x.cell.toNat]!.stk x.tag else 0), iv (cM m x false)]) := by
 have hml := hm.l
 have hcv := nJ m (by omega)
 rw [decide_eq_true hm] at hcv
 have hst : 0 ≤ x.cell → x.cell < m.length → m[x.cell.toNat]!.stk.length ≤ 1000000 := fun h1 h2 => Nat.le_trans (((dX m).1 hm).2 x.cell.toNat (by omega)).l.2 (by decide)
 (refine aS Tryz.func195 rfl (by simp [Tryz.ntmps195]) ?_; rw [Tryz.ntmps195])
 repeat' (first|(apply aL;first|((with_reducible apply aI (k := 191));(case ha => rfl);(case h => exact hcv);(case hp => (exact Pur.pf));(case hN => rfl))|((with_reducible apply aI (k := 237));(case ha => rfl);(case h => exact CI m[x.cell.toNat]!.stk x.tag (hst (by assumption) (by assumption)));(case hp => (exact Pur.pf));(case hN => rfl))|(apply aE;rfl;rfl)|(apply aN;rfl;rfl;rfl;rfl)|(apply aD;rfl;rfl;rfl)|(first|(apply a6;rfl;rfl;rfl;(first|rfl|assumption))|(apply a7;rfl;rfl;rfl;(assumption))|(apply bI;(case hj|hb|hN => rfl);all_goals (intro hg;have hq := hg;(try simp only [cH] at hq);(try (exfalso;omega)))))|(apply aT;rfl;rfl;rfl;rfl)|(apply aC;rfl;rfl)|(first|(apply bT;rfl;(assumption);rfl;rfl)|(apply bH;rfl;(first|rfl|assumption);rfl;rfl))|(apply cK;(case hx|hi => rfl);(case hm => (omega));(case hml => (rfl));(case hα | hf|hg => infer_instance);(case hN => rfl))|(apply bF;rfl;rfl;rfl)|(apply aF;kernel_rfl)|(apply cG;rfl;rfl)|(apply bQ;rfl;rfl;rfl;rfl))|(apply aM;first|apply aH|apply aB|(apply b0;kernel_rfl)|(apply b8;rfl;(rfl))|(apply aP;rfl;all_goals intro hc;have hq:=hc;(try simp only [cH] at hq);try exfalso;omega)|apply aR|apply aQ)|with_reducible apply aA|with_reducible apply bD)
 all_goals (refine aO rfl ⟨?_, rfl⟩; simp only [bV])
 ·rw [Cr (by omega)]; rfl
 ·rw [GL (by assumption) (by assumption) (by assumption)]; rfl
 ·rw [Gh (by assumption) (by assumption) (by assumption) (by assumption)]; rfl
 ·rw [rC (by assumption) (by assumption) (by assumption) (by assumption)]; rfl
 ·rw [Cr (by omega)]; rfl
theorem BM {xs : List Cl} {k : Nat} {s : List Tg} (hk : k < xs.length) : iR (aJ c8 xs) (0 + k * 4 + 3) [sl dN s] = aJ c8 (xs.set k { xs[k]! with stk := s }) := fG hk (by simp) rfl
theorem JS {xs : List Cl} {k : Nat} {v : Int} (hk : k < xs.length) : iR (aJ c8 xs) (0 + k * 4 + 0) [iv v] = aJ c8 (xs.set k { xs[k]! with val := v }) := fG hk (by simp) rfl
theorem Kk {xs : List Cl} {k : Nat} {b : Bool} (hk : k < xs.length) : iR (aJ c8 xs) (0 + k * 4 + 1) [.v (.bool b)] = aJ c8 (xs.set k { xs[k]! with alive := b }) := fG hk (by simp) rfl
theorem fP {α : Type} {f : α → List AV} {xs : List α} {n : Nat} (h : n = xs.length) : AV.imm n (aJ f xs) = sl f xs := by subst h; rfl
theorem qA (m : List Cl) (hm : OkM m) (x : Pt) : PC Tryz.prog 148 [sl c8 m, m3 x] (fun r => r = .tup [sl c8 (dS m x false), iv (nH m x), iv (cM m x false)]) := by
 have hml := hm.l
 have hst : 0 ≤ x.cell → x.cell < m.length → m[x.cell.toNat]!.stk.length ≤ 1000000 := fun h1 h2 => Nat.le_trans (((dX m).1 hm).2 x.cell.toNat (by omega)).l.2 (by decide)
 by_cases hk : cM m x false = 0
 ·have hpl := k6 m hm x
  rw [if_pos hk, hk] at hpl
  obtain ⟨h1, h2, h3, h4, _⟩ := eT hk
  have hbd := eZ m[x.cell.toNat]!.stk x.tag
  have hrd := F7 m[x.cell.toNat]!.stk (dE m[x.cell.toNat]!.stk x.tag).toNat (by omega) (hst h1 h2)
  rw [Int.toNat_of_nonneg h4] at hrd
  (refine aS Tryz.func148 rfl (by simp [Tryz.ntmps148]) ?_; rw [Tryz.ntmps148])
  repeat' (first|(apply aL;first|(apply fW;rfl;exact gW m hm;rfl;rfl)|((with_reducible apply aI (k := 195));(case ha => rfl);(case h => exact hpl);(case hp => (exact Pur.pf));(case hN => rfl))|((with_reducible apply aI (k := 196));(case ha => rfl);(case h => exact hrd);(case hp => (exact Pur.pf));(case hN => rfl))|(apply aE;rfl;rfl)|(first|(apply aN;rfl;rfl;rfl;rfl)|(apply aV;rfl;rfl;(exact (rfl:_=[_, _]));rfl;rfl;rfl))|(apply aD;rfl;rfl;rfl)|(apply aT;rfl;rfl;rfl;rfl)|(apply aC;rfl;rfl)|(first|(apply cK;(case hx|hi => rfl);(case hm => (omega));(case hml => (rfl));(case hα | hf|hg => infer_instance);(case hN => rfl))|(apply cR;rfl;rfl;(omega);rfl))|(apply aF;kernel_rfl)|(apply bQ;rfl;rfl;rfl;rfl)|(apply a8;rfl;rfl;rfl)|(apply aW;rfl;rfl;rfl;rfl;rfl;(rw [aU]; simp only [fY] <;> omega);(exact BM (by (omega)))))|(apply aM;first|apply aH|apply aB|(apply b0;kernel_rfl)|(apply cF;rfl;(rfl))|apply aR|apply aQ)|with_reducible apply aA)
  (refine cE (Le.frzD (d := 4) (i := 1) rfl rfl) ?_; refine aO rfl ?_)
  refine ⟨?_, by (exact Pur.pf)⟩
  simp only [bV]
  rw [fP (by rw [List.length_set]), hk]
  unfold dS nH;rw [if_pos hk, if_pos hk]; rfl
 ·have hpl := k6 m hm x
  rw [if_neg hk] at hpl
  (refine aS Tryz.func148 rfl (by simp [Tryz.ntmps148]) ?_; rw [Tryz.ntmps148])
  repeat' (first|(apply aL;first|(apply fW;rfl;exact gW m hm;rfl;rfl)|((with_reducible apply aI (k := 195));(case ha => rfl);(case h => exact hpl);(case hp => (exact Pur.pf));(case hN => rfl))|(apply aE;rfl;rfl)|(apply aV;rfl;rfl;(exact (rfl:_=[_, _]));rfl;rfl;rfl)|(apply aT;rfl;rfl;rfl;rfl)|(apply aC;rfl;rfl)|(apply aF;kernel_rfl)|(apply bQ;rfl;rfl;rfl;rfl)|(apply a8;rfl;rfl;rfl))|(apply aM;first|apply aH|apply aB|(apply aP;rfl;all_goals intro hc;have hq:=hc;(try simp only [cH] at hq);try exfalso;omega)|apply aQ)|with_reducible apply aA|with_reducible apply bD)
  (refine cE (Le.frzD (d := 4) (i := 1) rfl rfl) ?_; refine aO rfl ?_)
  refine ⟨?_, by (exact Pur.pf)⟩
  simp only [bV]
  unfold dS nH;rw [if_neg hk, if_neg hk]
theorem J7 {cs : List AV} {i : Nat} {c : AV} : iR cs i [c] = cs.take i ++ c :: cs.drop (i + 1) := by
 have := I6 (cs := cs) (v := i) (c := c)
 rwa [Nat.zero_add, Nat.mul_one] at this
theorem Le.frzCl {ts : List (Nat × AV)} {hs : List (Nat × Option (List AV))} {n : Nat} {z0 : Lo} {j q v m : Nat} {u : List Cl} {r : List Tg} (hj : cQ hs j = some (iR (aJ c8 u) (0 + v * 4 + 3) [.own q 0 m 2])) (hq : cQ hs q = some (aJ dN r)) (hm : m = r.length) (hv : v < u.length) (hjq : j ≠ q) :
  Le ⟨ts, hs, n, z0⟩ ⟨ts, (j, some (aJ c8 (u.set v { u[v]! with stk := r }))) :: (q, none) :: hs, n, z0⟩ := by
 subst hm
 have hl : (aJ c8 u).length = u.length * 4 := aU c8 u
 have e := BM (s := r) hv
 rw [J7] at hj e
 have h := Le.frzC (ts := ts) (n := n) (z0 := z0) ((aJ c8 u).take (0 + v * 4 + 3)) hj hq hjq
 rw [← e]; exact h
theorem mD {m : List Cl} {x : Pt} {wr : Bool} : (dS m x wr).length = m.length := by
 unfold dS;split
 ·rw [List.length_set]
 ·rfl
theorem jC {m : List Cl} {x : Pt} {N : Nat} {Q : Exit → AS → Prop} {all : Array Oper} {rest : List Oper} {tsl : List (Nat × AV)} {hsl : List (Nat × Option (List AV))} {nidl : Nat} {z0 : Lo} {md : Md} {d : Nat} {ty : TypeId} {pos : String} {af : Array Edge} {tys : Array TypeId} {x0 x1 : Operand} (ha0 : ev (lk tsl) x0 = some (sl c8 m)) (ha1 : ev (lk tsl) x1 = some (m3 x)) (hmc : MC Tryz.prog 190 [sl c8 m, m3 x] [] 0 (fun _ : Unit => True) (fun _ => .tup [.own 1 0 m.length 4, iv (cM m x true)]) (fun _ => [(1, some (aJ c8 (dS m x true)))])) (hM : Nat.ble (nidl + 2) eX = true) (hN : Nat.blt d N = true) {md' : Md} [hmd : MdA md (gJ [x0, x1] ++ []) (List.map Sum.inr (List.map Prod.fst ([((nidl + 1), some (aJ c8 (dS m x true)))] : List (Nat × Option (List AV)))) ++ [.inl d]) md'] (kk : RW Tryz.prog N all Q md' rest ⟨(d, .tup [.own (nidl + 1) 0 m.length 4, iv (cM m x true)]) :: tsl, iJ hsl [((nidl + 1), some (aJ c8 (dS m x true)))], nidl + 2, z0⟩) : RW Tryz.prog N all Q md (⟨some d, .call ⟨.value (.func 190), #[x0, x1], tys⟩, ty, pos, af, none⟩ :: rest) ⟨tsl, hsl, nidl, z0⟩ := by
 refine cJ [] 2 [((nidl + 1), some (aJ c8 (dS m x true)))] hmc (avs := [sl c8 m, m3 x]) ?_ rfl ?_ rfl ?_ (by simpa using hM) ?_ ?_ ?_ hN (md' := md') (hmd := hmd) kk
 ·show evL (lk tsl) [x0, x1] = _
  simp only [evL, ha0, ha1]
 ·exact trivial
 ·(repeat' (exact RnL.purI inferInstance))
 ·(repeat' (first|exact RnL.purI inferInstance|exact RnV.own rfl|refine RnL.cons ?_ ?_|refine RnV.tup ?_))
 ·simp [dJ]
 ·(repeat' (first|exact trivial|(refine And.intro ⟨1, _, rfl, rfl, ?_⟩ ?_)|exact RnL.purI inferInstance))
theorem j1 (m : List Cl) (x : Pt) (hm : OkM m) : MC Tryz.prog 190 [sl c8 m, m3 x] [] 0 (fun _ : Unit => True) (fun _ => .tup [.own 1 0 m.length 4, iv (cM m x true)]) (fun _ => [(1, some (aJ c8 (dS m x true)))]) := by
 have hml := hm.l
 have hst : 0 ≤ x.cell → x.cell < m.length → m[x.cell.toNat]!.stk.length ≤ 200 := fun h1 h2 => (((dX m).1 hm).2 x.cell.toNat (by omega)).l.2
 have hpl := k6 m hm x
 by_cases hk : cM m x false = 0
 ·rw [if_pos hk, hk] at hpl
  obtain ⟨h1, h2, h3, h4, _⟩ := eT hk
  have hbd := eZ m[x.cell.toNat]!.stk x.tag
  have hs2 := hst h1 h2
  obtain ⟨k, hkk⟩ := Int.eq_ofNat_of_zero_le h4
  rw [hkk] at hpl
  have hkn : k < m[x.cell.toNat]!.stk.length := by omega
  have hkt : (dE m[x.cell.toNat]!.stk x.tag).toNat = k := by omega
  have hwr := yS (m := m) (x := x)
  rw [if_pos hk, hkt] at hwr
  have e1 : List.take (((k : Int) + 1).toNat - 0) (List.drop 0 m[x.cell.toNat]!.stk) = m[x.cell.toNat]!.stk.take (k + 1) := by rw [List.drop_zero]; congr 1
  have e2 : (m[x.cell.toNat]!.stk.take (k + 1)).length = k + 1 := by rw [List.length_take]; omega
  (refine cA Tryz.func190 rfl (by simp [Tryz.ntmps190]) ?_; rw [Tryz.ntmps190])
  repeat' (first|(apply aL;first|(apply fW;rfl;exact gW m hm;rfl;rfl)|((with_reducible apply aI (k := 195));(case ha => rfl);(case h => exact hpl);(case hp => (exact Pur.pf));(case hN => rfl))|(with_reducible apply cS (d := 46))|(apply aE;rfl;rfl)|(first|(apply aN;rfl;rfl;rfl;rfl)|(apply aV;rfl;rfl;(exact (rfl:_=[_, _]));rfl;rfl;rfl))|(apply aD;rfl;rfl;rfl)|(first|(apply bS;rfl;rfl;omega;rfl)|(apply aT;rfl;rfl;rfl;rfl))|(apply aC;rfl;rfl)|(first|(apply aZ;(case hx|hi => rfl);(case hm => (assumption));(case hml => (rfl));(case hα | hf|hg => infer_instance);(case hN => rfl))|(apply cK;(case hx|hi => rfl);(case hm => (omega));(case hml => (rfl));(case hα | hf|hg => infer_instance);(case hN => rfl)))|(apply aF;kernel_rfl)|(apply gV;rfl;infer_instance;rfl;rfl;(omega);rfl)|(apply cG;rfl;rfl)|(apply bQ;rfl;rfl;rfl;rfl)|(apply a8;rfl;rfl;rfl)|(apply bX;rfl;rfl;rfl;(rfl);rfl;rfl))|(apply aM;first|apply aH|apply aB|(apply b0;kernel_rfl)|(apply cF;rfl;(rfl))|(apply aP;rfl;all_goals intro hc;have hq:=hc;(try simp only [cH] at hq);try exfalso;omega)|apply aR|apply aQ)|with_reducible apply aA|with_reducible apply bD)
  ·have hu : m[x.cell.toNat]!.stk[k]!.uq = false := by assumption
   rw [if_pos hu] at hwr
   (refine aO rfl ?_; refine bW () trivial ?_ ⟨.inr (Eq.trans (b := some _) rfl ?_), trivial⟩)
   ·rw [hwr]; rfl
   ·unfold dS;rw [if_neg (by rw [hwr]; decide)]
  ·have hu : m[x.cell.toNat]!.stk[k]!.uq = true := by assumption
   rw [if_neg (by rw [hu]; decide)] at hwr
   refine dP ?_
   rw [e1]
   repeat' (first|(apply aL;first|(with_reducible apply cS (d := 49))|(apply aD;rfl;rfl;rfl)|(apply cR;rfl;rfl;(omega);rfl)|(apply bY;rfl;rfl;rfl;rfl;rfl;(case hl => (simp [aU]; done));(exact iN (by (rfl)));omega;omega;(exact e7 (by (omega)));rfl;rfl)|(apply aF;kernel_rfl)|(apply aW;rfl;rfl;rfl;rfl;rfl;(rw [aU]; simp only [fY] <;> omega);(rfl)))|(apply aM;first|apply aH|apply aB)|with_reducible apply aA)
   refine dP (jH ?_ (Le.frzCl (j := 1) (q := 3) (v := x.cell.toNat) (u := m) (r := m[x.cell.toNat]!.stk.take (k + 1)) rfl rfl (Nat.zero_add _) (by omega) (by decide)))
   repeat' (first|(apply aL;first|(apply aE;rfl;rfl)|(apply aC;rfl;rfl)|(apply aF;kernel_rfl))|(apply aM;(apply aQ))|with_reducible apply aA)
   (refine aO rfl ?_; refine bW () trivial ?_ ⟨.inr (Eq.trans (b := some _) rfl ?_), trivial⟩)
   ·rw [hwr]; rfl
   ·unfold dS iY fO;rw [if_pos hwr, hkt, if_pos rfl]
 ·rw [if_neg hk] at hpl
  have hk2 : cM m x true = cM m x false := by rw [yS, if_neg hk]
  (refine cA Tryz.func190 rfl (by simp [Tryz.ntmps190]) ?_; rw [Tryz.ntmps190])
  repeat' (first|(apply aL;first|(apply fW;rfl;exact gW m hm;rfl;rfl)|((with_reducible apply aI (k := 195));(case ha => rfl);(case h => exact hpl);(case hp => (exact Pur.pf));(case hN => rfl))|(apply aE;rfl;rfl)|(apply aV;rfl;rfl;(exact (rfl:_=[_, _]));rfl;rfl;rfl)|(apply aT;rfl;rfl;rfl;rfl)|(apply aC;rfl;rfl)|(apply aF;kernel_rfl)|(apply bQ;rfl;rfl;rfl;rfl)|(apply a8;rfl;rfl;rfl))|(apply aM;first|apply aH|apply aB|(apply aP;rfl;all_goals intro hc;have hq:=hc;(try simp only [cH] at hq);try exfalso;omega)|apply aQ)|with_reducible apply aA|with_reducible apply bD)
  (refine aO rfl ?_; refine bW () trivial ?_ ⟨.inr (Eq.trans (b := some _) rfl ?_), trivial⟩)
  ·rw [hk2]; rfl
  ·unfold dS;rw [if_neg (by rw [hk2]; exact hk)]
theorem set_set {α : Type} {l : List α} {i : Nat} {a b : α} : (l.set i a).set i b = l.set i b := by simp
theorem lJ {α : Type} [Inhabited α] {l : List α} {i : Nat} {a : α} (h : i < l.length) : (l.set i a)[i]! = a := by rw [cT _ _ (by rw [List.length_set]; exact h), List.getElem_set_self]
theorem yG (m : List Cl) (hm : OkM m) (x : Pt) (v : Int) : PC Tryz.prog 149 [sl c8 m, m3 x, iv v] (fun r => r = .tup [sl c8 (nY m x v), iv (oB m x v)]) := by
 have hml := hm.l
 have hlt := mD (m := m) (x := x) (wr := true)
 have hin := eT (m := m) (x := x) (wr := true)
 by_cases hv : 0 ≤ v ∧ v ≤ 9
 ·have hwk : oB m x v = cM m x true := by unfold oB; rw [if_pos hv]
  by_cases hk : cM m x true = 0
  ·obtain ⟨h1, h2, _⟩ := hin hk
   (refine aS Tryz.func149 rfl (by simp [Tryz.ntmps149]) ?_; rw [Tryz.ntmps149])
   repeat' (first|(apply aL;first|(apply jC;rfl;rfl;exact j1 m x hm;rfl;rfl)|(apply aE;rfl;rfl)|(first|(apply aN;rfl;rfl;rfl;rfl)|(apply aV;rfl;rfl;(exact (rfl:_=[_, _]));rfl;rfl;rfl))|(apply aD;rfl;rfl;rfl)|(first|(apply a6;rfl;rfl;rfl;(assumption))|(apply bI;(case hj|hb|hN => rfl);all_goals (intro hg;have hq := hg;(try simp only [cH] at hq);(try (exfalso;omega)))))|(apply aT;rfl;rfl;rfl;rfl)|(apply aC;rfl;rfl)|(apply bH;rfl;(assumption);rfl;rfl)|(apply cR;rfl;rfl;(omega);rfl)|(apply aF;kernel_rfl)|(apply bQ;rfl;rfl;rfl;rfl)|(apply a8;rfl;rfl;rfl)|(apply aW;rfl;rfl;rfl;rfl;rfl;(rw [aU]; simp only [fY] <;> omega);(exact JS (by (omega)))))|(apply aM;first|apply aH|apply aB|(apply aP;rfl;all_goals intro hc;have hq:=hc;(try simp only [cH] at hq);try exfalso;omega)|apply aR|apply aQ)|with_reducible apply aA)
   (refine cE (Le.frzD (d := 6) (i := 2) rfl rfl) ?_; refine aO rfl ?_)
   refine ⟨?_, by (exact Pur.pf)⟩
   simp only [bV]
   rw [fP (by rw [List.length_set, hlt]), hwk]
   unfold nY dS;rw [if_pos hk, if_pos (by rw [hwk]; exact hk), lJ (by omega), set_set]
  ·(refine aS Tryz.func149 rfl (by simp [Tryz.ntmps149]) ?_; rw [Tryz.ntmps149])
   repeat' (first|(apply aL;first|(apply jC;rfl;rfl;exact j1 m x hm;rfl;rfl)|(apply aE;rfl;rfl)|(apply aV;rfl;rfl;(exact (rfl:_=[_, _]));rfl;rfl;rfl)|(first|(apply a6;rfl;rfl;rfl;(assumption))|(apply bI;(case hj|hb|hN => rfl);all_goals (intro hg;have hq := hg;(try simp only [cH] at hq);(try (exfalso;omega)))))|(apply aT;rfl;rfl;rfl;rfl)|(apply aC;rfl;rfl)|(apply bH;rfl;(assumption);rfl;rfl)|(apply aF;kernel_rfl)|(apply bQ;rfl;rfl;rfl;rfl)|(apply a8;rfl;rfl;rfl))|(apply aM;first|apply aH|apply aB|(apply aP;rfl;all_goals intro hc;have hq:=hc;(try simp only [cH] at hq);try exfalso;omega)|apply aR|apply aQ)|with_reducible apply aA)
   (refine cE (Le.frzD (d := 6) (i := 2) rfl rfl) ?_; refine aO rfl ?_)
   refine ⟨?_, by (exact Pur.pf)⟩
   simp only [bV]
   rw [fP (by rw [hlt]), hwk]
   unfold nY dS;rw [if_neg hk, if_neg (by rw [hwk]; exact hk)]
 ·have hwk : oB m x v = 4 := by unfold oB; rw [if_neg hv]
  have e : nY m x v = m := by unfold nY;rw [if_neg (by rw [hwk]; decide)]
  (refine aS Tryz.func149 rfl (by simp [Tryz.ntmps149]) ?_; rw [Tryz.ntmps149])
  repeat' (first|(apply aL;first|(apply fW;rfl;exact gW m hm;rfl;rfl)|(apply aE;rfl;rfl)|(first|(apply a6;rfl;rfl;rfl;(assumption))|(apply a7;rfl;rfl;rfl;(assumption))|(apply bI;(case hj|hb|hN => rfl);all_goals (intro hg;have hq := hg;(try simp only [cH] at hq);(try (exfalso;omega)))))|(apply aT;rfl;rfl;rfl;rfl)|(apply aC;rfl;rfl)|(first|(apply bT;rfl;(assumption);rfl;rfl)|(apply bH;rfl;(assumption);rfl;rfl))|(apply aF;kernel_rfl)|(apply bQ;rfl;rfl;rfl;rfl))|(apply aM;first|apply aH|apply aB|(apply b8;rfl;(rfl))|(apply aP;rfl;all_goals intro hc;have hq:=hc;(try simp only [cH] at hq);try exfalso;omega)|apply aQ)|with_reducible apply aA|with_reducible apply bD)
  all_goals (try (exfalso;omega))
  all_goals (
   (refine cE (Le.frzD (d := 6) (i := 1) rfl rfl) ?_; refine aO rfl ?_)
   refine ⟨?_, by (exact Pur.pf)⟩
   simp only [bV]
   rw [e, hwk])
theorem mC (m : List Cl) (hm : OkM m) (x : Pt) : PC Tryz.prog 141 [sl c8 m, m3 x] (fun r => r = .tup [sl c8 (iF m x), iv (cM m x true)]) := by
 have hml := hm.l
 have hlt := mD (m := m) (x := x) (wr := true)
 have hin := eT (m := m) (x := x) (wr := true)
 by_cases hk : cM m x true = 0
 ·obtain ⟨h1, h2, _⟩ := hin hk
  (refine aS Tryz.func141 rfl (by simp [Tryz.ntmps141]) ?_; rw [Tryz.ntmps141])
  repeat' (first|(apply aL;first|(apply jC;rfl;rfl;exact j1 m x hm;rfl;rfl)|(apply aE;rfl;rfl)|(first|(apply aN;rfl;rfl;rfl;rfl)|(apply aV;rfl;rfl;(exact (rfl:_=[_, _]));rfl;rfl;rfl))|(apply aD;rfl;rfl;rfl)|(apply aT;rfl;rfl;rfl;rfl)|(apply aC;rfl;rfl)|(apply cR;rfl;rfl;(omega);rfl)|(apply aF;kernel_rfl)|(apply bQ;rfl;rfl;rfl;rfl)|(apply a8;rfl;rfl;rfl)|(apply aW;rfl;rfl;rfl;rfl;rfl;(rw [aU]; simp only [fY] <;> omega);(exact Kk (by (omega)))))|(apply aM;first|apply aH|apply aB|(apply aP;rfl;all_goals intro hc;have hq:=hc;(try simp only [cH] at hq);try exfalso;omega)|apply aQ)|with_reducible apply aA)
  (refine cE (Le.frzD (d := 4) (i := 2) rfl rfl) ?_; refine aO rfl ?_)
  refine ⟨?_, by (exact Pur.pf)⟩
  simp only [bV]
  rw [fP (by rw [List.length_set, hlt])]
  unfold iF dS;rw [if_pos hk, if_pos hk, lJ (by omega), set_set]
 ·(refine aS Tryz.func141 rfl (by simp [Tryz.ntmps141]) ?_; rw [Tryz.ntmps141])
  repeat' (first|(apply aL;first|(apply jC;rfl;rfl;exact j1 m x hm;rfl;rfl)|(apply aE;rfl;rfl)|(apply aV;rfl;rfl;(exact (rfl:_=[_, _]));rfl;rfl;rfl)|(apply aT;rfl;rfl;rfl;rfl)|(apply aC;rfl;rfl)|(apply aF;kernel_rfl)|(apply bQ;rfl;rfl;rfl;rfl)|(apply a8;rfl;rfl;rfl))|(apply aM;first|apply aH|apply aB|(apply aP;rfl;all_goals intro hc;have hq:=hc;(try simp only [cH] at hq);try exfalso;omega)|apply aR|apply aQ)|with_reducible apply aA)
  (refine cE (Le.frzD (d := 4) (i := 2) rfl rfl) ?_; refine aO rfl ?_)
  refine ⟨?_, by (exact Pur.pf)⟩
  simp only [bV]
  rw [fP (by rw [hlt])]
  unfold iF dS;rw [if_neg hk, if_neg hk]
theorem Bq (m : List Cl) (hm : OkM m) (v : Int) : PC Tryz.prog 145 [sl c8 m, iv v] (fun r => r = .tup (if 0 ≤ v ∧ v ≤ 9 ∧ m.length < 200 then [sl c8 (m ++ [nV v]), .agg [iv m.length, iv 0], bv true] else [sl c8 [], .agg [iv 0, iv 0], bv false])) := by
 have hml := hm.l
 have hcv := nJ m (by omega)
 rw [decide_eq_true hm] at hcv
 (refine aS Tryz.func145 rfl (by simp [Tryz.ntmps145]) ?_; rw [Tryz.ntmps145])
 repeat' (first|(apply aL;first|(apply fW;rfl;exact gW m hm;rfl;rfl)|((with_reducible apply aI (k := 191));(case ha => rfl);(case h => exact hcv);(case hp => (exact Pur.pf));(case hN => rfl))|(apply aE;rfl;rfl)|(first|(apply a6;rfl;rfl;rfl;(first|rfl|assumption))|(apply a7;rfl;rfl;rfl;(first|rfl|assumption))|(apply bI;(case hj|hb|hN => rfl);all_goals (intro hg;have hq := hg;(try simp only [cH] at hq);(try (exfalso;omega)))))|(apply aT;rfl;rfl;rfl;rfl)|(apply aC;rfl;rfl)|(first|(apply bT;rfl;(first|rfl|assumption);rfl;rfl)|(apply bH;rfl;(first|rfl|assumption);rfl;rfl))|(first|(apply bF;rfl;rfl;rfl)|(apply bY;rfl;rfl;rfl;rfl;rfl;(rw [aU]; omega);(rfl);omega;omega;(rfl);rfl;rfl))|(apply aF;kernel_rfl)|(apply cC;rfl;(first|exact (rfl:_=some [_, _])|exact (rfl:_=some [_, _, _, _]));(first|exact (rfl:_=[_, _])|exact (rfl:_=[_, _, _, _]));rfl)|(apply cG;rfl;rfl)|(apply bE;rfl;rfl)|((apply bC (t := _));(case hze|hsm|hl => rfl);(case hfl => (first|exact (rfl:_=some [_, _])|exact (rfl:_=some [_, _, _, _])|rfl));(case hM|hN => rfl))|(apply aW;rfl;rfl;rfl;rfl;rfl;(case hl => (first|decide|(simp;done)));(exact (rfl:_=[_, _]))))|(apply aM;first|apply aH|apply aB|(apply b8;rfl;(rfl))|(apply aP;rfl;all_goals intro hc;have hq:=hc;(try simp only [cH] at hq);try exfalso;omega)|apply aR|apply aQ)|with_reducible apply aA|with_reducible apply bD)
 all_goals try exact aO (l := [sl c8 [], .agg [iv 0, iv 0], bv false]) rfl ⟨by rw [if_neg (by omega)]; rfl, rfl⟩
 have e : ((aJ c8 m).drop 0).take (m.length * 4) ++ [iv v, bv true, iv 1, .imm 1 [iv 0, bv true]] = aJ c8 (m ++ [nV v]) := gE rfl rfl
 have e2 : AV.imm (m.length + 1) (((aJ c8 m).drop 0).take (m.length * 4) ++ [iv v, bv true, iv 1, .imm 1 [iv 0, bv true]]) = sl c8 (m ++ [nV v]) := by
  rw [e]; exact fP (by rw [List.length_append]; rfl)
 refine cE (Le.frzD (d := 4) (i := 4) rfl rfl) ?_
 refine aO (l := [AV.imm (m.length + 1) (((aJ c8 m).drop 0).take (m.length * 4) ++ [iv v, bv true, iv 1, .imm 1 [iv 0, bv true]]), .agg [iv m.length, iv 0], bv true]) rfl ?_
 rw [e2, if_pos (by omega)]
 exact ⟨rfl, by (exact Pur.pf)⟩
def nX (m : List Cl) (j : Nat) (r : List Tg) : Prop := r.length = 200 ∨ m[j]!.next = 1000
instance (m : List Cl) (j : Nat) (r : List Tg) : Decidable (nX m j r) := by unfold nX; infer_instance
def j6 (m b : List Cl) (j : Nat) (u : Bool) (r : List Tg) : List Cl := if nX m j r then b else m.set j (psh { m[j]! with stk := r } u)
def j8 (m : List Cl) (j : Nat) (r : List Tg) : Pt := if nX m j r then ⟨0, 0⟩ else ⟨j, m[j]!.next⟩
def j7 (m : List Cl) (j : Nat) (r : List Tg) : Int := if nX m j r then 4 else 0
theorem vY {m b : List Cl} {j : Nat} {u : Bool} {r : List Tg} {n k : Nat} {N : Nat} {Q : Exit → AS → Prop} {all : Array Oper} {rest : List Oper} {tsl : List (Nat × AV)} {hsl : List (Nat × Option (List AV))} {nidl : Nat} {z0 : Lo} {md : Md} {d : Nat} {ty : TypeId} {pos : String} {af : Array Edge} {tys : Array TypeId} {x0 x1 x2 x3 : Operand} {i0 i1 : Nat} (ha0 : ev (lk tsl) x0 = some (.own i0 0 n 4)) (ha1 : ev (lk tsl) x1 = some (sl c8 b)) (ha2 : ev (lk tsl) x2 = some (iv (j : Int))) (ha3 : ev (lk tsl) x3 = some (bv u)) (hH0 : cQ hsl i0 = some (aJ fR (eF m j (.own i1 0 k 2)))) (hH1 : cQ hsl i1 = some (aJ dN r)) (hdd : Go.AL.distinct [i0, i1] = true) (hmc : MC Tryz.prog 236 [.own 0 0 n 4, sl c8 b, iv (j : Int), bv u] [(0, some (aJ fR (eF m j (.own 1 0 k 2)))), (1, some (aJ dN r))] 2 (fun _ : Unit => True) (fun _ => .tup [sl c8 (j6 m b j u r), m3 (j8 m j r), iv (j7 m j r)]) (fun _ => [])) (hM : Nat.ble (nidl + 0) eX = true) (hN : Nat.blt d N = true) {md' : Md} [hmd : MdA md (gJ [x0, x1, x2, x3] ++ [.inr i0, .inr i1]) (List.map Sum.inr (List.map Prod.fst ([(i0, none), (i1, none)] : List (Nat × Option (List AV)))) ++ [.inl d]) md'] (kk : RW Tryz.prog N all Q md' rest ⟨(d, .tup [sl c8 (j6 m b j u r), m3 (j8 m j r), iv (j7 m j r)]) :: tsl, iJ hsl [(i0, none), (i1, none)], nidl + 0, z0⟩) : RW Tryz.prog N all Q md (⟨some d, .call ⟨.value (.func 236), #[x0, x1, x2, x3], tys⟩, ty, pos, af, none⟩ :: rest) ⟨tsl, hsl, nidl, z0⟩ := by
 refine cJ [i0, i1] 2 [(i0, none), (i1, none)] hmc (avs := [.own i0 0 n 4, sl c8 b, iv (j : Int), bv u]) ?_ hdd ?_ rfl ?_ (by simpa using hM) ?_ ?_ ?_ hN (md' := md') (hmd := hmd) kk
 ·show evL (lk tsl) [x0, x1, x2, x3] = _
  simp only [evL, ha0, ha1, ha2, ha3]
 ·exact ⟨⟨_, _, rfl, hH0, by (repeat' (exact kL rfl))⟩, ⟨⟨_, _, rfl, hH1, by (repeat' (exact RnL.purI inferInstance))⟩, trivial⟩⟩
 ·(repeat' (first|exact RnL.purI inferInstance|exact RnV.own rfl|refine RnL.cons ?_ ?_))
 ·(repeat' (exact RnV.purI inferInstance))
 ·simp [dJ]
 ·(repeat' (exact trivial))
theorem z7 (m b : List Cl) (j : Nat) (u : Bool) (r : List Tg) (n k : Nat) (hb : OkM b) (hn : n = m.length) (hk : k = r.length) (hj : j < m.length) (hnx : 0 ≤ m[j]!.next ∧ m[j]!.next ≤ 1000) (hr : r.length ≤ 200) (hml : m.length ≤ 200) : MC Tryz.prog 236 [.own 0 0 n 4, sl c8 b, iv (j : Int), bv u] [(0, some (aJ fR (eF m j (.own 1 0 k 2)))), (1, some (aJ dN r))] 2 (fun _ : Unit => True) (fun _ => .tup [sl c8 (j6 m b j u r), m3 (j8 m j r), iv (j7 m j r)]) (fun _ => []) := by
 have hol := eB (m := m) (j := j) (X := .own 1 0 k 2)
 have hog := iQ (m := m) (j := j) (X := .own 1 0 k 2) hj
 have hol2 := eB (m := m) (j := j) (X := .own (2 + 1 + 1 + 1) 0 (r.length + 1) 2)
 subst hn hk
 (refine cA Tryz.func236 rfl (by simp [Tryz.ntmps236]) ?_; rw [Tryz.ntmps236])
 repeat' (first|(apply aL;first|(with_reducible apply cS (d := 11))|(apply aE;rfl;rfl)|(apply gR;(case hx|hH => rfl);(case hf|hg|hα => infer_instance);(case hk => omega);(case h0|hN => rfl))|(apply aC;rfl;rfl)|(apply cP;rfl;rfl;(assumption);rfl)|(apply aF;kernel_rfl)|(apply bE;rfl;rfl))|(apply aM;first|apply aH|apply aB)|with_reducible apply aA)
 refine dP ?_
 rw [hog]
 dsimp only
 repeat' (first|(apply aL;first|((with_reducible apply aI (k := 192));(case ha => rfl);(case h => exact E1 b hb);(case hp => (exact Pur.pf));(case hN => rfl))|(apply aE;rfl;rfl)|(apply aN;rfl;rfl;rfl;rfl)|(apply aD;rfl;rfl;rfl)|(first|(apply a6;rfl;rfl;rfl;(assumption))|(apply a7;rfl;rfl;rfl;(assumption))|(apply bI;(case hj|hb|hN => rfl);all_goals (intro hg;have hq := hg;(try simp only [cH] at hq);(try (exfalso;omega)))))|(first|(apply bS;rfl;rfl;omega;rfl)|(apply aT;rfl;rfl;rfl;rfl))|(apply aC;rfl;rfl)|(first|(apply bT;rfl;(assumption);rfl;rfl)|(apply bH;rfl;(assumption);rfl;rfl))|(apply cP;rfl;rfl;(assumption);rfl)|(first|(apply bF;rfl;rfl;rfl)|(apply bY;rfl;rfl;rfl;rfl;rfl;(rw [aU]; omega);(rfl);omega;omega;(exact uJ (by (omega)));rfl;rfl))|(apply aF;kernel_rfl)|(apply cC;rfl;(exact (rfl:_=some [_, _]));(exact (rfl:_=[_, _]));rfl)|(apply bE;rfl;rfl)|((apply bC (t := _));(case hze|hsm|hl => rfl);(case hfl => (exact (rfl:_=some [_, _])));(case hM|hN => rfl))|(apply aW;rfl;rfl;rfl;rfl;rfl;(case hl => (first|decide|(rw [aU]; simp only [fY] <;> omega)|(simp;done)));(first|exact rY (by (assumption))|exact xW (by (assumption))|exact (rfl:_=[_, _])|exact (rfl:_=[_, _, _, _]))))|(apply aM;first|apply aH|apply aB|(apply b8;rfl;(rfl))|(apply aP;rfl;all_goals intro hc;have hq:=hc;(try simp only [cH] at hq);try exfalso;omega)|apply aR|apply aQ)|with_reducible apply aA|with_reducible apply bD)
 ·have hf : nX m j r := .inr (by assumption)
  refine aO (l := [sl c8 b, .agg [iv 0, iv 0], iv 4]) rfl ?_
  refine bW () trivial ?_ trivial
  unfold j6 j8 j7;rw [if_pos hf, if_pos hf, if_pos hf]; rfl
 ·have hf : ¬ nX m j r := by unfold nX; omega
  have hm2 : (m.set j { m[j]! with next := m[j]!.next + 1 }).length = m.length := List.length_set
  refine cE (Le.cls (o := 0) (q := 5) (j := j) (k := r.length + 1) (m := m.set j { m[j]! with next := m[j]!.next + 1 }) (r := r ++ [⟨m[j]!.next, u⟩]) rfl rfl (by rw [List.length_append]; rfl) (by omega) (by decide)) ?_
  refine cE (Le.frzD (d := 8) (i := 0) rfl rfl) ?_
  have e : (m.set j { m[j]! with next := m[j]!.next + 1 }).set j { (m.set j { m[j]! with next := m[j]!.next + 1 })[j]! with stk := r ++ [⟨m[j]!.next, u⟩] } = m.set j (psh { m[j]! with stk := r } u) := by
   rw [lJ hj, set_set]; rfl
  rw [e]
  refine aO (l := [.imm m.length (aJ c8 (m.set j (psh { m[j]! with stk := r } u))), .agg [iv (j : Int), iv m[j]!.next], iv 0]) rfl ?_
  refine bW () trivial ?_ trivial
  unfold j6 j8 j7;rw [if_neg hf, if_neg hf, if_neg hf, fP (by rw [List.length_set])]; rfl
 ·have hf : nX m j r := .inl (by omega)
  refine aO (l := [sl c8 b, .agg [iv 0, iv 0], iv 4]) rfl ?_
  refine bW () trivial ?_ trivial
  unfold j6 j8 j7;rw [if_pos hf, if_pos hf, if_pos hf]; rfl
end Go.Proofs.YtckihjkcgfphmaaGreat
