/-
 A part of the proofs over this program: rules and contracts of its functions (the contracts).
-/
import Derived.Test.YtahdccneecdmmaaGreatQ5B03
set_option linter.unusedVariables false
set_option linter.unusedSimpArgs false
set_option maxHeartbeats 8000000
set_option maxRecDepth 4000
attribute [local irreducible] Go.AL.RW Go.AL.AW Go.AL.Stop
namespace Go.Proofs.YtahdccneecdmmaaGreat
open Go.AL Go.RowKit
def CM (s : ByteArray) : List AV := [.v (.string s)]
instance : FlT CM 1 := ⟨fun _ => rfl⟩
instance : FE CM (fun s => [.v (.string s)]) := ⟨fun _ => rfl⟩
instance (s : ByteArray) : Pur (CM s) := ⟨rfl⟩
theorem Le.slotEq {ts : List (Nat × AV)} {hs : List (Nat × Option (List AV))} {n : Nat} {z0 : Lo} {d : Nat} (v v' : AV) (hd : lk ts d = some v) (h : v = v') : Le ⟨ts, hs, n, z0⟩ ⟨(d, v') :: ts, hs, n, z0⟩ :=
 Le.slot hd fun w bad ι y hr => h ▸ hr
def kinds : List ByteArray := [⟨#[]⟩, ⟨#[105]⟩, ⟨#[98]⟩, ⟨#[114]⟩, ⟨#[109]⟩]
theorem C9 (k : Nat) : (kinds[k]!).size ≤ 1 := by
 match k with
 | 0 => decide
 | 1 => decide
 | 2 => decide
 | 3 => decide
 | 4 => decide
 | k + 5 => exact (show (default : ByteArray).size ≤ 1 from by decide)
theorem AM (p : Prg) (hv : bB p = true) : PC Tryz.prog 218 [bQ p] (fun r => ∃ t, r = sv t) := by
 have hv2 := hv
 simp only [bB, Bool.and_eq_true, decide_eq_true_eq] at hv2
 obtain ⟨⟨hts, hol⟩, hcn⟩ := hv2
 have hl6 := eG hts
 have htx := lE p.body
 refine aB Tryz.func218 Tryz.ntmps218 ?_
 repeat' (first|refine aD ?_|refine aE ?_|fail)
 refine aK (σ := Nat × ByteArray) [1] [0] (fun k => [(4, iv (k.1 : Int)), (3, sv k.2)]) (fun k => []) (fun k => k.1 ≤ p.types.length ∧ k.2.size ≤ k.1) (fun k => p.types.length - k.1) (0, ⟨#[]⟩) ⟨by omega, by show 0 ≤ 0;omega⟩ ?_
 rintro ⟨k, t⟩ ⟨hk, ht⟩
 dsimp only at hk ht ⊢
 have htk := k7 hts k
 have hkz : (kinds[(p.types[k]!).toNat]!).size ≤ 1 := C9 _
 have hkl : kinds.length = 5 := rfl
 repeat' (first|(apply aI;first|(with_reducible apply a7 (d := 14))|(apply aA (k := 256);rfl;exact IZ p.types 4 p.body hts (by omega) hol;exact Pur.pf;rfl)|(apply kT;rfl;rfl;(exact sE (by (simp only [ByteArray.size_append, pG, List.length_cons, List.length_nil, mY, nB, qD] <;> omega)));rfl)|(apply aO (t := _);rfl;rfl;rfl;(exact (rfl:_=some [_, _, _, _, _]));rfl;rfl))|refine aD ?_|refine aE ?_|(refine aM ?_ ?_ <;> intro hc hq <;> try (exfalso;omega))|fail)
 ·refine cK (dW ?_ (Le.slotEq (d := 13) _ (.imm 5 (flat CM kinds)) rfl rfl))
  repeat' (first|(apply aI;(apply kT;rfl;rfl;(exact sE (by (omega)));rfl))|refine aD ?_|refine aE ?_|fail)
  (refine bH (k + 1, _) (Le.renA [(0, 0)]) ?_ ?_)
  ·exact ⟨by dsimp only;omega, by dsimp only;rw [ByteArray.size_append]; omega⟩
  ·dsimp only;omega
 ·refine aF rfl ⟨⟨_, rfl⟩, rfl⟩
theorem GW {s : ByteArray} (b : Bool) : (∃ (q : Prg) (b' : Bool), AV.tup [AV.agg [.imm 0 [], .imm 0 []], bv b] = .tup [bQ q, bv b'] ∧ aP q.body ≤ s.size + 10 ∧ q.types.length ≤ s.size + 10) :=
 ⟨⟨[], []⟩, b, rfl, by simp [aP], by simp⟩
theorem sI (s : ByteArray) (hs : s.size ≤ 10000) : PC Tryz.prog 166 [sv s] (fun r => ∃ (q : Prg) (b : Bool), r = .tup [bQ q, bv b] ∧ aP q.body ≤ s.size + 10 ∧ q.types.length ≤ s.size + 10) := by
 refine aB Tryz.func166 Tryz.ntmps166 ?_
 repeat' (first|(apply aI;(with_reducible apply a7 (d := 13)))|refine aD ?_|refine aE ?_|(refine aM ?_ ?_ <;> intro hc hq <;> try (exfalso;omega))|fail)
 ·exact aF (l := [.agg [.imm 0 [], .imm 0 []], bv false]) rfl ⟨GW false, rfl⟩
 refine cK ?_
 apply lV
 case hl => rfl
 case hf => exact (rfl:_=some [AV.v (.slice none 0 0), AV.v (.slice none 0 0)])
 case hN => rfl
 repeat' (first|refine aD ?_|refine aE ?_|fail)
 apply AW.le
 case k => exact Le.nilCell (i := 1) 1 [] rfl (by decide) (by decide)
 refine aK (σ := Nat × List Int × Nat) [0, 2, 4] [0] (fun k => [(5, iv (k.1 : Int))]) (fun k => [(1, some [.own 2 0 k.2.2 1, .v (.slice none 0 0)]), (2, some (flat cI k.2.1))]) (fun k => k.1 ≤ s.size ∧ k.2.1.length = k.1 ∧ k.2.2 = k.2.1.length) (fun k => s.size - k.1) (0, [], 0) ⟨by omega, rfl, rfl⟩ ?_
 rintro ⟨k, xs, m⟩ ⟨hk, hxl, hm⟩
 dsimp only at hk hxl hm ⊢
 repeat' (first|(apply aI;first|(with_reducible apply a7 (d := 43))|(apply qO;rfl;rfl;omega;rfl)|(apply aO (t := _);rfl;rfl;rfl;exact (rfl:_=some [_]);rfl;rfl))|refine aD ?_|refine aE ?_|(refine aM ?_ ?_ <;> intro hc hq <;> try (exfalso;omega))|(refine bU ?_ ?_ <;> intro hg hq <;> try (exfalso;omega))|fail)
 ·(refine bH (k + 1, xs ++ [1], m + 1) (Le.renA [(0, 0), (1, 1), (2, 4)]) ?_ ?_)
  ·exact ⟨by dsimp only;omega, by simp [hxl], by simp [hm]⟩
  ·dsimp only;omega
 ·(refine bH (k + 1, xs ++ [2], m + 1) (Le.renA [(0, 0), (1, 1), (2, 4)]) ?_ ?_)
  ·exact ⟨by dsimp only;omega, by simp [hxl], by simp [hm]⟩
  ·dsimp only;omega
 ·(refine bH (k + 1, xs ++ [3], m + 1) (Le.renA [(0, 0), (1, 1), (2, 4)]) ?_ ?_)
  ·exact ⟨by dsimp only;omega, by simp [hxl], by simp [hm]⟩
  ·dsimp only;omega
 ·(refine bH (k + 1, xs ++ [4], m + 1) (Le.renA [(0, 0), (1, 1), (2, 4)]) ?_ ?_)
  ·exact ⟨by dsimp only;omega, by simp [hxl], by simp [hm]⟩
  ·dsimp only;omega
 ·(refine bH (k + 1, xs ++ [0], m + 1) (Le.renA [(0, 0), (1, 1), (2, 4)]) ?_ ?_)
  ·exact ⟨by dsimp only;omega, by simp [hxl], by simp [hm]⟩
  ·dsimp only;omega
 all_goals subst hm
 all_goals (refine cK (dW ?_ (Le.frzC (j := 1) (i := 2) [] rfl rfl (by decide))))
 all_goals repeat' (first|(apply aI;first|(apply gF (k := 217);rfl;(apply Lb <;> omega);(rfl);rfl;(rintro _ ⟨l, nx, rfl, hql⟩ _))|(apply aA (k := 61);rfl;(exact gY ⟨xs, l⟩ (by show xs.length ≤ _; omega) (by show aP l ≤ 100000000;rcases hql with ⟨_, h9⟩|h9;(rw [h9]; decide);omega));exact Pur.pf;rfl)|(apply gF (k := 218);rfl;exact AM ⟨xs, l⟩ (by assumption);exact Pur.pf;rfl;(rintro _ ⟨t, rfl⟩ _))|(apply kT;rfl;rfl;(rfl);rfl))|refine aD ?_|refine aE ?_|(refine aM ?_ ?_ <;> intro hc hq <;> try (exfalso;omega))|(refine bU ?_ ?_ <;> intro hg hq <;> try (exfalso;omega))|fail)
 all_goals first
  | exact aF (l := [.agg [.imm 0 [], .imm 0 []], bv false]) rfl ⟨GW false, rfl⟩
  | (refine aF (l := [.agg [.imm xs.length (flat cI xs), sl aH l], bv true]) rfl ⟨⟨⟨xs, l⟩, true, rfl, ?_, by show xs.length ≤ _; omega⟩, Pur.pf⟩
     show aP l ≤ _
     rcases hql with ⟨_, h9⟩|h9
     ·rw [h9]; simp [aP]
     ·omega)
class NumS (cs : List AV) (xs : outParam (List ByteArray)) : Prop where h : cs = flat CM xs
instance NumS.nil : NumS [] [] := ⟨rfl⟩
instance NumS.cons {n : ByteArray} {cs : List AV} {xs : List ByteArray} [h : NumS cs xs] : NumS (.v (.string n) :: cs) (n :: xs) := ⟨by rw [h.h]; rfl⟩
theorem I1 {cs : List AV} {xs : List ByteArray} {m : Nat} (h : NumS cs xs) (hm : m = xs.length) (hs : xs.all (fun s => decide (s.size ≤ 600)) = true) : ∃ ys : List ByteArray, AV.imm m cs = sl CM ys ∧ ys.length = m ∧ ∀ i : Nat, (ys[i]!).size ≤ 600 := by
 refine ⟨xs, by rw [h.h, hm], hm.symm, fun i => ?_⟩
 by_cases hi : i < xs.length
 ·rw [List.all_eq_true] at hs
  rw [aZ _ _ hi]
  simpa using hs _ (List.getElem_mem hi)
 ·rw [getElem!_neg xs i hi]; decide
theorem Fz : PC Tryz.prog 165 [] (fun r => ∃ ys : List ByteArray, r = sl CM ys ∧ ys.length = 25 ∧ ∀ i : Nat, (ys[i]!).size ≤ 600) := by
 refine aB Tryz.func165 Tryz.ntmps165 ?_
 repeat' (first|(apply aI;(apply aO (t := _);rfl;rfl;rfl;exact (rfl:_=some [_, _, _, _, _, _, _, _, _, _, _, _, _, _, _, _, _, _, _, _, _, _, _, _, _]);rfl;rfl))|refine aD ?_|refine aE ?_|fail)
 refine s9 (l := [.imm 25 [_, _, _, _, _, _, _, _, _, _, _, _, _, _, _, _, _, _, _, _, _, _, _, _, _]]) ?_ rfl ?_
 ·rintro _ ⟨ys, rfl, _⟩; exact bG _ _
 ·exact I1 inferInstance rfl (by decide)
theorem k6 {P : Program} {N : Nat} {Q : Exit → AS → Prop} {all : Array Oper} {rest : List Oper} {ts : List (Nat × AV)} {hs : List (Nat × Option (List AV))} {n : Nat} {z0 : Lo} {ty : TypeId} {pos : String} {af : Array Edge} {d : Nat} {args : Array Operand} {tys : Array TypeId}
  {k : FuncId} {pv : List AV} {p0 : Prg × Nat → Prop} {i p : Nat} {bs : List UInt8} (h : MC P k (.optr 0 0 :: pv) [(0, some (dP bs p))] 1 p0 (fun x => bQ x.1) (fun x => [(0, some (dP bs x.2))])) [hc : CaT P k] (ha : evL (lk ts) args.toList = some (.optr i 0 :: pv)) (hpv : bF pv = true)
  (hH : aS hs i = some (dP bs p)) (hM : Nat.ble (n + 0) aY = true) (hN : Nat.blt d N = true) (kk : ∀ x, p0 x → RW P N all Q .txt rest ⟨(d, bQ x.1) :: ts, (i, some (dP bs x.2)) :: hs, n + 0, z0⟩) :
  RW P N all Q .txt (⟨some d, .call ⟨.value (.func k), args, tys⟩, ty, pos, af, none⟩ :: rest) ⟨ts, hs, n, z0⟩ :=
 Ao (σ := Prg × Nat) [i] 1 (fun x : Prg × Nat => [(i, some (dP bs x.2))]) h ha rfl ⟨⟨_, _, rfl, hH, RnL.purI inferInstance⟩, trivial⟩ rfl (RnL.cons (RnV.optr rfl) (RnL.pur hpv)) (by simpa using hM)
  (fun x _ => RnV.purI inferInstance) (fun x _ => by simp [cA]) (fun x _ => ⟨⟨0, _, rfl, rfl, RnL.purI inferInstance⟩, trivial⟩) hN kk
theorem yQ (bs : List UInt8) (p : Nat) (xs : List Int) (lo hi : Int) (h0 : 0 < xs.length) (h : xs.all (fun x => decide (lo ≤ x) && decide (x ≤ hi)) = true) : lo ≤ fT bs p xs ∧ fT bs p xs ≤ hi := by
 have h1 := eZ bs p (xs.length : Int)
 rw [jY] at h
 have := h (bC bs p (xs.length : Int)).toNat (by omega)
 simp only [Bool.and_eq_true, decide_eq_true_eq] at this
 exact this
theorem Ja (bs : List UInt8) (p : Nat) (hb : bs.length ≤ 2000) (hp : p ≤ 1000) : MC Tryz.prog 94 [.optr 0 0] [(0, some (dP bs p))] 1 (fun x : Prg × Nat => aP x.1.body ≤ 620 ∧ x.1.types.length ≤ 620 ∧ x.2 ≤ 2000) (fun x => bQ x.1) (fun x => [(0, some (dP bs x.2))]) := by
 have h0 := eZ bs p 25
 have hn := yQ bs (p + 1 + 1) [5, 4, 7, 3, 8] 0 8 (by decide) (by decide)
 refine aX Tryz.func94 Tryz.ntmps94 ?_
 repeat' (first|(apply aI;first|(apply gF (k := 165);rfl;exact Fz;(rfl);rfl;(rintro _ ⟨ys, rfl, hyl, hsz⟩ _);(have hpk := eZ bs p (ys.length : Int)))|(apply gF (k := 166);rfl;exact sI _ (Nat.le_trans (hsz _) (by decide));(rfl);rfl;(rintro _ ⟨q, b, rfl, hqc, hqt⟩ _))|(apply wB (ts := [1, 2, 2, 3, 4, 4]);rfl;rfl;rfl;rfl;rfl;(apply Is <;> (first|assumption|omega));rfl;rfl)|(apply aO (t := _);rfl;rfl;rfl;(exact (rfl:_=some [_, _, _, _, _, _]));rfl;rfl)|(first|(apply jQ;rfl;rfl;(rfl);(apply l4 <;> (first|assumption|omega));rfl;rfl)|(apply m5;rfl;rfl;rfl;rfl;infer_instance;rfl;(rfl);assumption;omega;(decide);(decide);rfl;rfl)))|refine aD ?_|refine aE ?_|(refine aM ?_ ?_ <;> intro hc hq <;> try (exfalso;omega))|(refine bU ?_ ?_ <;> intro hg hq <;> try (exfalso;omega))|refine b0 ?_|fail)
 ·have h9 := hsz (bC bs p (ys.length : Int)).toNat
  refine aF rfl ?_
  exact aU (q, p + 1 + 1) ⟨by dsimp only;omega, by dsimp only;omega, by dsimp only;omega⟩ rfl ⟨.inr rfl, trivial⟩
 ·have h9 := JK bs (d := 2) (by omega) (fT bs (p + 1 + 1) [5, 4, 7, 3, 8]) (p + 1 + 1 + 1)
  have h10 := y8 bs (d := 2) (by omega) (fT bs (p + 1 + 1) [5, 4, 7, 3, 8]) (p + 1 + 1 + 1)
  refine aF rfl ?_
  exact aU ((⟨[1, 2, 2, 3, 4, 4], (dJ bs 2 (fT bs (p + 1 + 1) [5, 4, 7, 3, 8]) (p + 1 + 1 + 1)).1⟩ : Prg), (dJ bs 2 (fT bs (p + 1 + 1) [5, 4, 7, 3, 8]) (p + 1 + 1 + 1)).2) ⟨by dsimp only;omega, by show 6 ≤ 620;decide, by dsimp only;omega⟩ rfl ⟨.inr rfl, trivial⟩
 ·have h9 := hsz (bC bs p (ys.length : Int)).toNat
  refine aF rfl ?_
  exact aU (q, p + 1 + 1) ⟨by dsimp only;omega, by dsimp only;omega, by dsimp only;omega⟩ rfl ⟨.inr rfl, trivial⟩
theorem nY {bs : List UInt8} {N : Nat} {Q : Exit → AS → Prop} {all : Array Oper} {rest : List Oper} {tsl : List (Nat × AV)} {hsl : List (Nat × Option (List AV))} {nidl : Nat} {z0 : Lo} {md : Md} {d : Nat} {ty : TypeId} {pos : String} {af : Array Edge} {tys : Array TypeId} {x0 : Operand} (ha0 : ev (lk tsl) x0 = some (sl cU bs)) (hmc : MC Tryz.prog 51 [sl cU bs] [] 0 (fun _ : Unit => True) (fun _ => .optr 0 0) (fun _ => [(0, some (dP (bs.take 2000) 0))])) (hM : Nat.ble (nidl + 1) aY = true) (hN : Nat.blt d N = true) {md' : Md} [hmd : MdA md (fK [x0] ++ []) (List.map Sum.inr (List.map Prod.fst ([(nidl, some (dP (bs.take 2000) 0))] : List (Nat × Option (List AV)))) ++ [.inl d]) md'] (kk : RW Tryz.prog N all Q md' rest ⟨(d, .optr nidl 0) :: tsl, gR hsl [(nidl, some (dP (bs.take 2000) 0))], nidl + 1, z0⟩) : RW Tryz.prog N all Q md (⟨some d, .call ⟨.value (.func 51), #[x0], tys⟩, ty, pos, af, none⟩ :: rest) ⟨tsl, hsl, nidl, z0⟩ := by
 refine a6 [] 1 [(nidl, some (dP (bs.take 2000) 0))] hmc (avs := [sl cU bs]) ?_ rfl ?_ rfl ?_ (by simpa using hM) ?_ ?_ ?_ hN (md' := md') (hmd := hmd) kk
 ·show evL (lk tsl) [x0] = _
  simp only [evL, ha0]
 ·exact trivial
 ·(repeat' (exact RnL.purI inferInstance))
 ·(repeat' (exact RnV.optr rfl))
 ·simp [cA]
 ·(repeat' (first|exact trivial|(refine And.intro ⟨0, _, rfl, rfl, ?_⟩ ?_)|exact RnL.purI inferInstance))
theorem qB (bs : List UInt8) (hb : bs.length ≤ 1048576) : MC Tryz.prog 51 [sl cU bs] [] 0 (fun _ : Unit => True) (fun _ => .optr 0 0) (fun _ => [(0, some (dP (bs.take 2000) 0))]) := Nv bs hb
theorem EG (p : Prg) (hv : bB p = false) (hl : p.types.length ≤ 1000000) (hs : aP p.body ≤ 1000000) : PC Tryz.prog 70 [bQ p] (fun r => r = sl lA []) := by
 refine aB Tryz.func70 Tryz.ntmps70 ?_
 repeat' (first|(apply aI;(apply aA (k := 72);rfl;(exact (by have := kG p hl hs;rw [if_neg (by simp [hv])] at this;exact this));exact Pur.pf;rfl))|refine aD ?_|refine aE ?_|fail)
 (refine aV (Le.nilImm (d := 2) rfl) ?_; refine aF rfl ?_)
 exact ⟨rfl, rfl⟩
theorem Ft (p : Prg) (hv : bB p = false) (hl : p.types.length ≤ 1000000) (hs : aP p.body ≤ 1000000) : PC Tryz.prog 98 [bQ p] (fun r => r = sl lA []) := by
 have hval := gY p hl (by omega)
 rw [hv] at hval
 refine aB Tryz.func98 Tryz.ntmps98 ?_
 repeat' (first|(apply aI;first|(apply aA (k := 61);rfl;exact hval;exact Pur.pf;rfl)|(apply aO (t := _);rfl;rfl;rfl;(rfl);rfl;rfl))|refine aD ?_|refine aE ?_|fail)
 exact aF rfl ⟨rfl, rfl⟩
theorem Ba (p : Prg) (L : List Iss) (hl : p.types.length ≤ 1000000) (hs : aP p.body ≤ 1000000) (hC : PC Tryz.prog 70 [bQ p] (fun r => r = sl lA L)) : PC Tryz.prog 20 [bQ p] (fun r => r = bv (bB p && L.isEmpty)) := by
 refine aB Tryz.func20 Tryz.ntmps20 ?_
 repeat' (first|(apply aI;first|(apply aA (k := 70);rfl;exact hC;exact Pur.pf;rfl)|(apply aA (k := 39);rfl;(apply kH <;> (first|assumption|omega));exact Pur.pf;rfl))|refine aD ?_|refine aE ?_|(refine bU ?_ ?_ <;> intro hg hq <;> try (exfalso;omega))|fail)
 all_goals refine aF rfl ⟨?_, rfl⟩
 all_goals simp only [aQ]
 ·rw [show bB p = true by assumption]
  cases L with
  | nil => rfl
  | cons a b => simp;omega
 ·rw [show bB p = false by assumption]; rfl
theorem Bl (p : Prg) (L : List Iss) (hl : p.types.length ≤ 1000000) (hs : aP p.body ≤ 1000000) (hC : PC Tryz.prog 98 [bQ p] (fun r => r = sl lA L)) : PC Tryz.prog 65 [bQ p] (fun r => r = bv (bB p && L.isEmpty)) := by
 have hval := gY p hl (by omega)
 refine aB Tryz.func65 Tryz.ntmps65 ?_
 repeat' (first|(apply aI;first|(apply aA (k := 98);rfl;exact hC;exact Pur.pf;rfl)|(apply aA (k := 61);rfl;exact hval;exact Pur.pf;rfl))|refine aD ?_|refine aE ?_|(refine bU ?_ ?_ <;> intro hg hq <;> try (exfalso;omega))|fail)
 all_goals refine aF rfl ⟨?_, rfl⟩
 all_goals simp only [aQ]
 ·rw [show bB p = true by assumption]
  cases L with
  | nil => rfl
  | cons a b => simp;omega
 ·rw [show bB p = false by assumption]; rfl
theorem C1 (p : Prg) (xs : List Int) (hl : p.types.length ≤ 1000000) (hs : aP p.body ≤ 1000000) (hx : xs.length ≤ 10) : PC Tryz.prog 72 [bQ p, sl cI xs] (fun r => r = if bB p = true ∧ (∀ j, j < xs.length → 0 ≤ xs[j]! ∧ xs[j]! < (aC p).length) then .tup [aG p.types p.body (aC p), bv true] else .tup [.v (.pointer none), bv false]) := by
 have hpl := g9 p
 have hnl := jE p.body
 refine aB Tryz.func72 Tryz.ntmps72 ?_
 repeat' (first|(apply aI;(first|(apply aA (k := 39);rfl;(apply kH <;> (first|assumption|omega));exact Pur.pf;rfl)|(apply aA (k := 80);rfl;(apply Az <;> (assumption));exact Pur.pf;rfl)))|refine aD ?_|refine aE ?_|(refine aM ?_ ?_ <;> intro hc hq <;> try (exfalso;omega))|refine b0 ?_|fail)
 ·refine aF rfl ⟨?_, (by (rfl))⟩
  rw [if_neg (by simp [hq])]; rfl
 ·refine aK (σ := Nat) [6, 17, 18] [1] (fun k => [(19, iv (k : Int))]) (fun k => []) (fun k => k ≤ xs.length ∧ ∀ j, j < k → 0 ≤ xs[j]! ∧ xs[j]! < (aC p).length) (fun k => xs.length - k) (0) ⟨by omega, by omega⟩ ?_
  rintro k ⟨hk, hall⟩
  repeat' (first|(apply aI;(apply aA (k := 54);rfl;(apply cO);(rfl);rfl))|refine aD ?_|refine aE ?_|(refine aM ?_ ?_ <;> intro hc hq <;> try (exfalso;omega))|fail)
  ·refine aF rfl ⟨?_, (by (rfl))⟩
   rw [if_neg (fun h => by have := h.2 k (by omega);omega)]; rfl
  ·(refine bH (k + 1) (Le.renA [(1, 1)]) ?_ ?_)
   ·exact ⟨by omega, fun j hj => by
     by_cases e : j = k
     ·subst e;omega
     ·exact hall j (by omega)⟩
   ·omega
  ·refine aV (Le.frzP (d := 4) (i := 1) rfl rfl) ?_
   refine aF rfl ⟨?_, (by show (AV.tup [aG p.types p.body (aC p), bv true]).pur = true;exact PurV.pf)⟩
   rw [if_pos ⟨by assumption, fun j hj => hall j (by omega)⟩]; rfl
def Pc (p : Prg) (i : Int) : Prop := bB p = true ∧ 0 ≤ i ∧ i < (aC p).length
theorem FX (p : Prg) (i : Int) (hl : p.types.length ≤ 1000000) (hs : aP p.body ≤ 1000000) (h : Pc p i) : PC Tryz.prog 72 [bQ p, .imm 1 [iv i]] (fun r => r = .tup [aG p.types p.body (aC p), bv true]) := by
 have := C1 p [i] hl hs (by simp)
 rw [if_pos ⟨h.1, fun j hj => by obtain rfl : j = 0 := by simpa using hj
                                 exact h.2⟩] at this
 exact this
theorem yO (p : Prg) (i : Int) (f : Flows p.types (aC p)) (hl : p.types.length ≤ 1000000) (hs : aP p.body ≤ 1000000) (h : Pc p i) : PC Tryz.prog 57 [bQ p, iv i] (fun r => r = sl cI (a8 f.Aa[i.toNat]!)) := by
 have hg := FX p i hl hs h
 have w := WG.of_valid h.1
 have hpl := w.pl
 have htl := w.tl
 have hi : 0 ≤ i ∧ i < (aC p).length := h.2
 have hin : i.toNat < (aC p).length := by omega
 have b := f.bnd w
 have hsA := b.sA
 have hla := b.la
 refine aB Tryz.func57 Tryz.ntmps57 ?_
 repeat' (first|(apply aI;first|(apply aA (k := 72);rfl;exact hg;exact Pur.pf;rfl)|(apply aA (k := 121);rfl;exact z6 p.types p.body (aC p) f.Aa w f.ga;exact Pur.pf;rfl)|(apply aO (t := _);rfl;rfl;rfl;exact (rfl:_=some [_]);rfl;rfl)|(apply aA (k := 120);rfl;(apply fW <;> (infer_instance));(rfl);rfl))|refine aD ?_|refine aE ?_|fail)
 refine aF rfl ⟨rfl, (by (exact bG _ _))⟩
theorem G9 (L : List Int) (hl : L.length ≤ 1000000) : PC Tryz.prog 21 [sl cI L, sl cI L] (fun r => r = bv true) := by
 refine aB Tryz.func21 Tryz.ntmps21 ?_
 repeat' (first|refine aD ?_|refine aE ?_|(refine aM ?_ ?_ <;> intro hc hq <;> try (exfalso;omega))|fail)
 ·exact (hq trivial).elim
 refine aK (σ := Nat) [0, 1] [] (fun k => [(5, iv (k : Int))]) (fun k => []) (fun k => k ≤ L.length) (fun k => L.length - k) (0) (by omega) ?_
 rintro k hk
 repeat' (first|refine aD ?_|refine aE ?_|(refine aM ?_ ?_ <;> intro hc hq <;> try (exfalso;omega))|refine b0 ?_|fail)
 ·exfalso
  simp at hq
 ·(refine bH (k + 1) (Le.renA []) ?_ ?_)
  ·omega
  ·omega
 ·exact aF rfl ⟨rfl, rfl⟩
theorem GX (xs : List Int) (hl : xs.length ≤ 1000000) : PC Tryz.prog 123 [sl cI xs] (fun r => r = sl cI xs) := by
 refine aB Tryz.func123 Tryz.ntmps123 ?_
 repeat' (first|(apply aI;(apply uR;rfl;rfl;(intro b hb)))|refine aD ?_|refine aE ?_|(refine aM ?_ ?_ <;> intro hc hq <;> try (exfalso;omega))|fail)
 ·have h0 : xs = [] := List.eq_nil_of_length_eq_zero (hb (by assumption))
  subst h0
  (refine aV (Le.nilImm (d := 2) rfl) ?_; refine aF rfl ?_)
  exact ⟨rfl, rfl⟩
 ·(refine aV (Le.frzD (d := 2) (i := 1) rfl rfl) ?_; refine aF rfl ?_)
  refine ⟨?_, (by (exact bG _ _))⟩
  simp only [aQ, sl, Nat.zero_add]
theorem GC (mm : Nat) (hmm : mm ≤ 1000000) (own_ih : ∀ l, aP l < mm → PC Tryz.prog 124 [sl aH l] (fun r => r = sl aH l)) (l : List AL.Stmt) (hs : aP l ≤ mm) : PC Tryz.prog 124 [sl aH l] (fun r => r = sl aH l) := by
 have hlen := cC l
 refine aB Tryz.func124 Tryz.ntmps124 ?_
 repeat' (first|(apply aI;(apply gB (d := 3) (e := 6);rfl;rfl))|refine aD ?_|refine aE ?_|fail)
 refine aK (σ := Nat × List AL.Stmt) [6, 7] [] (fun k => [(8, iv (k.1 : Int)), (3, .own 0 0 k.1 6)]) (fun k => [(0, some (flat aH k.2))]) (fun k => k.1 ≤ l.length ∧ k.2 = l.take k.1) (fun k => l.length - k.1) (0, []) ⟨by omega, rfl⟩ ?_
 rintro ⟨k, xs⟩ ⟨hk, hxs⟩
 dsimp only at hk hxs ⊢
 have hck := fB l k
 have hct := iG l[k]!
 have hln : xs.length = k := by rw [hxs, List.length_take]; omega
 repeat' (first|(apply aI;first|(apply aO (t := _);rfl;rfl;rfl;(exact (rfl:_=some [_, _, _, _, _, _]));rfl;rfl)|(apply aA (k := 124);rfl;(apply own_ih <;> (omega));exact Pur.pf;rfl))|refine aD ?_|refine aE ?_|(refine aM ?_ ?_ <;> intro hc hq <;> try (exfalso;omega))|refine b0 ?_|fail)
 ·(refine bH (k + 1, _) (Le.renA [(0, 3)]) ?_ ?_)
  ·exact ⟨by dsimp only;omega, by dsimp only;rw [hxs, bI l k (by omega)]⟩
  ·dsimp only;omega
 ·have hke : k = l.length := by omega
  (refine aV (Le.frzD (d := 2) (i := 0) rfl rfl) ?_; refine aF rfl ?_)
  refine ⟨?_, Pur.pf⟩
  rw [hxs, hke, List.take_length]; rfl
theorem L7 (l : List AL.Stmt) (hb : aP l ≤ 1000000) : PC Tryz.prog 124 [sl aH l] (fun r => r = sl aH l) := by
 have key : ∀ m, m ≤ 1000000 → ∀ l, aP l ≤ m → PC Tryz.prog 124 [sl aH l] (fun r => r = sl aH l) := by
  intro m
  induction m with
  | zero => intro hm l hl;exact GC 0 hm (fun l h => by omega) l hl
  | succ m ih => intro hm l hl;exact GC (m + 1) hm (fun l h => ih (by omega) l (by omega)) l hl
 exact key (aP l) hb l (Nat.le_refl _)
theorem Mp (l : List AL.Stmt) (hs : aP l ≤ 1000000) : MC Tryz.prog 124 [sl aH l] [] 0 (fun _ : Unit => True) (fun _ => .own 0 0 l.length 6) (fun _ => [(0, some (flat aH l))]) := by
 have hlen := cC l
 refine aX Tryz.func124 Tryz.ntmps124 ?_
 repeat' (first|(apply aI;(apply gB (d := 3) (e := 6);rfl;rfl))|refine aD ?_|refine aE ?_|fail)
 refine aK (σ := Nat × List AL.Stmt) [6, 7] [] (fun k => [(8, iv (k.1 : Int)), (3, .own 0 0 k.1 6)]) (fun k => [(0, some (flat aH k.2))]) (fun k => k.1 ≤ l.length ∧ k.2 = l.take k.1) (fun k => l.length - k.1) (0, []) ⟨by omega, rfl⟩ ?_
 rintro ⟨k, xs⟩ ⟨hk, hxs⟩
 dsimp only at hk hxs ⊢
 have hck := fB l k
 have hct := iG l[k]!
 have hln : xs.length = k := by rw [hxs, List.length_take]; omega
 have o1 := L7 l[k]!.th
 have o2 := L7 l[k]!.el
 repeat' (first|(apply aI;first|(apply aA (k := 124);rfl;exact (o1 (by omega));exact Pur.pf;rfl)|(apply aA (k := 124);rfl;exact (o2 (by omega));exact Pur.pf;rfl)|(apply aO (t := _);rfl;rfl;rfl;(exact (rfl:_=some [_, _, _, _, _, _]));rfl;rfl))|refine aD ?_|refine aE ?_|(refine aM ?_ ?_ <;> intro hc hq <;> try (exfalso;omega))|refine b0 ?_|fail)
 ·(refine bH (k + 1, _) (Le.renA [(0, 3)]) ?_ ?_)
  ·exact ⟨by dsimp only;omega, by dsimp only;rw [hxs, bI l k (by omega)]⟩
  ·dsimp only;omega
 ·have hke : k = l.length := by omega
  have hxl : xs = l := by rw [hxs, hke, List.take_length]
  subst hke
  (refine aF rfl ?_; refine aU () trivial ?_ ⟨.inr (Eq.trans (b := some _) rfl ?_), trivial⟩)
  ·rfl
  ·rw [hxl]
theorem Kb {l : List AL.Stmt} {N : Nat} {Q : Exit → AS → Prop} {all : Array Oper} {rest : List Oper} {tsl : List (Nat × AV)} {hsl : List (Nat × Option (List AV))} {nidl : Nat} {z0 : Lo} {md : Md} {d : Nat} {ty : TypeId} {pos : String} {af : Array Edge} {tys : Array TypeId} {x0 : Operand} (ha0 : ev (lk tsl) x0 = some (sl aH l)) (hmc : MC Tryz.prog 124 [sl aH l] [] 0 (fun _ : Unit => True) (fun _ => .own 0 0 l.length 6) (fun _ => [(0, some (flat aH l))])) (hM : Nat.ble (nidl + 1) aY = true) (hN : Nat.blt d N = true) {md' : Md} [hmd : MdA md (fK [x0] ++ []) (List.map Sum.inr (List.map Prod.fst ([(nidl, some (flat aH l))] : List (Nat × Option (List AV)))) ++ [.inl d]) md'] (kk : RW Tryz.prog N all Q md' rest ⟨(d, .own nidl 0 l.length 6) :: tsl, gR hsl [(nidl, some (flat aH l))], nidl + 1, z0⟩) : RW Tryz.prog N all Q md (⟨some d, .call ⟨.value (.func 124), #[x0], tys⟩, ty, pos, af, none⟩ :: rest) ⟨tsl, hsl, nidl, z0⟩ := by
 refine a6 [] 1 [(nidl, some (flat aH l))] hmc (avs := [sl aH l]) ?_ rfl ?_ rfl ?_ (by simpa using hM) ?_ ?_ ?_ hN (md' := md') (hmd := hmd) kk
 ·show evL (lk tsl) [x0] = _
  simp only [evL, ha0]
 ·exact trivial
 ·(repeat' (exact RnL.purI inferInstance))
 ·(repeat' (exact RnV.own rfl))
 ·simp [cA]
 ·(repeat' (first|exact trivial|(refine And.intro ⟨0, _, rfl, rfl, ?_⟩ ?_)|exact RnL.purI inferInstance))
theorem Kt {q : Prg} {N : Nat} {Q : Exit → AS → Prop} {all : Array Oper} {rest : List Oper} {tsl : List (Nat × AV)} {hsl : List (Nat × Option (List AV))} {nidl : Nat} {z0 : Lo} {md : Md} {d : Nat} {ty : TypeId} {pos : String} {af : Array Edge} {tys : Array TypeId} {x0 : Operand} (ha0 : ev (lk tsl) x0 = some (bQ q)) (hmc : MC Tryz.prog 59 [bQ q] [] 0 (fun _ : Unit => True) (fun _ => .agg [sl cI q.types, .own 2 0 q.body.length 6]) (fun _ => [(2, some (flat aH q.body))])) (hM : Nat.ble (nidl + 3) aY = true) (hN : Nat.blt d N = true) {md' : Md} [hmd : MdA md (fK [x0] ++ []) (List.map Sum.inr (List.map Prod.fst ([((nidl + 2), some (flat aH q.body))] : List (Nat × Option (List AV)))) ++ [.inl d]) md'] (kk : RW Tryz.prog N all Q md' rest ⟨(d, .agg [sl cI q.types, .own (nidl + 2) 0 q.body.length 6]) :: tsl, gR hsl [((nidl + 2), some (flat aH q.body))], nidl + 3, z0⟩) : RW Tryz.prog N all Q md (⟨some d, .call ⟨.value (.func 59), #[x0], tys⟩, ty, pos, af, none⟩ :: rest) ⟨tsl, hsl, nidl, z0⟩ := by
 refine a6 [] 3 [((nidl + 2), some (flat aH q.body))] hmc (avs := [bQ q]) ?_ rfl ?_ rfl ?_ (by simpa using hM) ?_ ?_ ?_ hN (md' := md') (hmd := hmd) kk
 ·show evL (lk tsl) [x0] = _
  simp only [evL, ha0]
 ·exact trivial
 ·(repeat' (exact RnL.purI inferInstance))
 ·(repeat' (first|exact RnL.purI inferInstance|exact RnV.purI inferInstance|exact RnV.own rfl|refine RnL.cons ?_ ?_|refine RnV.agg ?_))
 ·simp [cA]
 ·(repeat' (first|exact trivial|(refine And.intro ⟨2, _, rfl, rfl, ?_⟩ ?_)|exact RnL.purI inferInstance))
theorem NV (q : Prg) (hs : aP q.body ≤ 1000000) (ht : q.types.length ≤ 1000000) : MC Tryz.prog 59 [bQ q] [] 0 (fun _ : Unit => True) (fun _ => .agg [sl cI q.types, .own 2 0 q.body.length 6]) (fun _ => [(2, some (flat aH q.body))]) := by
 have h1 := GX q.types ht
 refine aX Tryz.func59 Tryz.ntmps59 ?_
 repeat' (first|(apply aI;first|(apply aA (k := 123);rfl;exact h1;exact Pur.pf;rfl)|(apply Kb;rfl;(apply Mp;assumption);rfl;rfl))|refine aD ?_|refine aE ?_|refine b0 ?_|fail)
 (refine aF rfl ?_; refine aU () trivial ?_ ⟨.inr (Eq.trans (b := some _) rfl ?_), trivial⟩)
 ·rfl
 ·rfl
theorem xW (q : Prg) (k : Nat) (hk : k ≤ q.body.length) (hs : aP q.body ≤ 1000000) : PC Tryz.prog 58 [bQ q, iv (k : Int)] (fun r => r = iv (b8 (q.body.take k) : Int)) := by
 have hlen := cC q.body
 have hc : aP (List.take ((k : Int).toNat - 0) (List.drop 0 q.body)) ≤ aP q.body := by
  have h := c8 (q.body.take k) (q.body.drop k)
  rw [List.take_append_drop] at h
  rw [List.drop_zero, Nat.sub_zero, Int.toNat_natCast]; omega
 have hn := jE (List.take ((k : Int).toNat - 0) (List.drop 0 q.body))
 refine aB Tryz.func58 Tryz.ntmps58 ?_
 repeat' (first|(apply aI;(apply pL;rfl;rfl;(apply qY <;> (omega));rfl;rfl))|refine aD ?_|refine aE ?_|fail)
 refine aF rfl ⟨?_, rfl⟩
 simp only [aQ, List.drop_zero, Nat.sub_zero, Int.toNat_natCast]
theorem vC {stk : List Tg} {id : Int} (h : 0 ≤ cV stk id) : ∀ k < (cV stk id).toNat, stk[k]!.id ≠ id := by
 unfold cV at h ⊢
 split
 ·rename_i k hk
  obtain ⟨h1, h2, h3⟩ := List.findIdx?_eq_some_iff_getElem.1 hk
  rw [Int.toNat_natCast]
  intro j hj he
  have := h3 j hj
  rw [aZ _ _ (by omega)] at he
  simp [he] at this
 ·rename_i hk;rw [hk] at h;dsimp only at h;omega
theorem D3 {stk : List Tg} {id : Int} {i : Nat} (hi : i < stk.length) (h : stk[i]!.id = id) (hn : ∀ k < i, stk[k]!.id ≠ id) : cV stk id = (i : Int) := by
 have hb := iL stk id
 by_cases hneg : cV stk id < 0
 ·have := vX.1 hneg stk[i]! (by rw [aZ _ _ hi]; exact List.getElem_mem hi)
  exact absurd h this
 ·have ha := Ki (stk := stk) (id := id) (by omega)
  have hf := vC (stk := stk) (id := id) (by omega)
  rcases Nat.lt_trichotomy (cV stk id).toNat i with h1|h1|h1
  ·exact absurd ha (hn _ h1)
  ·omega
  ·exact absurd h (hf _ h1)
theorem DB (c : Cl) : OkC c ↔ (0 ≤ c.val ∧ c.val ≤ 9) ∧ (1 ≤ c.next ∧ c.next ≤ 1000) ∧ (1 ≤ c.stk.length ∧ c.stk.length ≤ 200) ∧ c.stk[0]!.uq = true ∧ (∀ k < c.stk.length, 0 ≤ c.stk[k]!.id ∧ c.stk[k]!.id < c.next ∧ cV c.stk c.stk[k]!.id = (k : Int)) := by
 constructor
 ·intro h
  refine ⟨h.v, h.n, h.l, h.u, fun k hk => ?_⟩
  have h1 := h.i c.stk[k]! (by rw [aZ _ _ hk]; exact List.getElem_mem hk)
  refine ⟨h1.1, h1.2, D3 hk rfl (fun j hj he => ?_)⟩
  have hd := List.nodup_iff_pairwise_ne.1 h.d |> List.pairwise_iff_getElem.1
  have := hd j k (by rw [List.length_map]; omega) (by rw [List.length_map]; omega) hj
  simp only [List.getElem_map] at this
  rw [aZ _ _ (by omega), aZ _ _ hk] at he
  exact this he
 ·rintro ⟨h1, h2, h3, h4, h5⟩
  refine ⟨h1, h2, h3, h4, fun t ht => ?_, ?_⟩
  ·obtain ⟨k, hk, rfl⟩ := List.getElem_of_mem ht
   have := h5 k hk;rw [aZ _ _ hk] at this
   exact ⟨this.1, this.2.1⟩
  ·rw [List.nodup_iff_pairwise_ne, List.pairwise_iff_getElem]
   intro i j hi hj hij he
   rw [List.length_map] at hi hj
   simp only [List.getElem_map] at he
   have a := (h5 i hi).2.2
   have b := (h5 j hj).2.2
   rw [aZ _ _ hi] at a;rw [aZ _ _ hj, ← he, a] at b
   omega
instance (c : Cl) : Decidable (OkC c) := decidable_of_iff _ (DB c).symm
theorem iQ (m : List Cl) : OkM m ↔ m.length ≤ 200 ∧ ∀ k < m.length, OkC m[k]! := by
 constructor
 ·exact fun h => ⟨h.l, fun k hk => h.c _ (by rw [aZ _ _ hk]; exact List.getElem_mem hk)⟩
 ·exact fun h => ⟨h.1, fun c hc => by obtain ⟨k, hk, rfl⟩ := List.getElem_of_mem hc;have := h.2 k hk;rwa [aZ _ _ hk] at this⟩
instance (m : List Cl) : Decidable (OkM m) := decidable_of_iff _ (iQ m).symm
theorem rQ (k : Int) : PC Tryz.prog 201 [iv k] (fun r => r = iv (iP k)) := by
 refine aB Tryz.func201 Tryz.ntmps201 ?_
 repeat' (first|refine aD ?_|refine aE ?_|(refine aM ?_ ?_ <;> intro hc hq <;> try (exfalso;omega))|refine c5 ?_|fail)
 all_goals (refine ⟨?_, rfl⟩; simp only [aQ, AV.v.injEq, Value.bool.injEq, Value.int.injEq, true_and])
 all_goals grind [iP]
theorem HV {xs : List Tg} {m : Nat} {a : Int} {b : Bool} (hm : m = xs.length) : ((flat dA xs).drop 0).take (m * 2) ++ [iv a, bv b] = flat dA (xs ++ [⟨a, b⟩]) := g6 hm rfl
theorem w8 {α} {p : α → Bool} {a : α} (h : p a = true) : [a].filter p = [a] := by simp [h]
theorem p9 {α} {p : α → Bool} {a : α} (h : p a = false) : [a].filter p = [] := by simp [h]
theorem Mr {m : List Cl} {x : Pt} {wr : Bool} (h : x.cell < 0 ∨ (m.length : Int) ≤ x.cell) : bJ m x wr = 4 := by
 unfold bJ;rw [if_pos (by omega)]
theorem L9 {m : List Cl} {x : Pt} {wr : Bool} (h : 0 ≤ x.cell) (h2 : x.cell < m.length) (h3 : m[x.cell.toNat]!.alive = false) : bJ m x wr = 1 := by
 unfold bJ;rw [if_neg (by omega), if_pos h3]
theorem MU {m : List Cl} {x : Pt} {wr : Bool} (h : 0 ≤ x.cell) (h2 : x.cell < m.length) (h3 : m[x.cell.toNat]!.alive = true) (h4 : cV m[x.cell.toNat]!.stk x.tag < 0) : bJ m x wr = 2 := by
 unfold bJ;rw [if_neg (by omega), if_neg (by rw [h3]; decide), if_pos h4]
theorem D4 {m : List Cl} {x : Pt} (h : 0 ≤ x.cell) (h2 : x.cell < m.length) (h3 : m[x.cell.toNat]!.alive = true) (h4 : 0 ≤ cV m[x.cell.toNat]!.stk x.tag) : bJ m x false = 0 := by
 unfold bJ;rw [if_neg (by omega), if_neg (by rw [h3]; decide), if_neg (by omega), if_neg (by intro q;exact absurd q.1 (by decide))]
theorem Kw {m : List Cl} {x : Pt} : bJ m x true = if bJ m x false = 0 then (if m[x.cell.toNat]!.stk[(cV m[x.cell.toNat]!.stk x.tag).toNat]!.uq = false then 3 else 0) else bJ m x false := by
 unfold bJ
 split
 ·rw [if_neg (by decide)]
 ·split
  ·rw [if_neg (by decide)]
  ·split
   ·rw [if_neg (by decide)]
   ·rw [if_neg (c := false = true ∧ _) (by intro q; exact absurd q.1 (by decide)), if_pos rfl]
    simp only [true_and]
theorem iR {m : List Cl} {x : Pt} {wr : Bool} (h : bJ m x wr = 0) : 0 ≤ x.cell ∧ x.cell < m.length ∧ m[x.cell.toNat]!.alive = true ∧ 0 ≤ cV m[x.cell.toNat]!.stk x.tag ∧ (wr = true → m[x.cell.toNat]!.stk[(cV m[x.cell.toNat]!.stk x.tag).toNat]!.uq = true) := by
 unfold bJ at h
 split at h
 ·omega
 ·split at h
  ·omega
  ·split at h
   ·omega
   ·split at h
    ·omega
    ·rename_i a b c d
     refine ⟨by omega, by omega, by simpa using b, by omega, fun hw => ?_⟩
     by_cases q : m[x.cell.toNat]!.stk[(cV m[x.cell.toNat]!.stk x.tag).toNat]!.uq = false
     ·exact absurd ⟨hw, q⟩ d
     ·simpa using q
theorem Mu {xs : List Cl} {k : Nat} {s : List Tg} (hk : k < xs.length) : gI (flat cY xs) (0 + k * 4 + 3) [sl dA s] = flat cY (xs.set k { xs[k]! with stk := s }) := fA hk (by simp) rfl
theorem nR {α : Type} {f : α → List AV} {xs : List α} {n : Nat} (h : n = xs.length) : AV.imm n (flat f xs) = sl f xs := by subst h; rfl
theorem u6 {m : List Cl} {x : Pt} {wr : Bool} : (j9 m x wr).length = m.length := by
 unfold j9;split
 ·rw [List.length_set]
 ·rfl
theorem set_set {α : Type} {l : List α} {i : Nat} {a b : α} : (l.set i a).set i b = l.set i b := by simp
theorem sH {α : Type} [Inhabited α] {l : List α} {i : Nat} {a : α} (h : i < l.length) : (l.set i a)[i]! = a := by rw [aZ _ _ (by rw [List.length_set]; exact h), List.getElem_set_self]
def s8 (m : List Cl) (j : Nat) (r : List Tg) : Prop := r.length = 200 ∨ m[j]!.next = 1000
instance (m : List Cl) (j : Nat) (r : List Tg) : Decidable (s8 m j r) := by unfold s8; infer_instance
def oD (m b : List Cl) (j : Nat) (u : Bool) (r : List Tg) : List Cl := if s8 m j r then b else m.set j (psh { m[j]! with stk := r } u)
def rK (m : List Cl) (j : Nat) (r : List Tg) : Pt := if s8 m j r then ⟨0, 0⟩ else ⟨j, m[j]!.next⟩
def pJ (m : List Cl) (j : Nat) (r : List Tg) : Int := if s8 m j r then 4 else 0
theorem AT {m : List Cl} {x : Pt} {u : Bool} {r : List Tg} (hk : bJ m x u = 0) (hr : r = jZ m[x.cell.toNat]!.stk (cV m[x.cell.toNat]!.stk x.tag).toNat u) : zP m x u = pJ m x.cell.toNat r ∧ vD m x u = oD m m x.cell.toNat u r ∧ Gw m x u = rK m x.cell.toNat r := by
 obtain ⟨h1, h2, _⟩ := iR hk
 subst hr
 have e : zP m x u = pJ m x.cell.toNat (jZ m[x.cell.toNat]!.stk (cV m[x.cell.toNat]!.stk x.tag).toNat u) := by
  unfold zP;rw [if_pos hk]; rfl
 refine ⟨e, ?_, ?_⟩
 ·unfold vD oD
  rw [e]; unfold pJ
  split
  ·rw [if_neg (by decide)]
  ·rw [if_pos rfl]; rfl
 ·unfold Gw rK
  rw [e]; unfold pJ
  split
  ·rw [if_neg (by decide)]
  ·rw [if_pos rfl, Int.toNat_of_nonneg h1]
theorem Oj {m : List Cl} {x : Pt} {u : Bool} (hk : bJ m x u ≠ 0) : zP m x u = bJ m x u ∧ vD m x u = m ∧ Gw m x u = ⟨0, 0⟩ := by
 have e : zP m x u = bJ m x u := by unfold zP;rw [if_neg hk]
 exact ⟨e, by unfold vD;rw [if_neg (by rw [e]; exact hk)], by unfold Gw;rw [if_neg (by rw [e]; exact hk)]⟩
theorem DT {xs : List Sl} {k : Nat} {a : Bool} {b c d : Int} (hk : k < xs.length) : gI (flat eE xs) (0 + k * 4) [bv a, iv b, iv c, iv d] = flat eE (xs.set k ⟨a, b, ⟨c, d⟩⟩) := iY hk rfl
theorem IC {ts : List Int} {n v : Nat} {q : Mc} (h : ¬ (ts[v]! = 2 ∧ q.slots[v]!.set = true)) : cM ts (n + 1) v q = cM ts n (v + 1) q := by
 rw [cM, if_neg h]
theorem NG {ts : List Int} {n v : Nat} {q : Mc} (h : ts[v]! = 2 ∧ q.slots[v]!.set = true) (hk : bJ q.cells q.slots[v]!.ptr true = 0) : cM ts (n + 1) v q = cM ts n (v + 1) ⟨q.slots.set v lQ, kQ q.cells q.slots[v]!.ptr, q.read⟩ := by
 rw [cM, if_pos h, if_pos hk]
theorem NL {ts : List Int} {n v : Nat} {q : Mc} (h : ts[v]! = 2 ∧ q.slots[v]!.set = true) (hk : ¬ bJ q.cells q.slots[v]!.ptr true = 0) : cM ts (n + 1) v q = (⟨q.slots, kQ q.cells q.slots[v]!.ptr, q.read⟩, iP (bJ q.cells q.slots[v]!.ptr true)) := by
 rw [cM, if_pos h, if_neg hk]
def wm (pts : List Pnt) (n a : Nat) (cs : List Int) : List Int × Bool := ((eT pts n a cs).1.map (fun a : Nat => (a : Int)), (eT pts n a cs).2)
theorem NU {pts : List Pnt} {n a : Nat} {cs : List Int} (h : pts[a]!.op = 11) : wm pts n a cs = ([(a : Int)], true) := by
 have e : eT pts n a cs = ([a], true) := by cases n <;> (unfold eT;rw [if_pos h])
 unfold wm;rw [e]; rfl
theorem NX {pts : List Pnt} {a : Nat} {cs : List Int} (h : ¬ pts[a]!.op = 11) : wm pts 0 a cs = ([], false) := by
 have e : eT pts 0 a cs = ([], false) := by unfold eT;rw [if_neg h]
 unfold wm;rw [e]; rfl
theorem Og {pts : List Pnt} {n a : Nat} {cs : List Int} (h : ¬ pts[a]!.op = 11) : wm pts (n + 1) a cs = ((a : Int) :: (wm pts n (dX pts a cs).1 (dX pts a cs).2).1, (wm pts n (dX pts a cs).1 (dX pts a cs).2).2) := by
 unfold wm;rw [eT, if_neg h]; rfl
theorem OU {pts : List Pnt} {a : Nat} {cs : List Int} (h : ¬ pts[a]!.next.length = 2) : dX pts a cs = ((pts[a]!.next[0]!).toNat, cs) := by
 unfold dX;rw [if_neg h]
theorem KS {pts : List Pnt} {n a : Nat} {out cs cs2 : List Int} {b : Nat} {q : List Int × Bool} (h : ¬ pts[a]!.op = 11) (ho : out.length < n) (hs : dX pts a cs = (b, cs2)) (hq : q = (out ++ (wm pts (n - out.length) a cs).1, (wm pts (n - out.length) a cs).2)) :
  q = ((out ++ [(a : Int)]) ++ (wm pts (n - (out ++ [(a : Int)]).length) b cs2).1, (wm pts (n - (out ++ [(a : Int)]).length) b cs2).2) := by
 rw [hq, show n - out.length = (n - (out.length + 1)) + 1 by omega, Og h, hs, List.length_append, List.append_assoc]
 rfl
theorem e6 {ts : List Int} {s : Mc} {v : Nat} {y : Sl} : (cJ ts s v y).1.read = s.read := by unfold cJ; split <;> rfl
theorem Hz {ts : List Int} {s : Mc} {x : Pnt} (h : x.op ≠ 11) : (cD ts s x).1.read.length ≤ s.read.length + 1 := by
 unfold cD
 split
 ·rw [e6]; omega
 split
 ·split
  ·dsimp only;omega
  ·rw [e6]; dsimp only;omega
 split
 ·rw [e6]; split <;> (first|omega|(dsimp only;omega))
 split
 ·split
  ·rw [e6]; dsimp only;omega
  ·dsimp only;omega
 split
 ·split
  ·rw [e6]; dsimp only;rw [List.length_append]; simp only [List.length_singleton]; omega
  ·dsimp only;omega
 split
 ·dsimp only;omega
 split
 ·dsimp only;omega
 dsimp only;omega
theorem Jt {ts : List Int} {pts : List Pnt} (w : WG ts pts) (A : WA ts pts) : ∀ n a cs, a < pts.length → ∀ x ∈ (eT pts n a cs).1, x < pts.length
 | 0, a, cs, ha, x, hx => by
  unfold eT at hx
  by_cases e : pts[a]!.op = 11
  ·rw [if_pos e] at hx;rw [List.mem_singleton.1 hx]; exact ha
  ·rw [if_neg e] at hx;exact absurd hx (by simp)
 | n + 1, a, cs, ha, x, hx => by
  rw [eT] at hx
  by_cases e : pts[a]!.op = 11
  ·rw [if_pos e] at hx;rw [List.mem_singleton.1 hx]; exact ha
  ·rw [if_neg e] at hx
   rcases List.mem_cons.1 hx with h|h
   ·rw [h]; exact ha
   ·have he := oZ w A ha e cs
    have := w.nx a ha _ he.2
    exact Jt w A n _ _ (by omega) x h
theorem y6 {pts : List Pnt} : ∀ n a cs, (eT pts n a cs).1.length ≤ n + 1
 | 0, a, cs => by unfold eT;split <;> simp
 | n + 1, a, cs => by
  rw [eT]; split
  ·simp
  ·have := y6 (pts := pts) n (dX pts a cs).1 (dX pts a cs).2
   dsimp only;rw [List.length_cons]; omega
def Gp (p : Prg) (most : Int) : Bool := bB p && (decide (0 ≤ most) && decide (most ≤ 150))
theorem H3 {p : Prg} {cs : List Int} {n : Nat} (hv : bB p = true) : OkS p.types.length (cQ p.types (aC p) cs n).1 := by
 have wa := WA.of_valid hv
 have hp : ∀ a : Nat, PtN (aC p)[a]! := fun a => by
  by_cases h : a < (aC p).length
  ·exact ⟨fun e => (wa.a a h).n (.inr e)⟩
  ·refine ⟨fun e => ?_⟩
   rw [IB, dif_neg h] at e
   exact absurd e (by decide)
 exact OkS.run hp _ _ _ (OkS.mc0 _)
theorem BR {ts : List Int} {s : Mc} {x : Pnt} : (cD ts s x).1.read.length ≤ s.read.length + 1 := by
 by_cases h : x.op = 11
 ·rw [BM h, lX]; omega
 ·exact Hz h
theorem wR (ts : List Int) (pts : List Pnt) : ∀ (l : List Nat) (s : Mc) (last : Nat), (gO ts pts l s last).1.read.length ≤ s.read.length + l.length
 | [], s, last => by unfold gO;simp
 | a :: l, s, last => by
  have h := BR (ts := ts) (s := s) (x := pts[a]!)
  unfold gO;split
  ·dsimp only;omega
  ·split
   ·have := wR ts pts l (cD ts s pts[a]!).1 a
    rw [List.length_cons]; omega
   ·rw [List.length_cons]; dsimp only;omega
theorem n5 {ts : List Int} {pts : List Pnt} {cs : List Int} {n : Nat} (hn : n ≤ 150) : (cQ ts pts cs n).1.read.length ≤ 151 := by
 have h := wR ts pts (eT pts n 0 cs).1 (mc0 ts.length) 0
 have h2 := y6 (pts := pts) n 0 cs
 have h3 : (mc0 ts.length).read.length = 0 := rfl
 unfold cQ;omega
def rI (m : List Cl) : List Int := ((List.range m.length).filter (fun k => m[k]!.alive)).map (fun k : Nat => (k : Int))
theorem OE : Go.Proofs.Tryz.prog.underlying 280 = some (.map 3 4) := by kernel_rfl
theorem Ov : Go.Proofs.Tryz.prog.underlying 3 = some (.int .i64) := by kernel_rfl
theorem OI : (Go.Proofs.Tryz.prog.info? 4).bind (·.zero) = some (.bool false) := by kernel_rfl
theorem On {a b c : Int} (h : a ≤ b ∧ b ≤ c) : (!(decide (a ≤ b) && decide (b ≤ c))) = false := by simp [h.1, h.2]
theorem gU (m : List Cl) (hm : OkM m) : PC Tryz.prog 239 [sl cY m] (fun r => r = bv true) := by
 have hml := hm.l
 refine aB Tryz.func239 Tryz.ntmps239 ?_
 repeat' (first|refine aD ?_|refine aE ?_|(refine aM ?_ ?_ <;> intro hc hq <;> try (exfalso;omega))|fail)
 all_goals (try (exfalso;omega))
 refine aK (σ := Nat) [11, 12] [] (fun i => [(13, iv (i : Int))]) (fun i => []) (fun i => i ≤ m.length) (fun i => m.length - i) (0) (Nat.zero_le _) ?_
 rintro i hi
 by_cases hin : i < m.length
 ·have hc := (iQ m).1 hm |>.2 i hin
  obtain ⟨h1, h2, h3, h4, h5⟩ := (DB _).1 hc
  repeat' (first|(apply aI;(apply aA (k := 54);rfl;(apply cO);(rfl);rfl))|(apply Ej;with_reducible apply HW)|refine aD ?_|refine aE ?_|(refine aM ?_ ?_ <;> intro hc hq <;> try (exfalso;omega))|(refine bU ?_ ?_ <;> intro hg hq <;> try (exfalso;omega))|fail)
  ·exfalso
   have hu : m[i]!.stk[Int.toNat 0]!.uq = false := by assumption
   rw [show Int.toNat 0 = 0 from rfl, h4] at hu;exact absurd hu (by decide)
  ·refine My (HO rfl (fun r => ?_))
   refine Ad ?_
   repeat' (first|refine aD ?_|fail)
   refine ⟨rfl, rfl, ?_⟩
   refine kU (oJ ?_)
   repeat' (first|refine aD ?_|refine aE ?_|fail)
   show sC _ _ _ _ _ _ _
   refine v5 ?_
   refine EB (σ := Nat) [4, 5, 11, 12, 13, 44, 45] [(4, _), (5, _), (11, _), (12, _), (13, _), (44, _), (45, _)] [0] [(0, some _)] (fun k => [(46, iv (k : Int))]) (fun k => []) (fun k => (m[i]!.stk.take k).map (·.id)) (fun k => k ≤ m[i]!.stk.length) (fun k => m[i]!.stk.length - k) (0) (Nat.zero_le _) (rfl) rfl rfl (by repeat' (first|exact trivial|refine And.intro rfl ?_)) (by repeat' (exact trivial)) ?_
   rintro k hk
   refine kU (oJ ?_)
   repeat' (first|refine aD ?_|refine aE ?_|fail)
   show sC _ _ _ _ _ _ _
   refine kU (Bc rfl (fun hb => AY ?_) (fun hb => Jh ?_))
   ·show sC _ _ _ _ _ _ _
    have hkl : k < m[i]!.stk.length := by have := of_decide_eq_true hb;omega
    obtain ⟨g1, g2, g3⟩ := h5 k hkl
    have hw := On (a := 0) (b := m[i]!.stk[k]!.id) (c := m[i]!.next - 1) ⟨g1, by omega⟩
    have hni : m[i]!.stk[k]!.id ∉ (m[i]!.stk.take k).map (·.id) := fun q => by
     obtain ⟨t, ht, e⟩ := List.mem_map.1 q
     obtain ⟨j, hj, rfl⟩ := List.getElem_of_mem ht
     rw [List.length_take] at hj
     have f := vC (stk := m[i]!.stk) (id := m[i]!.stk[k]!.id) (by omega) j (by omega)
     rw [aZ _ _ (by omega)] at f
     rw [List.getElem_take] at e
     exact f e
    refine kU (v5 (kU (oJ ?_)))
    repeat' (first|refine aD ?_|refine aE ?_|fail)
    show sC _ _ _ _ _ _ _
    refine kU (kU (sR ?_))
    refine zZ (l1 := [_, _, _, _, _, _, _, _, _, _, _]) (l2 := [_, _]) ?_
    repeat' (first|(apply aI;(apply aA (k := 54);rfl;(apply cO);(rfl);rfl))|refine aD ?_|fail)
    refine ⟨rfl, ?_⟩
    refine Gi rfl rfl hw ?_
    refine B3 OE Ov OI rfl rfl hni rfl ?_
    refine Ad ?_
    repeat' (first|refine aD ?_|fail)
    refine ⟨rfl, ?_⟩
    show sC _ _ _ _ _ _ _
    refine Bc rfl (fun h => by cases h) (fun _ => AY ?_)
    show sC _ _ _ _ _ _ _
    refine sR ?_
    refine zZ (l1 := [_, _, _]) (l2 := [_]) ?_
    repeat' (first|refine aD ?_|fail)
    refine ⟨rfl, ?_⟩
    refine C3 OE Ov OI rfl rfl hni ?_
    refine LA ?_
    show sC _ _ _ _ _ _ _
    refine oJ ?_
    repeat' (first|refine aD ?_|refine aE ?_|fail)
    refine ⟨k + 1, by omega, by omega, ?_, ?_⟩
    ·refine Le.ren [(0, 0)] rfl (by decide) ?_ ?_ <;> repeat' (first|exact trivial|refine And.intro ⟨_, rfl, ?_⟩ ?_|refine And.intro ⟨_, _, rfl, rfl, ?_⟩ ?_|exact Or.inr rfl|refine Or.inl ⟨?_, (by first|rfl|exact bG _ _|exact Pur.pf)⟩|rfl)
    ·rw [bI _ k hkl, List.map_append]; rfl
   ·have hkl : k = m[i]!.stk.length := by have := of_decide_eq_false hb; omega
    refine GM ?_
    show CN 1 _ _ _
    repeat' (first|refine aD ?_|refine aE ?_|fail)
    (refine bH (i + 1) (Le.renA []) ?_ ?_)
    ·omega
    ·omega
 ·repeat' (first | refine aD ?_ | refine aE ?_ | (refine aM ?_ ?_ <;> intro hc hq <;> try (exfalso; omega))|fail)
  refine aF rfl ⟨rfl, rfl⟩
theorem Le.bump {ts : List (Nat × AV)} {hs : List (Nat × Option (List AV))} {n : Nat} {z0 : Lo} (k : Nat) : Le ⟨ts, hs, n, z0⟩ ⟨ts, hs, n + k, z0⟩ := Le.of (fun _ _ h => h) (fun _ _ h => h) (Nat.le_add_right _ _) rfl
theorem wP {m : List Cl} {N : Nat} {Q : Exit → AS → Prop} {all : Array Oper} {rest : List Oper} {tsl : List (Nat × AV)} {hsl : List (Nat × Option (List AV))} {nidl : Nat} {z0 : Lo} {md : Md} {d : Nat} {ty : TypeId} {pos : String} {af : Array Edge} {tys : Array TypeId} {x0 : Operand} (ha0 : ev (lk tsl) x0 = some (sl cY m)) (hmc : MC Tryz.prog 265 [sl cY m] [] 0 (fun _ : Unit => True) (fun _ => .own 1 0 m.length 4) (fun _ => [(1, some (flat cY m))])) (hM : Nat.ble (nidl + 2) aY = true) (hN : Nat.blt d N = true) {md' : Md} [hmd : MdA md (fK [x0] ++ []) (List.map Sum.inr (List.map Prod.fst ([((nidl + 1), some (flat cY m))] : List (Nat × Option (List AV)))) ++ [.inl d]) md'] (kk : RW Tryz.prog N all Q md' rest ⟨(d, .own (nidl + 1) 0 m.length 4) :: tsl, gR hsl [((nidl + 1), some (flat cY m))], nidl + 2, z0⟩) : RW Tryz.prog N all Q md (⟨some d, .call ⟨.value (.func 265), #[x0], tys⟩, ty, pos, af, none⟩ :: rest) ⟨tsl, hsl, nidl, z0⟩ := by
 refine a6 [] 2 [((nidl + 1), some (flat cY m))] hmc (avs := [sl cY m]) ?_ rfl ?_ rfl ?_ (by simpa using hM) ?_ ?_ ?_ hN (md' := md') (hmd := hmd) kk
 ·show evL (lk tsl) [x0] = _
  simp only [evL, ha0]
 ·exact trivial
 ·(repeat' (exact RnL.purI inferInstance))
 ·(repeat' (exact RnV.own rfl))
 ·simp [cA]
 ·(repeat' (first|exact trivial|(refine And.intro ⟨1, _, rfl, rfl, ?_⟩ ?_)|exact RnL.purI inferInstance))
theorem z7 (m : List Cl) (hl : m.length ≤ 1000000) : MC Tryz.prog 265 [sl cY m] [] 0 (fun _ : Unit => True) (fun _ => .own 1 0 m.length 4) (fun _ => [(1, some (flat cY m))]) := by
 refine aX Tryz.func265 Tryz.ntmps265 ?_
 repeat' (first|(apply aI;(apply uR;rfl;rfl;(intro b hb)))|refine aD ?_|refine aE ?_|(refine aM ?_ ?_ <;> intro hc hq <;> try (exfalso;omega))|fail)
 ·have h0 : m = [] := List.eq_nil_of_length_eq_zero (hb (by assumption))
  subst h0
  refine aV (Le.bump 1) ?_
  refine aV (Le.nilOwn (d := 2) 4 rfl (by decide)) ?_
  (refine aF rfl ?_; refine aU () trivial ?_ ⟨.inr (Eq.trans (b := some _) rfl ?_), trivial⟩)
  ·rfl
  ·rfl
 ·(refine aF rfl ?_; refine aU () trivial ?_ ⟨.inr (Eq.trans (b := some _) rfl ?_), trivial⟩)
  ·show AV.own 1 0 (0 + m.length) 4 = _; rw [Nat.zero_add]
  ·rfl
theorem p8 {m : List Tg} {N : Nat} {Q : Exit → AS → Prop} {all : Array Oper} {rest : List Oper} {tsl : List (Nat × AV)} {hsl : List (Nat × Option (List AV))} {nidl : Nat} {z0 : Lo} {md : Md} {d : Nat} {ty : TypeId} {pos : String} {af : Array Edge} {tys : Array TypeId} {x0 : Operand} (ha0 : ev (lk tsl) x0 = some (sl dA m)) (hmc : MC Tryz.prog 266 [sl dA m] [] 0 (fun _ : Unit => True) (fun _ => .own 1 0 m.length 2) (fun _ => [(1, some (flat dA m))])) (hM : Nat.ble (nidl + 2) aY = true) (hN : Nat.blt d N = true) {md' : Md} [hmd : MdA md (fK [x0] ++ []) (List.map Sum.inr (List.map Prod.fst ([((nidl + 1), some (flat dA m))] : List (Nat × Option (List AV)))) ++ [.inl d]) md'] (kk : RW Tryz.prog N all Q md' rest ⟨(d, .own (nidl + 1) 0 m.length 2) :: tsl, gR hsl [((nidl + 1), some (flat dA m))], nidl + 2, z0⟩) : RW Tryz.prog N all Q md (⟨some d, .call ⟨.value (.func 266), #[x0], tys⟩, ty, pos, af, none⟩ :: rest) ⟨tsl, hsl, nidl, z0⟩ := by
 refine a6 [] 2 [((nidl + 1), some (flat dA m))] hmc (avs := [sl dA m]) ?_ rfl ?_ rfl ?_ (by simpa using hM) ?_ ?_ ?_ hN (md' := md') (hmd := hmd) kk
 ·show evL (lk tsl) [x0] = _
  simp only [evL, ha0]
 ·exact trivial
 ·(repeat' (exact RnL.purI inferInstance))
 ·(repeat' (exact RnV.own rfl))
 ·simp [cA]
 ·(repeat' (first|exact trivial|(refine And.intro ⟨1, _, rfl, rfl, ?_⟩ ?_)|exact RnL.purI inferInstance))
theorem AQ (m : List Tg) (hl : m.length ≤ 1000000) : MC Tryz.prog 266 [sl dA m] [] 0 (fun _ : Unit => True) (fun _ => .own 1 0 m.length 2) (fun _ => [(1, some (flat dA m))]) := by
 refine aX Tryz.func266 Tryz.ntmps266 ?_
 repeat' (first|(apply aI;(apply uR;rfl;rfl;(intro b hb)))|refine aD ?_|refine aE ?_|(refine aM ?_ ?_ <;> intro hc hq <;> try (exfalso;omega))|fail)
 ·have h0 : m = [] := List.eq_nil_of_length_eq_zero (hb (by assumption))
  subst h0
  refine aV (Le.bump 1) ?_
  refine aV (Le.nilOwn (d := 2) 2 rfl (by decide)) ?_
  (refine aF rfl ?_; refine aU () trivial ?_ ⟨.inr (Eq.trans (b := some _) rfl ?_), trivial⟩)
  ·rfl
  ·rfl
 ·(refine aF rfl ?_; refine aU () trivial ?_ ⟨.inr (Eq.trans (b := some _) rfl ?_), trivial⟩)
  ·show AV.own 1 0 (0 + m.length) 2 = _; rw [Nat.zero_add]
  ·rfl
theorem I9 (t : Tg) (c g : Int) : PC Tryz.prog 268 [PX t, .iptr [iv c, iv g]] (fun r => r = bv (decide (t.id = g))) := by
 refine aB Tryz.func268 Tryz.ntmps268 ?_
 repeat' (first|refine aD ?_|refine aE ?_|fail)
 exact aF rfl ⟨rfl, rfl⟩
theorem Bx (t : Tg) : PC Tryz.prog 270 [PX t] (fun r => r = bv t.uq) := by
 refine aB Tryz.func270 Tryz.ntmps270 ?_
 repeat' (first|refine aD ?_|refine aE ?_|fail)
 exact aF rfl ⟨rfl, rfl⟩
theorem yW (stk : List Tg) (c g : Int) (hl : stk.length ≤ 1000000) : PC Tryz.prog 267 [sl dA stk, .clos (.func 268) [] [.iptr [iv c, iv g]]] (fun r => r = iv (cV stk g)) := by
 refine aB Tryz.func267 Tryz.ntmps267 ?_
 repeat' (first|refine aD ?_|refine aE ?_|fail)
 refine aK (σ := Nat) [0, 1, 7] [] (fun k => [(8, iv (k : Int))]) (fun k => []) (fun k => k ≤ stk.length ∧ ∀ j, j < k → stk[j]!.id ≠ g) (fun k => stk.length - k) (0) ⟨by omega, by omega⟩ ?_
 rintro k ⟨hk, hall⟩
 by_cases hkn : k < stk.length
 ·have hcl := I9 stk[k]! c g
  repeat' (first|(apply aI;(apply gZ;rfl;rfl;infer_instance;rfl;(apply hcl);(rfl);rfl))|refine aD ?_|refine aE ?_|(refine aM ?_ ?_ <;> intro hc hq <;> try (exfalso;omega))|fail)
  ·refine aF rfl ⟨?_, rfl⟩
   simp only [aQ]; rw [D3 hkn (by assumption) hall]
  ·(refine bH (k + 1) (Le.renA []) ?_ ?_)
   ·refine ⟨by omega, fun j hj => ?_⟩
    by_cases e : j = k
    ·subst e;assumption
    ·exact hall j (by omega)
   ·omega
 ·repeat' (first | refine aD ?_ | refine aE ?_ | (refine aM ?_ ?_ <;> intro hc hq <;> try (exfalso; omega))|fail)
  refine aF rfl ⟨?_, rfl⟩
  have h2 : cV stk g < 0 := vX.2 (fun t ht => by obtain ⟨j, hj, rfl⟩ := List.getElem_of_mem ht;have := hall j (by omega);rwa [aZ _ _ hj] at this)
  have hb := iL stk g
  simp only [aQ]; rw [show cV stk g = -1 by omega]
def rN (xs : List Tg) : Int := match xs.findIdx? (fun t => t.uq) with | some i => i | none => -1
theorem LG (stk : List Tg) (hl : stk.length ≤ 1000000) : PC Tryz.prog 267 [sl dA stk, .v (.func (.func 270) #[] #[])] (fun r => r = iv (rN stk)) := by
 refine aB Tryz.func267 Tryz.ntmps267 ?_
 repeat' (first|refine aD ?_|refine aE ?_|fail)
 refine aK (σ := Nat) [0, 1, 7] [] (fun k => [(8, iv (k : Int))]) (fun k => []) (fun k => k ≤ stk.length ∧ ∀ j, j < k → stk[j]!.uq = false) (fun k => stk.length - k) (0) ⟨by omega, by omega⟩ ?_
 rintro k ⟨hk, hall⟩
 by_cases hkn : k < stk.length
 ·have hcl := Bx stk[k]!
  repeat' (first|(apply aI;(apply gZ;rfl;rfl;infer_instance;rfl;(apply hcl);(rfl);rfl))|refine aD ?_|refine aE ?_|(refine aM ?_ ?_ <;> intro hc hq <;> try (exfalso;omega))|fail)
  ·refine aF rfl ⟨?_, rfl⟩
   have hu : stk[k]!.uq = true := by assumption
   have : stk.findIdx? (fun t => t.uq) = some k := by
    rw [List.findIdx?_eq_some_iff_getElem]
    refine ⟨hkn, by rw [← aZ stk k hkn]; exact hu, fun j hj => ?_⟩
    have := hall j hj;rw [aZ stk j (by omega)] at this;rw [this]; decide
   simp only [aQ, rN, this]
  ·have hu : stk[k]!.uq = false := by assumption
   (refine bH (k + 1) (Le.renA []) ?_ ?_)
   ·refine ⟨by omega, fun j hj => ?_⟩
    by_cases e : j = k
    ·subst e;exact hu
    ·exact hall j (by omega)
   ·omega
 ·repeat' (first | refine aD ?_ | refine aE ?_ | (refine aM ?_ ?_ <;> intro hc hq <;> try (exfalso; omega))|fail)
  refine aF rfl ⟨?_, rfl⟩
  have : stk.findIdx? (fun t => t.uq) = none := by
   rw [List.findIdx?_eq_none_iff]
   intro x hx
   obtain ⟨j, hj, rfl⟩ := List.getElem_of_mem hx
   have := hall j (by omega);rw [aZ stk j hj] at this;exact this
  simp only [aQ, rN, this]
theorem OP {xs : List Tg} {k : Nat} {a : Int} {b : Bool} (hk : k < xs.length) : gI (flat dA xs) (0 + k * 2) [iv a, bv b] = flat dA (xs.set k ⟨a, b⟩) := iY hk rfl
theorem HA {cs new : List AV} {k : Nat} (h : k ≤ cs.length) : (gI cs (0 + k) new).take k = cs.take k := by
 unfold gI
 rw [Nat.zero_add, List.append_assoc, List.take_left' (by rw [List.length_take]; omega)]
def shr (xs : List Tg) : List Tg := xs.filter (fun t => !t.uq)
theorem E2 {xs : List Tg} (h : rN xs = -1) : shr xs = xs := by
 unfold rN at h
 split at h
 ·omega
 ·rename_i hn
  rw [List.findIdx?_eq_none_iff] at hn
  unfold shr
  rw [List.filter_eq_self]
  intro t ht
  have := hn t ht
  simp [this]
theorem ED {xs : List Tg} {i : Nat} (h : rN xs = (i : Int)) : i < xs.length ∧ xs[i]!.uq = true ∧ shr (xs.take (i + 1)) = xs.take i := by
 unfold rN at h
 split at h
 ·rename_i k hk
  obtain ⟨h1, h2, h3⟩ := List.findIdx?_eq_some_iff_getElem.1 hk
  have e : k = i := by omega
  subst e
  have hs : shr (xs.take k) = xs.take k := by
   unfold shr
   rw [List.filter_eq_self]
   intro t ht
   obtain ⟨j, hj, rfl⟩ := List.getElem_of_mem ht
   rw [List.length_take] at hj
   have := h3 j (by omega)
   rw [List.getElem_take]; simpa using this
  refine ⟨h1, by rw [aZ _ _ h1]; exact h2, ?_⟩
  rw [bI xs k h1]
  unfold shr at hs ⊢
  rw [List.filter_append, hs, p9 (by rw [aZ _ _ h1, h2]; rfl), List.append_nil]
 ·omega
theorem JL (xs : List Tg) : -1 ≤ rN xs ∧ rN xs < xs.length := by
 unfold rN
 split
 ·rename_i k hk
  obtain ⟨h1, _⟩ := List.findIdx?_eq_some_iff_getElem.1 hk
  omega
 ·omega
theorem Kl {xs : List Tg} {j : Nat} (hj : j < xs.length) (h : xs[j]!.uq = false) : shr (xs.take (j + 1)) = shr (xs.take j) ++ [xs[j]!] := by
 rw [bI xs j hj]; unfold shr
 rw [List.filter_append, w8 (by rw [h]; rfl)]
theorem Hw {xs : List Tg} {j : Nat} (hj : j < xs.length) (h : xs[j]!.uq = true) : shr (xs.take (j + 1)) = shr (xs.take j) := by
 rw [bI xs j hj]; unfold shr
 rw [List.filter_append, p9 (by rw [h]; rfl), List.append_nil]
theorem Ik {α : Type} [Inhabited α] {L : List α} {i : Nat} {x : α} (h : i < L.length) : (L.set i x).take (i + 1) = L.take i ++ [x] := by
 rw [List.set_eq_take_append_cons_drop, if_pos h]
 have h1 : (L.take i).length = i := by rw [List.length_take]; omega
 rw [List.take_append, h1, show i + 1 - i = 1 by omega, List.take_of_length_le (by omega)]
 rfl
theorem Ji {α : Type} [Inhabited α] {L M : List α} {j : Nat} (h : L.drop j = M.drop j) (hl : L.length = M.length) (hj : j < M.length) : L[j]! = M[j]! := by
 rw [aZ _ _ (by omega), aZ _ _ hj]
 rw [List.drop_eq_getElem_cons (by omega : j < L.length), List.drop_eq_getElem_cons hj] at h
 exact (List.cons.inj h).1
theorem vB {α : Type} {L M : List α} {j : Nat} (h : L.drop j = M.drop j) : L.drop (j + 1) = M.drop (j + 1) := by
 rw [← List.drop_drop, h, List.drop_drop]
theorem K7 {xs : List Tg} {m : Nat} {N : Nat} {Q : Exit → AS → Prop} {all : Array Oper} {rest : List Oper} {tsl : List (Nat × AV)} {hsl : List (Nat × Option (List AV))} {nidl : Nat} {z0 : Lo} {md : Md} {d : Nat} {ty : TypeId} {pos : String} {af : Array Edge} {tys : Array TypeId} {x0 x1 : Operand} {i0 : Nat} (ha0 : ev (lk tsl) x0 = some (.own i0 0 m 2)) (ha1 : ev (lk tsl) x1 = some (.v (.func (.func 270) #[] #[]))) (hH0 : aS hsl i0 = some (flat dA xs)) (hmc : MC Tryz.prog 269 [.own 0 0 m 2, .v (.func (.func 270) #[] #[])] [(0, some (flat dA xs))] 1 (fun _ : Unit => True) (fun _ => .own 0 0 (shr xs).length 2) (fun _ => [(0, some (flat dA (shr xs)))])) (hM : Nat.ble (nidl + 0) aY = true) (hN : Nat.blt d N = true) {md' : Md} [hmd : MdA md (fK [x0, x1] ++ [.inr i0]) (List.map Sum.inr (List.map Prod.fst ([(i0, some (flat dA (shr xs)))] : List (Nat × Option (List AV)))) ++ [.inl d]) md'] (kk : RW Tryz.prog N all Q md' rest ⟨(d, .own i0 0 (shr xs).length 2) :: tsl, gR hsl [(i0, some (flat dA (shr xs)))], nidl + 0, z0⟩) : RW Tryz.prog N all Q md (⟨some d, .call ⟨.value (.func 269), #[x0, x1], tys⟩, ty, pos, af, none⟩ :: rest) ⟨tsl, hsl, nidl, z0⟩ := by
 refine a6 [i0] 1 [(i0, some (flat dA (shr xs)))] hmc (avs := [.own i0 0 m 2, .v (.func (.func 270) #[] #[])]) ?_ rfl ?_ rfl ?_ (by simpa using hM) ?_ ?_ ?_ hN (md' := md') (hmd := hmd) kk
 ·show evL (lk tsl) [x0, x1] = _
  simp only [evL, ha0, ha1]
 ·exact ⟨⟨_, _, rfl, hH0, by (repeat' (exact RnL.purI inferInstance))⟩, trivial⟩
 ·(repeat' (first|exact RnL.purI inferInstance|exact RnV.own rfl|refine RnL.cons ?_ ?_))
 ·(repeat' (exact RnV.own rfl))
 ·simp [cA]
 ·(repeat' (first|exact trivial|(refine And.intro ⟨0, _, rfl, rfl, ?_⟩ ?_)|exact RnL.purI inferInstance))
theorem Ms (xs : List Tg) (m : Nat) (hm : m = xs.length) (hl : m ≤ 1000000) : MC Tryz.prog 269 [.own 0 0 m 2, .v (.func (.func 270) #[] #[])] [(0, some (flat dA xs))] 1 (fun _ : Unit => True) (fun _ => .own 0 0 (shr xs).length 2) (fun _ => [(0, some (flat dA (shr xs)))]) := by
 subst hm
 have hix := LG xs hl
 have hbd := JL xs
 by_cases hn : rN xs = -1
 ·rw [hn] at hix
  have hs := E2 hn
  refine aX Tryz.func269 Tryz.ntmps269 ?_
  repeat' (first|(apply aI;(apply pD (k := 267);(case ha => rfl);(case hl => (repeat' (first|exact mW|apply kS|exact yM|exact m6 rfl inferInstance)));(case h => exact hix);(case hfr|hN => rfl);(case hmd => infer_instance)))|refine aD ?_|refine aE ?_)
  all_goals (
   (refine aF rfl ?_; refine aU () trivial ?_ ⟨.inr (Eq.trans (b := some _) rfl ?_), trivial⟩)
   ·rw [hs]; rfl
   ·rw [hs])
 ·obtain ⟨i0, hi0⟩ := Int.eq_ofNat_of_zero_le (show 0 ≤ rN xs by omega)
  obtain ⟨g1, g2, g3⟩ := ED hi0
  rw [hi0] at hix
  refine aX Tryz.func269 Tryz.ntmps269 ?_
  repeat' (first|(apply aI;(apply pD (k := 267);(case ha => rfl);(case hl => (repeat' (first|exact mW|apply kS|exact yM|exact m6 rfl inferInstance)));(case h => exact hix);(case hfr|hN => rfl);(case hmd => infer_instance)))|refine aD ?_|refine aE ?_)
  all_goals (try (exfalso;omega))
  refine aK (σ := List Tg × Nat × Nat) [0, 1] [] (fun s => [(5, iv (s.2.1 : Int)), (6, iv (s.2.2 : Int))]) (fun s => [(0, some (flat dA s.1))]) (fun s => s.1.length = xs.length ∧ s.1.take s.2.1 = shr (xs.take s.2.2) ∧ s.1.drop s.2.2 = xs.drop s.2.2 ∧ s.2.1 < s.2.2 ∧ s.2.2 ≤ xs.length) (fun s => xs.length - s.2.2) (xs, i0, i0 + 1) ⟨rfl, g3.symm, rfl, by dsimp only;omega, by dsimp only;omega⟩ ?_
  rintro ⟨L, i, j⟩ ⟨hL, ht, hd, hij, hj⟩
  dsimp only at hL ht hd hij hj ⊢
  by_cases hjn : j < xs.length
  ·have hcl := Bx L[j]!
   have hg := Ji hd hL hjn
   repeat' (first|(apply aI;first|(apply bT;rfl;rfl;rfl;rfl;rfl;(case hl => (first|(rw [aL]; simp only [hU] <;> omega)|(simp;done)));(exact OP (by (first|assumption|omega))))|(apply gZ;rfl;rfl;infer_instance;rfl;(apply hcl);(rfl);rfl))|refine aD ?_|refine aE ?_|(refine aM ?_ ?_ <;> intro hc hq <;> try (exfalso;omega))|fail)
   ·have hu : L[j]!.uq = false := by assumption
    (refine bH (_, i + 1, j + 1) (Le.renA []) ?_ ?_)
    ·refine ⟨by dsimp only; rw [List.length_set]; exact hL, ?_, ?_, by dsimp only; omega, by dsimp only; omega⟩
     ·dsimp only
      rw [Ik (by omega), ht, Kl hjn (by rw [← hg]; exact hu), hg]
     ·dsimp only
      rw [List.drop_set_of_lt (by omega)]
      exact vB hd
    ·dsimp only;omega
   ·have hu : L[j]!.uq = true := by assumption
    (refine bH (L, i, j + 1) (Le.renA []) ?_ ?_)
    ·refine ⟨hL, ?_, vB hd, by dsimp only; omega, by dsimp only; omega⟩
     dsimp only
     rw [ht, Hw hjn (by rw [← hg]; exact hu)]
    ·dsimp only;omega
  ·have hfl : (flat dA L).length = L.length * 2 := aL dA L
   repeat' (first|(apply aI;first|(apply eY (d := 38) (l := i) (h := xs.length);rfl;rfl;exact k8 rfl (by omega);rfl;exact if_pos (by omega);rfl)|(apply eY (d := 41) (l := 0) (h := i);rfl;rfl;rfl;exact k8 rfl (by omega);exact if_pos (by omega);rfl)|(apply GJ;rfl;rfl;omega;rfl;(rw [hfl]; omega);rfl))|refine aD ?_|refine aE ?_|(refine aM ?_ ?_ <;> intro hc hq <;> try (exfalso;omega))|fail)
   refine aV (Le.cut (i := 0) (i * 2) rfl) ?_
   have hje : j = xs.length := by omega
   have hLt : L.take i = shr xs := by rw [ht, hje, List.take_length]
   have hil : (shr xs).length = i := by rw [← hLt, List.length_take]; omega
   (refine aF rfl ?_; refine aU () trivial ?_ ⟨.inr (Eq.trans (b := some _) rfl ?_), trivial⟩)
   ·show AV.own 0 (0 + 0 * 2) (i - 0) 2 = _
    rw [hil]; rfl
   ·rw [HA (by omega), dC dA (e := 2), hLt]
theorem gQ {m : List Cl} {N : Nat} {Q : Exit → AS → Prop} {all : Array Oper} {rest : List Oper} {tsl : List (Nat × AV)} {hsl : List (Nat × Option (List AV))} {nidl : Nat} {z0 : Lo} {md : Md} {d : Nat} {ty : TypeId} {pos : String} {af : Array Edge} {tys : Array TypeId} {x0 : Operand} (ha0 : ev (lk tsl) x0 = some (sl cY m)) (hmc : MC Tryz.prog 241 [sl cY m] [] 0 (fun _ : Unit => True) (fun _ => .own 1 0 m.length 4) (fun _ => [(1, some (flat cY m))])) (hM : Nat.ble (nidl + 2) aY = true) (hN : Nat.blt d N = true) {md' : Md} [hmd : MdA md (fK [x0] ++ []) (List.map Sum.inr (List.map Prod.fst ([((nidl + 1), some (flat cY m))] : List (Nat × Option (List AV)))) ++ [.inl d]) md'] (kk : RW Tryz.prog N all Q md' rest ⟨(d, .own (nidl + 1) 0 m.length 4) :: tsl, gR hsl [((nidl + 1), some (flat cY m))], nidl + 2, z0⟩) : RW Tryz.prog N all Q md (⟨some d, .call ⟨.value (.func 241), #[x0], tys⟩, ty, pos, af, none⟩ :: rest) ⟨tsl, hsl, nidl, z0⟩ := by
 refine a6 [] 2 [((nidl + 1), some (flat cY m))] hmc (avs := [sl cY m]) ?_ rfl ?_ rfl ?_ (by simpa using hM) ?_ ?_ ?_ hN (md' := md') (hmd := hmd) kk
 ·show evL (lk tsl) [x0] = _
  simp only [evL, ha0]
 ·exact trivial
 ·(repeat' (exact RnL.purI inferInstance))
 ·(repeat' (exact RnV.own rfl))
 ·simp [cA]
 ·(repeat' (first|exact trivial|(refine And.intro ⟨1, _, rfl, rfl, ?_⟩ ?_)|exact RnL.purI inferInstance))
theorem pK {m : List Cl} {j : Nat} {N : Nat} {Q : Exit → AS → Prop} {all : Array Oper} {rest : List Oper} {tsl : List (Nat × AV)} {hsl : List (Nat × Option (List AV))} {nidl : Nat} {z0 : Lo} {md : Md} {d : Nat} {ty : TypeId} {pos : String} {af : Array Edge} {tys : Array TypeId} {x0 : Operand} (ha0 : ev (lk tsl) x0 = some (sl cY m)) (hmc : MC Tryz.prog 241 [sl cY m] [] 0 (fun _ : Unit => True) (fun _ => .own 1 0 m.length 4) (fun _ => [(1, some (flat gC (dR m j (.own 2 0 m[j]!.stk.length 2)))), (2, some (flat dA m[j]!.stk))])) (hM : Nat.ble (nidl + 3) aY = true) (hN : Nat.blt d N = true) {md' : Md} [hmd : MdA md (fK [x0] ++ []) (List.map Sum.inr (List.map Prod.fst ([((nidl + 1), some (flat gC (dR m j (.own (nidl + 2) 0 m[j]!.stk.length 2)))), ((nidl + 2), some (flat dA m[j]!.stk))] : List (Nat × Option (List AV)))) ++ [.inl d]) md'] (kk : RW Tryz.prog N all Q md' rest ⟨(d, .own (nidl + 1) 0 m.length 4) :: tsl, gR hsl [((nidl + 1), some (flat gC (dR m j (.own (nidl + 2) 0 m[j]!.stk.length 2)))), ((nidl + 2), some (flat dA m[j]!.stk))], nidl + 3, z0⟩) : RW Tryz.prog N all Q md (⟨some d, .call ⟨.value (.func 241), #[x0], tys⟩, ty, pos, af, none⟩ :: rest) ⟨tsl, hsl, nidl, z0⟩ := by
 refine a6 [] 3 [((nidl + 1), some (flat gC (dR m j (.own (nidl + 2) 0 m[j]!.stk.length 2)))), ((nidl + 2), some (flat dA m[j]!.stk))] hmc (avs := [sl cY m]) ?_ rfl ?_ rfl ?_ (by simpa using hM) ?_ ?_ ?_ hN (md' := md') (hmd := hmd) kk
 ·show evL (lk tsl) [x0] = _
  simp only [evL, ha0]
 ·exact trivial
 ·(repeat' (exact RnL.purI inferInstance))
 ·(repeat' (exact RnV.own rfl))
 ·simp [cA]
 ·(repeat' (first|exact trivial|(refine And.intro ⟨1, _, rfl, rfl, ?_⟩ ?_)|(refine And.intro ⟨2, _, rfl, rfl, ?_⟩ ?_)|exact RnL.purI inferInstance|exact n8 rfl))
theorem l6 {α : Type} [Inhabited α] (l : List α) (k : Nat) : l.set k l[k]! = l := by
 rcases Nat.lt_or_ge k l.length with h|h
 ·rw [aZ _ _ h]; simp
 ·exact List.set_eq_of_length_le h
theorem Eh {m : List Cl} {i : Nat} (hi : i < m.length) : gI (flat cY m) (0 + i * 4 + 3) [sl dA m[i]!.stk] = flat cY m := by
 have h := Mu (xs := m) (k := i) (s := m[i]!.stk) hi
 rw [show m.set i { m[i]! with stk := m[i]!.stk } = m from l6 m i] at h
 exact h
theorem CR {m : List Cl} {i j : Nat} {X : AV} (hi : i < m.length) (h : i ≠ j) : (dR m j X)[i]! = rP m[i]! := by
 unfold dR
 rw [aZ _ _ (by rw [List.length_set, List.length_map]; exact hi), List.getElem_set_ne (fun e => h e.symm), List.getElem_map, aZ _ _ hi]
theorem K0 {m : List Cl} {i j : Nat} {X : AV} (h : i < m.length ∧ i ≠ j) : gI (flat gC (dR m j X)) (0 + i * 4 + 3) [sl dA m[i]!.stk] = flat gC (dR m j X) := by
 have hl := dH (m := m) (j := j) (X := X)
 have e : (dR m j X).set i { (dR m j X)[i]! with av := sl dA m[i]!.stk } = dR m j X := by
  rw [CR h.1 h.2]
  have : ({ rP m[i]! with av := sl dA m[i]!.stk } : Co) = (dR m j X)[i]! := by rw [CR h.1 h.2]; rfl
  rw [this]; exact l6 _ _
 rw [← e]
 have := fA (f := gC) (xs := dR m j X) (k := i) (j := 3) (new := [sl dA m[i]!.stk]) (y := { (dR m j X)[i]! with av := sl dA m[i]!.stk }) (by rw [hl]; exact h.1) (by simp) rfl
 rw [e] at this ⊢
 exact this
theorem o7 {mp : List (Nat × Nat)} {lo : Lo} : ∀ {cs : List AV}, bF cs = true → All2 (EM mp lo) cs cs
 | [], _ => .nil
 | c :: cs, h => by
  simp only [bF, Bool.and_eq_true] at h
  exact .cons (.inl ⟨rfl, h.1⟩) (o7 h.2)
theorem tE {α β : Type} {R : α → β → Prop} : ∀ {a : List α} {b : List β} {c : List α} {d : List β}, All2 R a b → All2 R c d → All2 R (a ++ c) (b ++ d)
 | _, _, _, _, .nil, h => h
 | _, _, _, _, .cons h1 h2, h => .cons h1 (tE h2 h)
theorem Er {mp : List (Nat × Nat)} {lo : Lo} {m : List Cl} {j k i i' : Nat} (h : j < m.length) (hr : Mf mp lo (.own i 0 k 2) = some (.own i' 0 k 2)) : All2 (EM mp lo) (flat gC (dR m j (.own i 0 k 2))) (flat gC (dR m j (.own i' 0 k 2))) := by
 rw [jJ h, jJ h]
 exact tE (o7 (inferInstance : Pur (flat cY _)).pf) (tE (o7 (inferInstance : Pur [iv _, bv _, iv _]).pf) (.cons (.inr hr) (o7 (inferInstance : Pur (flat cY _)).pf)))
theorem j4 (m : List Cl) (hm : OkM m) : MC Tryz.prog 241 [sl cY m] [] 0 (fun _ : Unit => True) (fun _ => .own 1 0 m.length 4) (fun _ => [(1, some (flat cY m))]) := by
 have hml := hm.l
 have hcc := z7 m (by omega)
 refine aX Tryz.func241 Tryz.ntmps241 ?_
 repeat' (first|(apply aI;(apply wP;rfl;exact hcc;rfl;rfl))|refine aD ?_|refine aE ?_|fail)
 refine aK (σ := Nat) [3, 8, 9] [] (fun k => [(10, iv (k : Int))]) (fun k => [(1, some (flat cY m))]) (fun k => k ≤ m.length) (fun k => m.length - k) (0) (Nat.zero_le _) ?_
 rintro i hi
 by_cases hin : i < m.length
 ·have hst : m[i]!.stk.length ≤ 200 := (((iQ m).1 hm).2 i hin).l.2
  have hct := AQ m[i]!.stk (by omega)
  repeat' (first|(apply aI;first|(apply p8;rfl;exact hct;rfl;rfl)|(with_reducible apply a7 (d := 20)))|refine aD ?_|refine aE ?_|(refine aM ?_ ?_ <;> intro hc hq <;> try (exfalso;omega))|fail)
  refine cK (dW ?_ (Le.frzD (d := 19) (i := 4) rfl rfl))
  repeat' (first|(apply aI;(apply bT;rfl;rfl;rfl;rfl;rfl;(rw [aL]; simp only [hU] <;> omega);(exact Eh (by (assumption)))))|refine aD ?_|refine aE ?_|fail)
  (apply bH (i + 1);focus (refine Le.ren [(1, 1)] rfl (by decide) ?_ ?_ <;> repeat' (first|exact trivial|refine And.intro ⟨_, rfl, ?_⟩ ?_|refine And.intro ⟨_, _, rfl, rfl, ?_⟩ ?_|exact Or.inr rfl|refine Or.inl ⟨?_, (by first|rfl|exact bG _ _)⟩|rfl)))
  ·omega
  ·omega
 ·repeat' (first | refine aD ?_ | refine aE ?_ | (refine aM ?_ ?_ <;> intro hc hq <;> try (exfalso; omega))|fail)
  (refine aF rfl ?_; refine aU () trivial ?_ ⟨.inr (Eq.trans (b := some _) rfl ?_), trivial⟩)
  ·rfl
  ·rfl
theorem tJ (m : List Cl) (j : Nat) (hm : OkM m) (hj : j < m.length) : MC Tryz.prog 241 [sl cY m] [] 0 (fun _ : Unit => True) (fun _ => .own 1 0 m.length 4) (fun _ => [(1, some (flat gC (dR m j (.own 2 0 m[j]!.stk.length 2)))), (2, some (flat dA m[j]!.stk))]) := by
 have hml := hm.l
 have hcc := z7 m (by omega)
 refine aX Tryz.func241 Tryz.ntmps241 ?_
 repeat' (first|(apply aI;(apply wP;rfl;exact hcc;rfl;rfl))|refine aD ?_|refine aE ?_|fail)
 refine AW.le ?_ (Le.bump 1)
 refine aK (σ := Nat × Bool) [3, 8, 9] [] (fun k => [(10, iv (k.1 : Int))]) (fun k => [(1, some (cond k.2 (flat gC (dR m j (.own 2 0 m[j]!.stk.length 2))) (flat cY m))), (2, cond k.2 (some (flat dA m[j]!.stk)) none)]) (fun k => k.1 ≤ m.length ∧ k.2 = decide (j < k.1)) (fun k => m.length - k.1) (0, false) ⟨Nat.zero_le _, by simp⟩ ?_
 rintro ⟨i, b⟩ ⟨hi, hb⟩
 dsimp only at hi hb ⊢
 by_cases hin : i < m.length
 ·have hst : m[i]!.stk.length ≤ 200 := (((iQ m).1 hm).2 i hin).l.2
  have hct := AQ m[i]!.stk (by omega)
  by_cases hij : j < i
  ·rw [decide_eq_true hij] at hb; subst hb
   simp only [cond_true]
   have hol := dH (m := m) (j := j) (X := .own 2 0 m[j]!.stk.length 2)
   have hon := CR (m := m) (i := i) (j := j) (X := .own 2 0 m[j]!.stk.length 2) hin (by omega)
   repeat' (first|(apply aI;(with_reducible apply a7 (d := 5)))|refine aD ?_|refine aE ?_|(refine aM ?_ ?_ <;> intro hc hq <;> try (exfalso;omega))|fail)
   refine cK ?_
   rw [hon]
   dsimp only [rP]
   repeat' (first|(apply aI;first|(apply p8;rfl;exact hct;rfl;rfl)|(with_reducible apply a7 (d := 20)))|refine aD ?_|refine aE ?_|fail)
   refine cK (dW ?_ (Le.frzD (d := 19) (i := 5) rfl rfl))
   repeat' (first|(apply aI;(apply bT;rfl;rfl;rfl;rfl;rfl;(rw [aL]; simp only [hU] <;> omega);(exact K0 (by (omega)))))|refine aD ?_|refine aE ?_|fail)
   (apply bH (i + 1, true);focus (refine Le.ren [(1, 1), (2, 2)] rfl (by decide) ?_ ?_ <;> repeat' (first|exact trivial|refine And.intro ⟨_, rfl, ?_⟩ ?_|refine And.intro ⟨_, _, rfl, rfl, ?_⟩ ?_|exact Or.inr rfl|refine Or.inl ⟨?_, (by first|rfl|exact bG _ _)⟩|rfl)))
   ·exact Or.inr (Er hj rfl)
   ·exact ⟨by dsimp only;omega, by dsimp only;rw [decide_eq_true (by omega)]⟩
   ·dsimp only;omega
  ·rw [decide_eq_false hij] at hb; subst hb
   simp only [cond_false]
   repeat' (first|(apply aI;first|(apply p8;rfl;exact hct;rfl;rfl)|(with_reducible apply a7 (d := 20)))|refine aD ?_|refine aE ?_|(refine aM ?_ ?_ <;> intro hc hq <;> try (exfalso;omega))|fail)
   by_cases hie : i = j
   ·subst hie
    refine cK ?_
    repeat' (first|(apply aI;(apply bT;rfl;rfl;rfl;rfl;rfl;(rw [aL]; simp only [hU] <;> omega);(exact Kh (by (assumption)))))|refine aD ?_|refine aE ?_|fail)
    (apply bH (i + 1, true);focus (refine Le.ren [(1, 1), (2, 5)] rfl (by decide) ?_ ?_ <;> repeat' (first|exact trivial|refine And.intro ⟨_, rfl, ?_⟩ ?_|refine And.intro ⟨_, _, rfl, rfl, ?_⟩ ?_|exact Or.inr rfl|refine Or.inl ⟨?_, (by first|rfl|exact bG _ _)⟩|rfl)))
    ·exact Or.inr (Er hin rfl)
    ·exact ⟨by dsimp only;omega, by dsimp only;rw [decide_eq_true (by omega)]⟩
    ·dsimp only;omega
   ·refine cK (dW ?_ (Le.frzD (d := 19) (i := 5) rfl rfl))
    repeat' (first|(apply aI;(apply bT;rfl;rfl;rfl;rfl;rfl;(rw [aL]; simp only [hU] <;> omega);(exact Eh (by (assumption)))))|refine aD ?_|refine aE ?_|fail)
    (apply bH (i + 1, false);focus (refine Le.ren [(1, 1)] rfl (by decide) ?_ ?_ <;> repeat' (first|exact trivial|refine And.intro ⟨_, rfl, ?_⟩ ?_|refine And.intro ⟨_, _, rfl, rfl, ?_⟩ ?_|exact Or.inr rfl|refine Or.inl ⟨?_, (by first|rfl|exact bG _ _)⟩|rfl)))
    ·exact ⟨by dsimp only;omega, by dsimp only;rw [decide_eq_false (by omega)]⟩
    ·dsimp only;omega
 ·rw [decide_eq_true (by omega)] at hb; subst hb
  simp only [cond_true]
  repeat' (first|refine aD ?_|refine aE ?_|(refine aM ?_ ?_ <;> intro hc hq <;> try (exfalso;omega))|fail)
  (refine aF rfl ?_; refine aU () trivial ?_ ⟨.inr (Eq.trans (b := some _) rfl ?_), ⟨.inr (Eq.trans (b := some _) rfl ?_), trivial⟩⟩)
  ·rfl
  ·rfl
  ·rfl
theorem nI {m : List Cl} {x : Pt} {wr : Bool} {n : Nat} {N : Nat} {Q : Exit → AS → Prop} {all : Array Oper} {rest : List Oper} {tsl : List (Nat × AV)} {hsl : List (Nat × Option (List AV))} {nidl : Nat} {z0 : Lo} {md : Md} {d : Nat} {ty : TypeId} {pos : String} {af : Array Edge} {tys : Array TypeId} {x0 x1 x2 : Operand} {i0 : Nat} (ha0 : ev (lk tsl) x0 = some (.own i0 0 n 4)) (ha1 : ev (lk tsl) x1 = some (HF x)) (ha2 : ev (lk tsl) x2 = some (bv wr)) (hH0 : aS hsl i0 = some (flat cY m)) (hmc : MC Tryz.prog 242 [.own 0 0 n 4, HF x, bv wr] [(0, some (flat cY m))] 1 (fun _ : Unit => True) (fun _ => iv (bJ m x wr)) (fun _ => [(0, some (flat cY m))])) (hM : Nat.ble (nidl + 0) aY = true) (hN : Nat.blt d N = true) {md' : Md} [hmd : MdA md (fK [x0, x1, x2] ++ [.inr i0]) (List.map Sum.inr (List.map Prod.fst ([(i0, some (flat cY m))] : List (Nat × Option (List AV)))) ++ [.inl d]) md'] (kk : RW Tryz.prog N all Q md' rest ⟨(d, iv (bJ m x wr)) :: tsl, gR hsl [(i0, some (flat cY m))], nidl + 0, z0⟩) : RW Tryz.prog N all Q md (⟨some d, .call ⟨.value (.func 242), #[x0, x1, x2], tys⟩, ty, pos, af, none⟩ :: rest) ⟨tsl, hsl, nidl, z0⟩ := by
 refine a6 [i0] 1 [(i0, some (flat cY m))] hmc (avs := [.own i0 0 n 4, HF x, bv wr]) ?_ rfl ?_ rfl ?_ (by simpa using hM) ?_ ?_ ?_ hN (md' := md') (hmd := hmd) kk
 ·show evL (lk tsl) [x0, x1, x2] = _
  simp only [evL, ha0, ha1, ha2]
 ·exact ⟨⟨_, _, rfl, hH0, by (repeat' (exact RnL.purI inferInstance))⟩, trivial⟩
 ·(repeat' (first|exact RnL.purI inferInstance|exact RnV.own rfl|refine RnL.cons ?_ ?_))
 ·(repeat' (exact RnV.purI inferInstance))
 ·simp [cA]
 ·(repeat' (first|exact trivial|(refine And.intro ⟨0, _, rfl, rfl, ?_⟩ ?_)|exact RnL.purI inferInstance))
theorem wO {m : List Cl} {j : Nat} {t : Int} {k n : Nat} {N : Nat} {Q : Exit → AS → Prop} {all : Array Oper} {rest : List Oper} {tsl : List (Nat × AV)} {hsl : List (Nat × Option (List AV))} {nidl : Nat} {z0 : Lo} {md : Md} {d : Nat} {ty : TypeId} {pos : String} {af : Array Edge} {tys : Array TypeId} {x0 x1 x2 : Operand} {i0 i1 : Nat} (ha0 : ev (lk tsl) x0 = some (.own i0 0 n 4)) (ha1 : ev (lk tsl) x1 = some (.agg [iv (j : Int), iv t])) (ha2 : ev (lk tsl) x2 = some (bv true)) (hH0 : aS hsl i0 = some (flat gC (dR m j (.own i1 0 m[j]!.stk.length 2)))) (hH1 : aS hsl i1 = some (flat dA m[j]!.stk)) (hdd : Go.AL.distinct [i0, i1] = true) (hmc : MC Tryz.prog 242 [.own 0 0 n 4, .agg [iv (j : Int), iv t], bv true] [(0, some (flat gC (dR m j (.own 1 0 m[j]!.stk.length 2)))), (1, some (flat dA m[j]!.stk))] 2 (fun _ : Unit => True) (fun _ => iv 0) (fun _ => [(0, some (flat gC (dR m j (.own 1 0 (k + 1) 2)))), (1, some (flat dA (m[j]!.stk.take (k + 1))))])) (hM : Nat.ble (nidl + 0) aY = true) (hN : Nat.blt d N = true) {md' : Md} [hmd : MdA md (fK [x0, x1, x2] ++ [.inr i0, .inr i1]) (List.map Sum.inr (List.map Prod.fst ([(i0, some (flat gC (dR m j (.own i1 0 (k + 1) 2)))), (i1, some (flat dA (m[j]!.stk.take (k + 1))))] : List (Nat × Option (List AV)))) ++ [.inl d]) md'] (kk : RW Tryz.prog N all Q md' rest ⟨(d, iv 0) :: tsl, gR hsl [(i0, some (flat gC (dR m j (.own i1 0 (k + 1) 2)))), (i1, some (flat dA (m[j]!.stk.take (k + 1))))], nidl + 0, z0⟩) : RW Tryz.prog N all Q md (⟨some d, .call ⟨.value (.func 242), #[x0, x1, x2], tys⟩, ty, pos, af, none⟩ :: rest) ⟨tsl, hsl, nidl, z0⟩ := by
 refine a6 [i0, i1] 2 [(i0, some (flat gC (dR m j (.own i1 0 (k + 1) 2)))), (i1, some (flat dA (m[j]!.stk.take (k + 1))))] hmc (avs := [.own i0 0 n 4, .agg [iv (j : Int), iv t], bv true]) ?_ hdd ?_ rfl ?_ (by simpa using hM) ?_ ?_ ?_ hN (md' := md') (hmd := hmd) kk
 ·show evL (lk tsl) [x0, x1, x2] = _
  simp only [evL, ha0, ha1, ha2]
 ·exact ⟨⟨_, _, rfl, hH0, by (repeat' (exact n8 rfl))⟩, ⟨⟨_, _, rfl, hH1, by (repeat' (exact RnL.purI inferInstance))⟩, trivial⟩⟩
 ·(repeat' (first|exact RnL.purI inferInstance|exact RnV.own rfl|refine RnL.cons ?_ ?_))
 ·(repeat' (exact RnV.purI inferInstance))
 ·simp [cA]
 ·(repeat' (first|exact trivial|(refine And.intro ⟨0, _, rfl, rfl, ?_⟩ ?_)|(refine And.intro ⟨1, _, rfl, rfl, ?_⟩ ?_)|exact RnL.purI inferInstance|exact n8 rfl))
theorem LdL.app {D : List Nat} {H : Nat → Option (List AV)} : ∀ {a b c d : List AV}, LdL D H a b → LdL D H c d → bF a = true → LdL D H (a ++ c) (a ++ d)
 | [], _, _, _, _, h, _ => h
 | x :: a, b, c, d, h1, h, hp => by
  simp only [bF, Bool.and_eq_true] at hp
  exact .cons (.pur hp.1) (LdL.app (a := a) (b := a) (.pur hp.2) h hp.2)
theorem MW {D : List Nat} {H : Nat → Option (List AV)} {m : List Cl} {j i k : Nat} {r : List Tg} (hi : i ∈ D) (hH : H i = some (flat dA r)) (hk : k = r.length) (hj : j < m.length) : LdL D H (flat gC (dR m j (.own i 0 k 2))) (flat cY (m.set j { m[j]! with stk := r })) := by
 subst hk
 rw [← Aq, jJ hj, jJ hj]
 have p1 : bF (flat cY (m.take j)) = true := (inferInstance : Pur (flat cY _)).pf
 have p2 : bF [iv m[j]!.val, bv m[j]!.alive, iv m[j]!.next] = true := rfl
 exact LdL.app (.pur p1) (LdL.app (.pur p2) (.cons (.own hi hH (.pur (inferInstance : Pur (flat dA r)).pf)) (.pur (inferInstance : Pur (flat cY _)).pf)) p2) p1
theorem Eu {D : List Nat} {H : Nat → Option (List AV)} {m : List Cl} {j i : Nat} (hi : i ∈ D) (hH : H i = some (flat dA m[j]!.stk)) (hj : j < m.length) : LdL D H (flat gC (dR m j (.own i 0 m[j]!.stk.length 2))) (flat cY m) := by
 have h := MW (m := m) (r := m[j]!.stk) hi hH rfl hj
 rwa [show m.set j { m[j]! with stk := m[j]!.stk } = m from l6 m j] at h
theorem N7 {m : List Cl} {x : Pt} {wr : Bool} (h : 0 ≤ x.cell) (h2 : x.cell < m.length) (h3 : m[x.cell.toNat]!.alive = true) (h4 : 0 ≤ cV m[x.cell.toNat]!.stk x.tag) (hw : wr = true) (h5 : m[x.cell.toNat]!.stk[(cV m[x.cell.toNat]!.stk x.tag).toNat]!.uq = false) : bJ m x wr = 3 := by
 unfold bJ;rw [if_neg (by omega), if_neg (by rw [h3]; decide), if_neg (by omega), if_pos ⟨hw, h5⟩]
theorem pI (m : List Cl) (x : Pt) (wr : Bool) (n : Nat) (hm : OkM m) (hn : n = m.length) (hk : bJ m x wr ≠ 0) : MC Tryz.prog 242 [.own 0 0 n 4, HF x, bv wr] [(0, some (flat cY m))] 1 (fun _ : Unit => True) (fun _ => iv (bJ m x wr)) (fun _ => [(0, some (flat cY m))]) := by
 subst hn
 have hml := hm.l
 have hcv := gU m hm
 have hst : 0 ≤ x.cell → x.cell < m.length → m[x.cell.toNat]!.stk.length ≤ 200 := fun h1 h2 => (((iQ m).1 hm).2 x.cell.toNat (by omega)).l.2
 have hbd := iL m[x.cell.toNat]!.stk x.tag
 have hidx := fun h => yW m[x.cell.toNat]!.stk x.cell x.tag h
 refine aX Tryz.func242 Tryz.ntmps242 ?_
 repeat' (first|(apply aI;first|(apply pD (k := 239);(case ha => rfl);(case hl => (repeat' (first|exact mW|apply kS|exact m6 rfl inferInstance)));(case h => exact hcv);(case hfr|hN => rfl);(case hmd => infer_instance))|((apply iH 4);(case hx|hH|hc|hN => rfl))|(apply aA (k := 267);rfl;(exact (hidx (by have := hst (by omega) (by omega);omega)));exact Pur.pf;rfl)|(with_reducible apply a7 (d := 75))|(apply aA (k := 54);rfl;(apply cO);(rfl);rfl))|refine aD ?_|refine aE ?_|(refine aM ?_ ?_ <;> intro hc hq <;> try (exfalso;omega))|(refine bU ?_ ?_ <;> intro hg hq <;> try (exfalso;omega)))
 ·(refine aF rfl ?_; refine aU () trivial ?_ ⟨.inr (Eq.trans (b := some _) rfl ?_), trivial⟩)
  ·rw [Mr (by omega)]; rfl
  ·rfl
 ·(refine aF rfl ?_; refine aU () trivial ?_ ⟨.inr (Eq.trans (b := some _) rfl ?_), trivial⟩)
  ·rw [L9 (by omega) (by omega) (by assumption)]; rfl
  ·rfl
 ·(refine aF rfl ?_; refine aU () trivial ?_ ⟨.inr (Eq.trans (b := some _) rfl ?_), trivial⟩)
  ·rw [MU (by omega) (by omega) (by assumption) (by assumption)]; rfl
  ·rfl
 ·(refine aF rfl ?_; refine aU () trivial ?_ ⟨.inr (Eq.trans (b := some _) rfl ?_), trivial⟩)
  ·rw [N7 (by omega) (by omega) (by assumption) (by assumption) (by assumption) (by assumption)]; rfl
  ·rfl
 ·exfalso
  have hw : wr = true := by assumption
  have hu : m[x.cell.toNat]!.stk[(cV m[x.cell.toNat]!.stk x.tag).toNat]!.uq = true := by assumption
  subst hw
  refine hk ?_
  rw [Kw, if_pos (D4 (by omega) (by omega) (by assumption) (by assumption)), if_neg (by rw [hu]; decide)]
 ·exfalso
  have hw : wr = false := by assumption
  subst hw
  exact hk (D4 (by omega) (by omega) (by assumption) (by assumption))
theorem uL (m : List Cl) (j : Nat) (t : Int) (k n : Nat) (hm : OkM m) (hn : n = m.length) (hj : j < m.length) (hk : cV m[j]!.stk t = (k : Int)) (hal : m[j]!.alive = true) (hu : m[j]!.stk[k]!.uq = true) : MC Tryz.prog 242 [.own 0 0 n 4, .agg [iv (j : Int), iv t], bv true] [(0, some (flat gC (dR m j (.own 1 0 m[j]!.stk.length 2)))), (1, some (flat dA m[j]!.stk))] 2 (fun _ : Unit => True) (fun _ => iv 0) (fun _ => [(0, some (flat gC (dR m j (.own 1 0 (k + 1) 2)))), (1, some (flat dA (m[j]!.stk.take (k + 1))))]) := by
 subst hn
 have hml := hm.l
 have hcv := gU m hm
 have hst : m[j]!.stk.length ≤ 200 := (((iQ m).1 hm).2 j hj).l.2
 have hbd := iL m[j]!.stk t
 rw [hk] at hbd
 have hidx := yW m[j]!.stk (j : Int) t (by omega)
 rw [hk] at hidx
 have hog := iM (m := m) (j := j) (X := .own 1 0 m[j]!.stk.length 2) hj
 have hol := dH (m := m) (j := j) (X := .own 1 0 m[j]!.stk.length 2)
 refine aX Tryz.func242 Tryz.ntmps242 ?_
 repeat' (first|(apply aI;first|(apply mI (k := 239) (D := [0, 1]) (h := hcv);rfl;exact .cons (.own (by simp) rfl (Eu (by simp) rfl hj)) .nil;rfl;rfl)|(with_reducible apply a7 (d := 35))|(apply aA (k := 54);rfl;(apply cO);(rfl);rfl))|refine aD ?_|refine aE ?_|(refine aM ?_ ?_ <;> intro hc hq <;> try (exfalso;omega))|fail)
 all_goals (try (exfalso;omega))
 ·exfalso
  have h : (dR m j (.own 1 0 m[j]!.stk.length 2))[j]!.alive = false := by assumption
  rw [hog] at h;simp only [hal] at h;cases h
 refine cK ?_
 rw [hog]
 dsimp only
 repeat' (first|(apply aI;first|((apply iH 4);(case hx|hH|hc|hN => rfl))|(apply mI (k := 267) (D := [1]) (h := hidx);rfl;exact .cons (.own (by simp) rfl (.pur (inferInstance : Pur (flat dA _)).pf)) (.cons (.pur rfl) .nil);rfl;rfl)|(with_reducible apply a7 (d := 68)))|refine aD ?_|refine aE ?_|fail)
 refine cK ?_
 rw [hog]
 dsimp only
 repeat' (first|(apply aI;(with_reducible apply a7 (d := 81)))|refine aD ?_|refine aE ?_|(refine aM ?_ ?_ <;> intro hc hq <;> try (exfalso;omega))|fail)
 ·exfalso
  have h : m[j]!.stk[k]!.uq = false := by assumption
  rw [hu] at h;cases h
 refine cK ?_
 rw [hog]
 dsimp only
 repeat' (first|(apply aI;first|(apply eY (d := 83) (l := 0) (h := k + 1);rfl;rfl;rfl;exact k8 rfl (by omega);exact if_pos (by omega);rfl)|(apply bT;rfl;rfl;rfl;rfl;rfl;(rw [aL]; simp only [hU] <;> omega);(exact xH (by (assumption)))))|refine aD ?_|refine aE ?_|fail)
 refine aV (Le.cut (i := 1) ((k + 1) * 2) rfl) ?_
 (refine aF rfl ?_; refine aU () trivial ?_ ⟨.inr (Eq.trans (b := some _) rfl ?_), ⟨.inr (Eq.trans (b := some _) rfl ?_), trivial⟩⟩)
 ·rfl
 ·rfl
 ·rw [dC dA (e := 2)]
theorem Fs {xs : List Tg} {k n : Nat} {N : Nat} {Q : Exit → AS → Prop} {all : Array Oper} {rest : List Oper} {tsl : List (Nat × AV)} {hsl : List (Nat × Option (List AV))} {nidl : Nat} {z0 : Lo} {md : Md} {d : Nat} {ty : TypeId} {pos : String} {af : Array Edge} {tys : Array TypeId} {x0 : Operand} {i0 : Nat} (ha0 : ev (lk tsl) x0 = some (.own i0 (0 + k * 2) n 2)) (hH0 : aS hsl i0 = some (flat dA xs)) (hmc : MC Tryz.prog 266 [.own 0 (0 + k * 2) n 2] [(0, some (flat dA xs))] 1 (fun _ : Unit => True) (fun _ => .own 2 0 n 2) (fun _ => [(0, some (flat dA xs)), (2, some (flat dA (xs.drop k)))])) (hM : Nat.ble (nidl + 2) aY = true) (hN : Nat.blt d N = true) {md' : Md} [hmd : MdA md (fK [x0] ++ [.inr i0]) (List.map Sum.inr (List.map Prod.fst ([(i0, some (flat dA xs)), ((nidl + 1), some (flat dA (xs.drop k)))] : List (Nat × Option (List AV)))) ++ [.inl d]) md'] (kk : RW Tryz.prog N all Q md' rest ⟨(d, .own (nidl + 1) 0 n 2) :: tsl, gR hsl [(i0, some (flat dA xs)), ((nidl + 1), some (flat dA (xs.drop k)))], nidl + 2, z0⟩) : RW Tryz.prog N all Q md (⟨some d, .call ⟨.value (.func 266), #[x0], tys⟩, ty, pos, af, none⟩ :: rest) ⟨tsl, hsl, nidl, z0⟩ := by
 refine a6 [i0] 3 [(i0, some (flat dA xs)), ((nidl + 1), some (flat dA (xs.drop k)))] hmc (avs := [.own i0 (0 + k * 2) n 2]) ?_ rfl ?_ rfl ?_ (by simpa using hM) ?_ ?_ ?_ hN (md' := md') (hmd := hmd) kk
 ·show evL (lk tsl) [x0] = _
  simp only [evL, ha0]
 ·exact ⟨⟨_, _, rfl, hH0, by (repeat' (exact RnL.purI inferInstance))⟩, trivial⟩
 ·(repeat' (first|exact RnL.purI inferInstance|exact RnV.own rfl|refine RnL.cons ?_ ?_))
 ·(repeat' (exact RnV.own rfl))
 ·simp [cA]
 ·(repeat' (first|exact trivial|(refine And.intro ⟨0, _, rfl, rfl, ?_⟩ ?_)|(refine And.intro ⟨2, _, rfl, rfl, ?_⟩ ?_)|exact RnL.purI inferInstance))
theorem GB (xs : List Tg) (k n : Nat) (hn : n = xs.length - k) (hl : xs.length ≤ 1000000) : MC Tryz.prog 266 [.own 0 (0 + k * 2) n 2] [(0, some (flat dA xs))] 1 (fun _ : Unit => True) (fun _ => .own 2 0 n 2) (fun _ => [(0, some (flat dA xs)), (2, some (flat dA (xs.drop k)))]) := by
 subst hn
 refine aX Tryz.func266 Tryz.ntmps266 ?_
 repeat' (first|(apply aI;first|(apply Fi;rfl;rfl;(intro b hb))|(apply cP;rfl;rfl;rfl;rfl;rfl;(decide);exact yN rfl rfl;omega;omega;(exact oF rfl);rfl;rfl))|refine aD ?_|refine aE ?_|(refine aM ?_ ?_ <;> intro hc hq <;> try (exfalso;omega))|fail)
 ·have h0 : xs.length - k = 0 := hb (by assumption)
  have h1 : xs.drop k = [] := List.drop_eq_nil_of_le (by omega)
  refine aV (Le.bump 1) ?_
  refine aV (Le.nilOwn (d := 2) 2 rfl (by decide)) ?_
  (refine aF rfl ?_; refine aU () trivial ?_ ⟨.inr (Eq.trans (b := some _) rfl ?_), ⟨.inr (Eq.trans (b := some _) rfl ?_), trivial⟩⟩)
  ·show AV.own 2 0 0 2 = _; rw [h0]
  ·rfl
  ·rw [h1]; rfl
 ·(refine aF rfl ?_; refine aU () trivial ?_ ⟨.inr (Eq.trans (b := some _) rfl ?_), ⟨.inr (Eq.trans (b := some _) rfl ?_), trivial⟩⟩)
  ·show AV.own 2 0 (0 + (xs.length - k)) 2 = _
   rw [Nat.zero_add]
  ·rfl
  ·rfl
theorem vW {m : List Cl} {j : Nat} {t : Int} {r : List Tg} {n : Nat} {N : Nat} {Q : Exit → AS → Prop} {all : Array Oper} {rest : List Oper} {tsl : List (Nat × AV)} {hsl : List (Nat × Option (List AV))} {nidl : Nat} {z0 : Lo} {md : Md} {d : Nat} {ty : TypeId} {pos : String} {af : Array Edge} {tys : Array TypeId} {x0 x1 x2 : Operand} {i0 i1 : Nat} (ha0 : ev (lk tsl) x0 = some (.own i0 0 n 4)) (ha1 : ev (lk tsl) x1 = some (.agg [iv (j : Int), iv t])) (ha2 : ev (lk tsl) x2 = some (bv false)) (hH0 : aS hsl i0 = some (flat gC (dR m j (.own i1 0 m[j]!.stk.length 2)))) (hH1 : aS hsl i1 = some (flat dA m[j]!.stk)) (hdd : Go.AL.distinct [i0, i1] = true) (hmc : MC Tryz.prog 242 [.own 0 0 n 4, .agg [iv (j : Int), iv t], bv false] [(0, some (flat gC (dR m j (.own 1 0 m[j]!.stk.length 2)))), (1, some (flat dA m[j]!.stk))] 2 (fun _ : Unit => True) (fun _ => iv 0) (fun _ => [(0, some (flat gC (dR m j (.own 5 0 r.length 2)))), (5, some (flat dA r))])) (hM : Nat.ble (nidl + 4) aY = true) (hN : Nat.blt d N = true) {md' : Md} [hmd : MdA md (fK [x0, x1, x2] ++ [.inr i0, .inr i1]) (List.map Sum.inr (List.map Prod.fst ([(i0, some (flat gC (dR m j (.own (nidl + 3) 0 r.length 2)))), ((nidl + 3), some (flat dA r)), (i1, none)] : List (Nat × Option (List AV)))) ++ [.inl d]) md'] (kk : RW Tryz.prog N all Q md' rest ⟨(d, iv 0) :: tsl, gR hsl [(i0, some (flat gC (dR m j (.own (nidl + 3) 0 r.length 2)))), ((nidl + 3), some (flat dA r)), (i1, none)], nidl + 4, z0⟩) : RW Tryz.prog N all Q md (⟨some d, .call ⟨.value (.func 242), #[x0, x1, x2], tys⟩, ty, pos, af, none⟩ :: rest) ⟨tsl, hsl, nidl, z0⟩ := by
 refine a6 [i0, i1] 6 [(i0, some (flat gC (dR m j (.own (nidl + 3) 0 r.length 2)))), ((nidl + 3), some (flat dA r)), (i1, none)] hmc (avs := [.own i0 0 n 4, .agg [iv (j : Int), iv t], bv false]) ?_ hdd ?_ rfl ?_ (by simpa using hM) ?_ ?_ ?_ hN (md' := md') (hmd := hmd) kk
 ·show evL (lk tsl) [x0, x1, x2] = _
  simp only [evL, ha0, ha1, ha2]
 ·exact ⟨⟨_, _, rfl, hH0, by (repeat' (exact n8 rfl))⟩, ⟨⟨_, _, rfl, hH1, by (repeat' (exact RnL.purI inferInstance))⟩, trivial⟩⟩
 ·(repeat' (first|exact RnL.purI inferInstance|exact RnV.own rfl|refine RnL.cons ?_ ?_))
 ·(repeat' (exact RnV.purI inferInstance))
 ·simp [cA]
 ·(repeat' (first|exact trivial|(refine And.intro ⟨0, _, rfl, rfl, ?_⟩ ?_)|(refine And.intro ⟨5, _, rfl, rfl, ?_⟩ ?_)|exact RnL.purI inferInstance|exact n8 rfl))
theorem BE (m : List Cl) (j : Nat) (t : Int) (r : List Tg) (k n : Nat) (hm : OkM m) (hn : n = m.length) (hj : j < m.length) (hk : cV m[j]!.stk t = (k : Int)) (hal : m[j]!.alive = true) (hr : r = jZ m[j]!.stk k false) : MC Tryz.prog 242 [.own 0 0 n 4, .agg [iv (j : Int), iv t], bv false] [(0, some (flat gC (dR m j (.own 1 0 m[j]!.stk.length 2)))), (1, some (flat dA m[j]!.stk))] 2 (fun _ : Unit => True) (fun _ => iv 0) (fun _ => [(0, some (flat gC (dR m j (.own 5 0 r.length 2)))), (5, some (flat dA r))]) := by
 subst hn
 have hml := hm.l
 have hcv := gU m hm
 have hst : m[j]!.stk.length ≤ 200 := (((iQ m).1 hm).2 j hj).l.2
 have hbd := iL m[j]!.stk t
 rw [hk] at hbd
 have hidx := yW m[j]!.stk (j : Int) t (by omega)
 rw [hk] at hidx
 have hog := iM (m := m) (j := j) (X := .own 1 0 m[j]!.stk.length 2) hj
 have hol := dH (m := m) (j := j) (X := .own 1 0 m[j]!.stk.length 2)
 refine aX Tryz.func242 Tryz.ntmps242 ?_
 repeat' (first|(apply aI;first|(apply mI (k := 239) (D := [0, 1]) (h := hcv);rfl;exact .cons (.own (by simp) rfl (Eu (by simp) rfl hj)) .nil;rfl;rfl)|(with_reducible apply a7 (d := 35))|(apply aA (k := 54);rfl;(apply cO);(rfl);rfl))|refine aD ?_|refine aE ?_|(refine aM ?_ ?_ <;> intro hc hq <;> try (exfalso;omega))|fail)
 all_goals (try (exfalso;omega))
 ·exfalso
  have h : (dR m j (.own 1 0 m[j]!.stk.length 2))[j]!.alive = false := by assumption
  rw [hog] at h;simp only [hal] at h;cases h
 refine cK ?_
 rw [hog]
 dsimp only
 repeat' (first|(apply aI;first|((apply iH 4);(case hx|hH|hc|hN => rfl))|(apply mI (k := 267) (D := [1]) (h := hidx);rfl;exact .cons (.own (by simp) rfl (.pur (inferInstance : Pur (flat dA _)).pf)) (.cons (.pur rfl) .nil);rfl;rfl)|(with_reducible apply a7 (d := 41)))|refine aD ?_|refine aE ?_|fail)
 refine cK ?_
 rw [hog]
 dsimp only
 repeat' (first|(apply aI;first|(apply eY (d := 43) (l := k + 1) (h := m[j]!.stk.length);rfl;rfl;exact k8 rfl (by omega);rfl;exact if_pos (by omega);rfl)|(apply Fs;rfl;rfl;exact GB _ _ _ rfl (by omega);rfl;rfl)|(apply K7;rfl;rfl;rfl;exact Ms _ _ (by rw [List.length_drop]) (by omega);rfl;rfl)|(with_reducible apply a7 (d := 51)))|refine aD ?_|refine aE ?_|fail)
 refine cK ?_
 rw [hog]
 dsimp only
 have hfl : (flat dA m[j]!.stk).length = m[j]!.stk.length * 2 := aL dA _
 have hsl : (shr (List.drop (k + 1) m[j]!.stk)).length ≤ 200 := Nat.le_trans (List.length_filter_le _ _) (by rw [List.length_drop]; omega)
 repeat' (first|(apply aI;first|(apply eY (d := 53) (l := 0) (h := k + 1);rfl;rfl;rfl;exact k8 rfl (by omega);exact if_pos (by omega);rfl)|(apply cP;rfl;rfl;rfl;rfl;rfl;(rw [hfl]; omega);exact yN (k := 0) rfl rfl;omega;omega;rfl;rfl;rfl)|(apply bT;rfl;rfl;rfl;rfl;rfl;(rw [aL]; simp only [hU] <;> omega);(exact xH (by (assumption)))))|refine aD ?_|refine aE ?_|fail)
 have hre : r = m[j]!.stk.take (k + 1) ++ shr (m[j]!.stk.drop (k + 1)) := by rw [hr]; rfl
 have hrl : r.length = k + 1 + (shr (List.drop (k + 1) m[j]!.stk)).length := by rw [hre, List.length_append, List.length_take]; omega
 (refine aF rfl ?_; refine aU () trivial ?_ ⟨.inr (Eq.trans (b := some _) rfl ?_), ⟨.inr (Eq.trans (b := some _) rfl ?_), trivial⟩⟩)
 ·rfl
 ·refine congrArg some ?_
  show flat gC (dR m j (AV.own 5 0 (k + 1 - 0 + (shr (List.drop (k + 1) m[j]!.stk)).length) 2)) = _
  rw [hrl]; rfl
 ·refine congrArg some ?_
  show (List.drop 0 (flat dA m[j]!.stk)).take ((k + 1) * 2) ++ flat dA (List.drop 0 (shr (List.drop (k + 1) m[j]!.stk))) = _
  rw [List.drop_zero, List.drop_zero, dC dA (e := 2), bO, ← hre]
theorem JF {m : List Cl} {j : Nat} {X : AV} {v : Int} (h : j < m.length) : gI (flat gC (dR m j X)) (0 + j * 4 + 0) [iv v] = flat gC (dR (m.set j { m[j]! with val := v }) j X) := by
 have e : dR (m.set j { m[j]! with val := v }) j X = (dR m j X).set j ⟨v, m[j]!.alive, m[j]!.next, X⟩ := by
  have e2 : (m.set j { m[j]! with val := v })[j]! = { m[j]! with val := v } := by rw [aZ _ _ (by rw [List.length_set]; exact h), List.getElem_set_self]
  unfold dR
  rw [e2, List.map_set, List.set_set, List.set_set]; rfl
 rw [e]
 exact fA (by rw [dH]; exact h) (by simp) (by rw [iM h]; rfl)
theorem K8 {m : List Cl} {j : Nat} {X : AV} {b : Bool} (h : j < m.length) : gI (flat gC (dR m j X)) (0 + j * 4 + 1) [.v (.bool b)] = flat gC (dR (m.set j { m[j]! with alive := b }) j X) := by
 have e : dR (m.set j { m[j]! with alive := b }) j X = (dR m j X).set j ⟨m[j]!.val, b, m[j]!.next, X⟩ := by
  have e2 : (m.set j { m[j]! with alive := b })[j]! = { m[j]! with alive := b } := by rw [aZ _ _ (by rw [List.length_set]; exact h), List.getElem_set_self]
  unfold dR
  rw [e2, List.map_set, List.set_set, List.set_set]; rfl
 rw [e]
 exact fA (by rw [dH]; exact h) (by simp) (by rw [iM h]; rfl)
theorem rC (m : List Cl) (hm : OkM m) (x : Pt) : PC Tryz.prog 202 [sl cY m, HF x] (fun r => r = .tup [sl cY (j9 m x false), iv (zT m x), iv (bJ m x false)]) := by
 have hml := hm.l
 by_cases hk : bJ m x false = 0
 ·obtain ⟨c, t⟩ := x
  obtain ⟨h1, h2, h3, h4, _⟩ := iR hk
  obtain ⟨j, rfl⟩ := Int.eq_ofNat_of_zero_le (show 0 ≤ c from h1)
  have hj : j < m.length := by have : (j : Int) < m.length := h2;omega
  obtain ⟨k, hkk⟩ := Int.eq_ofNat_of_zero_le (show 0 ≤ cV m[j]!.stk t from h4)
  obtain ⟨r, hr⟩ : ∃ r, r = jZ m[j]!.stk k false := ⟨_, rfl⟩
  have hto := BE m j t r k m.length hm rfl hj hkk h3 hr
  have hog := iM (m := m) (j := j) (X := .own (0 + 1 + 3 + 3) 0 r.length 2) hj
  have hol := dH (m := m) (j := j) (X := .own (0 + 1 + 3 + 3) 0 r.length 2)
  refine aB Tryz.func202 Tryz.ntmps202 ?_
  repeat' (first|(apply aI;first|(apply pK (j := j);rfl;exact tJ m j hm hj;rfl;rfl)|(apply vW (m := m) (j := j) (t := t) (r := r) (n := m.length);rfl;rfl;rfl;rfl;rfl;rfl;exact hto;rfl;rfl))|refine aD ?_|refine aE ?_|refine b0 ?_|fail)
  refine aV (Le.cls (o := 2) (q := 7) (j := j) (k := r.length) (m := m) (r := r) rfl rfl rfl hj (by decide)) ?_
  refine aV (Le.frzD (d := 4) (i := 2) rfl rfl) ?_
  rw [hog]
  refine aF (l := [.imm m.length (flat cY (m.set j { m[j]! with stk := r })), iv m[j]!.val, iv 0]) rfl ?_
  have eM : j9 m ⟨j, t⟩ false = m.set j { m[j]! with stk := r } := by
   unfold j9 rG;rw [if_pos hk]; dsimp only
   rw [Int.toNat_natCast, hkk, Int.toNat_natCast, hr]
  have eN : zT m ⟨j, t⟩ = m[j]!.val := by unfold zT;rw [if_pos hk]; rfl
  rw [eM, eN, hk, nR (by rw [List.length_set])]
  exact ⟨rfl, by exact Pur.pf⟩
 ·refine aB Tryz.func202 Tryz.ntmps202 ?_
  repeat' (first|(apply aI;first|(apply gQ;rfl;exact j4 m hm;rfl;rfl)|(apply nI (m := m) (x := x) (wr := false) (n := m.length);rfl;rfl;rfl;rfl;exact pI m x false _ hm rfl hk;rfl;rfl))|refine aD ?_|refine aE ?_|(refine aM ?_ ?_ <;> intro hc hq <;> try (exfalso;omega))|fail)
  (refine aV (Le.frzD (d := 4) (i := 2) rfl rfl) ?_; refine aF rfl ?_)
  refine ⟨?_, by exact Pur.pf⟩
  simp only [aQ]
  unfold j9 zT;rw [if_neg hk, if_neg hk]
theorem z8 (m : List Cl) (hm : OkM m) (x : Pt) : PC Tryz.prog 243 [sl cY m, HF x] (fun r => r = .tup [sl cY (kQ m x), iv (bJ m x true)]) := by
 have hml := hm.l
 by_cases hk : bJ m x true = 0
 ·obtain ⟨c, t⟩ := x
  obtain ⟨h1, h2, h3, h4, hu⟩ := iR hk
  obtain ⟨j, rfl⟩ := Int.eq_ofNat_of_zero_le (show 0 ≤ c from h1)
  have hj : j < m.length := by have : (j : Int) < m.length := h2;omega
  obtain ⟨k, hkk⟩ := Int.eq_ofNat_of_zero_le (show 0 ≤ cV m[j]!.stk t from h4)
  have huk : m[j]!.stk[k]!.uq = true := by
   have h : m[j]!.stk[(cV m[j]!.stk t).toNat]!.uq = true := hu rfl
   rwa [hkk, Int.toNat_natCast] at h
  have htw := uL m j t k m.length hm rfl hj hkk h3 huk
  have hrl : (m[j]!.stk.take (k + 1)).length = k + 1 := by
   have hb := iL m[j]!.stk t
   rw [List.length_take]; omega
  have hol := dH (m := m) (j := j) (X := .own (0 + 1 + 2) 0 (k + 1) 2)
  have hls : (m.set j { m[j]! with alive := false }).length = m.length := List.length_set
  refine aB Tryz.func243 Tryz.ntmps243 ?_
  repeat' (first|(apply aI;first|(apply pK (j := j);rfl;exact tJ m j hm hj;rfl;rfl)|(apply wO (m := m) (j := j) (t := t) (k := k) (n := m.length);rfl;rfl;rfl;rfl;rfl;rfl;exact htw;rfl;rfl)|(apply bT;rfl;rfl;rfl;rfl;rfl;(rw [aL]; simp only [List.length_append, List.length_cons, List.length_nil]; omega);exact K8 hj))|refine aD ?_|refine aE ?_|fail)
  refine aV (Le.cls (o := 2) (q := 3) (j := j) (k := k + 1) (m := m.set j { m[j]! with alive := false }) (r := m[j]!.stk.take (k + 1)) rfl rfl hrl.symm (by rw [hls]; exact hj) (by decide)) ?_
  refine aV (Le.frzD (d := 4) (i := 2) rfl rfl) ?_
  rw [sH hj, set_set]
  refine aF (l := [.imm m.length (flat cY (m.set j { m[j]! with alive := false, stk := m[j]!.stk.take (k + 1) })), iv 0]) rfl ?_
  have eM : kQ m ⟨j, t⟩ = m.set j { m[j]! with alive := false, stk := m[j]!.stk.take (k + 1) } := by
   unfold kQ rG;rw [if_pos hk]; dsimp only
   rw [Int.toNat_natCast, hkk, Int.toNat_natCast]; unfold jZ;rw [if_pos rfl]
  rw [eM, hk, nR (by rw [List.length_set])]
  exact ⟨rfl, by exact Pur.pf⟩
 ·refine aB Tryz.func243 Tryz.ntmps243 ?_
  repeat' (first|(apply aI;first|(apply gQ;rfl;exact j4 m hm;rfl;rfl)|(apply nI (m := m) (x := x) (wr := true) (n := m.length);rfl;rfl;rfl;rfl;exact pI m x true _ hm rfl hk;rfl;rfl))|refine aD ?_|refine aE ?_|(refine aM ?_ ?_ <;> intro hc hq <;> try (exfalso;omega))|fail)
  (refine aV (Le.frzD (d := 4) (i := 2) rfl rfl) ?_; refine aF rfl ?_)
  refine ⟨?_, by exact Pur.pf⟩
  simp only [aQ]
  unfold kQ;rw [if_neg hk]
theorem zK (m : List Cl) (hm : OkM m) (x : Pt) (v : Int) : PC Tryz.prog 203 [sl cY m, HF x, iv v] (fun r => r = .tup [sl cY (yX m x v), iv (zQ m x v)]) := by
 have hml := hm.l
 by_cases hv : 0 ≤ v ∧ v ≤ 9
 case neg =>
  have hwk : zQ m x v = 4 := by unfold zQ;rw [if_neg hv]
  have e : yX m x v = m := by unfold yX;rw [if_neg (by rw [hwk]; decide)]
  refine aB Tryz.func203 Tryz.ntmps203 ?_
  repeat' (first|(apply aI;first|(apply gQ;rfl;exact j4 m hm;rfl;rfl)|(apply aA (k := 54);rfl;(apply cO);(rfl);rfl))|refine aD ?_|refine aE ?_|(refine aM ?_ ?_ <;> intro hc hq <;> try (exfalso;omega))|fail)
  all_goals (try (exfalso;omega))
  all_goals (
   (refine aV (Le.frzD (d := 6) (i := 2) rfl rfl) ?_; refine aF rfl ?_)
   refine ⟨?_, by exact Pur.pf⟩
   simp only [aQ]
   rw [e, hwk])
 case pos =>
 have hwk : zQ m x v = bJ m x true := by unfold zQ;rw [if_pos hv]
 by_cases hk : bJ m x true = 0
 ·obtain ⟨c, t⟩ := x
  obtain ⟨h1, h2, h3, h4, hu⟩ := iR hk
  obtain ⟨j, rfl⟩ := Int.eq_ofNat_of_zero_le (show 0 ≤ c from h1)
  have hj : j < m.length := by have : (j : Int) < m.length := h2;omega
  obtain ⟨k, hkk⟩ := Int.eq_ofNat_of_zero_le (show 0 ≤ cV m[j]!.stk t from h4)
  have huk : m[j]!.stk[k]!.uq = true := by
   have h : m[j]!.stk[(cV m[j]!.stk t).toNat]!.uq = true := hu rfl
   rwa [hkk, Int.toNat_natCast] at h
  have htw := uL m j t k m.length hm rfl hj hkk h3 huk
  have hrl : (m[j]!.stk.take (k + 1)).length = k + 1 := by
   have hb := iL m[j]!.stk t
   rw [List.length_take]; omega
  have hol := dH (m := m) (j := j) (X := .own (0 + 1 + 2) 0 (k + 1) 2)
  have hls : (m.set j { m[j]! with val := v }).length = m.length := List.length_set
  refine aB Tryz.func203 Tryz.ntmps203 ?_
  repeat' (first|(apply aI;first|(apply pK (j := j);rfl;exact tJ m j hm hj;rfl;rfl)|(apply wO (m := m) (j := j) (t := t) (k := k) (n := m.length);rfl;rfl;rfl;rfl;rfl;rfl;exact htw;rfl;rfl)|(apply bT;rfl;rfl;rfl;rfl;rfl;(rw [aL]; simp only [List.length_append, List.length_cons, List.length_nil]; omega);exact JF hj)|(apply aA (k := 54);rfl;(apply cO);(rfl);rfl))|refine aD ?_|refine aE ?_|(refine aM ?_ ?_ <;> intro hc hq <;> try (exfalso;omega))|fail)
  refine aV (Le.cls (o := 2) (q := 3) (j := j) (k := k + 1) (m := m.set j { m[j]! with val := v }) (r := m[j]!.stk.take (k + 1)) rfl rfl hrl.symm (by rw [hls]; exact hj) (by decide)) ?_
  refine aV (Le.frzD (d := 6) (i := 2) rfl rfl) ?_
  rw [sH hj, set_set]
  refine aF (l := [.imm m.length (flat cY (m.set j { m[j]! with val := v, stk := m[j]!.stk.take (k + 1) })), iv 0]) rfl ?_
  have eM : yX m ⟨j, t⟩ v = m.set j { m[j]! with val := v, stk := m[j]!.stk.take (k + 1) } := by
   unfold yX rG;rw [hwk, if_pos hk]; dsimp only
   rw [Int.toNat_natCast, hkk, Int.toNat_natCast]; unfold jZ;rw [if_pos rfl]
  rw [eM, hwk, hk, nR (by rw [List.length_set])]
  exact ⟨rfl, by exact Pur.pf⟩
 ·refine aB Tryz.func203 Tryz.ntmps203 ?_
  repeat' (first|(apply aI;first|(apply gQ;rfl;exact j4 m hm;rfl;rfl)|(apply nI (m := m) (x := x) (wr := true) (n := m.length);rfl;rfl;rfl;rfl;exact pI m x true _ hm rfl hk;rfl;rfl)|(apply aA (k := 54);rfl;(apply cO);(rfl);rfl))|refine aD ?_|refine aE ?_|(refine aM ?_ ?_ <;> intro hc hq <;> try (exfalso;omega))|fail)
  (refine aV (Le.frzD (d := 6) (i := 2) rfl rfl) ?_; refine aF rfl ?_)
  refine ⟨?_, by exact Pur.pf⟩
  simp only [aQ]
  unfold yX;rw [hwk, if_neg hk]
theorem Cg (m : List Cl) (hm : OkM m) (v : Int) : PC Tryz.prog 240 [sl cY m, iv v] (fun r => r = .tup [sl cY (m ++ [r8 v]), .agg [iv m.length, iv 0]]) := by
 have hml := hm.l
 refine aB Tryz.func240 Tryz.ntmps240 ?_
 repeat' (first|(apply aI;first|(apply gQ;rfl;exact j4 m hm;rfl;rfl)|(apply aO (t := _);rfl;rfl;rfl;(first|exact (rfl:_=some [_, _])|exact (rfl:_=some [_, _, _, _]));rfl;rfl))|refine aD ?_|refine aE ?_|fail)
 have e2 : AV.imm (m.length + 1) (((flat cY m).drop 0).take (m.length * 4) ++ [iv v, bv true, iv 1, .imm 1 [iv 0, bv true]]) = sl cY (m ++ [r8 v]) := by
  have e : ((flat cY m).drop 0).take (m.length * 4) ++ [iv v, bv true, iv 1, .imm 1 [iv 0, bv true]] = flat cY (m ++ [r8 v]) := g6 rfl rfl
  rw [e]; exact nR (by rw [List.length_append]; rfl)
 refine aV (Le.frzD (d := 4) (i := 5) rfl rfl) ?_
 refine aF (l := [AV.imm (m.length + 1) (((flat cY m).drop 0).take (m.length * 4) ++ [iv v, bv true, iv 1, .imm 1 [iv 0, bv true]]), .agg [iv m.length, iv 0]]) rfl ?_
 rw [e2]
 exact ⟨rfl, by exact Pur.pf⟩
theorem C4 (m : List Cl) (hm : OkM m) (v : Int) : PC Tryz.prog 198 [sl cY m, iv v] (fun r => r = .tup (if 0 ≤ v ∧ v ≤ 9 ∧ m.length < 200 then [sl cY (m ++ [r8 v]), .agg [iv m.length, iv 0], bv true] else [sl cY [], .agg [iv 0, iv 0], bv false])) := by
 have hml := hm.l
 have hcv := gU m hm
 have hnc := Cg m hm v
 refine aB Tryz.func198 Tryz.ntmps198 ?_
 repeat' (first|(apply aI;first|(apply aA (k := 239);rfl;exact hcv;exact Pur.pf;rfl)|(apply aA (k := 240);rfl;exact hnc;exact Pur.pf;rfl)|(apply aA (k := 54);rfl;(apply cO);(rfl);rfl))|refine aD ?_|refine aE ?_|(refine aM ?_ ?_ <;> intro hc hq <;> try (exfalso;omega))|(refine bU ?_ ?_ <;> intro hg hq <;> try (exfalso;omega))|refine b0 ?_|fail)
 ·refine aV (Le.nilImm (d := 4) rfl) ?_
  exact aF (l := [sl cY [], .agg [iv 0, iv 0], bv false]) rfl ⟨by rw [if_neg (by omega)]; rfl, rfl⟩
 ·exact aF (l := [sl cY (m ++ [r8 v]), .agg [iv m.length, iv 0], bv true]) rfl ⟨by rw [if_pos (by omega)]; rfl, by exact Pur.pf⟩
 ·refine aV (Le.nilImm (d := 4) rfl) ?_
  exact aF (l := [sl cY [], .agg [iv 0, iv 0], bv false]) rfl ⟨by rw [if_neg (by omega)]; rfl, rfl⟩
theorem FT {m : List Cl} {j : Nat} {t : Int} {r : List Tg} {n : Nat} {N : Nat} {Q : Exit → AS → Prop} {all : Array Oper} {rest : List Oper} {tsl : List (Nat × AV)} {hsl : List (Nat × Option (List AV))} {nidl : Nat} {z0 : Lo} {md : Md} {d : Nat} {ty : TypeId} {pos : String} {af : Array Edge} {tys : Array TypeId} {x0 x1 x2 : Operand} {i0 i1 : Nat} (ha0 : ev (lk tsl) x0 = some (.own i0 0 n 4)) (ha1 : ev (lk tsl) x1 = some (.agg [iv (j : Int), iv t])) (ha2 : ev (lk tsl) x2 = some (bv true)) (hH0 : aS hsl i0 = some (flat gC (dR m j (.own i1 0 m[j]!.stk.length 2)))) (hH1 : aS hsl i1 = some (flat dA m[j]!.stk)) (hdd : Go.AL.distinct [i0, i1] = true) (hmc : MC Tryz.prog 242 [.own 0 0 n 4, .agg [iv (j : Int), iv t], bv true] [(0, some (flat gC (dR m j (.own 1 0 m[j]!.stk.length 2)))), (1, some (flat dA m[j]!.stk))] 2 (fun _ : Unit => True) (fun _ => iv 0) (fun _ => [(0, some (flat gC (dR m j (.own 1 0 r.length 2)))), (1, some (flat dA r))])) (hM : Nat.ble (nidl + 0) aY = true) (hN : Nat.blt d N = true) {md' : Md} [hmd : MdA md (fK [x0, x1, x2] ++ [.inr i0, .inr i1]) (List.map Sum.inr (List.map Prod.fst ([(i0, some (flat gC (dR m j (.own i1 0 r.length 2)))), (i1, some (flat dA r))] : List (Nat × Option (List AV)))) ++ [.inl d]) md'] (kk : RW Tryz.prog N all Q md' rest ⟨(d, iv 0) :: tsl, gR hsl [(i0, some (flat gC (dR m j (.own i1 0 r.length 2)))), (i1, some (flat dA r))], nidl + 0, z0⟩) : RW Tryz.prog N all Q md (⟨some d, .call ⟨.value (.func 242), #[x0, x1, x2], tys⟩, ty, pos, af, none⟩ :: rest) ⟨tsl, hsl, nidl, z0⟩ := by
 refine a6 [i0, i1] 2 [(i0, some (flat gC (dR m j (.own i1 0 r.length 2)))), (i1, some (flat dA r))] hmc (avs := [.own i0 0 n 4, .agg [iv (j : Int), iv t], bv true]) ?_ hdd ?_ rfl ?_ (by simpa using hM) ?_ ?_ ?_ hN (md' := md') (hmd := hmd) kk
 ·show evL (lk tsl) [x0, x1, x2] = _
  simp only [evL, ha0, ha1, ha2]
 ·exact ⟨⟨_, _, rfl, hH0, by (repeat' (exact n8 rfl))⟩, ⟨⟨_, _, rfl, hH1, by (repeat' (exact RnL.purI inferInstance))⟩, trivial⟩⟩
 ·(repeat' (first|exact RnL.purI inferInstance|exact RnV.own rfl|refine RnL.cons ?_ ?_))
 ·(repeat' (exact RnV.purI inferInstance))
 ·simp [cA]
 ·(repeat' (first|exact trivial|(refine And.intro ⟨0, _, rfl, rfl, ?_⟩ ?_)|(refine And.intro ⟨1, _, rfl, rfl, ?_⟩ ?_)|exact RnL.purI inferInstance|exact n8 rfl))
theorem IG (m : List Cl) (j : Nat) (t : Int) (r : List Tg) (k n : Nat) (hm : OkM m) (hn : n = m.length) (hj : j < m.length) (hk : cV m[j]!.stk t = (k : Int)) (hal : m[j]!.alive = true) (hu : m[j]!.stk[k]!.uq = true) (hre : m[j]!.stk.take (k + 1) = r) (hrk : k + 1 = r.length) : MC Tryz.prog 242 [.own 0 0 n 4, .agg [iv (j : Int), iv t], bv true] [(0, some (flat gC (dR m j (.own 1 0 m[j]!.stk.length 2)))), (1, some (flat dA m[j]!.stk))] 2 (fun _ : Unit => True) (fun _ => iv 0) (fun _ => [(0, some (flat gC (dR m j (.own 1 0 r.length 2)))), (1, some (flat dA r))]) := by
 have h := uL m j t k n hm hn hj hk hal hu
 rw [hre, hrk] at h
 exact h
end Go.Proofs.YtahdccneecdmmaaGreat
