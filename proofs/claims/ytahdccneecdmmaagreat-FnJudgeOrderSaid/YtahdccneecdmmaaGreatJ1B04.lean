/-
 A part of the proofs over this program: rules and contracts of its functions (the contracts).
-/
import Derived.Test.YtahdccneecdmmaaGreatJ1B03
set_option linter.unusedVariables false
set_option linter.unusedSimpArgs false
set_option maxHeartbeats 8000000
set_option maxRecDepth 4000
attribute [local irreducible] Go.AL.RW Go.AL.AW Go.AL.Stop
namespace Go.Proofs.YtahdccneecdmmaaGreat
open Go.AL Go.RowKit
def Db (s : ByteArray) : List AV := [.v (.string s)]
instance : FlT Db 1 := ⟨fun _ => rfl⟩
instance : FE Db (fun s => [.v (.string s)]) := ⟨fun _ => rfl⟩
instance (s : ByteArray) : Pur (Db s) := ⟨rfl⟩
theorem Le.slotEq {ts : List (Nat × AV)} {hs : List (Nat × Option (List AV))} {n : Nat} {z0 : Lo} {d : Nat} (v v' : AV) (hd : lk ts d = some v) (h : v = v') : Le ⟨ts, hs, n, z0⟩ ⟨(d, v') :: ts, hs, n, z0⟩ :=
 Le.slot hd fun w bad ι y hr => h ▸ hr
def kinds : List ByteArray := [⟨#[]⟩, ⟨#[105]⟩, ⟨#[98]⟩, ⟨#[114]⟩, ⟨#[109]⟩]
theorem C4 (k : Nat) : (kinds[k]!).size ≤ 1 := by
 match k with
 | 0 => decide
 | 1 => decide
 | 2 => decide
 | 3 => decide
 | 4 => decide
 | k + 5 => exact (show (default : ByteArray).size ≤ 1 from by decide)
theorem AT (p : Prg) (hv : bG p = true) : PC Tryz.prog 218 [bY p] (fun r => ∃ t, r = sv t) := by
 have hv2 := hv
 simp only [bG, Bool.and_eq_true, decide_eq_true_eq] at hv2
 obtain ⟨⟨hts, hol⟩, hcn⟩ := hv2
 have hl6 := iI hts
 have htx := k7 p.body
 refine aC Tryz.func218 Tryz.ntmps218 ?_
 repeat' (first|refine aE ?_|refine aF ?_|fail)
 refine aI (σ := Nat × ByteArray) [1] [0] (fun k => [(4, iv (k.1 : Int)), (3, sv k.2)]) (fun k => []) (fun k => k.1 ≤ p.types.length ∧ k.2.size ≤ k.1) (fun k => p.types.length - k.1) (0, ⟨#[]⟩) ⟨by omega, by show 0 ≤ 0;omega⟩ ?_
 rintro ⟨k, t⟩ ⟨hk, ht⟩
 dsimp only at hk ht ⊢
 have htk := lB hts k
 have hkz : (kinds[(p.types[k]!).toNat]!).size ≤ 1 := C4 _
 have hkl : kinds.length = 5 := rfl
 repeat' (first|(apply aH;first|(with_reducible apply aX (d := 14))|(apply aA (k := 256);rfl;exact Jk p.types 4 p.body hts (by omega) hol;exact Pur.pf;rfl)|(apply lH;rfl;rfl;(exact sD (by (simp only [ByteArray.size_append, pR, List.length_cons, List.length_nil, nO, m8, qR] <;> omega)));rfl)|(apply aK (t := _);rfl;rfl;rfl;(exact (rfl:_=some [_, _, _, _, _]));rfl;rfl))|refine aE ?_|refine aF ?_|(refine aL ?_ ?_ <;> intro hc hq <;> try (exfalso;omega))|fail)
 ·refine bV (c6 ?_ (Le.slotEq (d := 13) _ (.imm 5 (flat Db kinds)) rfl rfl))
  repeat' (first|(apply aH;(apply lH;rfl;rfl;(exact sD (by (omega)));rfl))|refine aE ?_|refine aF ?_|fail)
  (refine bB (k + 1, _) (Le.renA [(0, 0)]) ?_ ?_)
  ·exact ⟨by dsimp only;omega, by dsimp only;rw [ByteArray.size_append]; omega⟩
  ·dsimp only;omega
 ·refine aD rfl ⟨⟨_, rfl⟩, rfl⟩
theorem I0 {s : ByteArray} (b : Bool) : (∃ (q : Prg) (b' : Bool), AV.tup [AV.agg [.imm 0 [], .imm 0 []], bv b] = .tup [bY q, bv b'] ∧ aS q.body ≤ s.size + 10 ∧ q.types.length ≤ s.size + 10) :=
 ⟨⟨[], []⟩, b, rfl, by simp [aS], by simp⟩
theorem tT (s : ByteArray) (hs : s.size ≤ 10000) : PC Tryz.prog 166 [sv s] (fun r => ∃ (q : Prg) (b : Bool), r = .tup [bY q, bv b] ∧ aS q.body ≤ s.size + 10 ∧ q.types.length ≤ s.size + 10) := by
 refine aC Tryz.func166 Tryz.ntmps166 ?_
 repeat' (first|(apply aH;(with_reducible apply aX (d := 13)))|refine aE ?_|refine aF ?_|(refine aL ?_ ?_ <;> intro hc hq <;> try (exfalso;omega))|fail)
 ·exact aD (l := [.agg [.imm 0 [], .imm 0 []], bv false]) rfl ⟨I0 false, rfl⟩
 refine bV ?_
 apply mE
 case hl => rfl
 case hf => exact (rfl:_=some [AV.v (.slice none 0 0), AV.v (.slice none 0 0)])
 case hN => rfl
 repeat' (first|refine aE ?_|refine aF ?_|fail)
 apply AW.le
 case k => exact Le.nilCell (i := 1) 1 [] rfl (by decide) (by decide)
 refine aI (σ := Nat × List Int × Nat) [0, 2, 4] [0] (fun k => [(5, iv (k.1 : Int))]) (fun k => [(1, some [.own 2 0 k.2.2 1, .v (.slice none 0 0)]), (2, some (flat cI k.2.1))]) (fun k => k.1 ≤ s.size ∧ k.2.1.length = k.1 ∧ k.2.2 = k.2.1.length) (fun k => s.size - k.1) (0, [], 0) ⟨by omega, rfl, rfl⟩ ?_
 rintro ⟨k, xs, m⟩ ⟨hk, hxl, hm⟩
 dsimp only at hk hxl hm ⊢
 repeat' (first|(apply aH;first|(with_reducible apply aX (d := 43))|(apply qZ;rfl;rfl;omega;rfl)|(apply aK (t := _);rfl;rfl;rfl;exact (rfl:_=some [_]);rfl;rfl))|refine aE ?_|refine aF ?_|(refine aL ?_ ?_ <;> intro hc hq <;> try (exfalso;omega))|(refine bS ?_ ?_ <;> intro hg hq <;> try (exfalso;omega))|fail)
 ·(refine bB (k + 1, xs ++ [1], m + 1) (Le.renA [(0, 0), (1, 1), (2, 4)]) ?_ ?_)
  ·exact ⟨by dsimp only;omega, by simp [hxl], by simp [hm]⟩
  ·dsimp only;omega
 ·(refine bB (k + 1, xs ++ [2], m + 1) (Le.renA [(0, 0), (1, 1), (2, 4)]) ?_ ?_)
  ·exact ⟨by dsimp only;omega, by simp [hxl], by simp [hm]⟩
  ·dsimp only;omega
 ·(refine bB (k + 1, xs ++ [3], m + 1) (Le.renA [(0, 0), (1, 1), (2, 4)]) ?_ ?_)
  ·exact ⟨by dsimp only;omega, by simp [hxl], by simp [hm]⟩
  ·dsimp only;omega
 ·(refine bB (k + 1, xs ++ [4], m + 1) (Le.renA [(0, 0), (1, 1), (2, 4)]) ?_ ?_)
  ·exact ⟨by dsimp only;omega, by simp [hxl], by simp [hm]⟩
  ·dsimp only;omega
 ·(refine bB (k + 1, xs ++ [0], m + 1) (Le.renA [(0, 0), (1, 1), (2, 4)]) ?_ ?_)
  ·exact ⟨by dsimp only;omega, by simp [hxl], by simp [hm]⟩
  ·dsimp only;omega
 all_goals subst hm
 all_goals (refine bV (c6 ?_ (Le.frzC (j := 1) (i := 2) [] rfl rfl (by decide))))
 all_goals repeat' (first|(apply aH;first|(apply j3 (k := 217);rfl;(apply KO <;> omega);(rfl);rfl;(rintro _ ⟨l, nx, rfl, hql⟩ _))|(apply aA (k := 61);rfl;(exact fT ⟨xs, l⟩ (by show xs.length ≤ _; omega) (by show aS l ≤ 100000000;rcases hql with ⟨_, h9⟩|h9;(rw [h9]; decide);omega));exact Pur.pf;rfl)|(apply j3 (k := 218);rfl;exact AT ⟨xs, l⟩ (by assumption);exact Pur.pf;rfl;(rintro _ ⟨t, rfl⟩ _))|(apply lH;rfl;rfl;(rfl);rfl))|refine aE ?_|refine aF ?_|(refine aL ?_ ?_ <;> intro hc hq <;> try (exfalso;omega))|(refine bS ?_ ?_ <;> intro hg hq <;> try (exfalso;omega))|fail)
 all_goals first
  | exact aD (l := [.agg [.imm 0 [], .imm 0 []], bv false]) rfl ⟨I0 false, rfl⟩
  | (refine aD (l := [.agg [.imm xs.length (flat cI xs), sl aN l], bv true]) rfl ⟨⟨⟨xs, l⟩, true, rfl, ?_, by show xs.length ≤ _; omega⟩, Pur.pf⟩
     show aS l ≤ _
     rcases hql with ⟨_, h9⟩|h9
     ·rw [h9]; simp [aS]
     ·omega)
class NumS (cs : List AV) (xs : outParam (List ByteArray)) : Prop where h : cs = flat Db xs
instance NumS.nil : NumS [] [] := ⟨rfl⟩
instance NumS.cons {n : ByteArray} {cs : List AV} {xs : List ByteArray} [h : NumS cs xs] : NumS (.v (.string n) :: cs) (n :: xs) := ⟨by rw [h.h]; rfl⟩
theorem ID {cs : List AV} {xs : List ByteArray} {m : Nat} (h : NumS cs xs) (hm : m = xs.length) (hs : xs.all (fun s => decide (s.size ≤ 600)) = true) : ∃ ys : List ByteArray, AV.imm m cs = sl Db ys ∧ ys.length = m ∧ ∀ i : Nat, (ys[i]!).size ≤ 600 := by
 refine ⟨xs, by rw [h.h, hm], hm.symm, fun i => ?_⟩
 by_cases hi : i < xs.length
 ·rw [List.all_eq_true] at hs
  rw [bE _ _ hi]
  simpa using hs _ (List.getElem_mem hi)
 ·rw [getElem!_neg xs i hi]; decide
theorem FK : PC Tryz.prog 165 [] (fun r => ∃ ys : List ByteArray, r = sl Db ys ∧ ys.length = 25 ∧ ∀ i : Nat, (ys[i]!).size ≤ 600) := by
 refine aC Tryz.func165 Tryz.ntmps165 ?_
 repeat' (first|(apply aH;(apply aK (t := _);rfl;rfl;rfl;exact (rfl:_=some [_, _, _, _, _, _, _, _, _, _, _, _, _, _, _, _, _, _, _, _, _, _, _, _, _]);rfl;rfl))|refine aE ?_|refine aF ?_|fail)
 refine vB (l := [.imm 25 [_, _, _, _, _, _, _, _, _, _, _, _, _, _, _, _, _, _, _, _, _, _, _, _, _]]) ?_ rfl ?_
 ·rintro _ ⟨ys, rfl, _⟩; exact a8 _ _
 ·exact ID inferInstance rfl (by decide)
theorem tF {P : Program} {N : Nat} {Q : Exit → AS → Prop} {all : Array Oper} {rest : List Oper} {ts : List (Nat × AV)} {hs : List (Nat × Option (List AV))} {n : Nat} {z0 : Lo} {ty : TypeId} {pos : String} {af : Array Edge} {d : Nat} {args : Array Operand} {tys : Array TypeId}
  {k : FuncId} {pv : List AV} {p0 : Prg × Nat → Prop} {i p : Nat} {bs : List UInt8} (h : MC P k (.optr 0 0 :: pv) [(0, some (e7 bs p))] 1 p0 (fun x => bY x.1) (fun x => [(0, some (e7 bs x.2))])) [hc : CaT P k] (ha : evL (lk ts) args.toList = some (.optr i 0 :: pv)) (hpv : bR pv = true)
  (hH : aT hs i = some (e7 bs p)) (hM : Nat.ble (n + 0) aV = true) (hN : Nat.blt d N = true) (kk : ∀ x, p0 x → RW P N all Q .txt rest ⟨(d, bY x.1) :: ts, (i, some (e7 bs x.2)) :: hs, n + 0, z0⟩) :
  RW P N all Q .txt (⟨some d, .call ⟨.value (.func k), args, tys⟩, ty, pos, af, none⟩ :: rest) ⟨ts, hs, n, z0⟩ :=
 HP (σ := Prg × Nat) [i] 1 (fun x : Prg × Nat => [(i, some (e7 bs x.2))]) h ha rfl ⟨⟨_, _, rfl, hH, RnL.purI inferInstance⟩, trivial⟩ rfl (RnL.cons (RnV.optr rfl) (RnL.pur hpv)) (by simpa using hM)
  (fun x _ => RnV.purI inferInstance) (fun x _ => by simp [cE]) (fun x _ => ⟨⟨0, _, rfl, rfl, RnL.purI inferInstance⟩, trivial⟩) hN kk
theorem Oe (bs : List UInt8) (p : Nat) (xs : List Int) (lo hi : Int) (h0 : 0 < xs.length) (h : xs.all (fun x => decide (lo ≤ x) && decide (x ≤ hi)) = true) : lo ≤ iT bs p xs ∧ iT bs p xs ≤ hi := by
 have h1 := e5 bs p (xs.length : Int)
 rw [j5] at h
 have := h (bJ bs p (xs.length : Int)).toNat (by omega)
 simp only [Bool.and_eq_true, decide_eq_true_eq] at this
 exact this
theorem Ou (bs : List UInt8) (p : Nat) (hb : bs.length ≤ 2000) (hp : p ≤ 1000) : MC Tryz.prog 94 [.optr 0 0] [(0, some (e7 bs p))] 1 (fun x : Prg × Nat => aS x.1.body ≤ 620 ∧ x.1.types.length ≤ 620 ∧ x.2 ≤ 2000) (fun x => bY x.1) (fun x => [(0, some (e7 bs x.2))]) := by
 have h0 := e5 bs p 25
 have hn := Oe bs (p + 1 + 1) [5, 4, 7, 3, 8] 0 8 (by decide) (by decide)
 refine aU Tryz.func94 Tryz.ntmps94 ?_
 repeat' (first|(apply aH;first|(apply j3 (k := 165);rfl;exact FK;(rfl);rfl;(rintro _ ⟨ys, rfl, hyl, hsz⟩ _);(have hpk := e5 bs p (ys.length : Int)))|(apply j3 (k := 166);rfl;exact tT _ (Nat.le_trans (hsz _) (by decide));(rfl);rfl;(rintro _ ⟨q, b, rfl, hqc, hqt⟩ _))|(apply w8 (ts := [1, 2, 2, 3, 4, 4]);rfl;rfl;rfl;rfl;rfl;(apply HZ <;> (first|assumption|omega));rfl;rfl)|(apply aK (t := _);rfl;rfl;rfl;(exact (rfl:_=some [_, _, _, _, _, _]));rfl;rfl)|(first|(apply lJ;rfl;rfl;(rfl);(apply n8 <;> (first|assumption|omega));rfl;rfl)|(apply DX;rfl;rfl;rfl;rfl;infer_instance;rfl;(rfl);assumption;omega;(decide);(decide);rfl;rfl)))|refine aE ?_|refine aF ?_|(refine aL ?_ ?_ <;> intro hc hq <;> try (exfalso;omega))|(refine bS ?_ ?_ <;> intro hg hq <;> try (exfalso;omega))|refine bQ ?_|fail)
 ·have h9 := hsz (bJ bs p (ys.length : Int)).toNat
  refine aD rfl ?_
  exact aP (q, p + 1 + 1) ⟨by dsimp only;omega, by dsimp only;omega, by dsimp only;omega⟩ rfl ⟨.inr rfl, trivial⟩
 ·have h9 := Kt bs (d := 2) (by omega) (iT bs (p + 1 + 1) [5, 4, 7, 3, 8]) (p + 1 + 1 + 1)
  have h10 := Ag bs (d := 2) (by omega) (iT bs (p + 1 + 1) [5, 4, 7, 3, 8]) (p + 1 + 1 + 1)
  refine aD rfl ?_
  exact aP ((⟨[1, 2, 2, 3, 4, 4], (dT bs 2 (iT bs (p + 1 + 1) [5, 4, 7, 3, 8]) (p + 1 + 1 + 1)).1⟩ : Prg), (dT bs 2 (iT bs (p + 1 + 1) [5, 4, 7, 3, 8]) (p + 1 + 1 + 1)).2) ⟨by dsimp only;omega, by show 6 ≤ 620;decide, by dsimp only;omega⟩ rfl ⟨.inr rfl, trivial⟩
 ·have h9 := hsz (bJ bs p (ys.length : Int)).toNat
  refine aD rfl ?_
  exact aP (q, p + 1 + 1) ⟨by dsimp only;omega, by dsimp only;omega, by dsimp only;omega⟩ rfl ⟨.inr rfl, trivial⟩
theorem CM {bs : List UInt8} {N : Nat} {Q : Exit → AS → Prop} {all : Array Oper} {rest : List Oper} {tsl : List (Nat × AV)} {hsl : List (Nat × Option (List AV))} {nidl : Nat} {z0 : Lo} {md : Md} {d : Nat} {ty : TypeId} {pos : String} {af : Array Edge} {tys : Array TypeId} {x0 : Operand} (ha0 : ev (lk tsl) x0 = some (sl cU bs)) (hmc : MC Tryz.prog 51 [sl cU bs] [] 0 (fun _ : Unit => True) (fun _ => .optr 0 0) (fun _ => [(0, some (e7 (bs.take 2000) 0))])) (hM : Nat.ble (nidl + 1) aV = true) (hN : Nat.blt d N = true) {md' : Md} [hmd : MdA md (fK [x0] ++ []) (List.map Sum.inr (List.map Prod.fst ([(nidl, some (e7 (bs.take 2000) 0))] : List (Nat × Option (List AV)))) ++ [.inl d]) md'] (kk : RW Tryz.prog N all Q md' rest ⟨(d, .optr nidl 0) :: tsl, gS hsl [(nidl, some (e7 (bs.take 2000) 0))], nidl + 1, z0⟩) : RW Tryz.prog N all Q md (⟨some d, .call ⟨.value (.func 51), #[x0], tys⟩, ty, pos, af, none⟩ :: rest) ⟨tsl, hsl, nidl, z0⟩ := by
 refine aW [] 1 [(nidl, some (e7 (bs.take 2000) 0))] hmc (avs := [sl cU bs]) ?_ rfl ?_ rfl ?_ (by simpa using hM) ?_ ?_ ?_ hN (md' := md') (hmd := hmd) kk
 ·show evL (lk tsl) [x0] = _
  simp only [evL, ha0]
 ·exact trivial
 ·(repeat' (exact RnL.purI inferInstance))
 ·(repeat' (exact RnV.optr rfl))
 ·simp [cE]
 ·(repeat' (first|exact trivial|(refine And.intro ⟨0, _, rfl, rfl, ?_⟩ ?_)|exact RnL.purI inferInstance))
theorem F8 (bs : List UInt8) (hb : bs.length ≤ 1048576) : MC Tryz.prog 51 [sl cU bs] [] 0 (fun _ : Unit => True) (fun _ => .optr 0 0) (fun _ => [(0, some (e7 (bs.take 2000) 0))]) := Nf bs hb
theorem Gm (ts : List Int) (bd : List AL.Stmt) (pts : List Pnt) (w : WG ts pts) : PC Tryz.prog 187 [aG ts bd pts] (fun r => r = sl zB (kM ts pts pts.length)) := by
 have hpl := w.pl
 have htl := w.tl
 refine aC Tryz.func187 Tryz.ntmps187 ?_
 repeat' (first|(apply aH;((apply fN (d := 3) (e := 3));(case hM|hN => rfl)))|refine aE ?_|refine aF ?_|fail)
 refine aI (σ := Nat × List Bnd × Nat) [0, 9, 10] [] (fun s => [(11, iv (s.1 : Int)), (3, .own 0 0 s.2.2 3)]) (fun s => [(0, some (flat zB s.2.1))]) (fun s => s.1 ≤ pts.length ∧ s.2.1 = kM ts pts s.1 ∧ s.2.2 = s.2.1.length ∧ s.2.2 ≤ 2 * s.1) (fun s => pts.length - s.1) (0, [], 0) ⟨by omega, rfl, rfl, Nat.le_refl _⟩ ?_
 rintro ⟨k, u, m⟩ ⟨hk, hu, hm, hmk⟩
 dsimp only at hk hu hm hmk
 try dsimp only
 by_cases hkn : k < pts.length
 ·have hy := w.y k hkn
  have hsu := uS ts pts k
  rw [← hu] at hsu
  unfold JE at hsu
  by_cases hln : b0 pts[k]! = true
  ·have hop := fV hln
   repeat' (first|(apply aH;first|(apply bW;rfl;rfl;rfl;rfl;rfl;(first|(rw [aJ]; omega)|(rw [aJ]; simp only [fX] <;> omega));(rfl);omega;omega;(exact sX (by (first|assumption|(simp only [fX] <;> omega))));rfl;rfl)|((apply aK (t := _));(case hze|hsm|hl => rfl);(case hfl => (exact (rfl:_=some [_, _, _])));(case hM|hN => rfl))|(first|((with_reducible apply aA (k := 233));(case ha => rfl);(case h => (apply jK <;> (fail)));(case hp => (exact Pur.pf));(case hN => rfl))|((with_reducible apply aA (k := 234));(case ha => rfl);(case h => (apply oV <;> (fail)));(case hp => (rfl));(case hN => rfl))))|refine aE ?_|refine aF ?_|(refine aL ?_ ?_ <;> intro hc hq <;> try (exfalso;omega))|refine bQ ?_|fail)
   all_goals try exact absurd (hln.symm.trans (by assumption : b0 pts[k]! = false)) (by decide)
   ·(refine bB (k + 1, _, _) (Le.renA [(0, 5)]) ?_ ?_)
    ·exact ⟨by dsimp only;omega, by dsimp only;rw [hsu, if_pos hln, if_pos ⟨.inl hln, by assumption⟩]; simp, by dsimp only;simp;omega, by dsimp only;omega⟩
    ·dsimp only;omega
   ·(refine bB (k + 1, _, _) (Le.renA [(0, 3)]) ?_ ?_)
    ·exact ⟨by dsimp only;omega, by dsimp only;rw [hsu, if_pos hln, if_neg (fun h => by rw [(by assumption : eR ts[pts[k]!.y.toNat]! = false)] at h;cases h.2)]; simp, by dsimp only;simp;omega, by dsimp only;omega⟩
    ·dsimp only;omega
  ·rw [Bool.not_eq_true] at hln
   have hln2 : ¬ b0 pts[k]! = true := by rw [hln]; decide
   repeat' (first|(apply aH;first|(apply bW;rfl;rfl;rfl;rfl;rfl;(rw [aJ]; omega);(rfl);omega;omega;(exact sX (by (assumption)));rfl;rfl)|((apply aK (t := _));(case hze|hsm|hl => rfl);(case hfl => (exact (rfl:_=some [_, _, _])));(case hM|hN => rfl))|(first|((with_reducible apply aA (k := 233));(case ha => rfl);(case h => (apply jK <;> (fail)));(case hp => (exact Pur.pf));(case hN => rfl))|((with_reducible apply aA (k := 234));(case ha => rfl);(case h => (apply oV <;> (fail)));(case hp => (rfl));(case hN => rfl))))|refine aE ?_|refine aF ?_|(refine aL ?_ ?_ <;> intro hc hq <;> try (exfalso;omega))|(refine bS ?_ ?_ <;> intro hg hq <;> try (exfalso;omega))|refine bQ ?_|fail)
   all_goals try exact absurd (hln.symm.trans (by assumption : b0 pts[k]! = true)) (by decide)
   ·(refine bB (k + 1, _, _) (Le.renA [(0, 3)]) ?_ ?_)
    ·exact ⟨by dsimp only;omega, by dsimp only;rw [hsu, if_neg hln2, if_pos ⟨.inr (by assumption), by assumption⟩]; simp, by dsimp only;simp;omega, by dsimp only;omega⟩
    ·dsimp only;omega
   ·(refine bB (k + 1, u, m) (Le.renA [(0, 0)]) ?_ ?_)
    ·exact ⟨by dsimp only;omega, by dsimp only;rw [hsu, if_neg hln2, if_neg (fun h => by rw [(by assumption : eR ts[pts[k]!.y.toNat]! = false)] at h;cases h.2)]; simp, hm, by dsimp only;omega⟩
    ·dsimp only;omega
   ·(refine bB (k + 1, u, m) (Le.renA [(0, 0)]) ?_ ?_)
    ·exact ⟨by dsimp only;omega, by dsimp only;rw [hsu, if_neg hln2, if_neg (fun h => h.1.elim hln2 (by assumption))]; simp, hm, by dsimp only;omega⟩
    ·dsimp only;omega
 ·repeat' (first | refine aE ?_ | refine aF ?_ | (refine aL ?_ ?_ <;> intro hc hq <;> try (exfalso; omega))|fail)
  refine aR (Le.frzD (d := 2) (i := 0) rfl rfl) ?_
  refine aD rfl ⟨?_, (by (exact a8 _ _))⟩
  rw [show pts.length = k by omega, ← hu]
  simp only [aO, sl, hm]
theorem C3 (ts : List Int) (bd : List AL.Stmt) (pts : List Pnt) (A : List Nat) (w : WG ts pts) (t : WT ts pts) (hA : GoodG ts pts A) : PC Tryz.prog 107 [aG ts bd pts] (fun r => r = .agg (flat cW A)) := by
 have hpl := w.pl
 have htl := w.tl
 have hbl := yR ts pts pts.length
 have hbo := Gm ts bd pts w
 have hbok : ∀ b, b ∈ kM ts pts pts.length → BOk ts.length pts.length b := fun b hb => pK w t hb
 have hlawT := fun A c b hb S => EC w t A c b hb S
 have hlawF := fun A c S => LW w t A c S
 generalize hL : kM ts pts pts.length = L at hbl hbo hbok hlawT hlawF
 refine aC Tryz.func107 Tryz.ntmps107 ?_
 repeat' (first|refine aE ?_|refine aF ?_|fail)
 refine aI (σ := List Nat × Bool) [0, 2, 3] [0] (fun s => [(4, bv s.2)]) (fun s => [(1, some (flat cW s.1))]) (fun s => SRg ts pts s.1 ∧ (s.2 = false → P7 ts pts s.1)) (fun s => 2 * eT (s.1.map (fun x => 2 ^ pts.length - x)) + s.2.toNat) (List.replicate 6 0, true) ⟨SRg.rep ts pts, fun h => by cases h⟩ ?_
 rintro ⟨s, b⟩ ⟨hS, hC⟩
 dsimp only at hS hC
 try dsimp only
 have hsl := hS.l
 repeat' (first|(apply aH;((with_reducible apply aA (k := 187));(case ha => rfl);(case h => exact hbo);(case hp => (exact Pur.pf));(case hN => rfl)))|refine aE ?_|refine aF ?_|(refine aL ?_ ?_ <;> intro hc hq <;> try (exfalso;omega))|fail)
 ·refine aI (σ := Nat × (List Nat × Bool)) [0, 2, 3, 10, 11] [0] (fun k => [(12, iv (k.1 : Int)), (4, bv k.2.2)]) (fun k => [(1, some (flat cW k.2.1))]) (fun k => k.1 ≤ L.length ∧ k.2 = (L.take k.1).foldl Er (s, false) ∧ SRg ts pts k.2.1) (fun k => L.length - k.1) (0, (s, false)) ⟨by omega, rfl, hS⟩ ?_
  rintro ⟨k, u, c⟩ ⟨hk, hf, hS2⟩
  dsimp only at hk hf hS2
  try dsimp only
  have hul := hS2.l
  have hsm : ∀ z : Nat, Sm u[z]! := fun z => ⟨Nat.lt_of_lt_of_le (hS2.b z) (Nat.pow_le_pow_right (by decide) (by omega))⟩
  by_cases hkn : k < L.length
  ·have hmb := aY _ k hkn
   have ok := hbok _ hmb
   have hft := dJ Er L (s, false) k hkn
   rw [← hf] at hft
   have hlaw := hlawT u c _ hmb hS2
   have hst : Er (u, c) L[k]! = if B8 u L[k]! ≠ u[L[k]!.var.toNat]! then (u.set L[k]!.var.toNat (B8 u L[k]!), true) else (u, c) := rfl
   have hs1 : B8 u L[k]! = if L[k]!.src < 0 then u[L[k]!.var.toNat]! ||| 2 ^ L[k]!.loan.toNat else u[L[k]!.var.toNat]! ||| u[L[k]!.src.toNat]! := rfl
   have hv := ok.v
   rcases ok.k with ⟨h1, h2, h3⟩ | ⟨h1, h2, h3, h4⟩
   ·rw [if_pos (by omega : L[k]!.src < 0)] at hs1
    rw [hs1] at hst
    repeat' (first|(apply aH;first|(apply bC;rfl;rfl;rfl;rfl;rfl;(case hl => (simp;done));exact (rfl:_=[_, _, _]))|(apply gP;rfl;rfl;infer_instance;omega;rfl;(case' kk => intro hsm)))|refine aE ?_|refine aF ?_|(refine aL ?_ ?_ <;> intro hc hq <;> try (exfalso;omega))|fail)
    ·rw [if_pos (fun h => (by assumption : ¬ (_ : Int) = _) (by rw [h]))] at hst
     (refine bB (k + 1, (_, true)) (Le.renA [(0, 0), (1, 1)]) ?_ ?_)
     ·exact ⟨by dsimp only;omega, (hft.trans hst).symm, by have h9 := hlaw.1;rw [hst] at h9;exact h9⟩
     ·dsimp only;omega
    ·rw [if_neg (fun h => h (by have := (by assumption : ((_ : Nat) : Int) = ((_ : Nat) : Int)); omega))] at hst
     (refine bB (k + 1, (u, c)) (Le.renA [(0, 0), (1, 1)]) ?_ ?_)
     ·exact ⟨by dsimp only;omega, (hft.trans hst).symm, hS2⟩
     ·dsimp only;omega
   ·rw [if_neg (by omega : ¬ L[k]!.src < 0)] at hs1
    rw [hs1] at hst
    repeat' (first|(apply aH;(apply bC;rfl;rfl;rfl;rfl;rfl;(case hl => (simp;done));exact (rfl:_=[_, _, _])))|refine aE ?_|refine aF ?_|(refine aL ?_ ?_ <;> intro hc hq <;> try (exfalso;omega))|fail)
    ·rw [if_pos (fun h => (by assumption : ¬ (_ : Int) = _) (by rw [h]))] at hst
     (refine bB (k + 1, (_, true)) (Le.renA [(0, 0), (1, 1)]) ?_ ?_)
     ·exact ⟨by dsimp only;omega, (hft.trans hst).symm, by have h9 := hlaw.1;rw [hst] at h9;exact h9⟩
     ·dsimp only;omega
    ·rw [if_neg (fun h => h (by have := (by assumption : ((_ : Nat) : Int) = ((_ : Nat) : Int)); omega))] at hst
     (refine bB (k + 1, (u, c)) (Le.renA [(0, 0), (1, 1)]) ?_ ?_)
     ·exact ⟨by dsimp only;omega, (hft.trans hst).symm, hS2⟩
     ·dsimp only;omega
  ·repeat' (first | refine aE ?_ | refine aF ?_ | (refine aL ?_ ?_ <;> intro hc hq <;> try (exfalso; omega))|fail)
   have hfu : L.foldl Er (s, false) = (u, c) := by rw [hf, List.take_of_length_le (by omega)]
   have hlaw := hlawF s false hS
   rw [hfu] at hlaw
   (refine bB (u, c) (Le.renA [(0, 0), (1, 1)]) ?_ ?_)
   ·refine ⟨hS2, fun hc0 => ?_⟩
    dsimp only at hc0
    rcases hlaw.2 with ⟨e1, e2⟩ | ⟨e1, _⟩
    ·cases e1;exact e2
    ·dsimp only at e1;rw [e1] at hc0;cases hc0
   ·dsimp only
    rcases hlaw.2 with ⟨e1, e2⟩ | ⟨e1, e2⟩
    ·cases e1;rw [(by assumption : b = true)]; simp
    ·dsimp only at e1 e2;rw [e1, (by assumption : b = true)]; simp;omega
 ·have e := ES (Hf w t hS (hC (by assumption))) hA
  subst e
  refine aD (g9 (z := 6) rfl rfl hsl (by decide)) ⟨rfl, (by (exact a8 _ _))⟩
theorem Kn (A : List Nat) (i : Int) (hA : A.length = 6) : PC Tryz.prog 109 [iv i, .iptr (flat cW A)] (fun r => r = .agg (flat cW A)) := by
 refine aC Tryz.func109 Tryz.ntmps109 ?_
 repeat' (first|refine aE ?_|refine aF ?_|fail)
 have e6 : A.take 6 = A := List.take_of_length_le (by omega)
 refine aD (g9 (z := 6) rfl rfl (by rw [e6]; exact hA) (by decide)) ⟨by rw [e6]; rfl, (by (exact a8 _ _))⟩
theorem Jf (A : List Nat) (ts : List Int) (bd : List AL.Stmt) (pts : List Pnt) (Aa Am Al Af Ap : List Nat) (n : Nat) (w : WG ts pts) (ga : n0 ts pts Aa) (gm : mV ts pts Am) (gl : pO ts pts Al) (hA6 : A.length = 6) (hlf : Af.length = pts.length * 6) (hrow : ∀ i, i < pts.length → cG Af i = A) (hbit : ∀ q : Nat, ∀ v, A[q]!.testBit v = true → v < pts.length) (gp : nY ts pts Ap) (hn : n = pts.length) :
  PC Tryz.prog 105 [aG ts bd pts, .imm n (flat cN Al), .clos (.func 109) [] [.iptr (flat cW A)]] (fun r => r = sl dV (iN ts pts Aa Am Al Af Ap pts.length)) := by
 subst hn
 have hpl := w.pl
 have htl := w.tl
 have hla := ga.1
 have hlm := gm.1
 have hll := gl.1
 have hlp := gp.1
 refine aC Tryz.func105 Tryz.ntmps105 ?_
 repeat' (first|(apply aH;first|(apply fN (d := 10) (e := 3);rfl;rfl)|(first|(apply aA (k := 102);rfl;(apply sY <;> (assumption));exact Pur.pf;rfl)|(apply aA (k := 121);rfl;(apply s7 <;> (assumption));exact Pur.pf;rfl)|(apply aA (k := 184);rfl;(apply vR <;> (assumption));exact Pur.pf;rfl)))|refine aE ?_|refine aF ?_|fail)
 refine aI (σ := Nat × List Iss × Nat) [0, 1, 2, 7, 8, 9, 27, 28] [] (fun k => [(29, iv (k.1 : Int)), (10, .own 0 0 k.2.2 3)]) (fun k => [(0, some (flat dV k.2.1))]) (fun k => k.1 ≤ pts.length ∧ k.2.1 = iN ts pts Aa Am Al Af Ap k.1 ∧ k.2.2 = k.2.1.length ∧ k.2.2 ≤ k.1 * 124) (fun k => pts.length - k.1) (0, [], 0) ⟨by omega, rfl, rfl, Nat.le_refl _⟩ ?_
 rintro ⟨i, u, m⟩ ⟨hk, hu, hm, hmk⟩
 dsimp only at hk hu hm hmk ⊢
 by_cases hin : i < pts.length
 ·have hst := w.set i hin
  have hsU : Sm (wS ts pts[i]! [1, 2, 3]) := bU (by omega)
  have bl : ∀ {A : Nat} {n : Nat}, n ≤ 62 → (∀ v, A.testBit v = true → v < n) → A < 2 ^ n := fun _ hv => Nat.lt_pow_two_of_testBit _ fun v h => by
   cases hq : Nat.testBit _ v with
   | false => rfl
   | true => have := hv v hq;omega
  have hAa : Sm Aa[i]! := ⟨bl (n := 62) (by omega) fun v hv => by have := ((ga.2 i hin v).1 hv).1;omega⟩
  have hAm : Sm Am[i]! := ⟨bl (n := 62) (by omega) fun v hv => by have := rU w ((gm.2 i hin v).1 hv);dsimp only at this;omega⟩
  have hAl : Al[i]! < 2 ^ ts.length := bl (by omega) fun v hv => by obtain ⟨k, _, h⟩ := (gl.2 i hin v).1 hv;exact o7 w h
  have hAl2 : Sm Al[i]! := ⟨Nat.lt_of_lt_of_le hAl (Nat.pow_le_pow_right (by decide) (by omega))⟩
  have hAp : Ap[i]! < 2 ^ pts.length := bl (by omega) fun v hv => (m5 ((gp.2 i hin v).1 hv)).1
  have hAp2 : Sm Ap[i]! := ⟨Nat.lt_of_lt_of_le hAp (Nat.pow_le_pow_right (by decide) (by omega))⟩
  have hrl := eF hlf hin
  have hrs : ∀ z : Nat, Sm (cG Af i)[z]! := by
   intro z
   rw [hrow i hin]
   exact ⟨bl (n := 62) (by omega) fun v hv => by have := hbit z v hv;omega⟩
  have hkp : lQ ts pts[(i : Int).toNat]! Al[i]! (cG Af (i : Int).toNat) < 2 ^ pts.length := by
   refine bl (by omega) fun v hv => ?_
   unfold lQ at hv
   rw [dU] at hv
   rcases hv with hv | ⟨z, hz, hv⟩
   ·simp at hv
   ·obtain ⟨q, h1, h2, rfl⟩ := b9.1 hz
    rw [cD, Bool.and_eq_true] at h2
    have h3 := cL hAl h2.1
    have h4 : q < 6 := by omega
    have h5 : (cG Af i)[q]!.testBit v = true := hv
    rw [hrow i hin] at h5
    exact hbit q v h5
  have hkp2 : Sm (lQ ts pts[(i : Int).toNat]! Al[i]! (cG Af (i : Int).toNat)) := ⟨Nat.lt_of_lt_of_le hkp (Nat.pow_le_pow_right (by decide) (by omega))⟩
  have hlo : lQ ts pts[(i : Int).toNat]! Al[i]! (cG Af (i : Int).toNat) &&& Ap[i]! < 2 ^ pts.length := Nat.and_lt_two_pow _ hAp
  have hcf := qQ w (Am := Am) (Al := Al) (Af := Af) (i := i) hAp
  have hcf2 : Sm (uK ts pts Am Al Af Ap i) := ⟨Nat.lt_of_lt_of_le hcf (Nat.pow_le_pow_right (by decide) (by omega))⟩
  have hcf3 : Sm (EF pts (lQ ts pts[(i : Int).toNat]! Al[i]! (cG Af (i : Int).toNat) &&& Ap[i]!) (fR ts pts[(i : Int).toNat]! (Am[i]!.testBit (aQ pts[(i : Int).toNat]!).toNat)) 0) := hcf2
  have hb1 := cF (iO (wS ts pts[i]! [1, 2, 3]) Aa[i]!)
  have hb2 := cF (uK ts pts Am Al Af Ap i)
  repeat' (first|(apply aH;(first|(apply aA (k := 120);rfl;(apply fY <;> (infer_instance));(rfl);rfl)|(apply aA (k := 158);rfl;(apply gV <;> (assumption));exact Pur.pf;rfl)))|refine aE ?_|refine aF ?_|(refine aL ?_ ?_ <;> intro hc hq <;> try (exfalso;omega))|refine bQ ?_|fail)
  have hb1b : ∀ j, j < (a7 (iO (wS ts pts[i]! [1, 2, 3]) Aa[i]!)).length → 0 ≤ (a7 (iO (wS ts pts[i]! [1, 2, 3]) Aa[i]!))[j]! := fun j h => (gN (inferInstance : Sm (iO (wS ts pts[i]! [1, 2, 3]) Aa[i]!)).pf h).1
  refine aI (σ := Nat × List Iss × Nat) [0, 1, 2, 7, 8, 9, 11, 27, 28, 29, 42, 43] [] (fun j => [(44, iv (j.1 : Int)), (10, .own 0 0 j.2.2 3)]) (fun j => [(0, some (flat dV j.2.1))]) (fun j => j.1 ≤ (a7 (iO (wS ts pts[i]! [1, 2, 3]) Aa[i]!)).length ∧ j.2.1 = u ++ oE i ((a7 (iO (wS ts pts[i]! [1, 2, 3]) Aa[i]!)).take j.1) ∧ j.2.2 = j.2.1.length ∧ j.2.2 ≤ i * 124 + j.1) (fun j => (a7 (iO (wS ts pts[i]! [1, 2, 3]) Aa[i]!)).length - j.1) (0, u, m) ⟨by omega, by simp [oE], hm, by omega⟩ ?_
  rintro ⟨j, u2, m2⟩ ⟨hj, hu2, hm2, hmk2⟩
  dsimp only at hj hu2 hm2 hmk2 ⊢
  by_cases hjn : j < (a7 (iO (wS ts pts[i]! [1, 2, 3]) Aa[i]!)).length
  ·repeat' (first | (apply aH; (apply aK (t := _);rfl;rfl;rfl;(exact (rfl:_=some [_, _, _]));rfl;rfl)) | refine aE ?_ | refine aF ?_ | (refine aL ?_ ?_ <;> intro hc hq <;> try (exfalso; omega))|fail)
   (refine bB (j + 1, _, _) (Le.renA [(0, 3)]) ?_ ?_)
   ·dsimp only
    refine ⟨by omega, ?_, by simp;omega, by omega⟩
    rw [hu2]; unfold oE;rw [cX _ _ _ hjn, List.append_assoc]
   ·dsimp only;omega
  ·have hu3 : u2 = u ++ oE i (a7 (iO (wS ts pts[i]! [1, 2, 3]) Aa[i]!)) := by rw [hu2, List.take_of_length_le (by omega)]
   have hcl := Kn A (i : Int) hA6
   rw [show (fun r : AV => r = .agg (flat cW A)) = (fun r : AV => r = .agg (flat cW (cG Af (i : Int).toNat))) from by rw [show cG Af (i : Int).toNat = A from hrow i hin]] at hcl
   repeat' (first|(apply aH;first|(first|(apply aA (k := 76);rfl;(apply lF <;> (assumption));(rfl);rfl)|(apply aA (k := 185);rfl;(apply qN <;> (first|assumption|omega));exact Pur.pf;rfl)|(apply aA (k := 186);rfl;(apply Cs <;> (first|assumption|omega));exact Pur.pf;rfl))|(apply gR;rfl;rfl;infer_instance;rfl;(apply hcl);exact Pur.pf;rfl))|refine aE ?_|refine aF ?_|(refine aL ?_ ?_ <;> intro hc hq <;> try (exfalso;omega))|refine bQ ?_|fail)
   generalize hL : a7 (EF pts (lQ ts pts[(i : Int).toNat]! Al[i]! (cG Af (i : Int).toNat) &&& Ap[i]!) (fR ts pts[(i : Int).toNat]! (Am[i]!.testBit (aQ pts[(i : Int).toNat]!).toNat)) 0) = L2
   have hL2 : a7 (uK ts pts Am Al Af Ap i) = L2 := hL
   have hbd : ∀ j, j < L2.length → 0 ≤ L2[j]! ∧ L2[j]! < pts.length := fun j h => by rw [← hL2] at h ⊢; exact gN hcf h
   rw [hL2] at hb2
   refine aI (σ := Nat × List Iss × Nat) [0, 1, 2, 7, 8, 9, 11, 27, 28, 29, 77, 78] [] (fun l => [(79, iv (l.1 : Int)), (10, .own 0 0 l.2.2 3)]) (fun l => [(0, some (flat dV l.2.1))]) (fun l => l.1 ≤ L2.length ∧ l.2.1 = u2 ++ oA pts i (L2.take l.1) ∧ l.2.2 = l.2.1.length ∧ l.2.2 ≤ i * 124 + 62 + l.1) (fun l => L2.length - l.1) (0, u2, m2) ⟨by omega, by simp [oA], hm2, Nat.le_trans hmk2 (by omega)⟩ ?_
   rintro ⟨l, u4, m4⟩ ⟨hl, hu4, hm4, hmk4⟩
   dsimp only at hl hu4 hm4 hmk4 ⊢
   by_cases hln : l < L2.length
   ·have hbl := hbd l hln
    repeat' (first|(apply aH;(apply aK (t := _);rfl;rfl;rfl;(exact (rfl:_=some [_, _, _]));rfl;rfl))|refine aE ?_|refine aF ?_|(refine aL ?_ ?_ <;> intro hc hq <;> try (exfalso;omega))|fail)
    ·(refine bB (l + 1, _, _) (Le.renA [(0, 3)]) ?_ ?_)
     ·dsimp only
      refine ⟨by omega, ?_, by simp;omega, by omega⟩
      rw [hu4]; unfold oA;rw [cX _ _ _ hln, List.append_assoc, if_pos hq]
     ·dsimp only;omega
    ·(refine bB (l + 1, _, _) (Le.renA [(0, 3)]) ?_ ?_)
     ·dsimp only
      refine ⟨by omega, ?_, by simp;omega, by omega⟩
      rw [hu4]; unfold oA;rw [cX _ _ _ hln, List.append_assoc, if_neg hq]
     ·dsimp only;omega
   ·repeat' (first | refine aE ?_ | refine aF ?_ | (refine aL ?_ ?_ <;> intro hc hq <;> try (exfalso; omega))|fail)
    (refine bB (i + 1, u4, m4) (Le.renA [(0, 0)]) ?_ ?_)
    ·dsimp only
     refine ⟨by omega, ?_, hm4, by omega⟩
     rw [jE, hu4, List.take_of_length_le (by omega), hu3, ← hL2, hu, List.append_assoc]; rfl
    ·dsimp only;omega
 ·repeat' (first | refine aE ?_ | refine aF ?_ | (refine aL ?_ ?_ <;> intro hc hq <;> try (exfalso; omega))|fail)
  (refine aR (Le.frzD (d := 6) (i := 0) rfl rfl) ?_; refine aD rfl ?_)
  refine ⟨?_, (by (exact a8 _ _))⟩
  simp only [aO, sl]
  rw [hm, hu, show i = pts.length by omega]
theorem w6 (p : Prg) (f : Flows p.types (aB p)) (A : List Nat) (hA : GoodG p.types (aB p) A) (hv : bG p = true) (hl : p.types.length ≤ 1000000) (hs : aS p.body ≤ 1000000) : PC Tryz.prog 41 [bY p] (fun r => r = sl dV (v8 p f A)) := by
 have w := WG.of_valid hv
 have t := WT.of_valid hv
 have hg := jG p hl hs
 rw [if_pos hv] at hg
 have hr := C3 p.types p.body (aB p) A w t hA
 have hA6 := hA.1
 have hlv := rG p.types p.body (aB p) f.An f.Al w f.gn f.gl
 have hbit : ∀ q : Nat, ∀ v, A[q]!.testBit v = true → v < (aB p).length := fun q v h => by
  by_cases hq : q < 6
  ·exact (Mi w t ((hA.2 q hq v).1 h)).2
  ·rw [getElem!_neg _ q (by omega)] at h;simp at h
 have hck := Jf A p.types p.body (aB p) f.Aa f.Am f.Al (nT (aB p).length A) f.Ap (aB p).length w f.ga f.gm f.gl hA6 (pX A hA6 _) (pQ A hA6 _) hbit f.gp rfl
 refine aC Tryz.func41 Tryz.ntmps41 ?_
 repeat' (first|(apply aH;first|((apply fU 5);(case hx|hH|hc|hN => rfl))|(apply aA (k := 72);rfl;exact hg;exact Pur.pf;rfl)|(apply aA (k := 107);rfl;exact hr;exact Pur.pf;rfl)|(apply aA (k := 108);rfl;exact hlv;exact Pur.pf;rfl)|(apply aA (k := 105);rfl;exact hck;exact Pur.pf;rfl))|refine aE ?_|refine aF ?_|fail)
 exact aD rfl ⟨rfl, (by (exact a8 _ _))⟩
theorem Fp (p : Prg) (hs : aS p.body ≤ 1000000) (w : WG p.types (aB p)) : PC Tryz.prog 226 [bY p] (fun r => r = sl zB (kM p.types (aB p) (aB p).length)) := by
 have hpl := w.pl
 have htl := w.tl
 have hp := dK p hs
 refine aC Tryz.func226 Tryz.ntmps226 ?_
 repeat' (first|(apply aH;(apply aA (k := 132);rfl;exact hp;exact Pur.pf;rfl))|refine aE ?_|refine aF ?_|fail)
 refine aI (σ := Nat × List Bnd × Nat) [1, 4] [0] (fun s => [(5, iv (s.1 : Int)), (3, .own 1 0 s.2.2 3)]) (fun s => [(1, some (flat zB s.2.1))]) (fun s => s.1 ≤ (aB p).length ∧ s.2.1 = kM p.types (aB p) s.1 ∧ s.2.2 = s.2.1.length ∧ s.2.2 ≤ 2 * s.1) (fun s => (aB p).length - s.1) (0, [], 0) ⟨by omega, rfl, rfl, Nat.le_refl _⟩ ?_
 rintro ⟨k, u, m⟩ ⟨hk, hu, hm, hmk⟩
 dsimp only at hk hu hm hmk
 try dsimp only
 by_cases hkn : k < (aB p).length
 ·have hy := w.y k hkn
  have hsu := uS p.types (aB p) k
  rw [← hu] at hsu
  unfold JE at hsu
  by_cases h4 : (aB p)[k]!.op = 4 ∨ (aB p)[k]!.op = 5
  ·have hln : b0 (aB p)[k]! = true := by unfold b0; rcases h4 with h | h <;> rw [h] <;> rfl
   repeat' (first|(apply aH;first|(apply bW;rfl;rfl;rfl;rfl;rfl;(first|(rw [aJ]; omega)|(rw [aJ]; simp only [fX] <;> omega));(rfl);omega;omega;(exact sX (by (first|assumption|(simp only [fX] <;> omega))));rfl;rfl)|(apply aK (t := _);rfl;rfl;rfl;(exact (rfl:_=some [_, _, _]));rfl;rfl)|(apply aA (k := 260);rfl;(apply vM);(rfl);rfl))|refine aE ?_|refine aF ?_|(refine aL ?_ ?_ <;> intro hc hq <;> try (exfalso;omega))|(refine bS ?_ ?_ <;> intro hg hq <;> try (exfalso;omega))|fail)
   ·(refine bB (k + 1, _, _) (Le.renA [(0, 0), (1, 6)]) ?_ ?_)
    ·exact ⟨by dsimp only;omega, by dsimp only;rw [hsu, if_pos hln, if_pos ⟨.inl hln, by assumption⟩]; simp, by dsimp only;simp;omega, by dsimp only;omega⟩
    ·dsimp only;omega
   ·(refine bB (k + 1, _, _) (Le.renA [(0, 0), (1, 4)]) ?_ ?_)
    ·exact ⟨by dsimp only;omega, by dsimp only;rw [hsu, if_pos hln, if_neg (fun h => by rw [(by assumption : eR p.types[(aB p)[k]!.y.toNat]! = false)] at h;cases h.2)]; simp, by dsimp only;simp;omega, by dsimp only;omega⟩
    ·dsimp only;omega
   ·(refine bB (k + 1, _, _) (Le.renA [(0, 0), (1, 6)]) ?_ ?_)
    ·exact ⟨by dsimp only;omega, by dsimp only;rw [hsu, if_pos hln, if_pos ⟨.inl hln, by assumption⟩]; simp, by dsimp only;simp;omega, by dsimp only;omega⟩
    ·dsimp only;omega
   ·(refine bB (k + 1, _, _) (Le.renA [(0, 0), (1, 4)]) ?_ ?_)
    ·exact ⟨by dsimp only;omega, by dsimp only;rw [hsu, if_pos hln, if_neg (fun h => by rw [(by assumption : eR p.types[(aB p)[k]!.y.toNat]! = false)] at h;cases h.2)]; simp, by dsimp only;simp;omega, by dsimp only;omega⟩
    ·dsimp only;omega
  ·have hln2 : ¬ b0 (aB p)[k]! = true := fun h => h4 (fV h)
   repeat' (first|(apply aH;first|(apply bW;rfl;rfl;rfl;rfl;rfl;(rw [aJ]; omega);(rfl);omega;omega;(exact sX (by (assumption)));rfl;rfl)|(apply aK (t := _);rfl;rfl;rfl;(exact (rfl:_=some [_, _, _]));rfl;rfl)|(apply aA (k := 260);rfl;(apply vM);(rfl);rfl))|refine aE ?_|refine aF ?_|(refine aL ?_ ?_ <;> intro hc hq <;> try (exfalso;omega))|(refine bS ?_ ?_ <;> intro hg hq <;> try (exfalso;omega))|fail)
   ·(refine bB (k + 1, _, _) (Le.renA [(0, 0), (1, 4)]) ?_ ?_)
    ·exact ⟨by dsimp only;omega, by dsimp only;rw [hsu, if_neg hln2, if_pos ⟨.inr (by assumption), by assumption⟩]; simp, by dsimp only;simp;omega, by dsimp only;omega⟩
    ·dsimp only;omega
   ·(refine bB (k + 1, u, m) (Le.renA [(0, 0), (1, 1)]) ?_ ?_)
    ·exact ⟨by dsimp only;omega, by dsimp only;rw [hsu, if_neg hln2, if_neg (fun h => by rw [(by assumption : eR p.types[(aB p)[k]!.y.toNat]! = false)] at h;cases h.2)]; simp, hm, by dsimp only;omega⟩
    ·dsimp only;omega
   ·(refine bB (k + 1, u, m) (Le.renA [(0, 0), (1, 1)]) ?_ ?_)
    ·exact ⟨by dsimp only;omega, by dsimp only;rw [hsu, if_neg hln2, if_neg (fun h => h.1.elim hln2 (by assumption))]; simp, hm, by dsimp only;omega⟩
    ·dsimp only;omega
 ·repeat' (first | refine aE ?_ | refine aF ?_ | (refine aL ?_ ?_ <;> intro hc hq <;> try (exfalso; omega))|fail)
  refine aR (Le.frzD (d := 2) (i := 1) rfl rfl) ?_
  refine aD rfl ⟨?_, (by (exact a8 _ _))⟩
  rw [show (aB p).length = k by omega, ← hu]
  simp only [aO, sl, hm]
theorem CH {R : List (List Bool)} {k j m m2 : Nat} {N : Nat} {Q : Exit → AS → Prop} {all : Array Oper} {rest : List Oper} {tsl : List (Nat × AV)} {hsl : List (Nat × Option (List AV))} {nidl : Nat} {z0 : Lo} {md : Md} {d : Nat} {ty : TypeId} {pos : String} {af : Array Edge} {tys : Array TypeId} {x0 x1 : Operand} (ha0 : ev (lk tsl) x0 = some (.own (k + aV) 0 m 1)) (ha1 : ev (lk tsl) x1 = some (.own (j + aV) 0 m2 1))
  (hF : FamR R R hsl hsl) (hk : k < R.length) (hj : j < R.length) (hkj : k ≠ j) (hm : m = R[k]!.length) (hm2 : m2 = R[j]!.length) (hab : R[j]!.length ≤ R[k]!.length) (hl : R[k]!.length ≤ 1000000) (hM : Nat.ble (nidl + 0) aV = true) (hN : Nat.blt d N = true)
  {md' : Md} [hmd : MdA md (fK [x0, x1] ++ [.inr (k + aV), .inr (j + aV)]) [.inr (k + aV), .inr (j + aV), .inl d] md']
  (kk : RW Tryz.prog N all Q md' rest ⟨(d, .tup []) :: tsl, (j + aV, some (flat cB R[j]!)) :: (k + aV, some (flat cB (gI R[k]! R[j]!))) :: hsl, nidl + 0, z0⟩) : RW Tryz.prog N all Q md (⟨some d, .call ⟨.value (.func 225), #[x0, x1], tys⟩, ty, pos, af, none⟩ :: rest) ⟨tsl, hsl, nidl, z0⟩ :=
 wN (a := R[k]!) (b := R[j]!) (i0 := k + aV) (i1 := j + aV) ha0 ha1 (hF.get hk) (hF.get hj) (Pk hkj) (Bb R[k]! R[j]! m m2 hm hm2 hab hl) hM hN (md' := md') (hmd := hmd) kk
theorem Dc {P : Program} {N : Nat} {Q : Exit → AS → Prop} {all : Array Oper} {rest : List Oper} {ts : List (Nat × AV)} {hs : List (Nat × Option (List AV))} {n : Nat} {z0 : Lo} {md : Md} {ty : TypeId} {pos : String} {af : Array Edge} {t : TypeId} {x y : Operand} {k v : Nat} {b : Bool} {R : List (List Bool)} [hz : SzT P t 1] (hx : ev (lk ts) x = some (.optr (k + aV) (0 + v * 1))) (hy : ev (lk ts) y = some (.v (.bool b)))
  (hF : FamR R R hs hs) (hk : k < R.length) (hv : v < R[k]!.length) {md' : Md} [hmd : MdA md (rO x ++ (rO y ++ [.inr (k + aV)])) [.inr (k + aV)] md']
  (kk : RW P N all Q md' rest ⟨ts, (k + aV, some (flat cB (R[k]!.set v b))) :: hs, n, z0⟩) : RW P N all Q md (⟨none, .store t x y, ty, pos, af, none⟩ :: rest) ⟨ts, hs, n, z0⟩ := by
 refine bC (md' := md') (hmd := hmd) (cs := flat cB R[k]!) (new := [.v (.bool b)]) (cs' := flat cB (R[k]!.set v b)) hx hy rfl rfl (hF.get hk) ?_ ?_ kk
 ·rw [aJ cB (e := 1), List.length_singleton]; omega
 ·exact iF hv rfl
theorem Dy (p : Prg) (A : List Nat) (hs : aS p.body ≤ 1000000) (w : WG p.types (aB p)) (t : WT p.types (aB p)) (hA : GoodG p.types (aB p) A) : PC Tryz.prog 172 [bY p] (fun r => r = sl gJ (Bg p.types.length (aB p).length A)) := by
 have hpl := w.pl
 have hp0 := w.p0
 have htl := w.tl
 have hpt := dK p hs
 have hbo := Fp p hs w
 have hbl := yR p.types (aB p) (aB p).length
 have hbok : ∀ b, b ∈ kM p.types (aB p) (aB p).length → BOk p.types.length (aB p).length b := fun b hb => pK w t hb
 have hre := CX w t _ (SRr.rep p.types (aB p)) hA
 have hs1 : ∀ k R, SRr p.types (aB p) R → SRr p.types (aB p) (((kM p.types (aB p) (aB p).length).take k).foldl tI R) := fun k R S => (qP w t _ (fun b hb => List.mem_of_mem_take hb) R S).1
 have hs2 := fun k => (qJ w t _ (SRr.rep p.types (aB p)) k).1
 generalize hL : kM p.types (aB p) (aB p).length = L at hbo hbl hbok hre hs1 hs2
 refine aC Tryz.func172 Tryz.ntmps172 ?_
 repeat' (first|(apply aH;first|(apply aA (k := 132);rfl;exact hpt;exact Pur.pf;rfl)|(apply aA (k := 226);rfl;exact hbo;exact Pur.pf;rfl))|refine aE ?_|refine aF ?_|fail)
 refine dL (σ := Nat) (fun k => List.replicate k (List.replicate (aB p).length false)) [1, 3, 4] [0] (fun k => [(6, iv (k : Int)), (5, .own 1 0 k 1)]) (fun k => [(1, some (flat (x9 0 (aB p).length) (List.range k)))]) (fun k => k ≤ p.types.length) (fun k => p.types.length - k) (0) (Nat.zero_le _) ?_
 intro k hk
 try dsimp only
 by_cases hkn : k < p.types.length
 ·repeat' (first | (apply aH; (apply bW;rfl;rfl;rfl;rfl;rfl;(case hl => (simp [aJ]; done));(rfl);omega;omega;(rfl);rfl;rfl)) | refine aE ?_ | refine aF ?_ | (refine aL ?_ ?_ <;> intro hc hq <;> try (exfalso; omega))|fail)
  (apply bB (k + 1);focus (refine Le.renF1 [(0, 0), (1, 4)] 2 (R := ?qA1) (r := ?qB1) (hF := ?qF1) (hz := ?qz1) (hm := ?qm1) (hn := ?qn1) (hlb := ?qlb1) (hb := ?qb1) (hr := ?qr1) (hR := ?qR1) (h1 := ?q11) (h2 := ?q21);(case qF1 => (repeat' (first|exact FamR.here|(apply FamR.cons;focus rfl))));(case qz1 => (rfl));(case qm1 => rfl);(case qn1 => decide);(case qlb1 => decide);(case qb1 => decide);(case qr1 => rfl);(case qR1 => (exact List.replicate_succ'));all_goals (repeat' (first|exact trivial|refine And.intro ⟨_, rfl, ?_⟩ ?_|refine And.intro ⟨_, _, rfl, rfl, ?_⟩ ?_|exact RnL.purI inferInstance|exact RnV.purI inferInstance|exact RnV.own rfl|exact RnV.optr rfl|exact zQ (by decide) (by simp)))))
  ·show k + 1 ≤ p.types.length;omega
  ·show p.types.length - (k + 1) < p.types.length - k;omega
 ·have hkN : k = p.types.length := by omega
  subst hkN
  repeat' (first|(apply aH;(with_reducible apply aX (d := 7)))|refine aE ?_|refine aF ?_|(refine aL ?_ ?_ <;> intro hc hq <;> try (exfalso;omega))|fail)
  refine bV (c6 ?_ (Le.frzD (d := 5) (i := 1) rfl rfl))
  repeat' (first|refine aE ?_|refine aF ?_|fail)
  refine dL (σ := Nat × List (List Bool)) (fun s => s.2) [1, 4, 5] [0] (fun s => [(7, iv (s.1 : Int))]) (fun s => []) (fun s => s.1 ≤ p.types.length + 1 ∧ s.2 = Ib L (List.replicate p.types.length (List.replicate (aB p).length false)) s.1) (fun s => p.types.length + 1 - s.1) (0, List.replicate p.types.length (List.replicate (aB p).length false)) ⟨Nat.zero_le _, rfl⟩ ?_
  rintro ⟨r, R⟩ ⟨hr, hR⟩
  dsimp only at hr hR
  have hSR : SRr p.types (aB p) R := by rw [hR]; exact hs2 r
  have hRl := hSR.l
  try dsimp only
  by_cases hrn : r ≤ p.types.length
  ·repeat' (first | refine aE ?_ | refine aF ?_ | (refine aL ?_ ?_ <;> intro hc hq <;> try (exfalso; omega))|fail)
   refine dL (σ := Nat × List (List Bool)) (fun s => s.2) [1, 4, 5, 7] [0] (fun s => [(8, iv (s.1 : Int))]) (fun s => []) (fun s => s.1 ≤ L.length ∧ s.2 = (L.take s.1).foldl tI R) (fun s => L.length - s.1) (0, R) ⟨Nat.zero_le _, rfl⟩ ?_
   rintro ⟨i, R2⟩ ⟨hi, hR2⟩
   dsimp only at hi hR2
   have hS2 : SRr p.types (aB p) R2 := by rw [hR2]; exact hs1 i R hSR
   have hl2 := hS2.l
   try dsimp only
   by_cases hin : i < L.length
   ·have ok := hbok _ (aY _ i hin)
    have hft := dJ tI L R i hin
    rw [← hR2] at hft
    have hv := ok.v
    have hrv := hS2.r L[i]!.var.toNat (by omega)
    have hst : tI R2 L[i]! = if 0 ≤ L[i]!.loan then R2.set L[i]!.var.toNat (R2[L[i]!.var.toNat]!.set L[i]!.loan.toNat true) else R2.set L[i]!.var.toNat (gI R2[L[i]!.var.toNat]! R2[L[i]!.src.toNat]!) := rfl
    rcases ok.k with ⟨h1, h2, h3⟩ | ⟨h1, h2, h3, h4⟩
    ·rw [if_pos h1] at hst
     repeat' (first|(apply aH;first|(apply bC;rfl;rfl;rfl;rfl;rfl;(case hl => (simp;done));exact (rfl:_=[_, _, _]))|(apply Dc (R := R2);rfl;rfl;(case hF => (repeat' (first|exact FamR.here|(apply FamR.cons;focus rfl))));(simp only [Nat.zero_add]; omega);(simp only [Nat.zero_add]; omega))|(with_reducible apply aX (d := 39))|(apply gD;rfl;rfl;(assumption);rfl;infer_instance;infer_instance;rfl))|refine aE ?_|refine aF ?_|(refine aL ?_ ?_ <;> intro hc hq <;> try (exfalso;omega))|refine bQ ?_)
     refine bV ?_
     apply c6
     case k =>
      apply Le.fset (R := R2) (hk := by omega)
      (repeat' (first|exact FamR.here|(apply FamR.cons;focus rfl)))
     repeat' (first|refine aE ?_|refine aF ?_|fail)
     (apply bB (i + 1, _);focus (refine Le.renF0 [(0, 0)] (R := ?qA2) (hF := ?qF2) (hz := ?qz2) (hm := ?qm2) (hn := ?qn2) (h1 := ?q12) (h2 := ?q22);(case qF2 => (repeat' (first|exact FamR.here|(apply FamR.cons;focus rfl))));(case qz2 => (simp only [List.length_set]));(case qm2 => rfl);(case qn2 => decide);all_goals (repeat' (first|exact trivial|refine And.intro ⟨_, rfl, ?_⟩ ?_|refine And.intro ⟨_, _, rfl, rfl, ?_⟩ ?_|exact RnL.purI inferInstance|exact RnV.purI inferInstance|exact RnV.optr rfl|exact RnV.imm (cT (by (simp only [List.length_replicate, List.length_set, List.length_append, List.length_singleton] at * <;> omega)))))))
     ·refine ⟨by show i + 1 ≤ L.length; omega, ?_⟩
      show R2.set _ _ = _
      rw [hft, hst]; simp only [Nat.zero_add]
     ·show L.length - (i + 1) < L.length - i;omega
    ·rw [if_neg (by omega)] at hst
     have hrs := hS2.r L[i]!.src.toNat (by omega)
     repeat' (first|(apply aH;first|(apply bC;rfl;rfl;rfl;rfl;rfl;(case hl => (simp;done));exact (rfl:_=[_, _, _]))|(apply CH (R := R2);rfl;rfl;(case hF => (repeat' (first|exact FamR.here|(apply FamR.cons;focus rfl))));(simp only [Nat.zero_add]; omega);(simp only [Nat.zero_add]; omega);(simp only [Nat.zero_add]; omega);(simp only [Nat.zero_add]; omega);(simp only [Nat.zero_add]; omega);(simp only [Nat.zero_add]; omega);(simp only [Nat.zero_add]; omega);rfl;rfl)|(with_reducible apply aX (d := 39))|(apply gD;rfl;rfl;(first|assumption|omega);rfl;infer_instance;infer_instance;rfl))|refine aE ?_|refine aF ?_|(refine aL ?_ ?_ <;> intro hc hq <;> try (exfalso;omega))|refine bQ ?_)
     refine bV ?_
     apply c6
     case k =>
      apply Le.fset2 (R := R2) (hk := by omega) (hj := by omega) (hkj := by omega)
      (repeat' (first|exact FamR.here|(apply FamR.cons;focus rfl)))
     repeat' (first|refine aE ?_|refine aF ?_|fail)
     (apply bB (i + 1, _);focus (refine Le.renF0 [(0, 0)] (R := ?qA3) (hF := ?qF3) (hz := ?qz3) (hm := ?qm3) (hn := ?qn3) (h1 := ?q13) (h2 := ?q23);(case qF3 => (repeat' (first|exact FamR.here|(apply FamR.cons;focus rfl))));(case qz3 => (simp only [List.length_set]));(case qm3 => rfl);(case qn3 => decide);all_goals (repeat' (first|exact trivial|refine And.intro ⟨_, rfl, ?_⟩ ?_|refine And.intro ⟨_, _, rfl, rfl, ?_⟩ ?_|exact RnL.purI inferInstance|exact RnV.purI inferInstance|exact RnV.optr rfl|exact RnV.imm (cT (by (simp only [List.length_replicate, List.length_set, List.length_append, List.length_singleton] at * <;> omega)))))))
     ·refine ⟨by show i + 1 ≤ L.length; omega, ?_⟩
      show R2.set _ _ = _
      rw [hft, hst]; simp only [Nat.zero_add]
     ·show L.length - (i + 1) < L.length - i;omega
   ·repeat' (first | refine aE ?_ | refine aF ?_ | (refine aL ?_ ?_ <;> intro hc hq <;> try (exfalso; omega))|fail)
    (apply bB (r + 1, R2);focus (refine Le.renF0 [(0, 0)] (R := ?qA4) (hF := ?qF4) (hz := ?qz4) (hm := ?qm4) (hn := ?qn4) (h1 := ?q14) (h2 := ?q24);(case qF4 => (repeat' (first|exact FamR.here|(apply FamR.cons;focus rfl))));(case qz4 => (rfl));(case qm4 => rfl);(case qn4 => decide);all_goals (repeat' (first|exact trivial|refine And.intro ⟨_, rfl, ?_⟩ ?_|refine And.intro ⟨_, _, rfl, rfl, ?_⟩ ?_|exact RnL.purI inferInstance|exact RnV.purI inferInstance|exact RnV.optr rfl|exact RnV.imm (cT (by (simp only [List.length_replicate, List.length_set, List.length_append, List.length_singleton] at * <;> omega)))))))
    ·refine ⟨by show r + 1 ≤ _; omega, ?_⟩
     show R2 = _
     rw [hR2, List.take_of_length_le (by omega), hR]; rfl
    ·show p.types.length + 1 - (r + 1) < p.types.length + 1 - r;omega
  ·repeat' (first | refine aE ?_ | refine aF ?_ | (refine aL ?_ ?_ <;> intro hc hq <;> try (exfalso; omega))|fail)
   have hrt : r = p.types.length + 1 := by omega
   subst hrt
   refine aR (Le.frzAll (d := 2) (D := (List.range R.length).map fun k => 0 + k + aV) rfl (.imm (LdL.rows (b := 0) (R := R) (by (repeat' (first|exact FamR.here|(apply FamR.cons;focus rfl)))) (fun k hk => List.mem_map.2 ⟨k, by rw [List.mem_range]; omega, rfl⟩) (by omega) (fun k hk => by rw [Nat.zero_add]; exact hSR.r k hk)))) ?_
   refine aD rfl ⟨?_, (by (exact a8 _ _))⟩
   simp only [aO]
   rw [List.drop_zero, List.take_of_length_le (by omega), hR, hre]
   simp [sl, Bg]
theorem Gi (p : Prg) (f : Flows p.types (aB p)) (A : List Nat) (hA : GoodG p.types (aB p) A) (hv : bG p = true) (hl : p.types.length ≤ 1000000) (hs : aS p.body ≤ 1000000) : PC Tryz.prog 97 [bY p] (fun r => r = sl dV (v8 p f A)) := by
 have w := WG.of_valid hv
 have t := WT.of_valid hv
 have hr := Rch.of p
 have hval := fT p hl (by omega)
 rw [hv] at hval
 have hpl := w.pl
 have hp0 := w.p0
 have htl := w.tl
 have hpt := dK p hs
 have hfa := fH p true f.Aa hs w hr (by unfold kI;exact f.ga)
 have hfm := fH p false f.Am hs w hr (by unfold kI;exact f.gm)
 have hfl := tJ p f.Af f.Ap hs w f.gf f.gp
 have hlv := Bx p f.Al hs w f.gl
 have hrg := Dy p A hs w t hA
 have hA6 := hA.1
 have hra := cV p.types.length (aB p).length f.Aa
 have hrm := cV p.types.length (aB p).length f.Am
 have hrl := cV p.types.length (aB p).length f.Al
 have hfll : ((List.range (aB p).length).map (eZ p.types.length (aB p).length f.Af f.Ap)).length = (aB p).length := by simp
 refine aC Tryz.func97 Tryz.ntmps97 ?_
 repeat' (first|(apply aH;first|(apply aA (k := 61);rfl;exact hval;exact Pur.pf;rfl)|(apply aA (k := 132);rfl;exact hpt;exact Pur.pf;rfl)|(apply aA (k := 64) (d := 23);rfl;exact hfa;exact Pur.pf;rfl)|(apply aA (k := 64) (d := 25);rfl;exact hfm;exact Pur.pf;rfl)|(apply aA (k := 170);rfl;exact hlv;exact Pur.pf;rfl)|(apply aA (k := 171);rfl;exact hfl;exact Pur.pf;rfl)|(apply aA (k := 172);rfl;exact hrg;exact Pur.pf;rfl))|refine aE ?_|refine aF ?_|fail)
 refine aI (σ := Nat × List Iss × Nat) [1, 4, 5, 6, 7, 8, 9] [0] (fun s => [(10, iv (s.1 : Int)), (3, .own 1 0 s.2.2 3)]) (fun s => [(1, some (flat dV s.2.1))]) (fun s => s.1 ≤ (aB p).length ∧ s.2.1 = iN p.types (aB p) f.Aa f.Am f.Al (nT (aB p).length A) f.Ap s.1 ∧ s.2.2 = s.2.1.length ∧ s.2.2 ≤ 67 * s.1) (fun s => (aB p).length - s.1) (0, [], 0) ⟨Nat.zero_le _, rfl, rfl, Nat.le_refl _⟩ ?_
 rintro ⟨i, L, m⟩ ⟨hi, hL, hm, hmb⟩
 dsimp only at hi hL hm hmb
 try dsimp only
 by_cases hin : i < (aB p).length
 ·repeat' (first | refine aE ?_ | refine aF ?_ | (refine aL ?_ ?_ <;> intro hc hq <;> try (exfalso; omega))|fail)
  refine aI (σ := Nat × List Iss × Nat) [1, 4, 5, 6, 7, 8, 9, 10] [0] (fun s => [(11, iv (s.1 : Int)), (3, .own 1 0 s.2.2 3)]) (fun s => [(1, some (flat dV s.2.1))]) (fun s => s.1 ≤ p.types.length ∧ s.2.1 = L ++ J2 p.types (aB p) f.Aa i s.1 ∧ s.2.2 = s.2.1.length ∧ s.2.2 ≤ 67 * i + s.1) (fun s => p.types.length - s.1) (0, L, m) ⟨Nat.zero_le _, (List.append_nil L).symm, hm, hmb⟩ ?_
  rintro ⟨v, L2, m2⟩ ⟨hv, hL2, hm2, hmb2⟩
  dsimp only at hv hL2 hm2 hmb2
  try dsimp only
  by_cases hvn : v < p.types.length
  ·have hga := hO p.types.length (aB p).length f.Aa i v hin hvn
   have hgl : (bI p.types.length (aB p).length f.Aa)[i]!.length = p.types.length := by rw [cP _ _ _ _ hin]; simp
   repeat' (first|(apply aH;(apply aA (k := 173);rfl;(apply kA <;> (omega));exact Pur.pf;rfl))|refine aE ?_|refine aF ?_|(refine aL ?_ ?_ <;> intro hc hq <;> try (exfalso;omega))|(refine bS ?_ ?_ <;> intro hg hq <;> try (exfalso;omega))|refine bQ ?_|fail)
   ·(refine bB (v + 1, L2 ++ [⟨i, 1, v⟩], m2 + 1) (Le.renA [(0, 0), (1, 3)]) ?_ ?_)
    ·have hu : rM p.types (aB p) f.Aa i v = true := by
      unfold rM;rw [← hga, decide_eq_false (by assumption), (by assumption : (bI p.types.length (aB p).length f.Aa)[i]![v]! = false)]; rfl
     exact ⟨(by show v + 1 ≤ p.types.length;omega), (by show L2 ++ [⟨i, 1, v⟩] = _; rw [hL2, List.append_assoc, ← yH hu]), (by show m2 + 1 = (L2 ++ [_]).length;rw [List.length_append, List.length_singleton, hm2]), (by show m2 + 1 ≤ 67 * i + (v + 1);omega)⟩
    ·show p.types.length - (v + 1) < p.types.length - v;omega
   ·(refine bB (v + 1, L2, m2) (Le.renA [(0, 0), (1, 1)]) ?_ ?_)
    ·have hu : rM p.types (aB p) f.Aa i v = false := by
      unfold rM;rw [← hga, (by assumption : (bI p.types.length (aB p).length f.Aa)[i]![v]! = true)]; simp
     exact ⟨(by show v + 1 ≤ p.types.length;omega), (by show L2 = _; rw [kO hu]; exact hL2), hm2, (by show m2 ≤ 67 * i + (v + 1);omega)⟩
    ·show p.types.length - (v + 1) < p.types.length - v;omega
   ·(refine bB (v + 1, L2, m2) (Le.renA [(0, 0), (1, 1)]) ?_ ?_)
    ·have hu : rM p.types (aB p) f.Aa i v = false := by
      unfold rM;rw [decide_eq_true (by assumption)]; rfl
     exact ⟨(by show v + 1 ≤ p.types.length;omega), (by show L2 = _; rw [kO hu]; exact hL2), hm2, (by show m2 ≤ 67 * i + (v + 1);omega)⟩
    ·show p.types.length - (v + 1) < p.types.length - v;omega
  ·have hvN : v = p.types.length := by omega
   have hset := w.set i hin
   have hy := w.y i hin
   have hfi : ((List.range (aB p).length).map (eZ p.types.length (aB p).length f.Af f.Ap))[i]! = eZ p.types.length (aB p).length f.Af f.Ap i := a6 _ _ _ hin
   have hgm : (bI p.types.length (aB p).length f.Am)[i]!.length = p.types.length := by rw [cP _ _ _ _ hin]; simp
   have hgl : (bI p.types.length (aB p).length f.Al)[i]!.length = p.types.length := by rw [cP _ _ _ _ hin]; simp
   have hf2 : (eZ p.types.length (aB p).length f.Af f.Ap i).2.length = (aB p).length := by simp [eZ]
   have hf4 : (((List.range (aB p).length).map (eZ p.types.length (aB p).length f.Af f.Ap))[i]!.2).length = (aB p).length := by rw [hfi]; exact hf2
   have hacc := lN p.types (aB p)[i]! (bI p.types.length (aB p).length f.Am)[i]! htl hgm hset.1 hy
   have hlv := uF p.types (aB p)[i]! (Bg p.types.length (aB p).length A) ((List.range (aB p).length).map (eZ p.types.length (aB p).length f.Af f.Ap))[i]!.2 (bI p.types.length (aB p).length f.Al)[i]! htl (by rw [hf4]; exact hpl) hgl (J8 _ _ _) (fun v hv => by rw [hf4]; exact KY _ _ _ hv)
   have hlvl : (tY p.types (aB p)[i]! (Bg p.types.length (aB p).length A) (bI p.types.length (aB p).length f.Al)[i]! ((List.range (aB p).length).map (eZ p.types.length (aB p).length f.Af f.Ap))[i]!.2.length).length = (aB p).length := by unfold tY;rw [List.length_map, List.length_range, hf4]
   have hcn := kL (aB p) (fR p.types (aB p)[i]! (bI p.types.length (aB p).length f.Am)[i]![(aQ (aB p)[i]!).toNat]!) (Bg p.types.length (aB p).length A) ((List.range (aB p).length).map (eZ p.types.length (aB p).length f.Af f.Ap))[i]!.2 (tY p.types (aB p)[i]! (Bg p.types.length (aB p).length A) (bI p.types.length (aB p).length f.Al)[i]! ((List.range (aB p).length).map (eZ p.types.length (aB p).length f.Af f.Ap))[i]!.2.length) hpl (by have := oP p.types (aB p)[i]! (bI p.types.length (aB p).length f.Am)[i]![(aQ (aB p)[i]!).toNat]!; omega) hf4 hlvl
   have hcf : J7 (aB p) (fR p.types (aB p)[i]! (bI p.types.length (aB p).length f.Am)[i]![(aQ (aB p)[i]!).toNat]!) ((List.range (aB p).length).map (eZ p.types.length (aB p).length f.Af f.Ap))[i]!.2 (tY p.types (aB p)[i]! (Bg p.types.length (aB p).length A) (bI p.types.length (aB p).length f.Al)[i]! ((List.range (aB p).length).map (eZ p.types.length (aB p).length f.Af f.Ap))[i]!.2.length) = Ac p.types (aB p) f.Am f.Al (nT (aB p).length A) f.Ap i := by
    rw [hfi, hf2, ← KL p.types.length (aB p).length A f.Ap hA6 htl hin]; rfl
   have hcl : (Ac p.types (aB p) f.Am f.Al (nT (aB p).length A) f.Ap i).length = (aB p).length := by unfold Ac;rw [o9]
   repeat' (first|(apply aH;first|(apply aA (k := 175);rfl;exact hacc;exact Pur.pf;rfl)|(apply aA (k := 176);rfl;exact hlv;exact Pur.pf;rfl)|(apply aA (k := 174);rfl;exact hcn;exact Pur.pf;rfl)|(apply bC;rfl;rfl;rfl;rfl;rfl;(case hl => (simp;done));exact (rfl:_=[sl gJ (Bg p.types.length (aB p).length A), sl cB ((List.range (aB p).length).map (eZ p.types.length (aB p).length f.Af f.Ap))[i]!.2]))|(with_reducible apply aX (d := 14)))|refine aE ?_|refine aF ?_|(refine aL ?_ ?_ <;> intro hc hq <;> try (exfalso;omega))|refine bQ ?_|fail)
   refine bV ?_
   rw [hcf]
   repeat' (first|refine aE ?_|refine aF ?_|fail)
   refine aI (σ := Nat × List Iss × Nat) [1, 4, 5, 6, 7, 8, 9, 10, 13] [0] (fun s => [(14, iv (s.1 : Int)), (3, .own 1 0 s.2.2 3)]) (fun s => [(1, some (flat dV s.2.1))]) (fun s => s.1 ≤ (aB p).length ∧ s.2.1 = L2 ++ Kw (aB p) (Ac p.types (aB p) f.Am f.Al (nT (aB p).length A) f.Ap i) i s.1 ∧ s.2.2 = s.2.1.length ∧ s.2.2 ≤ 67 * i + 6 + s.1) (fun s => (aB p).length - s.1) (0, L2, m2) ⟨Nat.zero_le _, (List.append_nil L2).symm, hm2, by show m2 ≤ 67 * i + 6 + 0;omega⟩ ?_
   rintro ⟨l, L3, m3⟩ ⟨hl, hL3, hm3, hmb3⟩
   dsimp only at hl hL3 hm3 hmb3
   try dsimp only
   by_cases hln : l < (aB p).length
   ·repeat' (first | refine aE ?_ | refine aF ?_ | (refine aL ?_ ?_ <;> intro hc hq <;> try (exfalso; omega)) | (refine bS ?_ ?_ <;> intro hg hq <;> try (exfalso; omega))|fail)
    ·(refine bB (l + 1, L3 ++ [⟨i, 3, l⟩], m3 + 1) (Le.renA [(0, 0), (1, 4)]) ?_ ?_)
     ·have hk : Dq (aB p) l = 3 := by unfold Dq; rw [if_pos (by assumption)]
      exact ⟨(by show l + 1 ≤ (aB p).length;omega), (by show L3 ++ [⟨i, 3, l⟩] = _; rw [hL3, List.append_assoc, ← hk, ← nN (by assumption)]), (by show m3 + 1 = (L3 ++ [_]).length;rw [List.length_append, List.length_singleton, hm3]), (by show m3 + 1 ≤ 67 * i + 6 + (l + 1);omega)⟩
     ·show (aB p).length - (l + 1) < (aB p).length - l;omega
    ·(refine bB (l + 1, L3 ++ [⟨i, 2, l⟩], m3 + 1) (Le.renA [(0, 0), (1, 4)]) ?_ ?_)
     ·have hk : Dq (aB p) l = 2 := by unfold Dq; rw [if_neg (by assumption)]
      exact ⟨(by show l + 1 ≤ (aB p).length;omega), (by show L3 ++ [⟨i, 2, l⟩] = _; rw [hL3, List.append_assoc, ← hk, ← nN (by assumption)]), (by show m3 + 1 = (L3 ++ [_]).length;rw [List.length_append, List.length_singleton, hm3]), (by show m3 + 1 ≤ 67 * i + 6 + (l + 1);omega)⟩
     ·show (aB p).length - (l + 1) < (aB p).length - l;omega
    ·(refine bB (l + 1, L3, m3) (Le.renA [(0, 0), (1, 1)]) ?_ ?_)
     ·exact ⟨(by show l + 1 ≤ (aB p).length;omega), (by show L3 = _; rw [s8 (by assumption)]; exact hL3), hm3, (by show m3 ≤ 67 * i + 6 + (l + 1);omega)⟩
     ·show (aB p).length - (l + 1) < (aB p).length - l;omega
   ·repeat' (first | refine aE ?_ | refine aF ?_ | (refine aL ?_ ?_ <;> intro hc hq <;> try (exfalso; omega))|fail)
    (refine bB (i + 1, L3, m3) (Le.renA [(0, 0), (1, 1)]) ?_ ?_)
    ·refine ⟨(by show i + 1 ≤ (aB p).length; omega), ?_, hm3, (by show m3 ≤ 67 * (i + 1); omega)⟩
     show L3 = iN p.types (aB p) f.Aa f.Am f.Al (nT (aB p).length A) f.Ap (i + 1)
     rw [jE, ← Ea w f (pX A hA6 _) hin, hL3, hL2, hL, hvN, show l = (aB p).length by omega, List.append_assoc]
     rfl
    ·show (aB p).length - (i + 1) < (aB p).length - i;omega
 ·repeat' (first | refine aE ?_ | refine aF ?_ | (refine aL ?_ ?_ <;> intro hc hq <;> try (exfalso; omega))|fail)
  have hiN : i = (aB p).length := by omega
  refine aR (Le.frzD (d := 2) (i := 1) rfl rfl) ?_
  refine aD rfl ⟨?_, (by (exact a8 _ _))⟩
  simp only [aO]
  rw [hm, hL, hiN]; rfl
theorem u9 {stk : List Tg} {id : Int} (h : 0 ≤ cM stk id) : ∀ k < (cM stk id).toNat, stk[k]!.id ≠ id := by
 unfold cM at h ⊢
 split
 ·rename_i k hk
  obtain ⟨h1, h2, h3⟩ := List.findIdx?_eq_some_iff_getElem.1 hk
  rw [Int.toNat_natCast]
  intro j hj he
  have := h3 j hj
  rw [bE _ _ (by omega)] at he
  simp [he] at this
 ·rename_i hk;rw [hk] at h;dsimp only at h;omega
theorem y8 {stk : List Tg} {id : Int} {i : Nat} (hi : i < stk.length) (h : stk[i]!.id = id) (hn : ∀ k < i, stk[k]!.id ≠ id) : cM stk id = (i : Int) := by
 have hb := fC stk id
 by_cases hneg : cM stk id < 0
 ·have := qL.1 hneg stk[i]! (by rw [bE _ _ hi]; exact List.getElem_mem hi)
  exact absurd h this
 ·have ha := LO (stk := stk) (id := id) (by omega)
  have hf := u9 (stk := stk) (id := id) (by omega)
  rcases Nat.lt_trichotomy (cM stk id).toNat i with h1|h1|h1
  ·exact absurd ha (hn _ h1)
  ·omega
  ·exact absurd h (hf _ h1)
theorem DH (stk : List Tg) (id : Int) (hl : stk.length ≤ 1000000) : PC Tryz.prog 284 [sl cH stk, iv id] (fun r => r = iv (cM stk id)) := by
 refine aC Tryz.func284 Tryz.ntmps284 ?_
 repeat' (first|refine aE ?_|refine aF ?_|fail)
 refine aI (σ := Nat) [0, 1] [] (fun i => [(5, iv (i : Int))]) (fun i => []) (fun i => i ≤ stk.length ∧ (∀ k < i, stk[k]!.id ≠ id)) (fun i => stk.length - i) (0) ⟨Nat.zero_le _, fun k hk => absurd hk (by omega)⟩ ?_
 rintro i ⟨hi, hn⟩
 try dsimp only at hi hn
 repeat' (first|refine aE ?_|refine aF ?_|(refine aL ?_ ?_ <;> intro hc hq <;> try (exfalso;omega))|fail)
 ·refine aD rfl ⟨?_, rfl⟩
  simp only [aO]; rw [y8 (i := i) (by omega) (by assumption) hn]
 ·(refine bB (i + 1) (Le.renA []) ?_ ?_)
  ·refine ⟨by omega, fun k hk => ?_⟩
   rcases Nat.lt_or_ge k i with h|h
   ·exact hn k h
   ·rw [show k = i by omega]; assumption
  ·show stk.length - (i + 1) < stk.length - i;omega
 ·refine aD rfl ⟨?_, rfl⟩
  have := qL (stk := stk) (id := id)
  have hb := fC stk id
  have : cM stk id < 0 := this.2 (fun t ht => by obtain ⟨k, hk, rfl⟩ := List.getElem_of_mem ht;have := hn k (by omega);rwa [bE _ _ hk] at this)
  simp only [aO]; rw [show cM stk id = -1 by omega]
theorem oR (c : Cl) : OkC c ↔ (0 ≤ c.val ∧ c.val ≤ 9) ∧ (1 ≤ c.next ∧ c.next ≤ 1000) ∧ (1 ≤ c.stk.length ∧ c.stk.length ≤ 200) ∧ c.stk[0]!.uq = true ∧ (∀ k < c.stk.length, 0 ≤ c.stk[k]!.id ∧ c.stk[k]!.id < c.next ∧ cM c.stk c.stk[k]!.id = (k : Int)) := by
 constructor
 ·intro h
  refine ⟨h.v, h.n, h.l, h.u, fun k hk => ?_⟩
  have h1 := h.i c.stk[k]! (by rw [bE _ _ hk]; exact List.getElem_mem hk)
  refine ⟨h1.1, h1.2, y8 hk rfl (fun j hj he => ?_)⟩
  have hd := List.nodup_iff_pairwise_ne.1 h.d |> List.pairwise_iff_getElem.1
  have := hd j k (by rw [List.length_map]; omega) (by rw [List.length_map]; omega) hj
  simp only [List.getElem_map] at this
  rw [bE _ _ (by omega), bE _ _ hk] at he
  exact this he
 ·rintro ⟨h1, h2, h3, h4, h5⟩
  refine ⟨h1, h2, h3, h4, fun t ht => ?_, ?_⟩
  ·obtain ⟨k, hk, rfl⟩ := List.getElem_of_mem ht
   have := h5 k hk;rw [bE _ _ hk] at this
   exact ⟨this.1, this.2.1⟩
  ·rw [List.nodup_iff_pairwise_ne, List.pairwise_iff_getElem]
   intro i j hi hj hij he
   rw [List.length_map] at hi hj
   simp only [List.getElem_map] at he
   have a := (h5 i hi).2.2
   have b := (h5 j hj).2.2
   rw [bE _ _ hi] at a;rw [bE _ _ hj, ← he, a] at b
   omega
instance (c : Cl) : Decidable (OkC c) := decidable_of_iff _ (oR c).symm
theorem c8 (m : List Cl) : OkM m ↔ m.length ≤ 200 ∧ ∀ k < m.length, OkC m[k]! := by
 constructor
 ·exact fun h => ⟨h.l, fun k hk => h.c _ (by rw [bE _ _ hk]; exact List.getElem_mem hk)⟩
 ·exact fun h => ⟨h.1, fun c hc => by obtain ⟨k, hk, rfl⟩ := List.getElem_of_mem hc;have := h.2 k hk;rwa [bE _ _ hk] at this⟩
instance (m : List Cl) : Decidable (OkM m) := decidable_of_iff _ (c8 m).symm
theorem GO (c : Cl) : PC Tryz.prog 282 [Qg c] (fun r => r = bv (decide (OkC c))) := by
 refine aC Tryz.func282 Tryz.ntmps282 ?_
 repeat' (first|refine aE ?_|refine aF ?_|(refine aL ?_ ?_ <;> intro hc hq <;> try (exfalso;omega))|(refine bS ?_ ?_ <;> intro hg hq <;> try (exfalso;omega))|fail)
 all_goals try (refine aD rfl ⟨?_, rfl⟩; simp only [aO]; rw [show decide (OkC c) = false from decide_eq_false (fun h => by
  obtain ⟨h1, h2, h3, h4, h5⟩ := (oR c).1 h
  first|omega|exact absurd (by assumption : c.stk[Int.toNat 0]!.uq = false) (by rw [show Int.toNat 0 = 0 from rfl, h4]; decide))]; done)
 have hu : c.stk[0]!.uq = true := by assumption
 refine aI (σ := Nat) [1] [0] (fun i => [(3, iv (i : Int))]) (fun i => []) (fun i => i ≤ c.stk.length ∧ (∀ k < i, 0 ≤ c.stk[k]!.id ∧ c.stk[k]!.id < c.next ∧ cM c.stk c.stk[k]!.id = (k : Int))) (fun i => c.stk.length - i) (0) ⟨Nat.zero_le _, fun k hk => absurd hk (by omega)⟩ ?_
 rintro i ⟨hi, hn⟩
 try dsimp only at hi hn
 repeat' (first|(apply aH;(apply aA (k := 284);rfl;exact DH c.stk c.stk[i]!.id (by omega);exact Pur.pf;rfl))|refine aE ?_|refine aF ?_|(refine aL ?_ ?_ <;> intro hc hq <;> try (exfalso;omega))|(refine bS ?_ ?_ <;> intro hg hq <;> try (exfalso;omega))|refine bQ ?_|fail)
 all_goals try (refine aD rfl ⟨?_, rfl⟩; simp only [aO]; rw [show decide (OkC c) = false from decide_eq_false (fun h => by
  obtain ⟨h1, h2, h3, h4, h5⟩ := (oR c).1 h
  exact absurd (h5 i (by omega)) (by omega))]; done)
 ·(refine bB (i + 1) (Le.renA [(0, 0)]) ?_ ?_)
  ·refine ⟨by omega, fun k hk => ?_⟩
   rcases Nat.lt_or_ge k i with h|h
   ·exact hn k h
   ·rw [show k = i by omega]; exact ⟨by assumption, by assumption, by assumption⟩
  ·show c.stk.length - (i + 1) < c.stk.length - i;omega
 ·refine aD rfl ⟨?_, rfl⟩
  simp only [aO]
  rw [show decide (OkC c) = true from decide_eq_true ((oR c).2 ⟨by omega, by omega, by omega, hu, fun k hk => hn k (by omega)⟩)]
theorem n4 (m : List Cl) (hl : m.length ≤ 1000000) : PC Tryz.prog 272 [sl bO m] (fun r => r = bv (decide (OkM m))) := by
 refine aC Tryz.func272 Tryz.ntmps272 ?_
 repeat' (first|refine aE ?_|refine aF ?_|fail)
 refine aI (σ := Nat) [0] [] (fun i => [(3, iv (i : Int))]) (fun i => []) (fun i => i ≤ m.length ∧ i ≤ 201 ∧ (∀ k < i, OkC m[k]!)) (fun i => m.length - i) (0) ⟨Nat.zero_le _, by omega, fun k hk => absurd hk (by omega)⟩ ?_
 rintro i ⟨hi, hi2, hn⟩
 try dsimp only at hi hi2 hn
 repeat' (first|(apply aH;(apply aA (k := 282);rfl;exact GO m[i]!;exact Pur.pf;rfl))|refine aE ?_|refine aF ?_|(refine aL ?_ ?_ <;> intro hc hq <;> try (exfalso;omega))|(refine bS ?_ ?_ <;> intro hg hq <;> try (exfalso;omega))|fail)
 ·refine aD rfl ⟨?_, rfl⟩
  simp only [aO]; rw [show decide (OkM m) = false from decide_eq_false (fun h => by
   have h1 := ((c8 m).1 h).2 i (by omega)
   have h2 : ¬ OkC m[i]! := by assumption
   exact h2 h1)]
 ·(refine bB (i + 1) (Le.renA []) ?_ ?_)
  ·refine ⟨by omega, by omega, fun k hk => ?_⟩
   rcases Nat.lt_or_ge k i with h|h
   ·exact hn k h
   ·rw [show k = i by omega]; assumption
  ·show m.length - (i + 1) < m.length - i;omega
 ·refine aD rfl ⟨?_, rfl⟩
  simp only [aO]
  rw [show decide ((m.length : Int) ≤ 200) = false from decide_eq_false (by omega), show decide (OkM m) = false from decide_eq_false (fun h => by have := h.l;omega)]
 ·refine aD rfl ⟨?_, rfl⟩
  simp only [aO]
  rw [show decide ((m.length : Int) ≤ 200) = decide (OkM m) from decide_eq_decide.2 ⟨fun h => (c8 m).2 ⟨by omega, fun k hk => hn k (by omega)⟩, fun h => by have := h.l;omega⟩]
theorem kV (k : Int) : PC Tryz.prog 246 [iv k] (fun r => r = iv (if k = 1 then 3 else if k = 0 then 0 else 4)) := by
 refine aC Tryz.func246 Tryz.ntmps246 ?_
 repeat' (first|refine aE ?_|refine aF ?_|(refine aL ?_ ?_ <;> intro hc hq <;> try (exfalso;omega))|refine dA ?_|fail)
 all_goals (refine ⟨?_, rfl⟩; simp only [aO, AV.v.injEq, Value.bool.injEq, Value.int.injEq, true_and])
 all_goals grind
theorem sT (k : Int) : PC Tryz.prog 201 [iv k] (fun r => r = iv (fL k)) := by
 refine aC Tryz.func201 Tryz.ntmps201 ?_
 repeat' (first|refine aE ?_|refine aF ?_|(refine aL ?_ ?_ <;> intro hc hq <;> try (exfalso;omega))|refine dA ?_|fail)
 all_goals (refine ⟨?_, rfl⟩; simp only [aO, AV.v.injEq, Value.bool.injEq, Value.int.injEq, true_and])
 all_goals grind [fL]
theorem tC {xs : List Tg} {m : Nat} {a : Int} {b : Bool} (hm : m = xs.length) : ((flat cH xs).drop 0).take (m * 2) ++ [iv a, bv b] = flat cH (xs ++ [⟨a, b⟩]) := eI hm rfl
theorem IT {xs : List Cl} {m : Nat} {a c : Int} {b : Bool} {s : List Tg} (hm : m = xs.length) : ((flat bO xs).drop 0).take (m * 4) ++ [iv a, bv b, iv c, sl cH s] = flat bO (xs ++ [⟨a, b, c, s⟩]) := eI hm rfl
theorem kC {α : Type} [Inhabited α] (l : List α) {k i : Nat} (h : k ≤ i) (hi : i < l.length) : (l.drop k).take (i + 1 - k) = (l.drop k).take (i - k) ++ [l[i]!] := by
 have hl : i - k < (l.drop k).length := by rw [List.length_drop]; omega
 have h1 := bH (l.drop k) (i - k) hl
 rw [show i + 1 - k = i - k + 1 by omega, h1]
 congr 2
 rw [bE (l.drop k) (i - k) hl, List.getElem_drop, bE l i hi]
 congr 1;omega
theorem qT {α} {p : α → Bool} {a : α} (h : p a = true) : [a].filter p = [a] := by simp [h]
theorem nD {α} {p : α → Bool} {a : α} (h : p a = false) : [a].filter p = [] := by simp [h]
theorem HX (stk : List Tg) (k : Nat) (hk : k < stk.length) (hl : stk.length ≤ 1000000) : PC Tryz.prog 277 [sl cH stk, iv (k : Int)] (fun r => r = sl cH (gY stk k false)) := by
 have e1 : List.take (((k : Int) + 1).toNat - 0) (List.drop 0 stk) = stk.take (k + 1) := by rw [List.drop_zero]; congr 1
 have e2 : (stk.take (k + 1)).length = k + 1 := by rw [List.length_take]; omega
 refine aC Tryz.func277 Tryz.ntmps277 ?_
 repeat' (first|(apply aH;(with_reducible apply aX (d := 12)))|refine aE ?_|refine aF ?_|fail)
 refine bV ?_
 rw [e1]
 repeat' (first|refine aE ?_|refine aF ?_|fail)
 refine aI (σ := Nat × List Tg × Nat) [0] [] (fun s => [(6, iv (s.1 : Int)), (5, .own 1 0 s.2.2 2)]) (fun s => [(1, some (flat cH s.2.1))]) (fun s => k + 1 ≤ s.1 ∧ s.1 ≤ stk.length ∧ s.2.1 = stk.take (k + 1) ++ ((stk.drop (k + 1)).take (s.1 - (k + 1))).filter (fun t => !t.uq) ∧ s.2.2 = s.2.1.length ∧ s.2.2 ≤ s.1) (fun s => stk.length - s.1) (k + 1, stk.take (k + 1), 0 + (stk.take (k + 1)).length) ⟨Nat.le_refl _, by dsimp only;omega, by simp, by dsimp only;omega, by dsimp only;omega⟩ ?_
 rintro ⟨i, xs, n⟩ ⟨hki, hi, hxs, hn, hni⟩
 dsimp only at hki hi hxs hn hni ⊢
 repeat' (first|(apply aH;first|(apply bW;rfl;rfl;rfl;rfl;rfl;(rw [aJ]; omega);(rfl);omega;omega;(exact tC (by (assumption)));rfl;rfl)|(apply aK (t := _);rfl;rfl;rfl;(exact (rfl:_=some [_, _]));rfl;rfl))|refine aE ?_|refine aF ?_|(refine aL ?_ ?_ <;> intro hc hq <;> try (exfalso;omega))|fail)
 ·(refine bB (i + 1, _, _) (Le.renA [(1, 3)]) ?_ ?_)
  ·refine ⟨by dsimp only; omega, by dsimp only; omega, ?_, by dsimp only; rw [List.length_append, hn]; rfl, by dsimp only; omega⟩
   dsimp only
   rw [hxs, kC stk hki (by omega), List.filter_append, List.append_assoc]
   congr 2
   have hu : stk[i]!.uq = false := by assumption
   rw [qT (by rw [hu]; rfl)]
  ·dsimp only;omega
 ·(refine bB (i + 1, xs, n) (Le.renA [(1, 1)]) ?_ ?_)
  ·refine ⟨by dsimp only; omega, by dsimp only; omega, ?_, hn, by dsimp only; omega⟩
   dsimp only
   have hu : stk[i]!.uq = true := by assumption
   rw [hxs, kC stk hki (by omega), List.filter_append, nD (by rw [hu]; rfl), List.append_nil]
  ·dsimp only;omega
 ·(refine aR (Le.frzD (d := 4) (i := 1) rfl rfl) ?_; refine aD rfl ?_)
  refine ⟨?_, (by (exact a8 _ _))⟩
  have hie : i = stk.length := by omega
  simp only [aO, sl]
  have hd : (stk.drop (k + 1)).take (stk.length - (k + 1)) = stk.drop (k + 1) := List.take_of_length_le (by rw [List.length_drop]; exact Nat.le_refl _)
  rw [hn, hxs, hie, hd]
  rfl
theorem Hj (m : List Cl) (hm : OkM m) : PC Tryz.prog 273 [sl bO m] (fun r => r = sl bO m) := by
 have hml := hm.l
 refine aC Tryz.func273 Tryz.ntmps273 ?_
 repeat' (first|refine aE ?_|refine aF ?_|fail)
 refine aI (σ := Nat × List Cl) [0] [] (fun k => [(4, iv (k.1 : Int)), (3, .own 0 0 k.1 4)]) (fun k => [(0, some (flat bO k.2))]) (fun k => k.1 ≤ m.length ∧ k.2 = m.take k.1) (fun k => m.length - k.1) (0, []) ⟨by omega, rfl⟩ ?_
 rintro ⟨i, xs⟩ ⟨hi, hxs⟩
 dsimp only at hi hxs ⊢
 have hln : xs.length = i := by rw [hxs, List.length_take]; exact Nat.min_eq_left hi
 have hst : i < m.length → m[i]!.stk.length ≤ 200 := fun h => (((c8 m).1 hm).2 i h).l.2
 repeat' (first|(apply aH;(with_reducible apply aX (d := 21)))|refine aE ?_|refine aF ?_|(refine aL ?_ ?_ <;> intro hc hq <;> try (exfalso;omega))|fail)
 ·refine bV (c6 ?_ (Le.frzD (d := 20) (i := 3) rfl rfl))
  rw [Nat.zero_add m[i]!.stk.length]
  repeat' (first|(apply aH;first|(apply bW;rfl;rfl;rfl;rfl;rfl;(rw [aJ]; omega);(rfl);omega;omega;(exact IT (by (omega)));rfl;rfl)|(apply aK (t := _);rfl;rfl;rfl;(exact (rfl:_=some [_, _, _, _]));rfl;rfl))|refine aE ?_|refine aF ?_|fail)
  (refine bB (i + 1, _) (Le.renA [(0, 5)]) ?_ ?_)
  ·exact ⟨by dsimp only;omega, by dsimp only;rw [hxs, bH m i (by omega)]⟩
  ·dsimp only;omega
 ·(refine aR (Le.frzD (d := 2) (i := 0) rfl rfl) ?_; refine aD rfl ?_)
  refine ⟨?_, (by (exact a8 _ _))⟩
  have hie : i = m.length := by omega
  simp only [aO, sl]
  rw [hxs, hie, List.take_length]
theorem De {m : List Cl} {x : Pt} {wr : Bool} (h : x.cell < 0 ∨ (m.length : Int) ≤ x.cell) : bF m x wr = 4 := by
 unfold bF;rw [if_pos (by omega)]
theorem Is {m : List Cl} {x : Pt} {wr : Bool} (h : 0 ≤ x.cell) (h2 : x.cell < m.length) (h3 : m[x.cell.toNat]!.alive = false) : bF m x wr = 1 := by
 unfold bF;rw [if_neg (by omega), if_pos h3]
theorem HL {m : List Cl} {x : Pt} {wr : Bool} (h : 0 ≤ x.cell) (h2 : x.cell < m.length) (h3 : m[x.cell.toNat]!.alive = true) (h4 : cM m[x.cell.toNat]!.stk x.tag < 0) : bF m x wr = 2 := by
 unfold bF;rw [if_neg (by omega), if_neg (by rw [h3]; decide), if_pos h4]
theorem sF {m : List Cl} {x : Pt} (h : 0 ≤ x.cell) (h2 : x.cell < m.length) (h3 : m[x.cell.toNat]!.alive = true) (h4 : 0 ≤ cM m[x.cell.toNat]!.stk x.tag) : bF m x false = 0 := by
 unfold bF;rw [if_neg (by omega), if_neg (by rw [h3]; decide), if_neg (by omega), if_neg (by intro q;exact absurd q.1 (by decide))]
theorem yX {m : List Cl} {x : Pt} : bF m x true = if bF m x false = 0 then (if m[x.cell.toNat]!.stk[(cM m[x.cell.toNat]!.stk x.tag).toNat]!.uq = false then 3 else 0) else bF m x false := by
 unfold bF
 split
 ·rw [if_neg (by decide)]
 ·split
  ·rw [if_neg (by decide)]
  ·split
   ·rw [if_neg (by decide)]
   ·rw [if_neg (c := false = true ∧ _) (by intro q; exact absurd q.1 (by decide)), if_pos rfl]
    simp only [true_and]
theorem dR {m : List Cl} {x : Pt} {wr : Bool} (h : bF m x wr = 0) : 0 ≤ x.cell ∧ x.cell < m.length ∧ m[x.cell.toNat]!.alive = true ∧ 0 ≤ cM m[x.cell.toNat]!.stk x.tag ∧ (wr = true → m[x.cell.toNat]!.stk[(cM m[x.cell.toNat]!.stk x.tag).toNat]!.uq = true) := by
 unfold bF at h
 split at h
 ·omega
 ·split at h
  ·omega
  ·split at h
   ·omega
   ·split at h
    ·omega
    ·rename_i a b c d
     refine ⟨by omega, by omega, by simpa using b, by omega, fun hw => ?_⟩
     by_cases q : m[x.cell.toNat]!.stk[(cM m[x.cell.toNat]!.stk x.tag).toNat]!.uq = false
     ·exact absurd ⟨hw, q⟩ d
     ·simpa using q
theorem fE {m : List Cl} {N : Nat} {Q : Exit → AS → Prop} {all : Array Oper} {rest : List Oper} {tsl : List (Nat × AV)} {hsl : List (Nat × Option (List AV))} {nidl : Nat} {z0 : Lo} {md : Md} {d : Nat} {ty : TypeId} {pos : String} {af : Array Edge} {tys : Array TypeId} {x0 : Operand} (ha0 : ev (lk tsl) x0 = some (sl bO m)) (hmc : MC Tryz.prog 273 [sl bO m] [] 0 (fun _ : Unit => True) (fun _ => .own 0 0 m.length 4) (fun _ => [(0, some (flat bO m))])) (hM : Nat.ble (nidl + 1) aV = true) (hN : Nat.blt d N = true) {md' : Md} [hmd : MdA md (fK [x0] ++ []) (List.map Sum.inr (List.map Prod.fst ([(nidl, some (flat bO m))] : List (Nat × Option (List AV)))) ++ [.inl d]) md'] (kk : RW Tryz.prog N all Q md' rest ⟨(d, .own nidl 0 m.length 4) :: tsl, gS hsl [(nidl, some (flat bO m))], nidl + 1, z0⟩) : RW Tryz.prog N all Q md (⟨some d, .call ⟨.value (.func 273), #[x0], tys⟩, ty, pos, af, none⟩ :: rest) ⟨tsl, hsl, nidl, z0⟩ := by
 refine aW [] 1 [(nidl, some (flat bO m))] hmc (avs := [sl bO m]) ?_ rfl ?_ rfl ?_ (by simpa using hM) ?_ ?_ ?_ hN (md' := md') (hmd := hmd) kk
 ·show evL (lk tsl) [x0] = _
  simp only [evL, ha0]
 ·exact trivial
 ·(repeat' (exact RnL.purI inferInstance))
 ·(repeat' (exact RnV.own rfl))
 ·simp [cE]
 ·(repeat' (first|exact trivial|(refine And.intro ⟨0, _, rfl, rfl, ?_⟩ ?_)|exact RnL.purI inferInstance))
theorem gE (m : List Cl) (hm : OkM m) : MC Tryz.prog 273 [sl bO m] [] 0 (fun _ : Unit => True) (fun _ => .own 0 0 m.length 4) (fun _ => [(0, some (flat bO m))]) := by
 have hml := hm.l
 refine aU Tryz.func273 Tryz.ntmps273 ?_
 repeat' (first|refine aE ?_|refine aF ?_|fail)
 refine aI (σ := Nat × List Cl) [0] [] (fun k => [(4, iv (k.1 : Int)), (3, .own 0 0 k.1 4)]) (fun k => [(0, some (flat bO k.2))]) (fun k => k.1 ≤ m.length ∧ k.2 = m.take k.1) (fun k => m.length - k.1) (0, []) ⟨by omega, rfl⟩ ?_
 rintro ⟨i, xs⟩ ⟨hi, hxs⟩
 dsimp only at hi hxs ⊢
 have hln : xs.length = i := by rw [hxs, List.length_take]; exact Nat.min_eq_left hi
 have hst : i < m.length → m[i]!.stk.length ≤ 200 := fun h => (((c8 m).1 hm).2 i h).l.2
 repeat' (first|(apply aH;(with_reducible apply aX (d := 21)))|refine aE ?_|refine aF ?_|(refine aL ?_ ?_ <;> intro hc hq <;> try (exfalso;omega))|fail)
 ·refine bV (c6 ?_ (Le.frzD (d := 20) (i := 3) rfl rfl))
  rw [Nat.zero_add m[i]!.stk.length]
  repeat' (first|(apply aH;first|(apply bW;rfl;rfl;rfl;rfl;rfl;(rw [aJ]; omega);(rfl);omega;omega;(exact IT (by (omega)));rfl;rfl)|(apply aK (t := _);rfl;rfl;rfl;(exact (rfl:_=some [_, _, _, _]));rfl;rfl))|refine aE ?_|refine aF ?_|fail)
  (refine bB (i + 1, _) (Le.renA [(0, 5)]) ?_ ?_)
  ·exact ⟨by dsimp only;omega, by dsimp only;rw [hxs, bH m i (by omega)]⟩
  ·dsimp only;omega
 ·have hie : i = m.length := by omega
  (refine aD rfl ?_; refine aP () trivial ?_ ⟨.inr (Eq.trans (b := some _) rfl ?_), trivial⟩)
  ·rw [hie]; rfl
  ·rw [hxs, hie, List.take_length]
theorem kX (m : List Cl) (hm : OkM m) (x : Pt) : PC Tryz.prog 276 [sl bO m, nB x] (fun r => r = .tup [iv (if bF m x false = 0 then cM m[x.cell.toNat]!.stk x.tag else 0), iv (bF m x false)]) := by
 have hml := hm.l
 have hcv := n4 m (by omega)
 rw [decide_eq_true hm] at hcv
 have hst : 0 ≤ x.cell → x.cell < m.length → m[x.cell.toNat]!.stk.length ≤ 1000000 := fun h1 h2 => Nat.le_trans (((c8 m).1 hm).2 x.cell.toNat (by omega)).l.2 (by decide)
 refine aC Tryz.func276 Tryz.ntmps276 ?_
 repeat' (first|(apply aH;first|(apply aA (k := 272);rfl;exact hcv;exact Pur.pf;rfl)|(apply aA (k := 284);rfl;exact DH m[x.cell.toNat]!.stk x.tag (hst (by assumption) (by assumption));exact Pur.pf;rfl))|refine aE ?_|refine aF ?_|(refine aL ?_ ?_ <;> intro hc hq <;> try (exfalso;omega))|(refine bS ?_ ?_ <;> intro hg hq <;> try (exfalso;omega))|refine bQ ?_|fail)
 all_goals (refine aD rfl ⟨?_, rfl⟩; simp only [aO])
 ·rw [De (by omega)]; rfl
 ·rw [Is (by assumption) (by assumption) (by assumption)]; rfl
 ·rw [HL (by assumption) (by assumption) (by assumption) (by assumption)]; rfl
 ·rw [sF (by assumption) (by assumption) (by assumption) (by assumption)]; rfl
 ·rw [De (by omega)]; rfl
theorem Cx {xs : List Cl} {k : Nat} {s : List Tg} (hk : k < xs.length) : g6 (flat bO xs) (0 + k * 4 + 3) [sl cH s] = flat bO (xs.set k { xs[k]! with stk := s }) := eW hk (by simp) rfl
theorem NY {xs : List Cl} {k : Nat} {v : Int} (hk : k < xs.length) : g6 (flat bO xs) (0 + k * 4 + 0) [iv v] = flat bO (xs.set k { xs[k]! with val := v }) := eW hk (by simp) rfl
theorem N5 {xs : List Cl} {k : Nat} {b : Bool} (hk : k < xs.length) : g6 (flat bO xs) (0 + k * 4 + 1) [.v (.bool b)] = flat bO (xs.set k { xs[k]! with alive := b }) := eW hk (by simp) rfl
theorem fA {α : Type} {f : α → List AV} {xs : List α} {n : Nat} (h : n = xs.length) : AV.imm n (flat f xs) = sl f xs := by subst h; rfl
theorem rE (m : List Cl) (hm : OkM m) (x : Pt) : PC Tryz.prog 252 [sl bO m, nB x] (fun r => r = .tup [sl bO (dZ m x false), iv (pP m x), iv (bF m x false)]) := by
 have hml := hm.l
 have hst : 0 ≤ x.cell → x.cell < m.length → m[x.cell.toNat]!.stk.length ≤ 1000000 := fun h1 h2 => Nat.le_trans (((c8 m).1 hm).2 x.cell.toNat (by omega)).l.2 (by decide)
 by_cases hk : bF m x false = 0
 ·have hpl := kX m hm x
  rw [if_pos hk, hk] at hpl
  obtain ⟨h1, h2, h3, h4, _⟩ := dR hk
  have hbd := fC m[x.cell.toNat]!.stk x.tag
  have hrd := HX m[x.cell.toNat]!.stk (cM m[x.cell.toNat]!.stk x.tag).toNat (by omega) (hst h1 h2)
  rw [Int.toNat_of_nonneg h4] at hrd
  refine aC Tryz.func252 Tryz.ntmps252 ?_
  repeat' (first|(apply aH;first|(apply fE;rfl;exact gE m hm;rfl;rfl)|(apply aA (k := 276);rfl;exact hpl;exact Pur.pf;rfl)|(apply aA (k := 277);rfl;exact hrd;exact Pur.pf;rfl)|(apply bC;rfl;rfl;rfl;rfl;rfl;(rw [aJ]; simp only [fX] <;> omega);(exact Cx (by (omega)))))|refine aE ?_|refine aF ?_|refine bQ ?_|fail)
  (refine aR (Le.frzD (d := 4) (i := 1) rfl rfl) ?_; refine aD rfl ?_)
  refine ⟨?_, by exact Pur.pf⟩
  simp only [aO]
  rw [fA (by rw [List.length_set]), hk]
  unfold dZ pP;rw [if_pos hk, if_pos hk]; rfl
 ·have hpl := kX m hm x
  rw [if_neg hk] at hpl
  refine aC Tryz.func252 Tryz.ntmps252 ?_
  repeat' (first|(apply aH;first|(apply fE;rfl;exact gE m hm;rfl;rfl)|(apply aA (k := 276);rfl;exact hpl;exact Pur.pf;rfl))|refine aE ?_|refine aF ?_|(refine aL ?_ ?_ <;> intro hc hq <;> try (exfalso;omega))|fail)
  (refine aR (Le.frzD (d := 4) (i := 1) rfl rfl) ?_; refine aD rfl ?_)
  refine ⟨?_, by exact Pur.pf⟩
  simp only [aO]
  unfold dZ pP;rw [if_neg hk, if_neg hk]
theorem NB {cs : List AV} {i : Nat} {c : AV} : g6 cs i [c] = cs.take i ++ c :: cs.drop (i + 1) := by
 have := zS (cs := cs) (v := i) (c := c)
 rwa [Nat.zero_add, Nat.mul_one] at this
theorem Le.frzCl {ts : List (Nat × AV)} {hs : List (Nat × Option (List AV))} {n : Nat} {z0 : Lo} {j q v m : Nat} {u : List Cl} {r : List Tg} (hj : aT hs j = some (g6 (flat bO u) (0 + v * 4 + 3) [.own q 0 m 2])) (hq : aT hs q = some (flat cH r)) (hm : m = r.length) (hv : v < u.length) (hjq : j ≠ q) :
  Le ⟨ts, hs, n, z0⟩ ⟨ts, (j, some (flat bO (u.set v { u[v]! with stk := r }))) :: (q, none) :: hs, n, z0⟩ := by
 subst hm
 have hl : (flat bO u).length = u.length * 4 := aJ bO u
 have e := Cx (s := r) hv
 rw [NB] at hj e
 have h := Le.frzC (ts := ts) (n := n) (z0 := z0) ((flat bO u).take (0 + v * 4 + 3)) hj hq hjq
 rw [← e]; exact h
theorem vQ {m : List Cl} {x : Pt} {wr : Bool} : (dZ m x wr).length = m.length := by
 unfold dZ;split
 ·rw [List.length_set]
 ·rfl
theorem iG {m : List Cl} {x : Pt} {N : Nat} {Q : Exit → AS → Prop} {all : Array Oper} {rest : List Oper} {tsl : List (Nat × AV)} {hsl : List (Nat × Option (List AV))} {nidl : Nat} {z0 : Lo} {md : Md} {d : Nat} {ty : TypeId} {pos : String} {af : Array Edge} {tys : Array TypeId} {x0 x1 : Operand} (ha0 : ev (lk tsl) x0 = some (sl bO m)) (ha1 : ev (lk tsl) x1 = some (nB x)) (hmc : MC Tryz.prog 271 [sl bO m, nB x] [] 0 (fun _ : Unit => True) (fun _ => .tup [.own 1 0 m.length 4, iv (bF m x true)]) (fun _ => [(1, some (flat bO (dZ m x true)))])) (hM : Nat.ble (nidl + 2) aV = true) (hN : Nat.blt d N = true) {md' : Md} [hmd : MdA md (fK [x0, x1] ++ []) (List.map Sum.inr (List.map Prod.fst ([((nidl + 1), some (flat bO (dZ m x true)))] : List (Nat × Option (List AV)))) ++ [.inl d]) md'] (kk : RW Tryz.prog N all Q md' rest ⟨(d, .tup [.own (nidl + 1) 0 m.length 4, iv (bF m x true)]) :: tsl, gS hsl [((nidl + 1), some (flat bO (dZ m x true)))], nidl + 2, z0⟩) : RW Tryz.prog N all Q md (⟨some d, .call ⟨.value (.func 271), #[x0, x1], tys⟩, ty, pos, af, none⟩ :: rest) ⟨tsl, hsl, nidl, z0⟩ := by
 refine aW [] 2 [((nidl + 1), some (flat bO (dZ m x true)))] hmc (avs := [sl bO m, nB x]) ?_ rfl ?_ rfl ?_ (by simpa using hM) ?_ ?_ ?_ hN (md' := md') (hmd := hmd) kk
 ·show evL (lk tsl) [x0, x1] = _
  simp only [evL, ha0, ha1]
 ·exact trivial
 ·(repeat' (exact RnL.purI inferInstance))
 ·(repeat' (first|exact RnL.purI inferInstance|exact RnV.own rfl|refine RnL.cons ?_ ?_|refine RnV.tup ?_))
 ·simp [cE]
 ·(repeat' (first|exact trivial|(refine And.intro ⟨1, _, rfl, rfl, ?_⟩ ?_)|exact RnL.purI inferInstance))
theorem jO (m : List Cl) (x : Pt) (hm : OkM m) : MC Tryz.prog 271 [sl bO m, nB x] [] 0 (fun _ : Unit => True) (fun _ => .tup [.own 1 0 m.length 4, iv (bF m x true)]) (fun _ => [(1, some (flat bO (dZ m x true)))]) := by
 have hml := hm.l
 have hst : 0 ≤ x.cell → x.cell < m.length → m[x.cell.toNat]!.stk.length ≤ 200 := fun h1 h2 => (((c8 m).1 hm).2 x.cell.toNat (by omega)).l.2
 have hpl := kX m hm x
 by_cases hk : bF m x false = 0
 ·rw [if_pos hk, hk] at hpl
  obtain ⟨h1, h2, h3, h4, _⟩ := dR hk
  have hbd := fC m[x.cell.toNat]!.stk x.tag
  have hs2 := hst h1 h2
  obtain ⟨k, hkk⟩ := Int.eq_ofNat_of_zero_le h4
  rw [hkk] at hpl
  have hkn : k < m[x.cell.toNat]!.stk.length := by omega
  have hkt : (cM m[x.cell.toNat]!.stk x.tag).toNat = k := by omega
  have hwr := yX (m := m) (x := x)
  rw [if_pos hk, hkt] at hwr
  have e1 : List.take (((k : Int) + 1).toNat - 0) (List.drop 0 m[x.cell.toNat]!.stk) = m[x.cell.toNat]!.stk.take (k + 1) := by rw [List.drop_zero]; congr 1
  have e2 : (m[x.cell.toNat]!.stk.take (k + 1)).length = k + 1 := by rw [List.length_take]; omega
  refine aU Tryz.func271 Tryz.ntmps271 ?_
  repeat' (first|(apply aH;first|(apply fE;rfl;exact gE m hm;rfl;rfl)|(apply aA (k := 276);rfl;exact hpl;exact Pur.pf;rfl)|(with_reducible apply aX (d := 46)))|refine aE ?_|refine aF ?_|(refine aL ?_ ?_ <;> intro hc hq <;> try (exfalso;omega))|refine bQ ?_|fail)
  ·have hu : m[x.cell.toNat]!.stk[k]!.uq = false := by assumption
   rw [if_pos hu] at hwr
   (refine aD rfl ?_; refine aP () trivial ?_ ⟨.inr (Eq.trans (b := some _) rfl ?_), trivial⟩)
   ·rw [hwr]; rfl
   ·unfold dZ;rw [if_neg (by rw [hwr]; decide)]
  ·have hu : m[x.cell.toNat]!.stk[k]!.uq = true := by assumption
   rw [if_neg (by rw [hu]; decide)] at hwr
   refine bV ?_
   rw [e1]
   repeat' (first|(apply aH;(with_reducible apply aX (d := 49)))|refine aE ?_|refine aF ?_|fail)
   refine bV (c6 ?_ (Le.frzCl (j := 1) (q := 3) (v := x.cell.toNat) (u := m) (r := m[x.cell.toNat]!.stk.take (k + 1)) rfl rfl (Nat.zero_add _) (by omega) (by decide)))
   repeat' (first|refine aE ?_|refine aF ?_|fail)
   (refine aD rfl ?_; refine aP () trivial ?_ ⟨.inr (Eq.trans (b := some _) rfl ?_), trivial⟩)
   ·rw [hwr]; rfl
   ·unfold dZ uZ gY;rw [if_pos hwr, hkt, if_pos rfl]
 ·rw [if_neg hk] at hpl
  have hk2 : bF m x true = bF m x false := by rw [yX, if_neg hk]
  refine aU Tryz.func271 Tryz.ntmps271 ?_
  repeat' (first|(apply aH;first|(apply fE;rfl;exact gE m hm;rfl;rfl)|(apply aA (k := 276);rfl;exact hpl;exact Pur.pf;rfl))|refine aE ?_|refine aF ?_|(refine aL ?_ ?_ <;> intro hc hq <;> try (exfalso;omega))|fail)
  (refine aD rfl ?_; refine aP () trivial ?_ ⟨.inr (Eq.trans (b := some _) rfl ?_), trivial⟩)
  ·rw [hk2]; rfl
  ·unfold dZ;rw [if_neg (by rw [hk2]; exact hk)]
theorem set_set {α : Type} {l : List α} {i : Nat} {a b : α} : (l.set i a).set i b = l.set i b := by simp
theorem lO {α : Type} [Inhabited α] {l : List α} {i : Nat} {a : α} (h : i < l.length) : (l.set i a)[i]! = a := by rw [bE _ _ (by rw [List.length_set]; exact h), List.getElem_set_self]
theorem yT (m : List Cl) (hm : OkM m) (x : Pt) (v : Int) : PC Tryz.prog 253 [sl bO m, nB x, iv v] (fun r => r = .tup [sl bO (Ax m x v), iv (x6 m x v)]) := by
 have hml := hm.l
 have hlt := vQ (m := m) (x := x) (wr := true)
 have hin := dR (m := m) (x := x) (wr := true)
 by_cases hv : 0 ≤ v ∧ v ≤ 9
 ·have hwk : x6 m x v = bF m x true := by unfold x6; rw [if_pos hv]
  by_cases hk : bF m x true = 0
  ·obtain ⟨h1, h2, _⟩ := hin hk
   refine aC Tryz.func253 Tryz.ntmps253 ?_
   repeat' (first|(apply aH;first|(apply iG;rfl;rfl;exact jO m x hm;rfl;rfl)|(apply bC;rfl;rfl;rfl;rfl;rfl;(rw [aJ]; simp only [fX] <;> omega);(exact NY (by (omega)))))|refine aE ?_|refine aF ?_|(refine aL ?_ ?_ <;> intro hc hq <;> try (exfalso;omega))|(refine bS ?_ ?_ <;> intro hg hq <;> try (exfalso;omega))|fail)
   (refine aR (Le.frzD (d := 6) (i := 2) rfl rfl) ?_; refine aD rfl ?_)
   refine ⟨?_, by exact Pur.pf⟩
   simp only [aO]
   rw [fA (by rw [List.length_set, hlt]), hwk]
   unfold Ax dZ;rw [if_pos hk, if_pos (by rw [hwk]; exact hk), lO (by omega), set_set]
  ·refine aC Tryz.func253 Tryz.ntmps253 ?_
   repeat' (first|(apply aH;(apply iG;rfl;rfl;exact jO m x hm;rfl;rfl))|refine aE ?_|refine aF ?_|(refine aL ?_ ?_ <;> intro hc hq <;> try (exfalso;omega))|(refine bS ?_ ?_ <;> intro hg hq <;> try (exfalso;omega))|fail)
   (refine aR (Le.frzD (d := 6) (i := 2) rfl rfl) ?_; refine aD rfl ?_)
   refine ⟨?_, by exact Pur.pf⟩
   simp only [aO]
   rw [fA (by rw [hlt]), hwk]
   unfold Ax dZ;rw [if_neg hk, if_neg (by rw [hwk]; exact hk)]
 ·have hwk : x6 m x v = 4 := by unfold x6; rw [if_neg hv]
  have e : Ax m x v = m := by unfold Ax;rw [if_neg (by rw [hwk]; decide)]
  refine aC Tryz.func253 Tryz.ntmps253 ?_
  repeat' (first|(apply aH;(apply fE;rfl;exact gE m hm;rfl;rfl))|refine aE ?_|refine aF ?_|(refine aL ?_ ?_ <;> intro hc hq <;> try (exfalso;omega))|(refine bS ?_ ?_ <;> intro hg hq <;> try (exfalso;omega))|fail)
  all_goals (try (exfalso;omega))
  all_goals (
   (refine aR (Le.frzD (d := 6) (i := 1) rfl rfl) ?_; refine aD rfl ?_)
   refine ⟨?_, by exact Pur.pf⟩
   simp only [aO]
   rw [e, hwk])
theorem mY (m : List Cl) (hm : OkM m) (x : Pt) : PC Tryz.prog 245 [sl bO m, nB x] (fun r => r = .tup [sl bO (lV m x), iv (bF m x true)]) := by
 have hml := hm.l
 have hlt := vQ (m := m) (x := x) (wr := true)
 have hin := dR (m := m) (x := x) (wr := true)
 by_cases hk : bF m x true = 0
 ·obtain ⟨h1, h2, _⟩ := hin hk
  refine aC Tryz.func245 Tryz.ntmps245 ?_
  repeat' (first|(apply aH;first|(apply iG;rfl;rfl;exact jO m x hm;rfl;rfl)|(apply bC;rfl;rfl;rfl;rfl;rfl;(rw [aJ]; simp only [fX] <;> omega);(exact N5 (by (omega)))))|refine aE ?_|refine aF ?_|(refine aL ?_ ?_ <;> intro hc hq <;> try (exfalso;omega))|fail)
  (refine aR (Le.frzD (d := 4) (i := 2) rfl rfl) ?_; refine aD rfl ?_)
  refine ⟨?_, by exact Pur.pf⟩
  simp only [aO]
  rw [fA (by rw [List.length_set, hlt])]
  unfold lV dZ;rw [if_pos hk, if_pos hk, lO (by omega), set_set]
 ·refine aC Tryz.func245 Tryz.ntmps245 ?_
  repeat' (first|(apply aH;(apply iG;rfl;rfl;exact jO m x hm;rfl;rfl))|refine aE ?_|refine aF ?_|(refine aL ?_ ?_ <;> intro hc hq <;> try (exfalso;omega))|fail)
  (refine aR (Le.frzD (d := 4) (i := 2) rfl rfl) ?_; refine aD rfl ?_)
  refine ⟨?_, by exact Pur.pf⟩
  simp only [aO]
  rw [fA (by rw [hlt])]
  unfold lV dZ;rw [if_neg hk, if_neg hk]
theorem Ch (m : List Cl) (hm : OkM m) (v : Int) : PC Tryz.prog 249 [sl bO m, iv v] (fun r => r = .tup (if 0 ≤ v ∧ v ≤ 9 ∧ m.length < 200 then [sl bO (m ++ [vY v]), .agg [iv m.length, iv 0], bv true] else [sl bO [], .agg [iv 0, iv 0], bv false])) := by
 have hml := hm.l
 have hcv := n4 m (by omega)
 rw [decide_eq_true hm] at hcv
 refine aC Tryz.func249 Tryz.ntmps249 ?_
 repeat' (first|(apply aH;first|(apply fE;rfl;exact gE m hm;rfl;rfl)|(apply aA (k := 272);rfl;exact hcv;exact Pur.pf;rfl)|(apply aK (t := _);rfl;rfl;rfl;(first|exact (rfl:_=some [_, _])|exact (rfl:_=some [_, _, _, _])|rfl);rfl;rfl))|refine aE ?_|refine aF ?_|(refine aL ?_ ?_ <;> intro hc hq <;> try (exfalso;omega))|(refine bS ?_ ?_ <;> intro hg hq <;> try (exfalso;omega))|fail)
 all_goals try exact aD (l := [sl bO [], .agg [iv 0, iv 0], bv false]) rfl ⟨by rw [if_neg (by omega)]; rfl, rfl⟩
 have e : ((flat bO m).drop 0).take (m.length * 4) ++ [iv v, bv true, iv 1, .imm 1 [iv 0, bv true]] = flat bO (m ++ [vY v]) := eI rfl rfl
 have e2 : AV.imm (m.length + 1) (((flat bO m).drop 0).take (m.length * 4) ++ [iv v, bv true, iv 1, .imm 1 [iv 0, bv true]]) = sl bO (m ++ [vY v]) := by
  rw [e]; exact fA (by rw [List.length_append]; rfl)
 refine aR (Le.frzD (d := 4) (i := 4) rfl rfl) ?_
 refine aD (l := [AV.imm (m.length + 1) (((flat bO m).drop 0).take (m.length * 4) ++ [iv v, bv true, iv 1, .imm 1 [iv 0, bv true]]), .agg [iv m.length, iv 0], bv true]) rfl ?_
 rw [e2, if_pos (by omega)]
 exact ⟨rfl, by exact Pur.pf⟩
def oH (m : List Cl) (j : Nat) (r : List Tg) : Prop := r.length = 200 ∨ m[j]!.next = 1000
instance (m : List Cl) (j : Nat) (r : List Tg) : Decidable (oH m j r) := by unfold oH; infer_instance
def jX (m b : List Cl) (j : Nat) (u : Bool) (r : List Tg) : List Cl := if oH m j r then b else m.set j (psh { m[j]! with stk := r } u)
def jW (m : List Cl) (j : Nat) (r : List Tg) : Pt := if oH m j r then ⟨0, 0⟩ else ⟨j, m[j]!.next⟩
def jY (m : List Cl) (j : Nat) (r : List Tg) : Int := if oH m j r then 4 else 0
theorem xC {m b : List Cl} {j : Nat} {u : Bool} {r : List Tg} {n k : Nat} {N : Nat} {Q : Exit → AS → Prop} {all : Array Oper} {rest : List Oper} {tsl : List (Nat × AV)} {hsl : List (Nat × Option (List AV))} {nidl : Nat} {z0 : Lo} {md : Md} {d : Nat} {ty : TypeId} {pos : String} {af : Array Edge} {tys : Array TypeId} {x0 x1 x2 x3 : Operand} {i0 i1 : Nat} (ha0 : ev (lk tsl) x0 = some (.own i0 0 n 4)) (ha1 : ev (lk tsl) x1 = some (sl bO b)) (ha2 : ev (lk tsl) x2 = some (iv (j : Int))) (ha3 : ev (lk tsl) x3 = some (bv u)) (hH0 : aT hsl i0 = some (flat fD (dG m j (.own i1 0 k 2)))) (hH1 : aT hsl i1 = some (flat cH r)) (hdd : Go.AL.distinct [i0, i1] = true) (hmc : MC Tryz.prog 283 [.own 0 0 n 4, sl bO b, iv (j : Int), bv u] [(0, some (flat fD (dG m j (.own 1 0 k 2)))), (1, some (flat cH r))] 2 (fun _ : Unit => True) (fun _ => .tup [sl bO (jX m b j u r), nB (jW m j r), iv (jY m j r)]) (fun _ => [])) (hM : Nat.ble (nidl + 0) aV = true) (hN : Nat.blt d N = true) {md' : Md} [hmd : MdA md (fK [x0, x1, x2, x3] ++ [.inr i0, .inr i1]) (List.map Sum.inr (List.map Prod.fst ([(i0, none), (i1, none)] : List (Nat × Option (List AV)))) ++ [.inl d]) md'] (kk : RW Tryz.prog N all Q md' rest ⟨(d, .tup [sl bO (jX m b j u r), nB (jW m j r), iv (jY m j r)]) :: tsl, gS hsl [(i0, none), (i1, none)], nidl + 0, z0⟩) : RW Tryz.prog N all Q md (⟨some d, .call ⟨.value (.func 283), #[x0, x1, x2, x3], tys⟩, ty, pos, af, none⟩ :: rest) ⟨tsl, hsl, nidl, z0⟩ := by
 refine aW [i0, i1] 2 [(i0, none), (i1, none)] hmc (avs := [.own i0 0 n 4, sl bO b, iv (j : Int), bv u]) ?_ hdd ?_ rfl ?_ (by simpa using hM) ?_ ?_ ?_ hN (md' := md') (hmd := hmd) kk
 ·show evL (lk tsl) [x0, x1, x2, x3] = _
  simp only [evL, ha0, ha1, ha2, ha3]
 ·exact ⟨⟨_, _, rfl, hH0, by (repeat' (exact kE rfl))⟩, ⟨⟨_, _, rfl, hH1, by (repeat' (exact RnL.purI inferInstance))⟩, trivial⟩⟩
 ·(repeat' (first|exact RnL.purI inferInstance|exact RnV.own rfl|refine RnL.cons ?_ ?_))
 ·(repeat' (exact RnV.purI inferInstance))
 ·simp [cE]
 ·(repeat' (exact trivial))
theorem Ay (m b : List Cl) (j : Nat) (u : Bool) (r : List Tg) (n k : Nat) (hb : OkM b) (hn : n = m.length) (hk : k = r.length) (hj : j < m.length) (hnx : 0 ≤ m[j]!.next ∧ m[j]!.next ≤ 1000) (hr : r.length ≤ 200) (hml : m.length ≤ 200) : MC Tryz.prog 283 [.own 0 0 n 4, sl bO b, iv (j : Int), bv u] [(0, some (flat fD (dG m j (.own 1 0 k 2)))), (1, some (flat cH r))] 2 (fun _ : Unit => True) (fun _ => .tup [sl bO (jX m b j u r), nB (jW m j r), iv (jY m j r)]) (fun _ => []) := by
 have hol := dB (m := m) (j := j) (X := .own 1 0 k 2)
 have hog := iC (m := m) (j := j) (X := .own 1 0 k 2) hj
 have hol2 := dB (m := m) (j := j) (X := .own (2 + 1 + 1 + 1) 0 (r.length + 1) 2)
 subst hn hk
 refine aU Tryz.func283 Tryz.ntmps283 ?_
 repeat' (first|(apply aH;(with_reducible apply aX (d := 11)))|refine aE ?_|refine aF ?_|fail)
 refine bV ?_
 rw [hog]
 dsimp only
 repeat' (first|(apply aH;first|(apply aA (k := 273);rfl;exact Hj b hb;exact Pur.pf;rfl)|(apply bW;rfl;rfl;rfl;rfl;rfl;(rw [aJ]; omega);(rfl);omega;omega;(exact tC (by (omega)));rfl;rfl)|(apply bC;rfl;rfl;rfl;rfl;rfl;(case hl => (first|decide|(rw [aJ]; simp only [fX] <;> omega)|(simp;done)));(first|exact vA (by (assumption))|exact yB (by (assumption))))|(apply aK (t := _);rfl;rfl;rfl;(exact (rfl:_=some [_, _]));rfl;rfl))|refine aE ?_|refine aF ?_|(refine aL ?_ ?_ <;> intro hc hq <;> try (exfalso;omega))|(refine bS ?_ ?_ <;> intro hg hq <;> try (exfalso;omega))|fail)
 ·have hf : oH m j r := .inr (by assumption)
  refine aD (l := [sl bO b, .agg [iv 0, iv 0], iv 4]) rfl ?_
  refine aP () trivial ?_ trivial
  unfold jX jW jY;rw [if_pos hf, if_pos hf, if_pos hf]; rfl
 ·have hf : ¬ oH m j r := by unfold oH; omega
  have hm2 : (m.set j { m[j]! with next := m[j]!.next + 1 }).length = m.length := List.length_set
  refine aR (Le.cls (o := 0) (q := 5) (j := j) (k := r.length + 1) (m := m.set j { m[j]! with next := m[j]!.next + 1 }) (r := r ++ [⟨m[j]!.next, u⟩]) rfl rfl (by rw [List.length_append]; rfl) (by omega) (by decide)) ?_
  refine aR (Le.frzD (d := 8) (i := 0) rfl rfl) ?_
  have e : (m.set j { m[j]! with next := m[j]!.next + 1 }).set j { (m.set j { m[j]! with next := m[j]!.next + 1 })[j]! with stk := r ++ [⟨m[j]!.next, u⟩] } = m.set j (psh { m[j]! with stk := r } u) := by
   rw [lO hj, set_set]; rfl
  rw [e]
  refine aD (l := [.imm m.length (flat bO (m.set j (psh { m[j]! with stk := r } u))), .agg [iv (j : Int), iv m[j]!.next], iv 0]) rfl ?_
  refine aP () trivial ?_ trivial
  unfold jX jW jY;rw [if_neg hf, if_neg hf, if_neg hf, fA (by rw [List.length_set])]; rfl
 ·have hf : oH m j r := .inl (by omega)
  refine aD (l := [sl bO b, .agg [iv 0, iv 0], iv 4]) rfl ?_
  refine aP () trivial ?_ trivial
  unfold jX jW jY;rw [if_pos hf, if_pos hf, if_pos hf]; rfl
end Go.Proofs.YtahdccneecdmmaaGreat
