/-
 A part of the proofs over this program: rules and contracts of its functions (the contracts).
-/
import Derived.Test.YtckihjkcgfphmaaGreatP4B02
set_option linter.unusedVariables false
set_option linter.unusedSimpArgs false
set_option maxHeartbeats 8000000
set_option maxRecDepth 4000
attribute [local irreducible] Go.AL.RW Go.AL.AW Go.AL.Stop
namespace Go.Proofs.YtckihjkcgfphmaaGreat
open Go.AL Go.RowKit
abbrev fN (bs : List UInt8) (p : Nat) : List AV := [sl cU bs, iv (p : Int)]
def JA (bs : List UInt8) (q : Int) : Int := ((bs[(q % (bs.length : Int)).toNat]!).toNat : Int) * 131 + ((bs[((q * 7 + 3) % (bs.length : Int)).toNat]!).toNat : Int) * 1117 + q * 29 + q / (bs.length : Int) * 53
def cX (bs : List UInt8) (p : Nat) (n : Int) : Int :=
 if n < 1 then 0 else if (bs.length : Int) = 0 then 0 else
 if (p : Int) + 1 - 1 < (bs.length : Int) then ((bs[((p : Int) + 1 - 1).toNat]!).toNat : Int) % n
 else (((JA bs ((p : Int) + 1 - 1)).toNat ^^^ (JA bs ((p : Int) + 1 - 1) / 64).toNat : Nat) : Int) % n
theorem gH (bs : List UInt8) (p : Nat) (n : Int) : 0 ≤ cX bs p n ∧ (cX bs p n < n ∨ n < 1 ∧ cX bs p n = 0) := by
 unfold cX
 split
 ·omega
 ·split
  ·omega
  ·split
   ·exact ⟨Int.emod_nonneg _ (by omega), .inl (Int.emod_lt_of_pos _ (by omega))⟩
   ·exact ⟨Int.emod_nonneg _ (by omega), .inl (Int.emod_lt_of_pos _ (by omega))⟩
def jE (bs : List UInt8) (p : Nat) (xs : List Int) : Int := xs[(cX bs p (xs.length : Int)).toNat]!
class NumL (cs : List AV) (xs : outParam (List Int)) : Prop where h : cs = aI cI xs
instance NumL.nil : NumL [] [] := ⟨rfl⟩
instance NumL.cons {n : Int} {cs : List AV} {xs : List Int} [h : NumL cs xs] : NumL (.v (.int .i64 n) :: cs) (n :: xs) := ⟨by rw [h.h]; rfl⟩
theorem m5 {bs : List UInt8} {p : Nat} {n : Int} {N : Nat} {Q : Exit → AS → Prop} {all : Array Oper} {rest : List Oper} {tsl : List (Nat × AV)} {hsl : List (Nat × Option (List AV))} {nidl : Nat} {z0 : Lo} {md : Md} {d : Nat} {ty : TypeId} {pos : String} {af : Array Edge} {tys : Array TypeId} {x0 x1 : Operand} {i0 : Nat} (ha0 : ev (lk tsl) x0 = some (.optr i0 0)) (ha1 : ev (lk tsl) x1 = some (iv n)) (hH0 : cK hsl i0 = some (fN bs p)) (hmc : MC Tryz.prog 110 [.optr 0 0, iv n] [(0, some (fN bs p))] 1 (fun _ : Unit => True) (fun _ => iv (cX bs p n)) (fun _ => [(0, some (fN bs (p + 1)))])) (hM : Nat.ble (nidl + 0) eR = true) (hN : Nat.blt d N = true) {md' : Md} [hmd : MdA md (gL [x0, x1] ++ [.inr i0]) (List.map Sum.inr (List.map Prod.fst ([(i0, some (fN bs (p + 1)))] : List (Nat × Option (List AV)))) ++ [.inl d]) md'] (kk : RW Tryz.prog N all Q md' rest ⟨(d, iv (cX bs p n)) :: tsl, iF hsl [(i0, some (fN bs (p + 1)))], nidl + 0, z0⟩) : RW Tryz.prog N all Q md (⟨some d, .call ⟨.value (.func 110), #[x0, x1], tys⟩, ty, pos, af, none⟩ :: rest) ⟨tsl, hsl, nidl, z0⟩ := by
 refine cB [i0] 1 [(i0, some (fN bs (p + 1)))] hmc (avs := [.optr i0 0, iv n]) ?_ rfl ?_ rfl ?_ (by simpa using hM) ?_ ?_ ?_ hN (md' := md') (hmd := hmd) kk
 ·show evL (lk tsl) [x0, x1] = _
  simp only [evL, ha0, ha1]
 ·exact ⟨⟨_, _, rfl, hH0, by (repeat' (exact RnL.purI inferInstance))⟩, trivial⟩
 ·(repeat' (first|exact RnL.purI inferInstance|exact RnV.optr rfl|refine RnL.cons ?_ ?_))
 ·(repeat' (exact RnV.purI inferInstance))
 ·simp [dI]
 ·(repeat' (first|exact trivial|(refine And.intro ⟨0, _, rfl, rfl, ?_⟩ ?_)|exact RnL.purI inferInstance))
theorem HF {bs : List UInt8} {p : Nat} {xs : List Int} {N : Nat} {Q : Exit → AS → Prop} {all : Array Oper} {rest : List Oper} {tsl : List (Nat × AV)} {hsl : List (Nat × Option (List AV))} {nidl : Nat} {z0 : Lo} {md : Md} {d : Nat} {ty : TypeId} {pos : String} {af : Array Edge} {tys : Array TypeId} {x0 x1 : Operand} {i0 : Nat} (ha0 : ev (lk tsl) x0 = some (.optr i0 0)) (ha1 : ev (lk tsl) x1 = some (sl cI xs)) (hH0 : cK hsl i0 = some (fN bs p)) (hmc : MC Tryz.prog 83 [.optr 0 0, sl cI xs] [(0, some (fN bs p))] 1 (fun _ : Unit => True) (fun _ => iv (jE bs p xs)) (fun _ => [(0, some (fN bs (p + 1)))])) (hM : Nat.ble (nidl + 0) eR = true) (hN : Nat.blt d N = true) {md' : Md} [hmd : MdA md (gL [x0, x1] ++ [.inr i0]) (List.map Sum.inr (List.map Prod.fst ([(i0, some (fN bs (p + 1)))] : List (Nat × Option (List AV)))) ++ [.inl d]) md'] (kk : RW Tryz.prog N all Q md' rest ⟨(d, iv (jE bs p xs)) :: tsl, iF hsl [(i0, some (fN bs (p + 1)))], nidl + 0, z0⟩) : RW Tryz.prog N all Q md (⟨some d, .call ⟨.value (.func 83), #[x0, x1], tys⟩, ty, pos, af, none⟩ :: rest) ⟨tsl, hsl, nidl, z0⟩ := by
 refine cB [i0] 1 [(i0, some (fN bs (p + 1)))] hmc (avs := [.optr i0 0, sl cI xs]) ?_ rfl ?_ rfl ?_ (by simpa using hM) ?_ ?_ ?_ hN (md' := md') (hmd := hmd) kk
 ·show evL (lk tsl) [x0, x1] = _
  simp only [evL, ha0, ha1]
 ·exact ⟨⟨_, _, rfl, hH0, by (repeat' (exact RnL.purI inferInstance))⟩, trivial⟩
 ·(repeat' (first|exact RnL.purI inferInstance|exact RnV.optr rfl|refine RnL.cons ?_ ?_))
 ·(repeat' (exact RnV.purI inferInstance))
 ·simp [dI]
 ·(repeat' (first|exact trivial|(refine And.intro ⟨0, _, rfl, rfl, ?_⟩ ?_)|exact RnL.purI inferInstance))
theorem E8 {bs : List UInt8} {p : Nat} {xs : List Int} {N : Nat} {Q : Exit → AS → Prop} {all : Array Oper} {rest : List Oper} {tsl : List (Nat × AV)} {hsl : List (Nat × Option (List AV))} {nidl : Nat} {z0 : Lo} {md : Md} {d : Nat} {ty : TypeId} {pos : String} {af : Array Edge} {tys : Array TypeId} {x0 x1 : Operand} {i0 i1 : Nat} (ha0 : ev (lk tsl) x0 = some (.optr i0 0)) (ha1 : ev (lk tsl) x1 = some (.own i1 0 xs.length 1)) (hH0 : cK hsl i0 = some (fN bs p)) (hH1 : cK hsl i1 = some (aI cI xs)) (hdd : Go.AL.distinct [i0, i1] = true) (hmc : MC Tryz.prog 83 [.optr 0 0, .own 1 0 xs.length 1] [(0, some (fN bs p)), (1, some (aI cI xs))] 2 (fun _ : Unit => True) (fun _ => iv (jE bs p xs)) (fun _ => [(0, some (fN bs (p + 1)))])) (hM : Nat.ble (nidl + 0) eR = true) (hN : Nat.blt d N = true) {md' : Md} [hmd : MdA md (gL [x0, x1] ++ [.inr i0, .inr i1]) (List.map Sum.inr (List.map Prod.fst ([(i0, some (fN bs (p + 1))), (i1, none)] : List (Nat × Option (List AV)))) ++ [.inl d]) md'] (kk : RW Tryz.prog N all Q md' rest ⟨(d, iv (jE bs p xs)) :: tsl, iF hsl [(i0, some (fN bs (p + 1))), (i1, none)], nidl + 0, z0⟩) : RW Tryz.prog N all Q md (⟨some d, .call ⟨.value (.func 83), #[x0, x1], tys⟩, ty, pos, af, none⟩ :: rest) ⟨tsl, hsl, nidl, z0⟩ := by
 refine cB [i0, i1] 2 [(i0, some (fN bs (p + 1))), (i1, none)] hmc (avs := [.optr i0 0, .own i1 0 xs.length 1]) ?_ hdd ?_ rfl ?_ (by simpa using hM) ?_ ?_ ?_ hN (md' := md') (hmd := hmd) kk
 ·show evL (lk tsl) [x0, x1] = _
  simp only [evL, ha0, ha1]
 ·exact ⟨⟨_, _, rfl, hH0, by (repeat' (exact RnL.purI inferInstance))⟩, ⟨⟨_, _, rfl, hH1, by (repeat' (exact RnL.purI inferInstance))⟩, trivial⟩⟩
 ·(repeat' (first|exact RnL.purI inferInstance|exact RnV.own rfl|exact RnV.optr rfl|refine RnL.cons ?_ ?_))
 ·(repeat' (exact RnV.purI inferInstance))
 ·simp [dI]
 ·(repeat' (first|exact trivial|(refine And.intro ⟨0, _, rfl, rfl, ?_⟩ ?_)|exact RnL.purI inferInstance))
theorem pV (bs : List UInt8) (p : Nat) (n : Int) (hb : bs.length ≤ 2000) (hp : p ≤ 1000000) (hn0 : 0 ≤ n) (hn : n ≤ 1000000) : MC Tryz.prog 110 [.optr 0 0, iv n] [(0, some (fN bs p))] 1 (fun _ : Unit => True) (fun _ => iv (cX bs p n)) (fun _ => [(0, some (fN bs (p + 1)))]) := by
 have hdiv : 0 ≤ ((p : Int) + 1 - 1) / (bs.length : Int) ∧ ((p : Int) + 1 - 1) / (bs.length : Int) ≤ p + 1 - 1 := ⟨Int.ediv_nonneg (by omega) (by omega), Int.ediv_le_self _ (by omega)⟩
 (refine bX Tryz.func110 rfl (by simp [Tryz.ntmps110]) ?_; rw [Tryz.ntmps110])
 repeat' (first|(apply aK;first|(apply aE;rfl;rfl)|(apply aN;rfl;rfl;rfl;rfl)|(apply aD;rfl;rfl;rfl)|(first|(apply a6;rfl;rfl;rfl;(assumption))|(apply bB;rfl;rfl;rfl;(assumption))|(apply bR;(case hj|hb|hN => rfl);all_goals (intro hg;have hq := hg;(try simp only [cH] at hq);(try (exfalso;omega)))))|(first|(apply bS;rfl;rfl;omega;rfl)|(apply hU;rfl;rfl;omega;rfl)|(apply KW;rfl;rfl;omega;omega;rfl)|(apply KJ;rfl;rfl;omega;rfl)|(apply Gh;rfl;rfl;omega;rfl)|(apply Fz;rfl;rfl;omega;rfl)|(apply aU;rfl;rfl;rfl;rfl))|(apply aC;rfl;rfl)|(first|(apply bU;rfl;(assumption);rfl;rfl)|(apply bG;rfl;(assumption);rfl;rfl))|(apply cP;(case hx|hi => rfl);(case hm => (first|omega|exact ⟨Int.emod_nonneg _ (by omega), Int.emod_lt_of_pos _ (by omega)⟩));(case hml => (rfl));(case hα | hf|hg => infer_instance);(case hN => rfl))|(apply bQ;rfl;rfl;rfl)|(apply aF;kernel_rfl)|(apply FP;rfl;rfl;(case' kk => intro hbd))|(apply b8;rfl;rfl;rfl)|(apply aW;rfl;rfl;rfl;rfl;rfl;(case hl => (simp;done));(exact (rfl:_=[_, _]))))|(apply aL;first|apply aH|apply aB|(apply b9;kernel_rfl)|(apply bZ;rfl;(rfl))|(apply aP;rfl;all_goals intro hc;have hq:=hc;(try simp only [cH] at hq);try exfalso;omega)|apply aT|apply aQ)|with_reducible apply aA|with_reducible apply bE)
 all_goals (refine aO rfl ?_; refine bV () trivial ?_ ⟨.inr (Eq.trans (b := some _) rfl ?_), trivial⟩)
 all_goals first|rfl|skip
 all_goals simp only [bW, AV.v.injEq, Value.int.injEq, true_and, cX]
 ·rw [if_neg (by omega), if_pos (by omega)]
 ·rw [if_neg (by omega), if_neg (by omega), if_pos (by omega)]
 ·rw [if_neg (by omega), if_neg (by omega), if_neg (by omega)]; rfl
 ·rw [if_pos (by omega)]
theorem KP (bs : List UInt8) (p : Nat) (xs : List Int) (hb : bs.length ≤ 2000) (hp : p ≤ 1000000) (h0 : 0 < xs.length) (hn : xs.length ≤ 1000000) : MC Tryz.prog 83 [.optr 0 0, sl cI xs] [(0, some (fN bs p))] 1 (fun _ : Unit => True) (fun _ => iv (jE bs p xs)) (fun _ => [(0, some (fN bs (p + 1)))]) := by
 have hpf := gH bs p xs.length
 (refine bX Tryz.func83 rfl (by simp [Tryz.ntmps83]) ?_; rw [Tryz.ntmps83])
 repeat' (first|(apply aK;first|(apply aE;rfl;rfl)|(apply aN;rfl;rfl;rfl;rfl)|(apply aC;rfl;rfl)|(apply cP;(case hx|hi => rfl);(case hm => (omega));(case hml => (rfl));(case hα | hf|hg => infer_instance);(case hN => rfl))|(apply m5;rfl;rfl;(rfl);(apply pV <;> (first|assumption|omega));rfl;rfl)|(apply bQ;rfl;rfl;rfl)|(apply aF;kernel_rfl))|(apply aL;first|apply aH|apply aB|apply aQ)|with_reducible apply aA)
 (refine aO rfl ?_; refine bV () trivial ?_ ⟨.inr (Eq.trans (b := some _) rfl ?_), trivial⟩)
 ·rfl
 ·rfl
theorem JE {Q : Exit → AS → Prop} {all : Array Oper} {rest : List Oper} {N : Nat} {tsl : List (Nat × AV)} {hsl : List (Nat × Option (List AV))} {nidl : Nat} {z0 : Lo} {md : Md} {d : Nat} {ty : TypeId} {pos : String} {af : Array Edge} {tys : Array TypeId}
  {bs : List UInt8} {p m : Nat} {cs : List AV} {xs : List Int} {x0 x1 : Operand} {i0 : Nat} (ha0 : ev (lk tsl) x0 = some (.optr i0 0)) (ha1 : ev (lk tsl) x1 = some (.imm m cs)) (hcs : NumL cs xs) (hH0 : cK hsl i0 = some (fN bs p))
  (hm : m = xs.length) (hb : bs.length ≤ 2000) (hp : p ≤ 1000000) (h0 : 0 < xs.length) (hn : xs.length ≤ 1000000) (hM : Nat.ble (nidl + 0) eR = true) (hN : Nat.blt d N = true) {md' : Md}
  [hmd : MdA md (gL [x0, x1] ++ [.inr i0]) [.inr i0, .inl d] md']
  (kk : RW Tryz.prog N all Q md' rest ⟨(d, iv (jE bs p xs)) :: tsl, (i0, some (fN bs (p + 1))) :: hsl, nidl + 0, z0⟩) : RW Tryz.prog N all Q md (⟨some d, .call ⟨.value (.func 83), #[x0, x1], tys⟩, ty, pos, af, none⟩ :: rest) ⟨tsl, hsl, nidl, z0⟩ := by
 have h := hcs.h
 subst hm h
 exact HF ha0 ha1 hH0 (KP bs p xs hb hp h0 hn) hM hN (hmd := hmd) kk
theorem I0 (bs : List UInt8) (p : Nat) (xs : List Int) (hb : bs.length ≤ 2000) (hp : p ≤ 1000000) (h0 : 0 < xs.length) (hn : xs.length ≤ 1000000) : MC Tryz.prog 83 [.optr 0 0, .own 1 0 xs.length 1] [(0, some (fN bs p)), (1, some (aI cI xs))] 2 (fun _ : Unit => True) (fun _ => iv (jE bs p xs)) (fun _ => [(0, some (fN bs (p + 1)))]) := by
 have hpf := gH bs p xs.length
 (refine bX Tryz.func83 rfl (by simp [Tryz.ntmps83]) ?_; rw [Tryz.ntmps83])
 repeat' (first|(apply aK;first|(apply aE;rfl;rfl)|(apply eZ;(case hx|hH => rfl);(case hf|hg|hα => infer_instance);(case hk => omega);(case hc|hN => rfl))|(apply aC;rfl;rfl)|(apply cQ;rfl;rfl;(omega);rfl)|(apply m5;rfl;rfl;(rfl);(apply pV <;> (first|assumption|omega));rfl;rfl)|(apply bQ;rfl;rfl;rfl)|(apply aF;kernel_rfl))|(apply aL;first|apply aH|apply aB|apply aQ)|with_reducible apply aA)
 (refine aO rfl ?_; refine bV () trivial ?_ ⟨.inr (Eq.trans (b := some _) rfl ?_), trivial⟩)
 ·rfl
 ·rfl
theorem xU {Q : Exit → AS → Prop} {all : Array Oper} {rest : List Oper} {N : Nat} {tsl : List (Nat × AV)} {hsl : List (Nat × Option (List AV))} {nidl : Nat} {z0 : Lo} {md : Md} {d : Nat} {ty : TypeId} {pos : String} {af : Array Edge} {tys : Array TypeId}
  {bs : List UInt8} {p m : Nat} {cs : List AV} {xs : List Int} {x0 x1 : Operand} {i0 i1 : Nat} (ha0 : ev (lk tsl) x0 = some (.optr i0 0)) (ha1 : ev (lk tsl) x1 = some (.own i1 0 m 1)) (hH0 : cK hsl i0 = some (fN bs p)) (hH1 : cK hsl i1 = some cs) (hcs : NumL cs xs)
  (hdd : Go.AL.distinct [i0, i1] = true) (hm : m = xs.length) (hb : bs.length ≤ 2000) (hp : p ≤ 1000000) (h0 : 0 < xs.length) (hn : xs.length ≤ 1000000) (hM : Nat.ble (nidl + 0) eR = true) (hN : Nat.blt d N = true) {md' : Md}
  [hmd : MdA md (gL [x0, x1] ++ [.inr i0, .inr i1]) [.inr i0, .inr i1, .inl d] md']
  (kk : RW Tryz.prog N all Q md' rest ⟨(d, iv (jE bs p xs)) :: tsl, iF hsl [(i0, some (fN bs (p + 1))), (i1, none)], nidl + 0, z0⟩) : RW Tryz.prog N all Q md (⟨some d, .call ⟨.value (.func 83), #[x0, x1], tys⟩, ty, pos, af, none⟩ :: rest) ⟨tsl, hsl, nidl, z0⟩ := by
 have h := hcs.h
 subst hm h
 exact E8 ha0 ha1 hH0 hH1 hdd (I0 bs p xs hb hp h0 hn) hM hN (hmd := hmd) kk
theorem KS (bs : List UInt8) (hb : bs.length ≤ 1048576) : MC Tryz.prog 79 [sl cU bs] [] 0 (fun _ : Unit => True) (fun _ => .optr 0 0) (fun _ => [(0, some (fN (bs.take 2000) 0))]) := by
 (refine bX Tryz.func79 rfl (by simp [Tryz.ntmps79]) ?_; rw [Tryz.ntmps79])
 repeat' (first|(apply aK;first|(apply aE;rfl;rfl)|(apply aU;rfl;rfl;rfl;rfl)|(apply aC;rfl;rfl)|(apply bQ;rfl;rfl;rfl)|(apply aF;kernel_rfl)|(apply cC;rfl;(exact (rfl:_=some [_, _]));(exact (rfl:_=[_, _]));rfl)|(apply jP;rfl;infer_instance;rfl;rfl;(omega);rfl)|(apply bH;rfl;rfl;rfl;rfl))|(apply aL;first|apply aH|apply aB|(apply aP;rfl;all_goals intro hc;have hq:=hc;(try simp only [cH] at hq);try exfalso;omega)|apply aT|apply aQ)|with_reducible apply aA)
 ·(refine aO rfl ?_; refine bV () trivial ?_ ⟨.inr (Eq.trans (b := some _) rfl ?_), trivial⟩)
  ·rfl
  ·rfl
 ·(refine aO rfl ?_; refine bV () trivial ?_ ⟨.inr (Eq.trans (b := some _) rfl ?_), trivial⟩)
  ·rfl
  ·rw [List.take_of_length_le (by omega)]; rfl
def st (op x y n : Int) : AL.Stmt := .mk op x y n [] []
def kG (bs : List UInt8) (p : Nat) : AL.Stmt × Nat :=
 let box := 1 + cX bs p 2
 let owner := jE bs (p + 1) [1, 2, 1, 4, 5]
 let c := cX bs (p + 1 + 1) 11
 if c = 0 then (st 1 0 0 (cX bs (p + 1 + 1 + 1) 10), p + 4)
 else if c = 1 then (st 2 box 0 (cX bs (p + 1 + 1 + 1) 10), p + 4)
 else if c = 2 then (st 3 box (3 - box) 0, p + 3)
 else if c = 3 then (st 4 3 owner 0, p + 3)
 else if c = 4 ∨ c = 5 then (st 5 4 (jE bs (p + 1 + 1 + 1) [1, 2, 1, 5]) 0, p + 4)
 else if c = 6 then (st 6 0 (jE bs (p + 1 + 1 + 1) [3, 4, 1, 2, 5]) 0, p + 4)
 else if c = 7 then (st 7 (jE bs (p + 1 + 1 + 1) [4, 1, 2, 5]) 0 0, p + 4)
 else if c = 8 then (st 8 box 0 0, p + 3)
 else (st 5 5 (jE bs (p + 1 + 1 + 1) [4, 1, 2]) 0, p + 4)
def iQ (one : Nat → AL.Stmt × Nat) (s : AL.Stmt) (p : Nat) : Nat → List AL.Stmt × Nat
 | 0 => ([s], p)
 | k + 1 => ((iQ one s p k).1 ++ [(one (iQ one s p k).2).1], (one (iQ one s p k).2).2)
def uZ (bs : List UInt8) : Nat → Nat → AL.Stmt × Nat
 | 0, p => kG bs p
 | d + 1, p =>
  let c := cX bs (p + 1 + 1) 11
  if c = 9 then
   let r := iQ (uZ bs d) (st 2 1 0 (cX bs (p + 1 + 1 + 1 + 1) 10)) (p + 1 + 1 + 1 + 1 + 1) (cX bs (p + 1 + 1 + 1) 3).toNat
   let e := kG bs r.2
   (.mk 9 0 0 0 r.1 [e.1], e.2)
  else if c = 10 then
   let a := kG bs (p + 1 + 1 + 1)
   let b := kG bs a.2
   (.mk 10 0 0 0 [a.1, b.1] [], b.2)
  else kG bs p
def fM (bs : List UInt8) (d : Int) (p : Nat) : AL.Stmt × Nat := uZ bs d.toNat p
def eO (bs : List UInt8) (d n : Int) (p : Nat) : List AL.Stmt × Nat := iQ (fM bs d) (st 2 1 0 (cX bs p 10)) (p + 1) n.toNat
theorem uC (bs : List UInt8) (p : Nat) : (kG bs p).2 ≤ p + 4 := by
 unfold kG;dsimp only;repeat' split
 all_goals omega
theorem tK (bs : List UInt8) (p : Nat) : dP (kG bs p).1 = 1 := by
 unfold kG st;dsimp only;repeat' split
 all_goals simp [dP, cA]
theorem xD {one : Nat → AL.Stmt × Nat} {c : Nat} (h : ∀ p, (one p).2 ≤ p + c) (s : AL.Stmt) (p : Nat) : ∀ k, (iQ one s p k).2 ≤ p + k * c
 | 0 => by simp [iQ]
 | k + 1 => by
  have := xD h s p k
  have := h (iQ one s p k).2
  simp only [iQ, Nat.succ_mul]; omega
theorem xN {one : Nat → AL.Stmt × Nat} {c : Nat} (h : ∀ p, dP (one p).1 ≤ c) (s : AL.Stmt) (p : Nat) : ∀ k, cA (iQ one s p k).1 ≤ dP s + k * c
 | 0 => by simp [iQ, cA]
 | k + 1 => by
  have := xN h s p k
  have := h (iQ one s p k).2
  simp only [iQ, Nat.succ_mul, gP, cA]; omega
def AY : Nat → Nat
 | 0 => 4
 | d + 1 => 9 + 2 * AY d
def DR : Nat → Nat
 | 0 => 1
 | d + 1 => 3 + 2 * DR d
theorem k3 (bs : List UInt8) (p : Nat) : (cX bs p 3).toNat ≤ 2 := by have := gH bs p 3; omega
theorem FO (bs : List UInt8) : ∀ d p, (uZ bs d p).2 ≤ p + AY d
 | 0, p => uC bs p
 | d + 1, p => by
  have h0 := uC bs p
  have h1 := xD (FO bs d) (st 2 1 0 (cX bs (p + 1 + 1 + 1 + 1) 10)) (p + 1 + 1 + 1 + 1 + 1) (cX bs (p + 1 + 1 + 1) 3).toNat
  have h2 := k3 bs (p + 1 + 1 + 1)
  have h3 : (cX bs (p + 1 + 1 + 1) 3).toNat * AY d ≤ 2 * AY d := Nat.mul_le_mul_right _ h2
  have h4 := uC bs (iQ (uZ bs d) (st 2 1 0 (cX bs (p + 1 + 1 + 1 + 1) 10)) (p + 1 + 1 + 1 + 1 + 1) (cX bs (p + 1 + 1 + 1) 3).toNat).2
  have h5 := uC bs (p + 1 + 1 + 1)
  have h6 := uC bs (kG bs (p + 1 + 1 + 1)).2
  have h7 : 1 ≤ AY d := by cases d <;> simp only [AY] <;> omega
  simp only [uZ, AY]
  split
  ·dsimp only;omega
  ·split
   ·dsimp only;omega
   ·omega
theorem GF (bs : List UInt8) : ∀ d p, dP (uZ bs d p).1 ≤ DR d
 | 0, p => by rw [uZ, tK]; decide
 | d + 1, p => by
  have h0 := tK bs p
  have h1 := xN (GF bs d) (st 2 1 0 (cX bs (p + 1 + 1 + 1 + 1) 10)) (p + 1 + 1 + 1 + 1 + 1) (cX bs (p + 1 + 1 + 1) 3).toNat
  have h2 := k3 bs (p + 1 + 1 + 1)
  have h3 : (cX bs (p + 1 + 1 + 1) 3).toNat * DR d ≤ 2 * DR d := Nat.mul_le_mul_right _ h2
  have h4 := tK bs (iQ (uZ bs d) (st 2 1 0 (cX bs (p + 1 + 1 + 1 + 1) 10)) (p + 1 + 1 + 1 + 1 + 1) (cX bs (p + 1 + 1 + 1) 3).toNat).2
  have h5 := tK bs (p + 1 + 1 + 1)
  have h6 := tK bs (kG bs (p + 1 + 1 + 1)).2
  have h7 : dP (st 2 1 0 (cX bs (p + 1 + 1 + 1 + 1) 10)) = 1 := by simp [st, dP, cA]
  simp only [uZ, DR]
  split
  ·simp only [dP, cA]; omega
  ·split
   ·simp only [dP, cA]; omega
   ·omega
theorem Hp (bs : List UInt8) {d : Int} (h : d ≤ 2) (p : Nat) : (fM bs d p).2 ≤ p + 43 := by
 have h1 := FO bs d.toNat p
 have h2 : AY d.toNat ≤ 43 := by
  have : d.toNat = 0 ∨ d.toNat = 1 ∨ d.toNat = 2 := by omega
  rcases this with h|h|h <;> rw [h] <;> decide
 exact Nat.le_trans h1 (by omega)
theorem JJ (bs : List UInt8) {d : Int} (h : d ≤ 2) (p : Nat) : dP (fM bs d p).1 ≤ 13 := by
 have h1 := GF bs d.toNat p
 have h2 : DR d.toNat ≤ 13 := by
  have : d.toNat = 0 ∨ d.toNat = 1 ∨ d.toNat = 2 := by omega
  rcases this with h|h|h <;> rw [h] <;> decide
 exact Nat.le_trans h1 h2
theorem vO {one : Nat → AL.Stmt × Nat} (s : AL.Stmt) (p : Nat) : ∀ k, (iQ one s p k).1.length = k + 1
 | 0 => rfl
 | k + 1 => by simp only [iQ, List.length_append, vO s p k, List.length_cons, List.length_nil]
theorem DO (bs : List UInt8) (d : Int) (n p : Nat) : (eO bs d (n : Int) p).1.length = n + 1 := vO _ _ _
theorem HY (bs : List UInt8) (d : Int) (k p : Nat) : eO bs d ((k + 1 : Nat) : Int) p = ((eO bs d (k : Int) p).1 ++ [(fM bs d (eO bs d (k : Int) p).2).1], (fM bs d (eO bs d (k : Int) p).2).2) := rfl
theorem k7 {xs : List AL.Stmt} {m : Nat} {s : AL.Stmt} (hm : m = xs.length) : ((aI bO xs).drop 0).take (m * 6) ++ [iv s.op, iv s.x, iv s.y, iv s.n, sl bO s.th, sl bO s.el] = aI bO (xs ++ [s]) := gI hm (eC s).symm
def L4 (s : AL.Stmt) (a : Int) : AL.Stmt := .mk a s.x s.y s.n s.th s.el
def uX (s : AL.Stmt) (a : Int) : AL.Stmt := .mk s.op a s.y s.n s.th s.el
def uY (s : AL.Stmt) (a : Int) : AL.Stmt := .mk s.op s.x a s.n s.th s.el
def uN (s : AL.Stmt) (a : Int) : AL.Stmt := .mk s.op s.x s.y a s.th s.el
theorem J1 {xs : List AL.Stmt} {k : Nat} {a : Int} (hk : k < xs.length) : iV (aI bO xs) (0 + k * 6 + 0) [iv a] = aI bO (xs.set k (L4 xs[k]! a)) := fI hk (by simp) (by rw [eC, eC]; rfl)
theorem LP {xs : List AL.Stmt} {k : Nat} {a : Int} (hk : k < xs.length) : iV (aI bO xs) (0 + k * 6 + 1) [iv a] = aI bO (xs.set k (uX xs[k]! a)) := fI hk (by simp) (by rw [eC, eC]; rfl)
theorem LF {xs : List AL.Stmt} {k : Nat} {a : Int} (hk : k < xs.length) : iV (aI bO xs) (0 + k * 6 + 2) [iv a] = aI bO (xs.set k (uY xs[k]! a)) := fI hk (by simp) (by rw [eC, eC]; rfl)
theorem La {xs : List AL.Stmt} {k : Nat} {a : Int} (hk : k < xs.length) : iV (aI bO xs) (0 + k * 6 + 3) [iv a] = aI bO (xs.set k (uN xs[k]! a)) := fI hk (by simp) (by rw [eC, eC]; rfl)
theorem xG (bs : List UInt8) {d : Int} (h : d ≤ 2) (n : Int) (p : Nat) : (eO bs d n p).2 ≤ p + 1 + n.toNat * 43 := xD (Hp bs h) _ _ _
theorem H5 (bs : List UInt8) {d : Int} (h : d ≤ 2) (n : Int) (p : Nat) : cA (eO bs d n p).1 ≤ 1 + n.toNat * 13 := by
 have h7 : dP (st 2 1 0 (cX bs p 10)) = 1 := by simp [st, dP, cA]
 have := xN (JJ bs h) (st 2 1 0 (cX bs p 10)) (p + 1) n.toNat
 rw [h7] at this
 exact this
theorem Cc (bs : List UInt8) {d : Int} (h : 0 < d) (p : Nat) : fM bs d p = 
  let c := cX bs (p + 1 + 1) 11
  if c = 9 then
   let r := eO bs (d - 1) (cX bs (p + 1 + 1 + 1) 3) (p + 1 + 1 + 1 + 1)
   let e := fM bs 0 r.2
   (.mk 9 0 0 0 r.1 [e.1], e.2)
  else if c = 10 then
   let a := fM bs 0 (p + 1 + 1 + 1)
   let b := fM bs 0 a.2
   (.mk 10 0 0 0 [a.1, b.1] [], b.2)
  else kG bs p := by
 have : d.toNat = (d - 1).toNat + 1 := by omega
 simp only [fM, this, uZ, eO]
 rfl
theorem LC (s : AL.Stmt) : aI bO [s] = [iv s.op, iv s.x, iv s.y, iv s.n, sl bO s.th, sl bO s.el] := by simp [aI, eC]
theorem LK (s t : AL.Stmt) : aI bO [s, t] = [iv s.op, iv s.x, iv s.y, iv s.n, sl bO s.th, sl bO s.el, iv t.op, iv t.x, iv t.y, iv t.n, sl bO t.th, sl bO t.el] := by simp [aI, eC]
theorem KT (bs : List UInt8) {d : Int} (h0 : 0 ≤ d) (p : Nat) (h : ¬ 0 < d ∨ (cX bs (p + 1 + 1) 11 ≠ 9 ∧ cX bs (p + 1 + 1) 11 ≠ 10)) : fM bs d p = kG bs p := by
 by_cases hd : 0 < d
 ·rw [Cc bs hd p]
  dsimp only
  rw [if_neg (by omega), if_neg (by omega)]
 ·have : d = 0 := by omega
  subst this;rfl
theorem JY (bs : List UInt8) {d : Int} (hd : 0 < d) (p : Nat) (h : cX bs (p + 1 + 1) 11 = 9) : fM bs d p = (.mk 9 0 0 0 (eO bs (d - 1) (cX bs (p + 1 + 1 + 1) 3) (p + 1 + 1 + 1 + 1)).1 [(fM bs 0 (eO bs (d - 1) (cX bs (p + 1 + 1 + 1) 3) (p + 1 + 1 + 1 + 1)).2).1], (fM bs 0 (eO bs (d - 1) (cX bs (p + 1 + 1 + 1) 3) (p + 1 + 1 + 1 + 1)).2).2) := by
 rw [Cc bs hd p]
 dsimp only
 rw [if_pos h]
theorem H4 (bs : List UInt8) {d : Int} (hd : 0 < d) (p : Nat) (h : cX bs (p + 1 + 1) 11 = 10) : fM bs d p = (.mk 10 0 0 0 [(fM bs 0 (p + 1 + 1 + 1)).1, (fM bs 0 (fM bs 0 (p + 1 + 1 + 1)).2).1] [], (fM bs 0 (fM bs 0 (p + 1 + 1 + 1)).2).2) := by
 rw [Cc bs hd p]
 dsimp only
 rw [if_neg (by omega), if_pos h]
theorem zV {bs : List UInt8} {p : Nat} {ts : List Int} {dp : Int} {N : Nat} {Q : Exit → AS → Prop} {all : Array Oper} {rest : List Oper} {tsl : List (Nat × AV)} {hsl : List (Nat × Option (List AV))} {nidl : Nat} {z0 : Lo} {md : Md} {d : Nat} {ty : TypeId} {pos : String} {af : Array Edge} {tys : Array TypeId} {x0 x1 x2 : Operand} {i0 : Nat} (ha0 : ev (lk tsl) x0 = some (.optr i0 0)) (ha1 : ev (lk tsl) x1 = some (sl cI ts)) (ha2 : ev (lk tsl) x2 = some (iv dp)) (hH0 : cK hsl i0 = some (fN bs p)) (hmc : MC Tryz.prog 183 [.optr 0 0, sl cI ts, iv dp] [(0, some (fN bs p))] 1 (fun _ : Unit => True) (fun _ => fQ (fM bs dp p).1) (fun _ => [(0, some (fN bs (fM bs dp p).2))])) (hM : Nat.ble (nidl + 0) eR = true) (hN : Nat.blt d N = true) {md' : Md} [hmd : MdA md (gL [x0, x1, x2] ++ [.inr i0]) (List.map Sum.inr (List.map Prod.fst ([(i0, some (fN bs (fM bs dp p).2))] : List (Nat × Option (List AV)))) ++ [.inl d]) md'] (kk : RW Tryz.prog N all Q md' rest ⟨(d, fQ (fM bs dp p).1) :: tsl, iF hsl [(i0, some (fN bs (fM bs dp p).2))], nidl + 0, z0⟩) : RW Tryz.prog N all Q md (⟨some d, .call ⟨.value (.func 183), #[x0, x1, x2], tys⟩, ty, pos, af, none⟩ :: rest) ⟨tsl, hsl, nidl, z0⟩ := by
 refine cB [i0] 1 [(i0, some (fN bs (fM bs dp p).2))] hmc (avs := [.optr i0 0, sl cI ts, iv dp]) ?_ rfl ?_ rfl ?_ (by simpa using hM) ?_ ?_ ?_ hN (md' := md') (hmd := hmd) kk
 ·show evL (lk tsl) [x0, x1, x2] = _
  simp only [evL, ha0, ha1, ha2]
 ·exact ⟨⟨_, _, rfl, hH0, by (repeat' (exact RnL.purI inferInstance))⟩, trivial⟩
 ·(repeat' (first|exact RnL.purI inferInstance|exact RnV.optr rfl|refine RnL.cons ?_ ?_))
 ·(repeat' (exact RnV.purI inferInstance))
 ·simp [dI]
 ·(repeat' (first|exact trivial|(refine And.intro ⟨0, _, rfl, rfl, ?_⟩ ?_)|exact RnL.purI inferInstance))
theorem v8 {bs : List UInt8} {p : Nat} {ts : List Int} {dp cn : Int} {N : Nat} {Q : Exit → AS → Prop} {all : Array Oper} {rest : List Oper} {tsl : List (Nat × AV)} {hsl : List (Nat × Option (List AV))} {nidl : Nat} {z0 : Lo} {md : Md} {d : Nat} {ty : TypeId} {pos : String} {af : Array Edge} {tys : Array TypeId} {x0 x1 x2 x3 : Operand} {i0 : Nat} (ha0 : ev (lk tsl) x0 = some (.optr i0 0)) (ha1 : ev (lk tsl) x1 = some (sl cI ts)) (ha2 : ev (lk tsl) x2 = some (iv dp)) (ha3 : ev (lk tsl) x3 = some (iv cn)) (hH0 : cK hsl i0 = some (fN bs p)) (hmc : MC Tryz.prog 128 [.optr 0 0, sl cI ts, iv dp, iv cn] [(0, some (fN bs p))] 1 (fun _ : Unit => True) (fun _ => sl bO (eO bs dp cn p).1) (fun _ => [(0, some (fN bs (eO bs dp cn p).2))])) (hM : Nat.ble (nidl + 0) eR = true) (hN : Nat.blt d N = true) {md' : Md} [hmd : MdA md (gL [x0, x1, x2, x3] ++ [.inr i0]) (List.map Sum.inr (List.map Prod.fst ([(i0, some (fN bs (eO bs dp cn p).2))] : List (Nat × Option (List AV)))) ++ [.inl d]) md'] (kk : RW Tryz.prog N all Q md' rest ⟨(d, sl bO (eO bs dp cn p).1) :: tsl, iF hsl [(i0, some (fN bs (eO bs dp cn p).2))], nidl + 0, z0⟩) : RW Tryz.prog N all Q md (⟨some d, .call ⟨.value (.func 128), #[x0, x1, x2, x3], tys⟩, ty, pos, af, none⟩ :: rest) ⟨tsl, hsl, nidl, z0⟩ := by
 refine cB [i0] 1 [(i0, some (fN bs (eO bs dp cn p).2))] hmc (avs := [.optr i0 0, sl cI ts, iv dp, iv cn]) ?_ rfl ?_ rfl ?_ (by simpa using hM) ?_ ?_ ?_ hN (md' := md') (hmd := hmd) kk
 ·show evL (lk tsl) [x0, x1, x2, x3] = _
  simp only [evL, ha0, ha1, ha2, ha3]
 ·exact ⟨⟨_, _, rfl, hH0, by (repeat' (exact RnL.purI inferInstance))⟩, trivial⟩
 ·(repeat' (first|exact RnL.purI inferInstance|exact RnV.optr rfl|refine RnL.cons ?_ ?_))
 ·(repeat' (exact RnV.purI inferInstance))
 ·simp [dI]
 ·(repeat' (first|exact trivial|(refine And.intro ⟨0, _, rfl, rfl, ?_⟩ ?_)|exact RnL.purI inferInstance))
attribute [local irreducible] cX
theorem A1 (D : Int) (hD0 : 0 ≤ D) (hD : D ≤ 2) (l1One_ih : ∀ bs p ts, 0 < D → bs.length ≤ 2000 → p ≤ 900000 → ∀ dp : Int, dp = 0 → MC Tryz.prog 183 [.optr 0 0, sl cI ts, iv dp] [(0, some (fN bs p))] 1 (fun _ : Unit => True) (fun _ => fQ (fM bs dp p).1) (fun _ => [(0, some (fN bs (fM bs dp p).2))])) (l1Some_ih : ∀ bs (p : Nat) ts cn, 0 < D → bs.length ≤ 2000 → (p : Int) ≤ 850000 - 100000 * (D - 1) → 0 ≤ cn → cn ≤ 2 → ∀ dp : Int, dp = D - 1 → MC Tryz.prog 128 [.optr 0 0, sl cI ts, iv dp, iv cn] [(0, some (fN bs p))] 1 (fun _ : Unit => True) (fun _ => sl bO (eO bs dp cn p).1) (fun _ => [(0, some (fN bs (eO bs dp cn p).2))])) (bs : List UInt8) (p : Nat) (ts : List Int) (dp : Int) (hd : dp = D) (hb : bs.length ≤ 2000) (hp : (p : Int) ≤ 900000 - 100000 * D) : MC Tryz.prog 183 [.optr 0 0, sl cI ts, iv dp] [(0, some (fN bs p))] 1 (fun _ : Unit => True) (fun _ => fQ (fM bs dp p).1) (fun _ => [(0, some (fN bs (fM bs dp p).2))]) := by
 subst hd
 have h0 := gH bs p 2
 have h2 := gH bs (p + 1 + 1) 11
 have h3 := gH bs (p + 1 + 1 + 1) 3
 have h3' := k3 bs (p + 1 + 1 + 1)
 have h4 := Hp bs (d := 0) (by omega) (p + 1 + 1 + 1)
 have h5 := xG bs (d := dp - 1) (by omega) (cX bs (p + 1 + 1 + 1) 3) (p + 1 + 1 + 1 + 1)
 have h6 : (cX bs (p + 1 + 1 + 1) 3).toNat * 43 ≤ 2 * 43 := Nat.mul_le_mul_right _ h3'
 (refine bX Tryz.func183 rfl (by simp [Tryz.ntmps183]) ?_; rw [Tryz.ntmps183])
 repeat' (first|(apply aK;first|(apply aE;rfl;rfl)|(first|(apply bS;rfl;rfl;omega;rfl)|(apply hU;rfl;rfl;omega;rfl)|(apply aU;rfl;rfl;rfl;rfl))|(apply aC;rfl;rfl)|(first|(apply JE;rfl;rfl;infer_instance;rfl;(rfl);assumption;omega;(decide);(decide);rfl;rfl)|(apply m5;rfl;rfl;(rfl);(apply pV <;> (first|assumption|omega));rfl;rfl)|(apply v8;rfl;rfl;rfl;rfl;(rfl);(apply l1Some_ih <;> (first|assumption|omega));rfl;rfl)|(apply zV;rfl;rfl;rfl;(rfl);(apply l1One_ih <;> (first|assumption|omega));rfl;rfl))|(apply aF;kernel_rfl)|(apply cC;rfl;(exact (rfl:_=some [_, _, _, _, _, _]));(exact (rfl:_=[_, _, _, _, _, _]));rfl)|(apply bD;rfl;rfl)|((apply bF (t := _));(case hze|hsm|hl => rfl);(case hfl => (first|exact (rfl:_=some [_, _, _])|exact (rfl:_=some [_, _, _, _])|exact (rfl:_=some [_, _, _, _, _])|exact (rfl:_=some [_, _, _, _, _, _])|rfl));(case hM|hN => rfl))|(apply aW;rfl;rfl;rfl;rfl;rfl;(case hl => (simp;done));(exact (rfl:_=[_, _, _, _, _, _]))))|(apply aL;first|apply aH|apply aB|(apply bZ;rfl;(assumption))|(apply aP;rfl;all_goals intro hc;have hq:=hc;(try simp only [cH] at hq);try exfalso;omega)|apply aM|apply aT|apply aQ)|with_reducible apply aA|with_reducible apply bE|with_reducible apply aX|with_reducible apply cO)
 all_goals try (refine aO rfl ?_; refine bV () trivial ?_ ⟨.inr (Eq.trans (b := some _) rfl ?_), trivial⟩)
 all_goals try (rw [KT bs hD0 p (by omega)]; unfold kG; dsimp only; repeat' split
                all_goals (first|rfl|(exfalso;omega));done)
 iterate 2
  rewrite [JY bs (d := dp) (by assumption) p (by assumption)]
  first|rfl|(refine Eq.trans (b := AV.agg [_, _, _, _, _, AV.imm 1 (aI bO [_])]) ?_ rfl;rw [LC]; rfl)
 iterate 2
  rewrite [H4 bs (d := dp) (by omega) p (by omega)]
  first|rfl|(refine Eq.trans (b := AV.agg [_, _, _, _, AV.imm 2 (aI bO [_, _]), _]) ?_ rfl;rw [LK]; rfl)
theorem wQ (D : Int) (hD0 : 0 ≤ D) (hD : D ≤ 2) (l1One_ih : ∀ bs (p : Nat) ts, bs.length ≤ 2000 → (p : Int) ≤ 900000 - 100000 * D → ∀ dp : Int, dp = D → MC Tryz.prog 183 [.optr 0 0, sl cI ts, iv dp] [(0, some (fN bs p))] 1 (fun _ : Unit => True) (fun _ => fQ (fM bs dp p).1) (fun _ => [(0, some (fN bs (fM bs dp p).2))])) (bs : List UInt8) (p : Nat) (ts : List Int) (dp : Int) (hd : dp = D) (cn : Int) (hb : bs.length ≤ 2000) (hp : (p : Int) ≤ 850000 - 100000 * D) (hc0 : 0 ≤ cn) (hc : cn ≤ 8) : MC Tryz.prog 128 [.optr 0 0, sl cI ts, iv dp, iv cn] [(0, some (fN bs p))] 1 (fun _ : Unit => True) (fun _ => sl bO (eO bs dp cn p).1) (fun _ => [(0, some (fN bs (eO bs dp cn p).2))]) := by
 subst hd
 (refine bX Tryz.func128 rfl (by simp [Tryz.ntmps128]) ?_; rw [Tryz.ntmps128])
 repeat' (first|(apply aK;first|(apply aE;rfl;rfl)|(apply aC;rfl;rfl)|(apply m5;rfl;rfl;(rfl);(apply pV <;> (first|assumption|omega));rfl;rfl)|(apply aF;kernel_rfl)|(apply cC;rfl;(exact (rfl:_=some [_, _, _, _, _, _]));(exact (rfl:_=[_, _, _, _, _, _]));rfl)|(apply b0;rfl;rfl;rfl;(exact (rfl:_=some [_, _, _, _, _, _]));rfl;rfl))|(apply aL;first|apply aH|apply aB|apply aM)|with_reducible apply aA)
 refine a8 (σ := Nat × List AL.Stmt × Nat) [0, 1, 2, 3] [(0, _), (1, _), (2, _), (3, _)] [] [] (fun k => [(10, iv (k.1 : Int)), (9, .own 1 0 (k.1 + 1) 6)]) (fun k => [(0, some (fN bs k.2.2)), (1, some (aI bO k.2.1))]) (fun k => (k.1 : Int) ≤ cn ∧ k.2 = eO bs dp (k.1 : Int) p) (fun k => cn.toNat - k.1) (0, [st 2 1 0 (cX bs p 10)], p + 1) ⟨by omega, rfl⟩ rfl rfl (by repeat' (first|exact trivial|refine And.intro rfl ?_)) (by repeat' (first|exact trivial|refine And.intro (.inr rfl) ?_)) ?_
 rintro ⟨k, xs, q⟩ ⟨hk, hse⟩
 dsimp only at hk hse ⊢
 have hp2 := xG bs (d := dp) (by omega) (k : Int) p
 have hkk : (k : Int).toNat * 43 ≤ 8 * 43 := Nat.mul_le_mul_right _ (by omega)
 have hln := DO bs dp k p
 rw [← hse] at hp2 hln
 dsimp only at hp2 hln
 repeat' (first|(apply aK;first|(apply aE;rfl;rfl)|(first|(apply bS;rfl;rfl;omega;rfl)|(apply aU;rfl;rfl;rfl;rfl))|(apply aC;rfl;rfl)|(apply zV;rfl;rfl;rfl;(rfl);(apply l1One_ih <;> (first|assumption|omega));rfl;rfl)|(apply bY;rfl;rfl;rfl;rfl;rfl;(rw [aR]; omega);(rfl);omega;omega;(exact k7 (by (omega)));rfl;rfl)|(apply aF;kernel_rfl)|((apply bF (t := _));(case hze|hsm|hl => rfl);(case hfl => (exact (rfl:_=some [_, _, _, _, _, _])));(case hM|hN => rfl)))|(apply aL;first|apply aH|apply aB|(apply aP;rfl;all_goals intro hc;have hq:=hc;(try simp only [cH] at hq);try exfalso;omega)|apply aM|apply aT|apply bK|apply aQ)|with_reducible apply aA|with_reducible apply bI|with_reducible apply aX|with_reducible apply bJ)
 ·(apply dJ (k + 1, _, _); focus (refine Le.ren [(1, 3)] rfl (by decide) ?_ ?_ <;> repeat' (first | exact trivial | refine And.intro ⟨_, rfl, ?_⟩ ?_ | refine And.intro ⟨_, _, rfl, rfl, ?_⟩ ?_ | exact Or.inr rfl | refine Or.inl ⟨?_, (by first | rfl | exact aY _ _ | exact Pur.pf)⟩ | rfl)))
  ·dsimp only
   refine ⟨by omega, ?_⟩
   rw [HY, ← hse]
  ·dsimp only;omega
 ·have hke : (k : Int) = cn := by omega
  rw [hke] at hse
  (refine cE (Le.frzD (d := 8) (i := 1) rfl rfl) ?_; refine aO rfl ?_)
  refine bV () trivial ?_ ⟨.inr (Eq.trans (b := some _) rfl ?_), trivial⟩
  ·rw [← hse]; show AV.imm (k + 1) (aI bO xs) = AV.imm xs.length (aI bO xs)
   rw [hln]
  ·rw [← hse]
theorem nZ : ∀ D : Nat, D ≤ 2 → (∀ bs (p : Nat) ts, bs.length ≤ 2000 → (p : Int) ≤ 900000 - 100000 * (D : Int) → ∀ dp : Int, dp = (D : Int) → MC Tryz.prog 183 [.optr 0 0, sl cI ts, iv dp] [(0, some (fN bs p))] 1 (fun _ : Unit => True) (fun _ => fQ (fM bs dp p).1) (fun _ => [(0, some (fN bs (fM bs dp p).2))])) ∧ (∀ bs (p : Nat) ts (cn : Int), bs.length ≤ 2000 → (p : Int) ≤ 850000 - 100000 * (D : Int) → 0 ≤ cn → cn ≤ 8 → ∀ dp : Int, dp = (D : Int) → MC Tryz.prog 128 [.optr 0 0, sl cI ts, iv dp, iv cn] [(0, some (fN bs p))] 1 (fun _ : Unit => True) (fun _ => sl bO (eO bs dp cn p).1) (fun _ => [(0, some (fN bs (eO bs dp cn p).2))]))
 | 0, _ => by
  have h1 : ∀ bs (p : Nat) ts, bs.length ≤ 2000 → (p : Int) ≤ 900000 - 100000 * ((0 : Nat) : Int) → ∀ dp : Int, dp = ((0 : Nat) : Int) → MC Tryz.prog 183 [.optr 0 0, sl cI ts, iv dp] [(0, some (fN bs p))] 1 (fun _ : Unit => True) (fun _ => fQ (fM bs dp p).1) (fun _ => [(0, some (fN bs (fM bs dp p).2))]) :=
   fun bs p ts hb hp dp hd => A1 ((0 : Nat) : Int) (by omega) (by omega) (fun _ _ _ h => by omega) (fun _ _ _ _ h => by omega) bs p ts dp hd hb hp
  exact ⟨h1, fun bs p ts cn hb hp h0 h8 dp hd => wQ ((0 : Nat) : Int) (by omega) (by omega) h1 bs p ts dp hd cn hb hp h0 h8⟩
 | D + 1, hD => by
  have ih := nZ D (by omega)
  have i0 := nZ 0 (by omega)
  have h1 : ∀ bs (p : Nat) ts, bs.length ≤ 2000 → (p : Int) ≤ 900000 - 100000 * ((D + 1 : Nat) : Int) → ∀ dp : Int, dp = ((D + 1 : Nat) : Int) → MC Tryz.prog 183 [.optr 0 0, sl cI ts, iv dp] [(0, some (fN bs p))] 1 (fun _ : Unit => True) (fun _ => fQ (fM bs dp p).1) (fun _ => [(0, some (fN bs (fM bs dp p).2))]) :=
   fun bs p ts hb hp dp hd => A1 ((D + 1 : Nat) : Int) (by omega) (by omega) (fun bs p ts _ hb hp dp hd => i0.1 bs p ts hb (by omega) dp (by omega)) (fun bs p ts cn _ hb hp h0 h2 dp hd => ih.2 bs p ts cn hb (by omega) h0 (by omega) dp (by omega)) bs p ts dp hd hb hp
  exact ⟨h1, fun bs p ts cn hb hp h0 h8 dp hd => wQ ((D + 1 : Nat) : Int) (by omega) (by omega) h1 bs p ts dp hd cn hb hp h0 h8⟩
theorem Fw (bs : List UInt8) (p : Nat) (ts : List Int) (dp cn : Int) (hb : bs.length ≤ 2000) (hp : p ≤ 600000) (h0 : 0 ≤ cn) (h8 : cn ≤ 8) (hd0 : 0 ≤ dp) (hd : dp ≤ 2) : MC Tryz.prog 128 [.optr 0 0, sl cI ts, iv dp, iv cn] [(0, some (fN bs p))] 1 (fun _ : Unit => True) (fun _ => sl bO (eO bs dp cn p).1) (fun _ => [(0, some (fN bs (eO bs dp cn p).2))]) :=
 (nZ dp.toNat (by omega)).2 bs p ts cn hb (by omega) h0 h8 dp (by omega)
end Go.Proofs.YtckihjkcgfphmaaGreat
namespace Go.Proofs.YtckihjkcgfphmaaGreat
open Go.AL Go.RowKit
theorem CW {w : World} {bad : Nat → Prop} {ι : Pl} : ∀ {cs cs' : List AV}, All2 (fun c c' => c' = c ∨ c' = qM c) cs cs' → ∀ {b β : Nat}, RdC w bad ι cs b β → RdC w bad ι cs' b β
 | _, _, .nil, _, _, h => h
 | _, _, .cons h1 h2, b, β, h => by
  simp only [RdC] at h ⊢
  obtain ⟨⟨x, q1, q2, q3⟩, q4⟩ := h
  refine ⟨⟨x, q1, q2, ?_⟩, CW h2 q4⟩
  rcases h1 with rfl|rfl
  ·exact q3
  ·exact nY q3
theorem CU : ∀ (l : List AV) {a b : List AV}, All2 (fun c c' => c' = c ∨ c' = qM c) a b → All2 (fun c c' => c' = c ∨ c' = qM c) (l ++ a) (l ++ b)
 | [], _, _, h => h
 | _ :: l, _, _, h => .cons (.inl rfl) (CU l h)
theorem pO {α : Type} {p q : α → Prop} {F : α → AS} {s s' : AS} (L : Le s s') (h : ∃ j, p j ∧ q j ∧ Le s' (F j)) : ∃ j, p j ∧ q j ∧ Le s (F j) := by
 obtain ⟨j, h1, h2, h3⟩ := h
 exact ⟨j, h1, h2, L.trans h3⟩
theorem Le.stmtN {ts : List (Nat × AV)} {hs : List (Nat × Option (List AV))} {n i : Nat} {z0 : Lo} {xs : List AL.Stmt} (s : AL.Stmt) {m : Nat} {a b : AV} (hm : m = xs.length)
  (ha : a = sl bO s.th ∨ (a = .v (.slice none 0 0) ∧ s.th = [])) (hb : b = sl bO s.el ∨ (b = .v (.slice none 0 0) ∧ s.el = []))
  (hi : cK hs i = some (((aI bO xs).drop 0).take (m * 6) ++ List.take (1 * 6) [iv s.op, iv s.x, iv s.y, iv s.n, a, b])) : Le ⟨ts, hs, n, z0⟩ ⟨ts, (i, some (aI bO (xs ++ [s]))) :: hs, n, z0⟩ := by
 have e : aI bO (xs ++ [s]) = ((aI bO xs).drop 0).take (m * 6) ++ [iv s.op, iv s.x, iv s.y, iv s.n, sl bO s.th, sl bO s.el] := (k7 hm).symm
 have k : All2 (fun c c' => c' = c ∨ c' = qM c) (((aI bO xs).drop 0).take (m * 6) ++ List.take (1 * 6) [iv s.op, iv s.x, iv s.y, iv s.n, a, b]) (aI bO (xs ++ [s])) := by
  rw [e]
  refine CU _ (.cons (.inl rfl) (.cons (.inl rfl) (.cons (.inl rfl) (.cons (.inl rfl) (.cons ?_ (.cons ?_ .nil))))))
  ·rcases ha with h | ⟨h, h2⟩
   ·exact .inl h.symm
   ·refine .inr ?_; rw [h2, h]; rfl
  ·rcases hb with h | ⟨h, h2⟩
   ·exact .inl h.symm
   ·refine .inr ?_; rw [h2, h]; rfl
 refine Le.cells hi ?_ fun w bad ι b β h => CW k h
 rw [e]; simp
theorem CL (mm : Nat) (hmm : mm ≤ 1000000) (copy_ih : ∀ l, cA l < mm → PC Tryz.prog 180 [sl bO l] (fun r => r = sl bO l)) (l : List AL.Stmt) (hs : cA l ≤ mm) : PC Tryz.prog 180 [sl bO l] (fun r => r = sl bO l) := by
 have hlen := eY l
 (refine aS Tryz.func180 rfl (by simp [Tryz.ntmps180]) ?_; rw [Tryz.ntmps180])
 repeat' (first|(apply aK;first|(apply aC;rfl;rfl)|(apply aF;kernel_rfl)|(apply b0;rfl;rfl;rfl;(rfl);rfl;rfl))|(apply aL;first|apply aH|apply aB|apply aM)|with_reducible apply aA)
 refine a8 (σ := Nat × List AL.Stmt) [0] [(0, _)] [] [] (fun k => [(4, iv (k.1 : Int)), (3, .own 0 0 k.1 6)]) (fun k => [(0, some (aI bO k.2))]) (fun k => k.1 ≤ l.length ∧ k.2 = l.take k.1) (fun k => l.length - k.1) (0, []) ⟨by omega, rfl⟩ rfl rfl (by repeat' (first|exact trivial|refine And.intro rfl ?_)) (by repeat' (first|exact trivial|refine And.intro (.inr rfl) ?_)) ?_
 rintro ⟨k, xs⟩ ⟨hk, hxs⟩
 dsimp only at hk hxs ⊢
 have hck := gX l k
 have hct := lL l[k]!
 have hln : xs.length = k := by rw [hxs, List.length_take]; omega
 repeat' (first|(apply aK;first|(apply aE;rfl;rfl)|(first|(apply aN;rfl;rfl;rfl;rfl)|(apply aV;rfl;rfl;(exact (rfl:_=[_, _, _, _, _, _]));rfl;rfl;rfl))|(apply aD;rfl;rfl;rfl)|(first|(apply bS;rfl;rfl;omega;rfl)|(apply aU;rfl;rfl;rfl;rfl))|(apply aC;rfl;rfl)|(apply aZ;(case hx|hi => rfl);(case hm => (omega));(case hml => (rfl));(case hα | hf|hg => infer_instance);(case hN => rfl))|((with_reducible apply aJ (k := 180));(case ha => rfl);(case h => (apply copy_ih <;> (omega)));(case hp => (exact Pur.pf));(case hN => rfl))|(first|(apply bQ;rfl;rfl;rfl)|(apply bY;rfl;rfl;rfl;rfl;rfl;(rw [aR]; omega);(rfl);omega;omega;(first|exact k7 (by (omega))|rfl);rfl;rfl))|(apply aF;kernel_rfl)|(apply bD;rfl;rfl)|((apply bF (t := _));(case hze|hsm|hl => rfl);(case hfl => (exact (rfl:_=some [_, _, _, _, _, _])));(case hM|hN => rfl))|(apply aW;rfl;rfl;rfl;rfl;rfl;(case hl => (simp;done));(exact (rfl:_=[_, _, _, _, _, _]))))|(apply aL;first|apply aH|apply aB|(apply aP;rfl;all_goals intro hc;have hq:=hc;(try simp only [cH] at hq);try exfalso;omega)|apply aM|apply aT|apply bK|apply aQ)|with_reducible apply aA|with_reducible apply bI|with_reducible apply aX|with_reducible apply bJ)
 ·(apply dJ (k + 1, _); focus (refine Le.ren [(0, 3)] rfl (by decide) ?_ ?_ <;> repeat' (first | exact trivial | refine And.intro ⟨_, rfl, ?_⟩ ?_ | refine And.intro ⟨_, _, rfl, rfl, ?_⟩ ?_ | exact Or.inr rfl | refine Or.inl ⟨?_, (by first | rfl | exact aY _ _)⟩ | rfl)))
  ·exact ⟨by dsimp only;omega, by dsimp only;rw [hxs, c6 l k (by omega)]⟩
  ·dsimp only;omega
 ·have hel : l[k]!.el = [] := List.eq_nil_of_length_eq_zero (by omega)
  refine pO (Le.stmtN (i := 3) l[k]! hln.symm (.inl rfl) (.inr ⟨rfl, hel⟩) rfl) ?_
  (apply dJ (k + 1, _);focus (refine Le.ren [(0, 3)] rfl (by decide) ?_ ?_ <;> repeat' (first|exact trivial|refine And.intro ⟨_, rfl, ?_⟩ ?_|refine And.intro ⟨_, _, rfl, rfl, ?_⟩ ?_|exact Or.inr rfl|refine Or.inl ⟨?_, (by first|rfl|exact aY _ _)⟩|rfl)))
  ·exact ⟨by dsimp only;omega, by dsimp only;rw [hxs, c6 l k (by omega)]⟩
  ·dsimp only;omega
 ·have hth : l[k]!.th = [] := List.eq_nil_of_length_eq_zero (by omega)
  refine pO (Le.stmtN (i := 3) l[k]! hln.symm (.inr ⟨rfl, hth⟩) (.inl rfl) rfl) ?_
  (apply dJ (k + 1, _);focus (refine Le.ren [(0, 3)] rfl (by decide) ?_ ?_ <;> repeat' (first|exact trivial|refine And.intro ⟨_, rfl, ?_⟩ ?_|refine And.intro ⟨_, _, rfl, rfl, ?_⟩ ?_|exact Or.inr rfl|refine Or.inl ⟨?_, (by first|rfl|exact aY _ _)⟩|rfl)))
  ·exact ⟨by dsimp only;omega, by dsimp only;rw [hxs, c6 l k (by omega)]⟩
  ·dsimp only;omega
 ·have hth : l[k]!.th = [] := List.eq_nil_of_length_eq_zero (by omega)
  have hel : l[k]!.el = [] := List.eq_nil_of_length_eq_zero (by omega)
  refine pO (Le.stmtN (i := 3) l[k]! hln.symm (.inr ⟨rfl, hth⟩) (.inr ⟨rfl, hel⟩) rfl) ?_
  (apply dJ (k + 1, _);focus (refine Le.ren [(0, 3)] rfl (by decide) ?_ ?_ <;> repeat' (first|exact trivial|refine And.intro ⟨_, rfl, ?_⟩ ?_|refine And.intro ⟨_, _, rfl, rfl, ?_⟩ ?_|exact Or.inr rfl|refine Or.inl ⟨?_, (by first|rfl|exact aY _ _)⟩|rfl)))
  ·exact ⟨by dsimp only;omega, by dsimp only;rw [hxs, c6 l k (by omega)]⟩
  ·dsimp only;omega
 ·have hke : k = l.length := by omega
  (refine cE (Le.frzD (d := 2) (i := 0) rfl rfl) ?_; refine aO rfl ?_)
  refine ⟨?_, Pur.pf⟩
  rw [hxs, hke, List.take_length]; rfl
theorem JW (l : List AL.Stmt) (hb : cA l ≤ 1000000) : PC Tryz.prog 180 [sl bO l] (fun r => r = sl bO l) := by
 have key : ∀ m, m ≤ 1000000 → ∀ l, cA l ≤ m → PC Tryz.prog 180 [sl bO l] (fun r => r = sl bO l) := by
  intro m
  induction m with
  | zero => intro hm l hl;exact CL 0 hm (fun l h => by omega) l hl
  | succ m ih => intro hm l hl;exact CL (m + 1) hm (fun l h => ih (by omega) l (by omega)) l hl
 exact key (cA l) hb l (Nat.le_refl _)
theorem Im (l : List AL.Stmt) (hs : cA l ≤ 1000000) : MC Tryz.prog 180 [sl bO l] [] 0 (fun _ : Unit => True) (fun _ => .own 0 0 l.length 6) (fun _ => [(0, some (aI bO l))]) := by
 have hlen := eY l
 (refine bX Tryz.func180 rfl (by simp [Tryz.ntmps180]) ?_; rw [Tryz.ntmps180])
 repeat' (first|(apply aK;first|(apply aC;rfl;rfl)|(apply aF;kernel_rfl)|(apply b0;rfl;rfl;rfl;(rfl);rfl;rfl))|(apply aL;first|apply aH|apply aB|apply aM)|with_reducible apply aA)
 refine a8 (σ := Nat × List AL.Stmt) [0] [(0, _)] [] [] (fun k => [(4, iv (k.1 : Int)), (3, .own 0 0 k.1 6)]) (fun k => [(0, some (aI bO k.2))]) (fun k => k.1 ≤ l.length ∧ k.2 = l.take k.1) (fun k => l.length - k.1) (0, []) ⟨by omega, rfl⟩ rfl rfl (by repeat' (first|exact trivial|refine And.intro rfl ?_)) (by repeat' (first|exact trivial|refine And.intro (.inr rfl) ?_)) ?_
 rintro ⟨k, xs⟩ ⟨hk, hxs⟩
 dsimp only at hk hxs ⊢
 have hck := gX l k
 have hct := lL l[k]!
 have hln : xs.length = k := by rw [hxs, List.length_take]; omega
 repeat' (first|(apply aK;first|(apply aE;rfl;rfl)|(first|(apply aN;rfl;rfl;rfl;rfl)|(apply aV;rfl;rfl;(exact (rfl:_=[_, _, _, _, _, _]));rfl;rfl;rfl))|(apply aD;rfl;rfl;rfl)|(first|(apply bS;rfl;rfl;omega;rfl)|(apply aU;rfl;rfl;rfl;rfl))|(apply aC;rfl;rfl)|(apply aZ;(case hx|hi => rfl);(case hm => (omega));(case hml => (rfl));(case hα | hf|hg => infer_instance);(case hN => rfl))|((with_reducible apply aJ (k := 180));(case ha => rfl);(case h => (apply JW <;> (omega)));(case hp => (exact Pur.pf));(case hN => rfl))|(first|(apply bQ;rfl;rfl;rfl)|(apply bY;rfl;rfl;rfl;rfl;rfl;(rw [aR]; omega);(rfl);omega;omega;(first|exact k7 (by (omega))|rfl);rfl;rfl))|(apply aF;kernel_rfl)|(apply bD;rfl;rfl)|((apply bF (t := _));(case hze|hsm|hl => rfl);(case hfl => (exact (rfl:_=some [_, _, _, _, _, _])));(case hM|hN => rfl))|(apply aW;rfl;rfl;rfl;rfl;rfl;(case hl => (simp;done));(exact (rfl:_=[_, _, _, _, _, _]))))|(apply aL;first|apply aH|apply aB|(apply aP;rfl;all_goals intro hc;have hq:=hc;(try simp only [cH] at hq);try exfalso;omega)|apply aM|apply aT|apply bK|apply aQ)|with_reducible apply aA|with_reducible apply bI|with_reducible apply aX|with_reducible apply bJ)
 ·(apply dJ (k + 1, _); focus (refine Le.ren [(0, 3)] rfl (by decide) ?_ ?_ <;> repeat' (first | exact trivial | refine And.intro ⟨_, rfl, ?_⟩ ?_ | refine And.intro ⟨_, _, rfl, rfl, ?_⟩ ?_ | exact Or.inr rfl | refine Or.inl ⟨?_, (by first | rfl | exact aY _ _)⟩ | rfl)))
  ·exact ⟨by dsimp only;omega, by dsimp only;rw [hxs, c6 l k (by omega)]⟩
  ·dsimp only;omega
 ·have hel : l[k]!.el = [] := List.eq_nil_of_length_eq_zero (by omega)
  refine pO (Le.stmtN (i := 3) l[k]! hln.symm (.inl rfl) (.inr ⟨rfl, hel⟩) rfl) ?_
  (apply dJ (k + 1, _);focus (refine Le.ren [(0, 3)] rfl (by decide) ?_ ?_ <;> repeat' (first|exact trivial|refine And.intro ⟨_, rfl, ?_⟩ ?_|refine And.intro ⟨_, _, rfl, rfl, ?_⟩ ?_|exact Or.inr rfl|refine Or.inl ⟨?_, (by first|rfl|exact aY _ _)⟩|rfl)))
  ·exact ⟨by dsimp only;omega, by dsimp only;rw [hxs, c6 l k (by omega)]⟩
  ·dsimp only;omega
 ·have hth : l[k]!.th = [] := List.eq_nil_of_length_eq_zero (by omega)
  refine pO (Le.stmtN (i := 3) l[k]! hln.symm (.inr ⟨rfl, hth⟩) (.inl rfl) rfl) ?_
  (apply dJ (k + 1, _);focus (refine Le.ren [(0, 3)] rfl (by decide) ?_ ?_ <;> repeat' (first|exact trivial|refine And.intro ⟨_, rfl, ?_⟩ ?_|refine And.intro ⟨_, _, rfl, rfl, ?_⟩ ?_|exact Or.inr rfl|refine Or.inl ⟨?_, (by first|rfl|exact aY _ _)⟩|rfl)))
  ·exact ⟨by dsimp only;omega, by dsimp only;rw [hxs, c6 l k (by omega)]⟩
  ·dsimp only;omega
 ·have hth : l[k]!.th = [] := List.eq_nil_of_length_eq_zero (by omega)
  have hel : l[k]!.el = [] := List.eq_nil_of_length_eq_zero (by omega)
  refine pO (Le.stmtN (i := 3) l[k]! hln.symm (.inr ⟨rfl, hth⟩) (.inr ⟨rfl, hel⟩) rfl) ?_
  (apply dJ (k + 1, _);focus (refine Le.ren [(0, 3)] rfl (by decide) ?_ ?_ <;> repeat' (first|exact trivial|refine And.intro ⟨_, rfl, ?_⟩ ?_|refine And.intro ⟨_, _, rfl, rfl, ?_⟩ ?_|exact Or.inr rfl|refine Or.inl ⟨?_, (by first|rfl|exact aY _ _)⟩|rfl)))
  ·exact ⟨by dsimp only;omega, by dsimp only;rw [hxs, c6 l k (by omega)]⟩
  ·dsimp only;omega
 ·have hke : k = l.length := by omega
  have hxl : xs = l := by rw [hxs, hke, List.take_length]
  subst hke
  refine aO rfl ?_
  refine bV () trivial ?_ ⟨.inr (Eq.trans (b := some _) rfl ?_), trivial⟩
  ·rfl
  ·rw [hxl]
theorem Fs {l : List AL.Stmt} {N : Nat} {Q : Exit → AS → Prop} {all : Array Oper} {rest : List Oper} {tsl : List (Nat × AV)} {hsl : List (Nat × Option (List AV))} {nidl : Nat} {z0 : Lo} {md : Md} {d : Nat} {ty : TypeId} {pos : String} {af : Array Edge} {tys : Array TypeId} {x0 : Operand} (ha0 : ev (lk tsl) x0 = some (sl bO l)) (hmc : MC Tryz.prog 180 [sl bO l] [] 0 (fun _ : Unit => True) (fun _ => .own 0 0 l.length 6) (fun _ => [(0, some (aI bO l))])) (hM : Nat.ble (nidl + 1) eR = true) (hN : Nat.blt d N = true) {md' : Md} [hmd : MdA md (gL [x0] ++ []) (List.map Sum.inr (List.map Prod.fst ([(nidl, some (aI bO l))] : List (Nat × Option (List AV)))) ++ [.inl d]) md'] (kk : RW Tryz.prog N all Q md' rest ⟨(d, .own nidl 0 l.length 6) :: tsl, iF hsl [(nidl, some (aI bO l))], nidl + 1, z0⟩) : RW Tryz.prog N all Q md (⟨some d, .call ⟨.value (.func 180), #[x0], tys⟩, ty, pos, af, none⟩ :: rest) ⟨tsl, hsl, nidl, z0⟩ := by
 refine cB [] 1 [(nidl, some (aI bO l))] hmc (avs := [sl bO l]) ?_ rfl ?_ rfl ?_ (by simpa using hM) ?_ ?_ ?_ hN (md' := md') (hmd := hmd) kk
 ·show evL (lk tsl) [x0] = _
  simp only [evL, ha0]
 ·exact trivial
 ·(repeat' (exact RnL.purI inferInstance))
 ·(repeat' (exact RnV.own rfl))
 ·simp [dI]
 ·(repeat' (first|exact trivial|(refine And.intro ⟨0, _, rfl, rfl, ?_⟩ ?_)|exact RnL.purI inferInstance))
theorem D4 {q : Prg} {N : Nat} {Q : Exit → AS → Prop} {all : Array Oper} {rest : List Oper} {tsl : List (Nat × AV)} {hsl : List (Nat × Option (List AV))} {nidl : Nat} {z0 : Lo} {md : Md} {d : Nat} {ty : TypeId} {pos : String} {af : Array Edge} {tys : Array TypeId} {x0 : Operand} (ha0 : ev (lk tsl) x0 = some (dM q)) (hmc : MC Tryz.prog 125 [dM q] [] 0 (fun _ : Unit => True) (fun _ => .agg [.own 3 0 q.types.length 1, .own 4 0 q.body.length 6]) (fun _ => [(3, some (aI cI q.types)), (4, some (aI bO q.body))])) (hM : Nat.ble (nidl + 5) eR = true) (hN : Nat.blt d N = true) {md' : Md} [hmd : MdA md (gL [x0] ++ []) (List.map Sum.inr (List.map Prod.fst ([((nidl + 3), some (aI cI q.types)), ((nidl + 4), some (aI bO q.body))] : List (Nat × Option (List AV)))) ++ [.inl d]) md'] (kk : RW Tryz.prog N all Q md' rest ⟨(d, .agg [.own (nidl + 3) 0 q.types.length 1, .own (nidl + 4) 0 q.body.length 6]) :: tsl, iF hsl [((nidl + 3), some (aI cI q.types)), ((nidl + 4), some (aI bO q.body))], nidl + 5, z0⟩) : RW Tryz.prog N all Q md (⟨some d, .call ⟨.value (.func 125), #[x0], tys⟩, ty, pos, af, none⟩ :: rest) ⟨tsl, hsl, nidl, z0⟩ := by
 refine cB [] 5 [((nidl + 3), some (aI cI q.types)), ((nidl + 4), some (aI bO q.body))] hmc (avs := [dM q]) ?_ rfl ?_ rfl ?_ (by simpa using hM) ?_ ?_ ?_ hN (md' := md') (hmd := hmd) kk
 ·show evL (lk tsl) [x0] = _
  simp only [evL, ha0]
 ·exact trivial
 ·(repeat' (exact RnL.purI inferInstance))
 ·(repeat' (first|exact RnL.purI inferInstance|exact RnV.own rfl|refine RnL.cons ?_ ?_|refine RnV.agg ?_))
 ·simp [dI]
 ·(repeat' (first|exact trivial|(refine And.intro ⟨3, _, rfl, rfl, ?_⟩ ?_)|(refine And.intro ⟨4, _, rfl, rfl, ?_⟩ ?_)|exact RnL.purI inferInstance))
theorem Hj (q : Prg) (hs : cA q.body ≤ 1000000) (ht : q.types.length ≤ 1000000) : MC Tryz.prog 125 [dM q] [] 0 (fun _ : Unit => True) (fun _ => .agg [.own 3 0 q.types.length 1, .own 4 0 q.body.length 6]) (fun _ => [(3, some (aI cI q.types)), (4, some (aI bO q.body))]) := by
 (refine bX Tryz.func125 rfl (by simp [Tryz.ntmps125]) ?_; rw [Tryz.ntmps125])
 repeat' (first|(apply aK;first|(apply Fs;rfl;(apply Im;assumption);rfl;rfl)|(apply aN;rfl;rfl;rfl;rfl)|(apply aD;rfl;rfl;rfl)|(apply bY;rfl;rfl;rfl;rfl;rfl;(case hl => (simp [aR]; done));(exact jC (by (rfl)));omega;omega;(exact e7 (by (omega)));rfl;rfl)|(apply aF;kernel_rfl)|(apply cC;rfl;(exact (rfl:_=some [_, _]));(exact (rfl:_=[_, _]));rfl)|(apply bH;rfl;rfl;rfl;rfl)|(apply bD;rfl;rfl)|(apply b0;rfl;rfl;rfl;(rfl);rfl;rfl)|(apply aW;rfl;rfl;rfl;rfl;rfl;(case hl => (simp;done));(exact (rfl:_=[_, _]))))|(apply aL;first|apply aH|apply aB|(apply b9;kernel_rfl)|apply aQ)|with_reducible apply aA)
 refine aO rfl ?_
 refine bV () trivial ?_ ⟨.inr (Eq.trans (b := some _) rfl ?_), .inr (Eq.trans (b := some _) rfl ?_), trivial⟩
 ·show AV.agg [AV.own 3 0 (0 + q.types.length) 1, AV.own 4 0 q.body.length 6] = _
  rw [Nat.zero_add]
 ·rfl
 ·rfl
theorem Gk (s : AL.Stmt) (a : Int) : dP (L4 s a) = dP s := by simp [gZ, L4, AL.Stmt.th, AL.Stmt.el]
theorem IU (s : AL.Stmt) (a : Int) : dP (uX s a) = dP s := by simp [gZ, uX, AL.Stmt.th, AL.Stmt.el]
theorem IL (s : AL.Stmt) (a : Int) : dP (uY s a) = dP s := by simp [gZ, uY, AL.Stmt.th, AL.Stmt.el]
theorem HL (s : AL.Stmt) (a : Int) : dP (uN s a) = dP s := by simp [gZ, uN, AL.Stmt.th, AL.Stmt.el]
theorem lY : ∀ (xs : List AL.Stmt) (k : Nat) (y : AL.Stmt), k < xs.length → dP y = dP xs[k]! → cA (xs.set k y) = cA xs
 | [], k, y, h, _ => by simp at h
 | x :: xs, 0, y, _, h => by simp only [List.set_cons_zero, cA]; simp only [List.getElem!_cons_zero] at h;omega
 | x :: xs, k + 1, y, h, h2 => by
  simp only [List.set_cons_succ, cA]
  rw [lY xs k y (by simpa using h) (by rw [h2]; simp only [List.getElem!_cons_succ])]
theorem AB (s : AL.Stmt) : ∀ k, cA (List.replicate k s) = k * dP s
 | 0 => by simp [cA]
 | k + 1 => by simp only [List.replicate_succ, cA, AB s k, Nat.succ_mul]; omega
theorem AM : ∀ (xs : List AL.Stmt) (k : Nat), cA (xs.take k ++ xs.drop (k + 1)) ≤ cA xs
 | [], k => by simp [cA]
 | x :: xs, 0 => by simp [cA]
 | x :: xs, k + 1 => by have := AM xs k;simp only [List.take_succ_cons, List.drop_succ_cons, List.cons_append, cA]; omega
theorem qZ {T : Nat → Option AV} {x : Operand} {dd : Nat} {k : IntKind} {m : Int} (hx : ev T x = some (.v (.int k m))) (h : 0 ≤ m) : iD T (some x) dd = some m.toNat := by
 simp only [iD, hx]; rw [if_pos h]
section
variable {P : Program} {N : Nat} {Q : Exit → AS → Prop} {all : Array Oper} {rest : List Oper} {ts : List (Nat × AV)} {hs : List (Nat × Option (List AV))} {n : Nat} {z0 : Lo} {md : Md}
variable {d : Nat} {ty : TypeId} {pos : String} {af : Array Edge}
theorem BD {t el : TypeId} {x : Operand} {hi : Option Operand} {i o m e h : Nat} [ht : SlT P t el] [he : SzT P el e] (hx : ev (lk ts) x = some (.own i o m e))
  (hh : iD (lk ts) hi m = some h) (hb : h ≤ m) (hN : Nat.blt d N = true) {md' : Md} [hmd : MdA md (rO x ++ (rB none ++ rB hi)) [.inl d] md'] (kk : RW P N all Q md' rest ⟨(d, .own i o h e) :: ts, hs, n, z0⟩) :
  RW P N all Q md (⟨some d, .slice t x none hi none, ty, pos, af, none⟩ :: rest) ⟨ts, hs, n, z0⟩ :=
 iS (m := m) (l := 0) (h := h) hx rfl rfl hh (by simp [JI, hb]) hN (md' := md') (hmd := hmd) kk
end
theorem HC {hs : List (Nat × Option (List AV))} {xs : List AL.Stmt} {i k n : Nat} (hH : cK hs i = some (aI bO xs)) (hn : n = xs.length - k) : sCells (cK hs) 6 (qM (.own i (0 + k * 6) n 6)) = some (n, aI bO (xs.drop k)) := by
 show ((cK hs i).bind fun cs => if n * 6 ≤ (cs.drop (0 + k * 6)).length then some (n, (cs.drop (0 + k * 6)).take (n * 6)) else none) = _
 rw [hH, Option.bind_some, Nat.zero_add]
 have h1 : (aI bO xs).length = xs.length * 6 := aR bO xs
 have h3 : (aI bO xs).drop (k * 6) = aI bO (xs.drop k) := by
  have h4 : aI bO xs = aI bO (xs.take k) ++ aI bO (xs.drop k) := by rw [dQ, List.take_append_drop]
  have h5 : (aI bO (xs.take k)).length = (xs.take k).length * 6 := aR bO _
  by_cases hk : k ≤ xs.length
  ·rw [h4, ← show (aI bO (xs.take k)).length = k * 6 from by rw [h5, List.length_take]; congr 1;omega, List.drop_left]
  ·rw [List.drop_of_length_le (by omega), List.drop_of_length_le (by omega)]; rfl
 rw [h3]
 have h2 : (aI bO (xs.drop k)).length = (xs.length - k) * 6 := by rw [aR bO (e := 6), List.length_drop]
 rw [if_pos (by omega), List.take_of_length_le (by omega)]
theorem H2 {xs ys : List AL.Stmt} {k : Nat} (hk : k ≤ xs.length) : ((aI bO xs).drop 0).take (k * 6) ++ aI bO ys = aI bO (xs.take k ++ ys) := by
 rw [List.drop_zero, fA bO (e := 6), dQ]
theorem GI (bs : List UInt8) (p : Nat) (q : Prg) (hb : bs.length ≤ 2000) (hp : p ≤ 900000) (hs : cA q.body ≤ 10000) (ht : q.types.length ≤ 10000) : MC Tryz.prog 80 [.optr 0 0, dM q] [(0, some (fN bs p))] 1 (fun x : Prg × Nat => cA x.1.body ≤ 32 * cA q.body ∧ x.1.types.length ≤ q.types.length + 1 ∧ x.2 ≤ p + 3) (fun x => dM x.1) (fun x => [(0, some (fN bs x.2))]) := by
 have hlen := eY q.body
 have h0 := gH bs p (q.body.length : Int)
 (refine bX Tryz.func80 rfl (by simp [Tryz.ntmps80]) ?_; rw [Tryz.ntmps80])
 repeat' (first|(apply aK;first|(apply aE;rfl;rfl)|(first|(apply aN;rfl;rfl;rfl;rfl)|(apply aV;rfl;rfl;(exact (rfl:_=[_, _]));rfl;rfl;rfl))|(apply aD;rfl;rfl;rfl)|(apply aU;rfl;rfl;rfl;rfl)|(apply aC;rfl;rfl)|(apply cQ;rfl;rfl;(omega);rfl)|(first|(apply xU;rfl;rfl;rfl;rfl;infer_instance;rfl;(rfl);assumption;omega;(decide);(decide);rfl;rfl)|(apply m5;rfl;rfl;(rfl);(apply pV <;> (first|assumption|omega));rfl;rfl)|(apply D4;rfl;(apply Hj <;> (omega));rfl;rfl))|(first|(apply bQ;rfl;rfl;rfl)|(apply bY;rfl;rfl;rfl;rfl;rfl;(rw [aR]; omega);(rfl);omega;omega;(exact gW (by (omega)));rfl;rfl))|(apply aF;kernel_rfl)|(apply bH;rfl;rfl;rfl;rfl)|(apply bD;rfl;rfl)|(apply b0;rfl;rfl;rfl;(first|exact (rfl:_=some [_])|exact (rfl:_=some [_, _, _])|exact (rfl:_=some [_, _, _, _])|exact (rfl:_=some [_, _, _, _, _]));rfl;rfl)|(apply aW;rfl;rfl;rfl;rfl;rfl;(case hl => (first|(rw [aR]; simp only [gA] <;> omega)|(simp;done)));(first|exact J1 (by (omega))|exact LP (by (omega))|exact LF (by (omega))|exact La (by (omega))|exact (rfl:_=[_, _]))))|(apply aL;first|apply aH|apply aB|(apply b9;kernel_rfl)|(apply aP;rfl;all_goals intro hc;have hq:=hc;(try simp only [cH] at hq);try exfalso;omega)|apply aM|apply aT|apply aQ)|with_reducible apply aA|with_reducible apply bE|with_reducible apply aX)
 ·refine cE (Le.frzC (j := 2) (i := 6) [] rfl rfl (by decide)) ?_
  refine cE (Le.frzC (j := 2) (i := 7) [.imm _ _] rfl rfl (by decide)) ?_
  refine aO rfl ?_
  refine bV ((⟨q.types, q.body⟩ : Prg), p) ?_ ?_ ⟨.inr (Eq.trans (b := some _) rfl ?_), trivial⟩
  ·exact ⟨by dsimp only;omega, by dsimp only;omega, by dsimp only;omega⟩
  ·rfl
  ·rfl
 ·refine cE (Le.frzC (j := 2) (i := 6) [] rfl rfl (by decide)) ?_
  refine cE (Le.frzC (j := 2) (i := 7) [.imm _ _] rfl rfl (by decide)) ?_
  refine aO rfl ?_
  refine bV ((⟨q.types, q.body.set (cX bs p (q.body.length : Int)).toNat (L4 q.body[(cX bs p (q.body.length : Int)).toNat]! (jE bs (p + 1 + 1) [0, 11, 1, 3, 8]))⟩ : Prg), p + 1 + 1 + 1) ?_ ?_ ⟨.inr (Eq.trans (b := some _) rfl ?_), trivial⟩
  ·refine ⟨?_, by dsimp only;omega, by dsimp only;omega⟩; dsimp only;rw [lY q.body (cX bs p (q.body.length : Int)).toNat _ (by omega) (by rw [Gk])]; omega
  ·show _ = AV.agg [_, AV.imm (List.length (q.body.set _ _)) _]; rw [List.length_set]; rfl
  ·rfl
 ·refine cE (Le.frzC (j := 2) (i := 6) [] rfl rfl (by decide)) ?_
  refine cE (Le.frzC (j := 2) (i := 7) [.imm _ _] rfl rfl (by decide)) ?_
  refine aO rfl ?_
  refine bV ((⟨q.types, q.body.set (cX bs p (q.body.length : Int)).toNat (uX q.body[(cX bs p (q.body.length : Int)).toNat]! (jE bs (p + 1 + 1) [6, -1, 0, 1]))⟩ : Prg), p + 1 + 1 + 1) ?_ ?_ ⟨.inr (Eq.trans (b := some _) rfl ?_), trivial⟩
  ·refine ⟨?_, by dsimp only;omega, by dsimp only;omega⟩; dsimp only;rw [lY q.body (cX bs p (q.body.length : Int)).toNat _ (by omega) (by rw [IU])]; omega
  ·show _ = AV.agg [_, AV.imm (List.length (q.body.set _ _)) _]; rw [List.length_set]; rfl
  ·rfl
 ·refine cE (Le.frzC (j := 2) (i := 6) [] rfl rfl (by decide)) ?_
  refine cE (Le.frzC (j := 2) (i := 7) [.imm _ _] rfl rfl (by decide)) ?_
  refine aO rfl ?_
  refine bV ((⟨q.types, q.body.set (cX bs p (q.body.length : Int)).toNat (uY q.body[(cX bs p (q.body.length : Int)).toNat]! (jE bs (p + 1 + 1) [6, -1, 0, 1]))⟩ : Prg), p + 1 + 1 + 1) ?_ ?_ ⟨.inr (Eq.trans (b := some _) rfl ?_), trivial⟩
  ·refine ⟨?_, by dsimp only;omega, by dsimp only;omega⟩; dsimp only;rw [lY q.body (cX bs p (q.body.length : Int)).toNat _ (by omega) (by rw [IL])]; omega
  ·show _ = AV.agg [_, AV.imm (List.length (q.body.set _ _)) _]; rw [List.length_set]; rfl
  ·rfl
 ·refine cE (Le.frzC (j := 2) (i := 6) [] rfl rfl (by decide)) ?_
  refine cE (Le.frzC (j := 2) (i := 7) [.imm _ _] rfl rfl (by decide)) ?_
  refine aO rfl ?_
  refine bV ((⟨q.types, q.body.set (cX bs p (q.body.length : Int)).toNat (uN q.body[(cX bs p (q.body.length : Int)).toNat]! (jE bs (p + 1 + 1) [10, -1, 5]))⟩ : Prg), p + 1 + 1 + 1) ?_ ?_ ⟨.inr (Eq.trans (b := some _) rfl ?_), trivial⟩
  ·refine ⟨?_, by dsimp only;omega, by dsimp only;omega⟩; dsimp only;rw [lY q.body (cX bs p (q.body.length : Int)).toNat _ (by omega) (by rw [HL])]; omega
  ·show _ = AV.agg [_, AV.imm (List.length (q.body.set _ _)) _]; rw [List.length_set]; rfl
  ·rfl
 ·refine cE (Le.frzC (j := 2) (i := 11) [] rfl rfl (by decide)) ?_
  refine cE (Le.frzC (j := 2) (i := 7) [.imm _ _] rfl rfl (by decide)) ?_
  refine aO rfl ?_
  refine bV ((⟨q.types ++ [jE bs (p + 1 + 1) [1, 5, 0, 4]], q.body⟩ : Prg), p + 1 + 1 + 1) ?_ ?_ ⟨.inr (Eq.trans (b := some _) rfl ?_), trivial⟩
  ·exact ⟨by dsimp only;omega, by simp, by dsimp only;omega⟩
  ·show _ = AV.agg [AV.imm (List.length (q.types ++ [_])) _, _]; rw [List.length_append]; rfl
  ·rfl
 ·refine a8 (σ := Nat × List AL.Stmt × Nat) [4, 5] [(4, _), (5, _)] [6, 2, 0] [(6, some _), (2, some _), (0, some _)] (fun k => [(7, iv (k.1 : Int))]) (fun k => [(7, some (aI bO k.2.1)), (8, some [.own 6 0 q.types.length 1, .own 7 0 k.2.2 6])]) (fun k => k.1 ≤ 31 ∧ k.2.1 = q.body ++ List.replicate k.1 q.body[0]! ∧ k.2.2 = k.2.1.length) (fun k => 31 - k.1) (0, q.body, q.body.length) ⟨by omega, by simp, rfl⟩ rfl rfl (by repeat' (first | exact trivial | refine And.intro rfl ?_)) (by repeat' (first | exact trivial | refine And.intro (.inr rfl) ?_)) ?_
  rintro ⟨k, xs, m⟩ ⟨hk, hxs, hm⟩
  dsimp only at hk hxs hm ⊢
  have hln : 0 < xs.length := by rw [hxs, List.length_append]; omega
  have hl2 : xs.length = q.body.length + k := by rw [hxs, List.length_append, List.length_replicate]
  repeat' (first|(apply aK;first|(apply aE;rfl;rfl)|(first|(apply gS;(case hx|hH => rfl);(case hf|hg|hα => infer_instance);(case hk => omega);(case h0|hN => rfl))|(apply aN;rfl;rfl;rfl;rfl)|(apply aV;rfl;rfl;(exact (rfl:_=[_, _]));rfl;rfl;rfl))|(apply aD;rfl;rfl;rfl)|(first|(apply bS;rfl;rfl;omega;rfl)|(apply aU;rfl;rfl;rfl;rfl))|(apply aC;rfl;rfl)|(apply cQ;rfl;rfl;(omega);rfl)|(apply bY;rfl;rfl;rfl;rfl;rfl;(rw [aR]; omega);(rfl);omega;omega;(exact k7 (by (assumption)));rfl;rfl)|(apply aF;kernel_rfl)|(apply b0;rfl;rfl;rfl;(exact (rfl:_=some [_, _, _, _, _, _]));rfl;rfl)|(apply aW;rfl;rfl;rfl;rfl;rfl;(case hl => (simp;done));(exact (rfl:_=[_, _]))))|(apply aL;first|apply aH|apply aB|(apply b9;kernel_rfl)|(apply aP;rfl;all_goals intro hc;have hq:=hc;(try simp only [cH] at hq);try exfalso;omega)|apply aM|apply aT|apply bK|apply aQ)|with_reducible apply aA|with_reducible apply bI|with_reducible apply aX|with_reducible apply bJ)
  ·(apply dJ (k + 1, _, _); focus (refine Le.ren [(7, 10), (8, 8), (6, 6), (2, 2)] rfl (by decide) ?_ ?_ <;> repeat' (first | exact trivial | refine And.intro ⟨_, rfl, ?_⟩ ?_ | refine And.intro ⟨_, _, rfl, rfl, ?_⟩ ?_ | exact Or.inr rfl | refine Or.inl ⟨?_, (by first | rfl | exact aY _ _ | exact Pur.pf)⟩ | refine Or.inr (All2.cons ?_ ?_) | refine All2.cons ?_ ?_ | exact All2.nil | rfl)))
   ·dsimp only
    refine ⟨by omega, ?_, by simp [hm]⟩
    have e0 : xs[Int.toNat 0]! = q.body[0]! := by
     show xs[0]! = _
     rw [hxs, getElem!_pos _ _ (by rw [List.length_append]; omega), List.getElem_append_left (by omega), getElem!_pos _ _ (by omega)]
    rw [e0, hxs, List.replicate_succ', List.append_assoc]
   ·dsimp only;omega
  ·have hc0 : dP q.body[0]! ≤ cA q.body := gX q.body 0 (by omega)
   have hc1 : cA xs = cA q.body + k * dP q.body[0]! := by rw [hxs, gP, AB]
   have hc2 : k * dP q.body[0]! ≤ 31 * cA q.body := Nat.mul_le_mul hk hc0
   subst hm
   refine cE (Le.frzC (j := 2) (i := 6) [] rfl rfl (by decide)) ?_
   refine cE (Le.frzC (j := 2) (i := 7) [.imm _ _] rfl rfl (by decide)) ?_
   refine aO rfl ?_
   refine bV ((⟨q.types, xs⟩ : Prg), p + 1 + 1) ?_ ?_ ⟨.inr (Eq.trans (b := some _) rfl ?_), trivial⟩
   ·exact ⟨by dsimp only;omega, by dsimp only;omega, by dsimp only;omega⟩
   ·rfl
   ·rfl
 ·have hK : (cX bs p (q.body.length : Int) + 1).toNat = (cX bs p (q.body.length : Int)).toNat + 1 := by omega
  repeat' (first|(apply aK;first|(apply BD;rfl;exact qZ rfl (by omega);omega;rfl)|(apply B0;rfl;exact qZ rfl (by omega);omega;rfl)|(apply bY;rfl;rfl;rfl;rfl;rfl;(rw [aR]; omega);exact HC rfl (by omega);omega;omega;exact H2 (by omega);rfl;rfl)|(apply aE;rfl;rfl)|(first|(apply aN;rfl;rfl;rfl;rfl)|(apply aV;rfl;rfl;(exact (rfl:_=[_, _]));rfl;rfl;rfl))|(apply aD;rfl;rfl;rfl)|(apply bS;rfl;rfl;omega;rfl)|(apply aF;kernel_rfl)|(apply aW;rfl;rfl;rfl;rfl;rfl;(case hl => (simp;done));(exact (rfl:_=[_, _]))))|(apply aL;first|apply aH|apply aB|apply aQ)|with_reducible apply aA|with_reducible apply aX)
  refine cE (Le.frzC (j := 2) (i := 6) [] rfl rfl (by decide)) ?_
  refine cE (Le.frzC (j := 2) (i := 9) [.imm _ _] rfl rfl (by decide)) ?_
  refine aO rfl ?_
  refine bV ((⟨q.types, q.body.take (cX bs p (q.body.length : Int)).toNat ++ q.body.drop (cX bs p (q.body.length : Int) + 1).toNat⟩ : Prg), p + 1 + 1) ?_ ?_ ⟨.inr (Eq.trans (b := some _) rfl ?_), trivial⟩
  ·refine ⟨?_, by dsimp only; omega, by dsimp only; omega⟩
   dsimp only
   rw [hK]
   have := AM q.body (cX bs p (q.body.length : Int)).toNat
   omega
  ·show AV.agg [_, AV.imm _ _] = AV.agg [_, AV.imm (List.length (_ ++ _)) _]
   rw [List.length_append, List.length_take, List.length_drop, Nat.min_eq_left (by omega)]
  ·rfl
 ·refine cE (Le.frzC (j := 2) (i := 6) [] rfl rfl (by decide)) ?_
  refine cE (Le.frzC (j := 2) (i := 7) [.imm _ _] rfl rfl (by decide)) ?_
  refine aO rfl ?_
  refine bV (q, p + 1 + 1) ⟨by dsimp only;omega, by dsimp only;omega, by dsimp only;omega⟩ rfl ⟨.inr (Eq.trans (b := some _) rfl ?_), trivial⟩
  ·rfl
def Dc (s : ByteArray) (i : Int) (w : ByteArray) : Bool := decide (0 ≤ i) && (decide (i + w.size ≤ s.size) && ((s.extract i.toNat (i + w.size).toNat).toList == w.toList))
def Ih (lo hi : Int) (s : ByteArray) (i : Int) : Int := if i < 0 then -1 else if (s.size : Int) ≤ i then -1 else if ((s[i.toNat]!).toNat : Int) < lo then -1 else if hi < ((s[i.toNat]!).toNat : Int) then -1 else ((s[i.toNat]!).toNat : Int) - lo
theorem s9 (s : ByteArray) (i : Int) (w : ByteArray) (hs : s.size ≤ 1000000) (hw : w.size ≤ 1000000) (hi : i ≤ 1000000) : PC Tryz.prog 225 [sv s, iv i, sv w] (fun r => r = bv (Dc s i w)) := by
 (refine aS Tryz.func225 rfl (by simp [Tryz.ntmps225]) ?_; rw [Tryz.ntmps225])
 repeat' (first|(apply aK;first|(apply lK;rfl;rfl;(rfl);rfl)|(apply DA;rfl;exact qZ rfl (by omega);exact qZ rfl (by omega);omega;rfl)|(apply aE;rfl;rfl)|(first|(apply a6;rfl;rfl;rfl;(assumption))|(apply bB;rfl;rfl;rfl;(first|rfl|assumption))|(apply bR;(case hj|hb|hN => rfl);all_goals (intro hg;have hq := hg;(try simp only [cH] at hq);(try (exfalso;omega)))))|(first|(apply bS;rfl;rfl;omega;rfl)|(apply aU;rfl;rfl;rfl;rfl))|(apply aC;rfl;rfl)|(first|(apply bU;rfl;(assumption);rfl;rfl)|(apply bG;rfl;(first|rfl|assumption);rfl;rfl))|(apply kL;rfl;rfl)|(apply aF;kernel_rfl))|(apply aL;first|apply aH|apply aB|apply aQ)|with_reducible apply aA|((with_reducible apply aO);case hr => rfl))
 all_goals (refine ⟨?_, rfl⟩; simp only [bW, AV.v.injEq, Value.bool.injEq, Value.int.injEq, true_and])
 ·unfold Dc
  rw [decide_eq_true (by omega), decide_eq_true (by omega)]; rfl
 ·unfold Dc
  rw [decide_eq_true (p := 0 ≤ i) (by omega), decide_eq_false (by omega)]; rfl
 ·unfold Dc
  rw [decide_eq_false (by omega)]; rfl
theorem IW (s : ByteArray) (i : Int) (hs : s.size ≤ 1000000) : PC Tryz.prog 246 [sv s, iv i] (fun r => r = iv (Ih 97 122 s i)) := by
 have hb0 : ((s[i.toNat]!).toNat : Int) ≤ 255 := by have := (s[i.toNat]!).toNat_lt;omega
 (refine aS Tryz.func246 rfl (by simp [Tryz.ntmps246]) ?_; rw [Tryz.ntmps246])
 repeat' (first|(apply aK;first|(apply pQ;rfl;rfl;omega;rfl)|(apply C7;rfl;rfl;omega;rfl)|(apply aE;rfl;rfl)|(first|(apply a6;rfl;rfl;rfl;(assumption))|(apply bB;rfl;rfl;rfl;(first|rfl|assumption))|(apply bR;(case hj|hb|hN => rfl);all_goals (intro hg;have hq := hg;(try simp only [cH] at hq);(try (exfalso;omega)))))|(apply aU;rfl;rfl;rfl;rfl)|(apply aC;rfl;rfl)|(first|(apply bU;rfl;(first|rfl|assumption);rfl;rfl)|(apply bG;rfl;(assumption);rfl;rfl))|(apply kL;rfl;rfl)|(apply aF;kernel_rfl)|(apply pK;rfl;(omega);rfl))|(apply aL;first|apply aH|apply aB|(apply bZ;rfl;(rfl))|(apply aP;rfl;all_goals intro hc;have hq:=hc;(try simp only [cH] at hq);try exfalso;omega)|apply aT|apply aQ)|with_reducible apply aA|with_reducible apply bE|((with_reducible apply aO);case hr => rfl))
 all_goals (refine ⟨?_, rfl⟩; simp only [bW, AV.v.injEq, Value.bool.injEq, Value.int.injEq, true_and])
 all_goals (unfold Ih;repeat' split)
 all_goals (first|rfl|omega)
theorem Ds (s : ByteArray) (i : Int) (hs : s.size ≤ 1000000) : PC Tryz.prog 248 [sv s, iv i] (fun r => r = iv (Ih 48 57 s i)) := by
 have hb0 : ((s[i.toNat]!).toNat : Int) ≤ 255 := by have := (s[i.toNat]!).toNat_lt;omega
 (refine aS Tryz.func248 rfl (by simp [Tryz.ntmps248]) ?_; rw [Tryz.ntmps248])
 repeat' (first|(apply aK;first|(apply pQ;rfl;rfl;omega;rfl)|(apply C7;rfl;rfl;omega;rfl)|(apply aE;rfl;rfl)|(first|(apply a6;rfl;rfl;rfl;(assumption))|(apply bB;rfl;rfl;rfl;(first|rfl|assumption))|(apply bR;(case hj|hb|hN => rfl);all_goals (intro hg;have hq := hg;(try simp only [cH] at hq);(try (exfalso;omega)))))|(apply aU;rfl;rfl;rfl;rfl)|(apply aC;rfl;rfl)|(first|(apply bU;rfl;(first|rfl|assumption);rfl;rfl)|(apply bG;rfl;(assumption);rfl;rfl))|(apply kL;rfl;rfl)|(apply aF;kernel_rfl)|(apply pK;rfl;(omega);rfl))|(apply aL;first|apply aH|apply aB|(apply bZ;rfl;(rfl))|(apply aP;rfl;all_goals intro hc;have hq:=hc;(try simp only [cH] at hq);try exfalso;omega)|apply aT|apply aQ)|with_reducible apply aA|with_reducible apply bE|((with_reducible apply aO);case hr => rfl))
 all_goals (refine ⟨?_, rfl⟩; simp only [bW, AV.v.injEq, Value.bool.injEq, Value.int.injEq, true_and])
 all_goals (unfold Ih;repeat' split)
 all_goals (first|rfl|omega)
def QP (s : ByteArray) (i : Int) (r : AV) : Prop := ∃ (x : AL.Stmt) (nx : Int), r = .tup [fQ x, iv nx] ∧ ((nx = -1 ∧ (dP x : Int) ≤ s.size + 1) ∨ (i < nx ∧ nx ≤ s.size + 3 ∧ (dP x : Int) ≤ nx - i))
def QB (s : ByteArray) (i : Int) (r : AV) : Prop := ∃ (l : List AL.Stmt) (nx : Int), r = .tup [sl bO l, iv nx] ∧ ((nx = -1 ∧ l = []) ∨ (0 ≤ i ∧ i + 2 ≤ nx ∧ nx ≤ s.size ∧ (cA l : Int) ≤ nx - i))
def QL (s : ByteArray) (i : Int) (r : AV) : Prop := ∃ (l : List AL.Stmt) (nx : Int), r = .tup [sl bO l, iv nx] ∧ ((nx = -1 ∧ l = []) ∨ (i ≤ nx ∧ nx ≤ s.size ∧ (cA l : Int) ≤ nx - i))
theorem kO {s w : ByteArray} {i : Int} (h : Dc s i w = true) : 0 ≤ i ∧ i + w.size ≤ s.size := by
 unfold Dc at h;simp only [Bool.and_eq_true, decide_eq_true_eq] at h;exact ⟨h.1, h.2.1⟩
theorem Mj {s : ByteArray} {i op x y n nx : Int} (h : nx = -1 ∨ (i < nx ∧ nx ≤ s.size + 3)) : QP s i (.tup [.agg [iv op, iv x, iv y, iv n, .imm 0 [], .imm 0 []], iv nx]) :=
 ⟨.mk op x y n [] [], nx, rfl, by simp only [dP, cA]; omega⟩
theorem Mi {s : ByteArray} {i op x y n nx : Int} {th : List AL.Stmt} (h : (nx = -1 ∧ (cA th : Int) ≤ s.size) ∨ (i < nx ∧ nx ≤ s.size + 3 ∧ (cA th : Int) + 1 ≤ nx - i)) : QP s i (.tup [.agg [iv op, iv x, iv y, iv n, sl bO th, .imm 0 []], iv nx]) :=
 ⟨.mk op x y n th [], nx, rfl, by simp only [dP, cA]; omega⟩
theorem Mm {s : ByteArray} {i op x y n nx : Int} {th el : List AL.Stmt} (h : (nx = -1 ∧ (cA th : Int) + cA el ≤ s.size) ∨ (i < nx ∧ nx ≤ s.size + 3 ∧ (cA th : Int) + cA el + 1 ≤ nx - i)) : QP s i (.tup [.agg [iv op, iv x, iv y, iv n, sl bO th, sl bO el], iv nx]) :=
 ⟨.mk op x y n th el, nx, rfl, by simp only [dP]; omega⟩
theorem QP.pur {s : ByteArray} {i : Int} {r : AV} (h : QP s i r) : r.pur = true := by obtain ⟨x, nx, rfl, _⟩ := h; exact Pur.pf
theorem QB.pur {s : ByteArray} {i : Int} {r : AV} (h : QB s i r) : r.pur = true := by obtain ⟨x, nx, rfl, _⟩ := h; exact Pur.pf
theorem QL.pur {s : ByteArray} {i : Int} {r : AV} (h : QL s i r) : r.pur = true := by obtain ⟨x, nx, rfl, _⟩ := h; exact Pur.pf
theorem uD {P : Program} {s : AS} {res : Array ResultVar} {q : AV → Prop} {l : List AV} (hQ : ∀ r, q r → r.pur = true) (hr : u6 P (lk s.ts) (cK s.hs) res.toList = some l) (h : q (bW l)) : Ag P res (fun r _ => q r ∧ r.pur = true) .ret s := aO hr ⟨h, hQ _ h⟩
theorem z1 (s : ByteArray) (i dp : Int) (hs : s.size ≤ 100000) (hi0 : 0 ≤ i) (hi : i ≤ s.size) (hd0 : 0 ≤ dp) (hd : dp ≤ 10) (braces_ih : ∀ j dj : Int, dj = dp - 1 → -1 ≤ j → j ≤ s.size + 10 → PC Tryz.prog 247 [sv s, iv j, iv dj] (QB s j)) : PC Tryz.prog 226 [sv s, iv i, iv dp] (QP s i) := by
 have h1 : Dc s i ⟨#[100, 114, 111, 112, 32]⟩ = true → i + 5 ≤ s.size := fun h => (kO h).2
 have h2 : Dc s i ⟨#[108, 111, 111, 112, 123]⟩ = true → i + 5 ≤ s.size := fun h => (kO h).2
 have h3 : Dc s i ⟨#[105, 102, 123]⟩ = true → i + 3 ≤ s.size := fun h => (kO h).2
 have h4 : Dc s i ⟨#[42]⟩ = true → i + 1 ≤ s.size := fun h => (kO h).2
 have h5 : Dc s (i + 1) ⟨#[61]⟩ = true → i + 1 + 1 ≤ s.size := fun h => (kO h).2
 have h6 : Dc s (i + 2) ⟨#[98, 111, 120, 32]⟩ = true → i + 2 + 4 ≤ s.size := fun h => (kO h).2
 have h7 : Dc s (i + 2) ⟨#[38, 109, 117, 116, 32]⟩ = true → i + 2 + 5 ≤ s.size := fun h => (kO h).2
 (refine aS Tryz.func226 rfl (by simp [Tryz.ntmps226]) ?_; rw [Tryz.ntmps226])
 repeat' (first|(apply aK;first|(apply aE;rfl;rfl)|(first|(apply a6;rfl;rfl;rfl;(assumption))|(apply bB;rfl;rfl;rfl;(assumption))|(apply bR;(case hj|hb|hN => rfl);all_goals (intro hg;have hq := hg;(try simp only [cH] at hq);(try (exfalso;omega)))))|(first|(apply bS;rfl;rfl;omega;rfl)|(apply hU;rfl;rfl;omega;rfl)|(apply aU;rfl;rfl;rfl;rfl))|(apply aC;rfl;rfl)|(first|(apply bU;rfl;(assumption);rfl;rfl)|(apply bG;rfl;(assumption);rfl;rfl))|(first|((with_reducible apply aJ (k := 225));(case ha => rfl);(case h => (apply s9 <;> (first|omega|decide)));(case hp => (rfl));(case hN => rfl))|((with_reducible apply aJ (k := 246));(case ha => rfl);(case h => (apply IW <;> (omega)));(case hp => (rfl));(case hN => rfl))|((with_reducible apply jL (k := 247));(case ha => rfl);(case h => (apply braces_ih <;> (omega)));(case hp => (rfl));(case hN => rfl);(rintro _ ⟨l, nx, rfl, hql⟩ _))|((with_reducible apply aJ (k := 248));(case ha => rfl);(case h => (apply Ds <;> (omega)));(case hp => (rfl));(case hN => rfl)))|(apply aF;kernel_rfl)|(apply cC;rfl;(exact (rfl:_=some [_, _, _, _, _, _]));(exact (rfl:_=[_, _, _, _, _, _]));rfl)|(apply cF;rfl;rfl)|(apply bD;rfl;rfl)|(apply bC;rfl;rfl;rfl)|(apply aW;rfl;rfl;rfl;rfl;rfl;(case hl => (first|decide|(simp;done)));(exact (rfl:_=[_, _, _, _, _, _]))))|(apply aL;first|apply aH|apply aB|(apply bZ;rfl;(rfl))|(apply aP;rfl;all_goals intro hc;have hq:=hc;(try simp only [cH] at hq);try exfalso;omega)|apply aM|apply aT|apply aQ)|with_reducible apply aA|with_reducible apply bE|with_reducible apply aX|with_reducible apply cO)
 all_goals refine uD (fun _ => QP.pur) (l := [.agg [_, _, _, _, _, _], _]) rfl ?_
 all_goals (try have b1 := h1 (by assumption))
 all_goals (try have b2 := h2 (by assumption))
 all_goals (try have b3 := h3 (by assumption))
 all_goals (try have b4 := h4 (by assumption))
 all_goals (try have b5 := h5 (by assumption))
 all_goals (try have b6 := h6 (by assumption))
 all_goals (try have b7 := h7 (by assumption))
 all_goals clear h1 h2 h3 h4 h5 h6 h7
 all_goals first
  | (refine Mj ?_; omega)
  | skip
 ·refine Mi (th := l) ?_
  rcases hql with ⟨h8, h9⟩|hql
  ·rw [h9]; simp only [cA]; omega
  ·omega
 ·rename_i l1 nx1 hql1 hpu1 hpu2
  refine Mm (th := l1) (el := l) ?_
  rcases hql1 with ⟨h8, h9⟩|hql1 <;> rcases hql with ⟨h10, h11⟩|hql
  ·rw [h9, h11]; simp only [cA]; omega
  ·omega
  ·rw [h11]; simp only [cA]; omega
  ·omega
theorem wI (s : ByteArray) (i dp : Int) (hs : s.size ≤ 100000) (hi0 : -1 ≤ i) (hi : i ≤ s.size + 10) (hd0 : -1 ≤ dp) (hd : dp ≤ 10) (list_ih : ∀ j dj : Int, 0 ≤ dp → dj = dp → 0 ≤ j → j ≤ s.size → PC Tryz.prog 181 [sv s, iv j, iv dj] (QL s j)) : PC Tryz.prog 247 [sv s, iv i, iv dp] (QB s i) := by
 have h1 : Dc s i ⟨#[123]⟩ = true → 0 ≤ i ∧ i + 1 ≤ s.size := fun h => kO h
 (refine aS Tryz.func247 rfl (by simp [Tryz.ntmps247]) ?_; rw [Tryz.ntmps247])
 repeat' (first|(apply aK;first|(apply aE;rfl;rfl)|(first|(apply a6;rfl;rfl;rfl;(assumption))|(apply bB;rfl;rfl;rfl;(assumption))|(apply bR;(case hj|hb|hN => rfl);all_goals (intro hg;have hq := hg;(try simp only [cH] at hq);(try (exfalso;omega)))))|(first|(apply bS;rfl;rfl;omega;rfl)|(apply aU;rfl;rfl;rfl;rfl))|(apply aC;rfl;rfl)|(first|(apply bU;rfl;(assumption);rfl;rfl)|(apply bG;rfl;(assumption);rfl;rfl))|((with_reducible apply aJ (k := 225));(case ha => rfl);(case h => (apply s9 <;> (first|omega|decide)));(case hp => (rfl));(case hN => rfl))|(apply aF;kernel_rfl)|(apply cF;rfl;rfl))|(apply aL;first|apply aH|apply aB|(apply bZ;rfl;(rfl))|(apply aP;rfl;all_goals intro hc;have hq:=hc;(try simp only [cH] at hq);try exfalso;omega)|apply aT|apply aQ)|with_reducible apply aA|with_reducible apply bE)
 ·refine cE (Le.nilImm (d := 6) rfl) ?_
  exact uD (fun _ => QB.pur) (l := [.imm 0 [], iv (-1)]) rfl ⟨[], -1, rfl, .inl ⟨rfl, rfl⟩⟩
 ·have b1 := h1 (by assumption)
  repeat' (first|(apply aK;first|(apply aE;rfl;rfl)|(apply bS;rfl;rfl;omega;rfl)|(apply aC;rfl;rfl)|(first|((with_reducible apply jL (k := 181));(case ha => rfl);(case h => (apply list_ih <;> (first|assumption|omega)));(case hp => (rfl));(case hN => rfl);(rintro _ ⟨l, nx, rfl, hql⟩ _))|((with_reducible apply aJ (k := 225));(case ha => rfl);(case h => (apply s9 <;> (first|omega|decide)));(case hp => (rfl));(case hN => rfl)))|(apply aF;kernel_rfl)|(apply cF;rfl;rfl)|(apply bC;rfl;rfl;rfl))|(apply aL;first|apply aH|apply aB|(apply aP;rfl;all_goals intro hc;have hq:=hc;(try simp only [cH] at hq);try exfalso;omega)|apply aT|apply aQ)|with_reducible apply aA|with_reducible apply bE)
  ·refine cE (Le.nilImm (d := 6) rfl) ?_
   exact uD (fun _ => QB.pur) (l := [.imm 0 [], iv (-1)]) rfl ⟨[], -1, rfl, .inl ⟨rfl, rfl⟩⟩
  ·have b2 : 0 ≤ nx ∧ nx + 1 ≤ s.size := kO (w := ⟨#[125]⟩) (by assumption)
   exact uD (fun _ => QB.pur) (l := [sl bO l, iv (nx + 1)]) rfl ⟨l, nx + 1, rfl, by omega⟩
 ·refine cE (Le.nilImm (d := 6) rfl) ?_
  exact uD (fun _ => QB.pur) (l := [.imm 0 [], iv (-1)]) rfl ⟨[], -1, rfl, .inl ⟨rfl, rfl⟩⟩
theorem CE (s : ByteArray) (i dp : Int) (hs : s.size ≤ 100000) (hi0 : 0 ≤ i) (hi : i ≤ s.size) (hd0 : 0 ≤ dp) (hd : dp ≤ 10) (parse_ih : ∀ j dj : Int, dj = dp → 0 ≤ j → j ≤ s.size → PC Tryz.prog 226 [sv s, iv j, iv dj] (QP s j)) : PC Tryz.prog 181 [sv s, iv i, iv dp] (QL s i) := by
 (refine aS Tryz.func181 rfl (by simp [Tryz.ntmps181]) ?_; rw [Tryz.ntmps181])
 repeat' (first|(apply aK;first|(apply aE;rfl;rfl)|(first|(apply a6;rfl;rfl;rfl;(assumption))|(apply bB;rfl;rfl;rfl;(assumption))|(apply bR;(case hj|hb|hN => rfl);all_goals (intro hg;have hq := hg;(try simp only [cH] at hq);(try (exfalso;omega)))))|(apply aU;rfl;rfl;rfl;rfl)|(apply aC;rfl;rfl)|(first|(apply bU;rfl;(assumption);rfl;rfl)|(apply bG;rfl;(assumption);rfl;rfl))|((with_reducible apply aJ (k := 225));(case ha => rfl);(case h => (apply s9 <;> (first|omega|decide)));(case hp => (rfl));(case hN => rfl))|(apply kL;rfl;rfl)|(apply aF;kernel_rfl)|(apply b0;rfl;rfl;rfl;(rfl);rfl;rfl))|(apply aL;first|apply aH|apply aB|(apply bZ;rfl;(rfl))|(apply aP;rfl;all_goals intro hc;have hq:=hc;(try simp only [cH] at hq);try exfalso;omega)|apply aM|apply aT|apply aQ)|with_reducible apply aA|with_reducible apply bE)
 rotate_left 1
 ·refine a8 (σ := Int × List AL.Stmt × Nat) [0, 2] [(0, _), (2, _)] [] [] (fun k => [(1, iv k.1), (8, .own 0 0 k.2.2 6)]) (fun k => [(0, some (aI bO k.2.1))]) (fun k => i ≤ k.1 ∧ k.1 ≤ s.size ∧ k.2.2 = k.2.1.length ∧ (cA k.2.1 : Int) ≤ k.1 - i) (fun k => (s.size - k.1).toNat) (i, [], 0) ⟨by omega, by omega, rfl, by simp [cA]⟩ rfl rfl (by repeat' (first | exact trivial | refine And.intro rfl ?_)) (by repeat' (first | exact trivial | refine And.intro (.inr rfl) ?_)) ?_
  rintro ⟨k, xs, m⟩ ⟨hk0, hk, hm, hc⟩
  dsimp only at hk0 hk hm hc ⊢
  have hln := eY xs
  repeat' (first|(apply aK;first|(apply aE;rfl;rfl)|(apply aV;rfl;rfl;(exact (rfl:_=[_, _, _, _, _, _]));rfl;rfl;rfl)|(first|(apply a6;rfl;rfl;rfl;(assumption))|(apply bB;rfl;rfl;rfl;(assumption))|(apply bR;(case hj|hb|hN => rfl);all_goals (intro hg;have hq := hg;(try simp only [cH] at hq);(try (exfalso;omega)))))|(first|(apply bS;rfl;rfl;omega;rfl)|(apply aU;rfl;rfl;rfl;rfl))|(apply aC;rfl;rfl)|(first|(apply bU;rfl;(assumption);rfl;rfl)|(apply bG;rfl;(assumption);rfl;rfl))|(first|((with_reducible apply aJ (k := 225));(case ha => rfl);(case h => (apply s9 <;> (first|omega|decide)));(case hp => (rfl));(case hN => rfl))|((with_reducible apply jL (k := 226));(case ha => rfl);(case h => (apply parse_ih <;> (first|assumption|omega)));(case hp => (rfl));(case hN => rfl);(rintro _ ⟨x, nx, rfl, hqx⟩ _)))|(first|(apply kL;rfl;rfl)|(apply bY;rfl;rfl;rfl;rfl;rfl;(rw [aR]; omega);(rfl);omega;omega;(exact k7 (by (assumption)));rfl;rfl))|(apply aF;kernel_rfl)|(apply cF;rfl;rfl)|(apply bD;rfl;rfl)|(apply bC;rfl;rfl;rfl)|((apply bF (t := _));(case hze|hsm|hl => rfl);(case hfl => (exact (rfl:_=some [_, _, _, _, _, _])));(case hM|hN => rfl))|(apply aW;rfl;rfl;rfl;rfl;rfl;(case hl => (simp;done));(exact (rfl:_=[_, _, _, _, _, _]))))|(apply aL;first|apply aH|apply aB|(apply bZ;rfl;(rfl))|(apply aP;rfl;all_goals intro hc;have hq:=hc;(try simp only [cH] at hq);try exfalso;omega)|apply aM|apply aT|apply aQ)|with_reducible apply aA|with_reducible apply bE|with_reducible apply aX|with_reducible apply cO)
  ·refine cE (Le.nilImm (d := 6) rfl) ?_
   exact uD (fun _ => QL.pur) (l := [.imm 0 [], iv (-1)]) rfl ⟨[], -1, rfl, .inl ⟨rfl, rfl⟩⟩
  ·refine cE (Le.frzD (d := 6) (i := 3) rfl rfl) ?_
   refine uD (fun _ => QL.pur) (l := [.imm (m + 1) (aI bO (xs ++ [x])), iv nx]) rfl ⟨xs ++ [x], nx, ?_, ?_⟩
   ·show AV.tup [AV.imm (m + 1) _, _] = AV.tup [AV.imm (List.length (xs ++ [x])) _, _]
    rw [List.length_append, hm]; rfl
   ·rw [gP]; simp only [cA]; omega
  ·have b2 : 0 ≤ nx ∧ nx + 1 ≤ s.size := kO (w := ⟨#[59]⟩) (by assumption)
   (apply dJ (nx + 1, xs ++ [x], m + 1);focus (refine Le.ren [(0, 3)] rfl (by decide) ?_ ?_ <;> repeat' (first|exact trivial|refine And.intro ⟨_, rfl, ?_⟩ ?_|refine And.intro ⟨_, _, rfl, rfl, ?_⟩ ?_|exact Or.inr rfl|refine Or.inl ⟨?_, (by first|rfl|exact aY _ _)⟩|rfl)))
   ·dsimp only
    refine ⟨by omega, by omega, by simp [hm], ?_⟩
    rw [gP]; simp only [cA]; omega
   ·dsimp only;omega
  ·refine cE (Le.nilImm (d := 6) rfl) ?_
   exact uD (fun _ => QL.pur) (l := [.imm 0 [], iv (-1)]) rfl ⟨[], -1, rfl, .inl ⟨rfl, rfl⟩⟩
 ·refine cE (Le.frzD (d := 6) (i := 0) rfl rfl) ?_
  exact uD (fun _ => QL.pur) (l := [.imm 0 [], iv i]) rfl ⟨[], i, rfl, by simp only [cA]; omega⟩
 ·refine cE (Le.frzD (d := 6) (i := 0) rfl rfl) ?_
  exact uD (fun _ => QL.pur) (l := [.imm 0 [], iv i]) rfl ⟨[], i, rfl, by simp only [cA]; omega⟩
theorem z6 (s : ByteArray) (hs : s.size ≤ 100000) : ∀ n : Nat, n ≤ 10 → (∀ j : Int, -1 ≤ j → j ≤ s.size + 10 → PC Tryz.prog 247 [sv s, iv j, iv ((n : Int) - 1)] (QB s j)) ∧ (∀ j : Int, 0 ≤ j → j ≤ s.size → PC Tryz.prog 181 [sv s, iv j, iv (n : Int)] (QL s j))
 | 0, hn => by
  have hB : ∀ j : Int, -1 ≤ j → j ≤ s.size + 10 → PC Tryz.prog 247 [sv s, iv j, iv (((0 : Nat) : Int) - 1)] (QB s j) :=
   fun j h0 h1 => wI s j (((0 : Nat) : Int) - 1) hs h0 h1 (by omega) (by omega) (fun _ _ h => by omega)
  have hP : ∀ j : Int, 0 ≤ j → j ≤ s.size → PC Tryz.prog 226 [sv s, iv j, iv ((0 : Nat) : Int)] (QP s j) :=
   fun j h0 h1 => z1 s j _ hs h0 h1 (by omega) (by omega) (fun k dj h2 h3 h4 => by subst h2;exact hB k h3 h4)
  exact ⟨hB, fun j h0 h1 => CE s j _ hs h0 h1 (by omega) (by omega) (fun k dj h2 h3 h4 => by subst h2;exact hP k h3 h4)⟩
 | n + 1, hn => by
  have ih := z6 s hs n (by omega)
  have e : (((n + 1 : Nat) : Int) - 1) = (n : Int) := by omega
  have hB : ∀ j : Int, -1 ≤ j → j ≤ s.size + 10 → PC Tryz.prog 247 [sv s, iv j, iv (((n + 1 : Nat) : Int) - 1)] (QB s j) :=
   fun j h0 h1 => wI s j _ hs h0 h1 (by omega) (by omega) (fun k dj h2 h3 h4 h5 => by rw [e] at h3;subst h3;exact ih.2 k h4 h5)
  have hP : ∀ j : Int, 0 ≤ j → j ≤ s.size → PC Tryz.prog 226 [sv s, iv j, iv ((n + 1 : Nat) : Int)] (QP s j) :=
   fun j h0 h1 => z1 s j _ hs h0 h1 (by omega) (by omega) (fun k dj h2 h3 h4 => by subst h2;exact hB k h3 h4)
  exact ⟨hB, fun j h0 h1 => CE s j _ hs h0 h1 (by omega) (by omega) (fun k dj h2 h3 h4 => by subst h2;exact hP k h3 h4)⟩
theorem I9 (s : ByteArray) (i : Int) (hs : s.size ≤ 100000) (hi0 : 0 ≤ i) (hi : i ≤ s.size) : PC Tryz.prog 181 [sv s, iv i, iv 4] (QL s i) := (z6 s hs 4 (by omega)).2 i hi0 hi
theorem Bn (v : Int) (h0 : 0 ≤ v) (h1 : v ≤ 25) : PC Tryz.prog 251 [iv v] (fun r => r = sv (iA v)) := by
 (refine aS Tryz.func251 rfl (by simp [Tryz.ntmps251]) ?_; rw [Tryz.ntmps251])
 repeat' (first|(apply aK;first|(apply Jf;rfl;rfl;omega;rfl)|((apply Fx (ns := [_]));(case hx|hs'|hN => rfl))|(apply Aw;rfl;omega;rfl)|(apply aE;rfl;rfl)|(apply aC;rfl;rfl)|(apply aF;kernel_rfl)|(apply b0;rfl;rfl;rfl;exact (rfl:_=some [_]);rfl;rfl))|(apply aL;first|apply aH|apply aB|apply aQ)|with_reducible apply aA|((with_reducible apply aO);case hr => rfl))
 exact ⟨rfl, rfl⟩
theorem EX (n : Int) (h0 : 0 ≤ n) (h1 : n ≤ 9) : PC Tryz.prog 252 [iv n] (fun r => r = sv (Bo n)) := by
 (refine aS Tryz.func252 rfl (by simp [Tryz.ntmps252]) ?_; rw [Tryz.ntmps252])
 repeat' (first|(apply aK;first|(apply aE;rfl;rfl)|(apply aU;rfl;rfl;rfl;rfl)|(apply aC;rfl;rfl)|(apply aF;kernel_rfl))|(apply aL;first|apply aH|apply aB|(apply aP;rfl;all_goals intro hc;have hq:=hc;(try simp only [cH] at hq);try exfalso;omega)|apply aM|apply aT)|with_reducible apply aA)
 refine a8 (σ := Unit) [0, 3] [(0, _), (3, _)] [] [] (fun u => []) (fun u => []) (fun u => True) (fun u => 0) () trivial rfl rfl (by repeat' (exact trivial)) (by repeat' (exact trivial)) ?_
 rintro u _
 repeat' (first|(apply aK;first|(apply lK;rfl;rfl;(rfl);rfl)|((apply Fx (ns := [_]));(case hx|hs'|hN => rfl))|(apply Aw;rfl;omega;rfl)|(apply aE;rfl;rfl)|(first|(apply bS;rfl;rfl;omega;rfl)|(apply aU;rfl;rfl;rfl;rfl))|(apply aC;rfl;rfl)|(apply aF;kernel_rfl)|(apply b0;rfl;rfl;rfl;exact (rfl:_=some [_]);rfl;rfl))|(apply aL;first|apply aH|apply aB|(apply aP;rfl;all_goals intro hc;have hq:=hc;(try simp only [cH] at hq);try exfalso;omega)|apply bK|apply aQ)|with_reducible apply aA|with_reducible apply bI|with_reducible apply bJ|((with_reducible apply aO);case hr => rfl))
 exact ⟨rfl, rfl⟩
theorem C3 (s : AL.Stmt) (hc : dP s ≤ 10000) (hop : (s.op = 9 ∨ s.op = 10) ∨ (1 ≤ s.op ∧ s.op ≤ 8 ∧ 0 ≤ s.x ∧ s.x ≤ 5 ∧ 0 ≤ s.y ∧ s.y ≤ 5 ∧ (s.op = 1 ∨ s.op = 2 → 0 ≤ s.n ∧ s.n ≤ 9)))
  (hth : s.op = 9 ∨ s.op = 10 → PC Tryz.prog 227 [sl bO s.th] (fun r => r = sv (jV s.th))) (hel : s.op = 9 → PC Tryz.prog 227 [sl bO s.el] (fun r => r = sv (jV s.el))) : PC Tryz.prog 249 [fQ s] (fun r => r = sv (lT s)) := by
 have k1 := lE s.th
 have k2 := lE s.el
 have k3 := gZ s
 (refine aS Tryz.func249 rfl (by simp [Tryz.ntmps249]) ?_; rw [Tryz.ntmps249])
 repeat' (first|(apply aK;first|(apply lK;rfl;rfl;(first|rfl|exact rC (by (simp only [ByteArray.size_append, oT, List.length_cons, List.length_nil, nA, m9, pZ] <;> omega)));rfl)|(apply aE;rfl;rfl)|(apply aN;rfl;rfl;rfl;rfl)|(apply aD;rfl;rfl;rfl)|(apply aU;rfl;rfl;rfl;rfl)|(apply aC;rfl;rfl)|(first|((with_reducible apply aJ (k := 227));(case ha => rfl);(case h => (first|(apply hth;omega)|(apply hel;omega)));(case hp => (exact Pur.pf));(case hN => rfl))|((with_reducible apply aJ (k := 251));(case ha => rfl);(case h => (apply Bn <;> (omega)));(case hp => (rfl));(case hN => rfl))|((with_reducible apply aJ (k := 252));(case ha => rfl);(case h => (apply EX <;> (omega)));(case hp => (rfl));(case hN => rfl)))|(apply aF;kernel_rfl)|(apply bH;rfl;rfl;rfl;rfl))|(apply aL;first|apply aH|apply aB|(apply b9;kernel_rfl)|(apply aP;rfl;all_goals intro hc;have hq:=hc;(try simp only [cH] at hq);try exfalso;omega)|apply aM|apply aT|apply aQ)|with_reducible apply aA|with_reducible apply bE|with_reducible apply aX|with_reducible apply cO|((with_reducible apply aO);case hr => rfl))
 all_goals (refine ⟨?_, rfl⟩; rw [Eu]; repeat' split)
 all_goals (first|rfl|omega)
theorem z8 (l : List AL.Stmt) (hc : cA l ≤ 10000) (text_ih : ∀ k, k < l.length → PC Tryz.prog 249 [fQ l[k]!] (fun r => r = sv (lT l[k]!))) : PC Tryz.prog 227 [sl bO l] (fun r => r = sv (jV l)) := by
 have hlen := eY l
 (refine aS Tryz.func227 rfl (by simp [Tryz.ntmps227]) ?_; rw [Tryz.ntmps227])
 repeat' (first|(apply aK;first|(apply aC;rfl;rfl)|(apply aF;kernel_rfl))|(apply aL;first|apply aH|apply aB|apply aM)|with_reducible apply aA)
 refine a8 (σ := Nat × ByteArray) [0] [(0, _)] [] [] (fun k => [(4, iv (k.1 : Int)), (3, sv k.2)]) (fun k => []) (fun k => k.1 ≤ l.length ∧ k.2 = jV (l.take k.1)) (fun k => l.length - k.1) (0, ⟨#[]⟩) ⟨by omega, rfl⟩ rfl rfl (by repeat' (first|exact trivial|refine And.intro rfl ?_)) (by repeat' (exact trivial)) ?_
 rintro ⟨k, t⟩ ⟨hk, ht⟩
 dsimp only at hk ht ⊢
 have k1 := lE (l.take k)
 have k2 := sQ l[k]!
 have hck := gX l k
 have hct : cA (l.take k) ≤ cA l := by have := gP (l.take k) (l.drop k);rw [List.take_append_drop] at this;omega
 have k3 : t.size = (jV (l.take k)).size := by rw [ht]
 repeat' (first|(apply aK;first|(apply lK;rfl;rfl;(exact rC (by (first|omega|(simp only [ByteArray.size_append, oT, List.length_cons, List.length_nil, nA, m9, pZ] <;> omega))));rfl)|(apply aE;rfl;rfl)|(apply aV;rfl;rfl;(exact (rfl:_=[_, _, _, _, _, _]));rfl;rfl;rfl)|(first|(apply bS;rfl;rfl;omega;rfl)|(apply aU;rfl;rfl;rfl;rfl))|(apply aC;rfl;rfl)|(apply aZ;(case hx|hi => rfl);(case hm => (omega));(case hml => (rfl));(case hα | hf|hg => infer_instance);(case hN => rfl))|((with_reducible apply aJ (k := 249));(case ha => rfl);(case h => (apply text_ih <;> (omega)));(case hp => (exact Pur.pf));(case hN => rfl))|(apply bQ;rfl;rfl;rfl)|(apply aF;kernel_rfl))|(apply aL;first|apply aH|apply aB|(apply aP;rfl;all_goals intro hc;have hq:=hc;(try simp only [cH] at hq);try exfalso;omega)|apply aM|apply aT|apply bK|apply aQ)|with_reducible apply aA|with_reducible apply bI|with_reducible apply aX|with_reducible apply bJ|((with_reducible apply aO);case hr => rfl))
 ·(apply dJ (k + 1, _); focus (refine Le.ren [] rfl (by decide) ?_ ?_ <;> repeat' (first | exact trivial | refine And.intro ⟨_, rfl, ?_⟩ ?_ | refine Or.inl ⟨?_, (by first | rfl | exact aY _ _)⟩ | rfl)))
  ·exact ⟨by dsimp only;omega, by dsimp only;rw [tJ l k (by omega), qI, if_pos (by omega), ht]⟩
  ·dsimp only;omega
 ·(apply dJ (k + 1, _); focus (refine Le.ren [] rfl (by decide) ?_ ?_ <;> repeat' (first | exact trivial | refine And.intro ⟨_, rfl, ?_⟩ ?_ | refine Or.inl ⟨?_, (by first | rfl | exact aY _ _)⟩ | rfl)))
  ·exact ⟨by dsimp only;omega, by dsimp only;rw [tJ l k (by omega), qI, if_neg (by omega), ht]⟩
  ·dsimp only;omega
 ·have hke : k = l.length := by omega
  refine ⟨?_, rfl⟩
  rw [ht, hke, List.take_length]; rfl
theorem GL (ts : List Int) (hts : dB ts = true) : ∀ m : Nat, m ≤ 10000 → ∀ l d, cA l ≤ m → okL ts d l = true → PC Tryz.prog 227 [sl bO l] (fun r => r = sv (jV l)) := by
 intro m
 induction m with
 | zero =>
  intro hm l d hc ho
  have := eY l
  exact z8 l (by omega) (fun k hk => by omega)
 | succ m ih =>
  intro hm l d hc ho
  refine z8 l (by omega) (fun k hk => ?_)
  have hck := gX l k hk
  have hct := lL l[k]!
  have hs : sR ts d l[k]! = true := by rw [x7, kJ] at ho;exact ho k hk
  rw [Dr] at hs
  by_cases h9 : l[k]!.op ≠ 9 ∧ l[k]!.op ≠ 10
  ·rw [if_pos h9] at hs
   simp only [Bool.and_eq_true] at hs
   exact C3 _ (by omega) (.inr (DF hts hs.2)) (fun h => by omega) (fun h => by omega)
  ·rw [if_neg h9] at hs
   cases d with
   | zero => cases hs
   | succ d =>
    simp only [Bool.and_eq_true] at hs
    exact C3 _ (by omega) (.inl (by omega)) (fun h => ih (by omega) _ d (by omega) hs.1.2) (fun h => ih (by omega) _ d (by omega) hs.2)
theorem E1 (ts : List Int) (d : Nat) (l : List AL.Stmt) (hts : dB ts = true) (hc : cA l ≤ 10000) (ho : okL ts d l = true) : PC Tryz.prog 227 [sl bO l] (fun r => r = sv (jV l)) := GL ts hts _ hc l d (Nat.le_refl _) ho
def Br (s : ByteArray) : List AV := [.v (.string s)]
instance : FlT Br 1 := ⟨fun _ => rfl⟩
instance : FE Br (fun s => [.v (.string s)]) := ⟨fun _ => rfl⟩
instance (s : ByteArray) : Pur (Br s) := ⟨rfl⟩
theorem Le.slotEq {ts : List (Nat × AV)} {hs : List (Nat × Option (List AV))} {n : Nat} {z0 : Lo} {d : Nat} (v v' : AV) (hd : lk ts d = some v) (h : v = v') : Le ⟨ts, hs, n, z0⟩ ⟨(d, v') :: ts, hs, n, z0⟩ :=
 Le.slot hd fun w bad ι y hr => h ▸ hr
def kinds : List ByteArray := [⟨#[]⟩, ⟨#[105]⟩, ⟨#[98]⟩, ⟨#[114]⟩, ⟨#[109]⟩]
theorem Cq (k : Nat) : (kinds[k]!).size ≤ 1 := by
 match k with
 | 0 => decide
 | 1 => decide
 | 2 => decide
 | 3 => decide
 | 4 => decide
 | k + 5 => exact (show (default : ByteArray).size ≤ 1 from by decide)
theorem AJ (p : Prg) (hv : c8 p = true) : PC Tryz.prog 182 [dM p] (fun r => ∃ t, r = sv t) := by
 have hv2 := hv
 simp only [c8, Bool.and_eq_true, decide_eq_true_eq] at hv2
 obtain ⟨⟨hts, hol⟩, hcn⟩ := hv2
 have hl6 := iU hts
 have htx := lE p.body
 (refine aS Tryz.func182 rfl (by simp [Tryz.ntmps182]) ?_; rw [Tryz.ntmps182])
 repeat' (first|(apply aK;first|(apply aC;rfl;rfl)|(apply aF;kernel_rfl)|(apply bH;rfl;rfl;rfl;rfl))|(apply aL;first|apply aH|apply aB|apply aM)|with_reducible apply aA)
 refine a8 (σ := Nat × ByteArray) [1] [(1, _)] [0] [(0, some _)] (fun k => [(4, iv (k.1 : Int)), (3, sv k.2)]) (fun k => []) (fun k => k.1 ≤ p.types.length ∧ k.2.size ≤ k.1) (fun k => p.types.length - k.1) (0, ⟨#[]⟩) ⟨by omega, by show 0 ≤ 0;omega⟩ rfl rfl (by repeat' (first|exact trivial|refine And.intro rfl ?_)) (by repeat' (exact trivial)) ?_
 rintro ⟨k, t⟩ ⟨hk, ht⟩
 dsimp only at hk ht ⊢
 have htk := lM hts k
 have hkz : (kinds[(p.types[k]!).toNat]!).size ≤ 1 := Cq _
 have hkl : kinds.length = 5 := rfl
 repeat' (first|(apply aK;first|(with_reducible apply cS (d := 14))|((with_reducible apply aJ (k := 227));(case ha => rfl);(case h => exact E1 p.types 4 p.body hts (by omega) hol);(case hp => (exact Pur.pf));(case hN => rfl))|(apply lK;rfl;rfl;(exact rC (by (simp only [ByteArray.size_append, oT, List.length_cons, List.length_nil, nA, m9, pZ] <;> omega)));rfl)|(apply aE;rfl;rfl)|(apply aN;rfl;rfl;rfl;rfl)|(apply aD;rfl;rfl;rfl)|(apply aU;rfl;rfl;rfl;rfl)|(apply aC;rfl;rfl)|(apply bQ;rfl;rfl;rfl)|(apply aF;kernel_rfl)|((apply bF (t := _));(case hze|hsm|hl => rfl);(case hfl => (exact (rfl:_=some [_, _, _, _, _])));(case hM|hN => rfl)))|(apply aL;first|apply aH|apply aB|(apply aP;rfl;all_goals intro hc;have hq:=hc;(try simp only [cH] at hq);try exfalso;omega)|apply aM|apply aT|apply bK|apply aQ)|with_reducible apply aA|with_reducible apply bI|with_reducible apply bJ)
 ·refine dV (iO ?_ (Le.slotEq (d := 13) _ (.imm 5 (aI Br kinds)) rfl rfl))
  repeat' (first|(apply aK;first|(apply lK;rfl;rfl;(exact rC (by (omega)));rfl)|(apply aE;rfl;rfl)|(apply aN;rfl;rfl;rfl;rfl)|(apply aD;rfl;rfl;rfl)|(apply bS;rfl;rfl;omega;rfl)|(apply aC;rfl;rfl)|(first|(apply aZ;(case hx|hi => rfl);(case hm => (omega));(case hml => (rfl));(case hα | hf|hg => infer_instance);(case hN => rfl))|(apply cP;(case hx|hi => rfl);(case hm => (omega));(case hml => (rfl));(case hα | hf|hg => infer_instance);(case hN => rfl)))|(apply aF;kernel_rfl))|(apply aL;(apply aB))|with_reducible apply aA|with_reducible apply aX)
  (apply dJ (k + 1, _);focus (refine Le.ren [(0, 0)] rfl (by decide) ?_ ?_ <;> repeat' (first|exact trivial|refine And.intro ⟨_, rfl, ?_⟩ ?_|refine And.intro ⟨_, _, rfl, rfl, ?_⟩ ?_|exact Or.inr rfl|refine Or.inl ⟨?_, (by first|rfl|exact Pur.pf)⟩|rfl)))
  ·exact ⟨by dsimp only;omega, by dsimp only;rw [ByteArray.size_append]; omega⟩
  ·dsimp only;omega
 ·refine aO rfl ⟨⟨_, rfl⟩, rfl⟩
theorem Fk {s : ByteArray} (b : Bool) : (∃ (q : Prg) (b' : Bool), AV.tup [AV.agg [.imm 0 [], .imm 0 []], bv b] = .tup [dM q, bv b'] ∧ cA q.body ≤ s.size + 10 ∧ q.types.length ≤ s.size + 10) :=
 ⟨⟨[], []⟩, b, rfl, by simp [cA], by simp⟩
theorem uI (s : ByteArray) (hs : s.size ≤ 10000) : PC Tryz.prog 127 [sv s] (fun r => ∃ (q : Prg) (b : Bool), r = .tup [dM q, bv b] ∧ cA q.body ≤ s.size + 10 ∧ q.types.length ≤ s.size + 10) := by
 (refine aS Tryz.func127 rfl (by simp [Tryz.ntmps127]) ?_; rw [Tryz.ntmps127])
 repeat' (first|(apply aK;first|(with_reducible apply cS (d := 13))|(apply aE;rfl;rfl)|(apply aU;rfl;rfl;rfl;rfl)|(apply aC;rfl;rfl)|(apply kL;rfl;rfl)|(apply aF;kernel_rfl)|(apply cC;rfl;(exact (rfl:_=some [_, _]));(exact (rfl:_=[_, _]));rfl)|(apply bD;rfl;rfl)|(apply aW;rfl;rfl;rfl;rfl;rfl;(decide);(exact (rfl:_=[_, _]))))|(apply aL;first|apply aH|apply aB|(apply aP;rfl;all_goals intro hc;have hq:=hc;(try simp only [cH] at hq);try exfalso;omega)|apply aT|apply aQ)|with_reducible apply aA|with_reducible apply bE)
 ·exact aO (l := [.agg [.imm 0 [], .imm 0 []], bv false]) rfl ⟨Fk false, rfl⟩
 refine dV ?_
 apply z7
 case hl => rfl
 case hf => exact (rfl:_=some [AV.v (.slice none 0 0), AV.v (.slice none 0 0)])
 case hN => rfl
 repeat' (first|(apply aK;first|(apply aC;rfl;rfl)|(apply aF;kernel_rfl)|(apply bD;rfl;rfl)|(apply aW;rfl;rfl;rfl;rfl;rfl;(decide);(exact (rfl:_=[_, _]))))|(apply aL;first|apply aH|apply aB|apply aM)|with_reducible apply aA)
 apply AW.le
 case k => exact Le.nilCell (i := 1) 1 [] rfl (by decide) (by decide)
 refine a8 (σ := Nat × List Int × Nat) [0, 2, 4] [(0, _), (2, _), (4, _)] [0] [(0, some _)] (fun k => [(5, iv (k.1 : Int))]) (fun k => [(1, some [.own 2 0 k.2.2 1, .v (.slice none 0 0)]), (2, some (aI cI k.2.1))]) (fun k => k.1 ≤ s.size ∧ k.2.1.length = k.1 ∧ k.2.2 = k.2.1.length) (fun k => s.size - k.1) (0, [], 0) ⟨by omega, rfl, rfl⟩ rfl rfl (by repeat' (first|exact trivial|refine And.intro rfl ?_)) (by repeat' (first|exact trivial|refine And.intro (.inr rfl) ?_)) ?_
 rintro ⟨k, xs, m⟩ ⟨hk, hxl, hm⟩
 dsimp only at hk hxl hm ⊢
 repeat' (first|(apply aK;first|(with_reducible apply cS (d := 43))|(apply pQ;rfl;rfl;omega;rfl)|(apply aE;rfl;rfl)|(apply aN;rfl;rfl;rfl;rfl)|(apply aD;rfl;rfl;rfl)|(first|(apply a6;rfl;rfl;rfl;(assumption))|(apply bB;rfl;rfl;rfl;(assumption))|(apply bR;(case hj|hb|hN => rfl);all_goals (intro hg;have hq := hg;(try simp only [cH] at hq);(try (exfalso;omega)))))|(first|(apply bS;rfl;rfl;omega;rfl)|(apply aU;rfl;rfl;rfl;rfl))|(apply aC;rfl;rfl)|(first|(apply bU;rfl;(assumption);rfl;rfl)|(apply bG;rfl;(assumption);rfl;rfl))|(first|(apply kL;rfl;rfl)|(apply bY;rfl;rfl;rfl;rfl;rfl;(rw [aR]; omega);(rfl);omega;omega;(exact gW (by (assumption)));rfl;rfl))|(apply aF;kernel_rfl)|((apply bF (t := _));(case hze|hsm|hl => rfl);(case hfl => exact (rfl:_=some [_]));(case hM|hN => rfl))|(apply aW;rfl;rfl;rfl;rfl;rfl;(case hl => (simp;done));(exact (rfl:_=[_, _]))))|(apply aL;first|apply aH|apply aB|(apply cG;rfl;(rfl))|(apply aP;rfl;all_goals intro hc;have hq:=hc;(try simp only [cH] at hq);try exfalso;omega)|apply aM|apply aT|apply bK)|with_reducible apply aA|with_reducible apply bI|with_reducible apply aX|with_reducible apply bJ)
 ·(apply dJ (k + 1, xs ++ [1], m + 1); focus (refine Le.ren [(0, 0), (1, 1), (2, 4)] rfl (by decide) ?_ ?_ <;> repeat' (first | exact trivial | refine And.intro ⟨_, rfl, ?_⟩ ?_ | refine And.intro ⟨_, _, rfl, rfl, ?_⟩ ?_ | exact Or.inr rfl | refine Or.inl ⟨?_, (by first | rfl | exact aY _ _)⟩ | refine Or.inr (All2.cons ?_ ?_) | refine All2.cons ?_ ?_ | exact All2.nil | rfl)))
  ·exact ⟨by dsimp only;omega, by simp [hxl], by simp [hm]⟩
  ·dsimp only;omega
 ·(apply dJ (k + 1, xs ++ [2], m + 1); focus (refine Le.ren [(0, 0), (1, 1), (2, 4)] rfl (by decide) ?_ ?_ <;> repeat' (first | exact trivial | refine And.intro ⟨_, rfl, ?_⟩ ?_ | refine And.intro ⟨_, _, rfl, rfl, ?_⟩ ?_ | exact Or.inr rfl | refine Or.inl ⟨?_, (by first | rfl | exact aY _ _)⟩ | refine Or.inr (All2.cons ?_ ?_) | refine All2.cons ?_ ?_ | exact All2.nil | rfl)))
  ·exact ⟨by dsimp only;omega, by simp [hxl], by simp [hm]⟩
  ·dsimp only;omega
 ·(apply dJ (k + 1, xs ++ [3], m + 1); focus (refine Le.ren [(0, 0), (1, 1), (2, 4)] rfl (by decide) ?_ ?_ <;> repeat' (first | exact trivial | refine And.intro ⟨_, rfl, ?_⟩ ?_ | refine And.intro ⟨_, _, rfl, rfl, ?_⟩ ?_ | exact Or.inr rfl | refine Or.inl ⟨?_, (by first | rfl | exact aY _ _)⟩ | refine Or.inr (All2.cons ?_ ?_) | refine All2.cons ?_ ?_ | exact All2.nil | rfl)))
  ·exact ⟨by dsimp only;omega, by simp [hxl], by simp [hm]⟩
  ·dsimp only;omega
 ·(apply dJ (k + 1, xs ++ [4], m + 1); focus (refine Le.ren [(0, 0), (1, 1), (2, 4)] rfl (by decide) ?_ ?_ <;> repeat' (first | exact trivial | refine And.intro ⟨_, rfl, ?_⟩ ?_ | refine And.intro ⟨_, _, rfl, rfl, ?_⟩ ?_ | exact Or.inr rfl | refine Or.inl ⟨?_, (by first | rfl | exact aY _ _)⟩ | refine Or.inr (All2.cons ?_ ?_) | refine All2.cons ?_ ?_ | exact All2.nil | rfl)))
  ·exact ⟨by dsimp only;omega, by simp [hxl], by simp [hm]⟩
  ·dsimp only;omega
 ·(apply dJ (k + 1, xs ++ [0], m + 1); focus (refine Le.ren [(0, 0), (1, 1), (2, 4)] rfl (by decide) ?_ ?_ <;> repeat' (first | exact trivial | refine And.intro ⟨_, rfl, ?_⟩ ?_ | refine And.intro ⟨_, _, rfl, rfl, ?_⟩ ?_ | exact Or.inr rfl | refine Or.inl ⟨?_, (by first | rfl | exact aY _ _)⟩ | refine Or.inr (All2.cons ?_ ?_) | refine All2.cons ?_ ?_ | exact All2.nil | rfl)))
  ·exact ⟨by dsimp only;omega, by simp [hxl], by simp [hm]⟩
  ·dsimp only;omega
 all_goals subst hm
 all_goals (refine dV (iO ?_ (Le.frzC (j := 1) (i := 2) [] rfl rfl (by decide))))
 all_goals repeat' (first|(apply aK;first|((with_reducible apply jL (k := 181));(case ha => rfl);(case h => (apply I9 <;> omega));(case hp => (rfl));(case hN => rfl);(rintro _ ⟨l, nx, rfl, hql⟩ _))|((with_reducible apply aJ (k := 87));(case ha => rfl);(case h => exact oL ⟨xs, l⟩ (by show xs.length ≤ _; omega) (by show cA l ≤ 100000000;rcases hql with ⟨_, h9⟩|h9;(rw [h9]; decide);omega));(case hp => (exact Pur.pf));(case hN => rfl))|((with_reducible apply jL (k := 182));(case ha => rfl);(case h => exact AJ ⟨xs, l⟩ (by assumption));(case hp => (exact Pur.pf));(case hN => rfl);(rintro _ ⟨t, rfl⟩ _))|(apply lK;rfl;rfl;(rfl);rfl)|(apply aE;rfl;rfl)|(apply aV;rfl;rfl;(exact (rfl:_=[_, _]));rfl;rfl;rfl)|(apply aD;rfl;rfl;rfl)|(first|(apply a6;rfl;rfl;rfl;(assumption))|(apply bB;rfl;rfl;rfl;(first|rfl|assumption))|(apply bR;(case hj|hb|hN => rfl);all_goals (intro hg;have hq := hg;(try simp only [cH] at hq);(try (exfalso;omega)))))|(first|(apply bS;rfl;rfl;omega;rfl)|(apply aU;rfl;rfl;rfl;rfl))|(apply aC;rfl;rfl)|(first|(apply bU;rfl;(first|rfl|assumption);rfl;rfl)|(apply bG;rfl;(assumption);rfl;rfl))|(apply kL;rfl;rfl)|(apply aF;kernel_rfl)|(apply cC;rfl;(exact (rfl:_=some [_, _]));(exact (rfl:_=[_, _]));rfl)|(apply cF;rfl;rfl)|(apply bC;rfl;rfl;rfl)|(apply aW;rfl;rfl;rfl;rfl;rfl;(case hl => (first|decide|(simp;done)));(exact (rfl:_=[_, _]))))|(apply aL;first|apply aH|apply aB|(apply bZ;rfl;(rfl))|(apply aP;rfl;all_goals intro hc;have hq:=hc;(try simp only [cH] at hq);try exfalso;omega)|apply aT|apply aQ)|with_reducible apply aA|with_reducible apply bE)
 all_goals first
  | exact aO (l := [.agg [.imm 0 [], .imm 0 []], bv false]) rfl ⟨Fk false, rfl⟩
  | (refine aO (l := [.agg [.imm xs.length (aI cI xs), sl bO l], bv true]) rfl ⟨⟨⟨xs, l⟩, true, rfl, ?_, by show xs.length ≤ _; omega⟩, Pur.pf⟩
     show cA l ≤ _
     rcases hql with ⟨_, h9⟩|h9
     ·rw [h9]; simp [cA]
     ·omega)
end Go.Proofs.YtckihjkcgfphmaaGreat
