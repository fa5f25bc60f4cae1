/-
 A part of the proofs over this program: rules and contracts of its functions (the contracts).
-/
import Derived.Test.YtjcpngimjdckmaaGreatQ3B02
set_option linter.unusedVariables false
set_option linter.unusedSimpArgs false
set_option maxHeartbeats 8000000
set_option maxRecDepth 4000
attribute [local irreducible] Go.AL.RW Go.AL.AW Go.AL.Stop
namespace Go.Proofs.YtjcpngimjdckmaaGreat
open Go.AL Go.RowKit
abbrev eZ (bs : List UInt8) (p : Nat) : List AV := [sl cU bs, iv (p : Int)]
def Jg (bs : List UInt8) (q : Int) : Int := ((bs[(q % (bs.length : Int)).toNat]!).toNat : Int) * 131 + ((bs[((q * 7 + 3) % (bs.length : Int)).toNat]!).toNat : Int) * 1117 + q * 29 + q / (bs.length : Int) * 53
def cT (bs : List UInt8) (p : Nat) (n : Int) : Int :=
 if n < 1 then 0 else if (bs.length : Int) = 0 then 0 else
 if (p : Int) + 1 - 1 < (bs.length : Int) then ((bs[((p : Int) + 1 - 1).toNat]!).toNat : Int) % n
 else (((Jg bs ((p : Int) + 1 - 1)).toNat ^^^ (Jg bs ((p : Int) + 1 - 1) / 64).toNat : Nat) : Int) % n
theorem e9 (bs : List UInt8) (p : Nat) (n : Int) : 0 ≤ cT bs p n ∧ (cT bs p n < n ∨ n < 1 ∧ cT bs p n = 0) := by
 unfold cT
 split
 ·omega
 ·split
  ·omega
  ·split
   ·exact ⟨Int.emod_nonneg _ (by omega), .inl (Int.emod_lt_of_pos _ (by omega))⟩
   ·exact ⟨Int.emod_nonneg _ (by omega), .inl (Int.emod_lt_of_pos _ (by omega))⟩
def gX (bs : List UInt8) (p : Nat) (xs : List Int) : Int := xs[(cT bs p (xs.length : Int)).toNat]!
class NumL (cs : List AV) (xs : outParam (List Int)) : Prop where h : cs = aI cI xs
instance NumL.nil : NumL [] [] := ⟨rfl⟩
instance NumL.cons {n : Int} {cs : List AV} {xs : List Int} [h : NumL cs xs] : NumL (.v (.int .i64 n) :: cs) (n :: xs) := ⟨by rw [h.h]; rfl⟩
theorem iS {bs : List UInt8} {p : Nat} {n : Int} {N : Nat} {Q : Exit → AS → Prop} {all : Array Oper} {rest : List Oper} {tsl : List (Nat × AV)} {hsl : List (Nat × Option (List AV))} {nidl : Nat} {z0 : Lo} {md : Md} {d : Nat} {ty : TypeId} {pos : String} {af : Array Edge} {tys : Array TypeId} {x0 x1 : Operand} {i0 : Nat} (ha0 : ev (lk tsl) x0 = some (.optr i0 0)) (ha1 : ev (lk tsl) x1 = some (iv n)) (hH0 : cE hsl i0 = some (eZ bs p)) (hmc : MC Tryz.prog 47 [.optr 0 0, iv n] [(0, some (eZ bs p))] 1 (fun _ : Unit => True) (fun _ => iv (cT bs p n)) (fun _ => [(0, some (eZ bs (p + 1)))])) (hM : Nat.ble (nidl + 0) fD = true) (hN : Nat.blt d N = true) {md' : Md} [hmd : MdA md (gS [x0, x1] ++ [.inr i0]) (List.map Sum.inr (List.map Prod.fst ([(i0, some (eZ bs (p + 1)))] : List (Nat × Option (List AV)))) ++ [.inl d]) md'] (kk : RW Tryz.prog N all Q md' rest ⟨(d, iv (cT bs p n)) :: tsl, iK hsl [(i0, some (eZ bs (p + 1)))], nidl + 0, z0⟩) : RW Tryz.prog N all Q md (⟨some d, .call ⟨.value (.func 47), #[x0, x1], tys⟩, ty, pos, af, none⟩ :: rest) ⟨tsl, hsl, nidl, z0⟩ := by
 refine cJ [i0] 1 [(i0, some (eZ bs (p + 1)))] hmc (avs := [.optr i0 0, iv n]) ?_ rfl ?_ rfl ?_ (by simpa using hM) ?_ ?_ ?_ hN (md' := md') (hmd := hmd) kk
 ·show evL (lk tsl) [x0, x1] = _
  simp only [evL, ha0, ha1]
 ·exact ⟨⟨_, _, rfl, hH0, by (repeat' (exact RnL.purI inferInstance))⟩, trivial⟩
 ·(repeat' (first|exact RnL.purI inferInstance|exact RnV.optr rfl|refine RnL.cons ?_ ?_))
 ·(repeat' (exact RnV.purI inferInstance))
 ·simp [dQ]
 ·(repeat' (first|exact trivial|(refine And.intro ⟨0, _, rfl, rfl, ?_⟩ ?_)|exact RnL.purI inferInstance))
theorem IE {bs : List UInt8} {p : Nat} {xs : List Int} {N : Nat} {Q : Exit → AS → Prop} {all : Array Oper} {rest : List Oper} {tsl : List (Nat × AV)} {hsl : List (Nat × Option (List AV))} {nidl : Nat} {z0 : Lo} {md : Md} {d : Nat} {ty : TypeId} {pos : String} {af : Array Edge} {tys : Array TypeId} {x0 x1 : Operand} {i0 : Nat} (ha0 : ev (lk tsl) x0 = some (.optr i0 0)) (ha1 : ev (lk tsl) x1 = some (sl cI xs)) (hH0 : cE hsl i0 = some (eZ bs p)) (hmc : MC Tryz.prog 48 [.optr 0 0, sl cI xs] [(0, some (eZ bs p))] 1 (fun _ : Unit => True) (fun _ => iv (gX bs p xs)) (fun _ => [(0, some (eZ bs (p + 1)))])) (hM : Nat.ble (nidl + 0) fD = true) (hN : Nat.blt d N = true) {md' : Md} [hmd : MdA md (gS [x0, x1] ++ [.inr i0]) (List.map Sum.inr (List.map Prod.fst ([(i0, some (eZ bs (p + 1)))] : List (Nat × Option (List AV)))) ++ [.inl d]) md'] (kk : RW Tryz.prog N all Q md' rest ⟨(d, iv (gX bs p xs)) :: tsl, iK hsl [(i0, some (eZ bs (p + 1)))], nidl + 0, z0⟩) : RW Tryz.prog N all Q md (⟨some d, .call ⟨.value (.func 48), #[x0, x1], tys⟩, ty, pos, af, none⟩ :: rest) ⟨tsl, hsl, nidl, z0⟩ := by
 refine cJ [i0] 1 [(i0, some (eZ bs (p + 1)))] hmc (avs := [.optr i0 0, sl cI xs]) ?_ rfl ?_ rfl ?_ (by simpa using hM) ?_ ?_ ?_ hN (md' := md') (hmd := hmd) kk
 ·show evL (lk tsl) [x0, x1] = _
  simp only [evL, ha0, ha1]
 ·exact ⟨⟨_, _, rfl, hH0, by (repeat' (exact RnL.purI inferInstance))⟩, trivial⟩
 ·(repeat' (first|exact RnL.purI inferInstance|exact RnV.optr rfl|refine RnL.cons ?_ ?_))
 ·(repeat' (exact RnV.purI inferInstance))
 ·simp [dQ]
 ·(repeat' (first|exact trivial|(refine And.intro ⟨0, _, rfl, rfl, ?_⟩ ?_)|exact RnL.purI inferInstance))
theorem Gt {bs : List UInt8} {p : Nat} {xs : List Int} {N : Nat} {Q : Exit → AS → Prop} {all : Array Oper} {rest : List Oper} {tsl : List (Nat × AV)} {hsl : List (Nat × Option (List AV))} {nidl : Nat} {z0 : Lo} {md : Md} {d : Nat} {ty : TypeId} {pos : String} {af : Array Edge} {tys : Array TypeId} {x0 x1 : Operand} {i0 i1 : Nat} (ha0 : ev (lk tsl) x0 = some (.optr i0 0)) (ha1 : ev (lk tsl) x1 = some (.own i1 0 xs.length 1)) (hH0 : cE hsl i0 = some (eZ bs p)) (hH1 : cE hsl i1 = some (aI cI xs)) (hdd : Go.AL.distinct [i0, i1] = true) (hmc : MC Tryz.prog 48 [.optr 0 0, .own 1 0 xs.length 1] [(0, some (eZ bs p)), (1, some (aI cI xs))] 2 (fun _ : Unit => True) (fun _ => iv (gX bs p xs)) (fun _ => [(0, some (eZ bs (p + 1)))])) (hM : Nat.ble (nidl + 0) fD = true) (hN : Nat.blt d N = true) {md' : Md} [hmd : MdA md (gS [x0, x1] ++ [.inr i0, .inr i1]) (List.map Sum.inr (List.map Prod.fst ([(i0, some (eZ bs (p + 1))), (i1, none)] : List (Nat × Option (List AV)))) ++ [.inl d]) md'] (kk : RW Tryz.prog N all Q md' rest ⟨(d, iv (gX bs p xs)) :: tsl, iK hsl [(i0, some (eZ bs (p + 1))), (i1, none)], nidl + 0, z0⟩) : RW Tryz.prog N all Q md (⟨some d, .call ⟨.value (.func 48), #[x0, x1], tys⟩, ty, pos, af, none⟩ :: rest) ⟨tsl, hsl, nidl, z0⟩ := by
 refine cJ [i0, i1] 2 [(i0, some (eZ bs (p + 1))), (i1, none)] hmc (avs := [.optr i0 0, .own i1 0 xs.length 1]) ?_ hdd ?_ rfl ?_ (by simpa using hM) ?_ ?_ ?_ hN (md' := md') (hmd := hmd) kk
 ·show evL (lk tsl) [x0, x1] = _
  simp only [evL, ha0, ha1]
 ·exact ⟨⟨_, _, rfl, hH0, by (repeat' (exact RnL.purI inferInstance))⟩, ⟨⟨_, _, rfl, hH1, by (repeat' (exact RnL.purI inferInstance))⟩, trivial⟩⟩
 ·(repeat' (first|exact RnL.purI inferInstance|exact RnV.own rfl|exact RnV.optr rfl|refine RnL.cons ?_ ?_))
 ·(repeat' (exact RnV.purI inferInstance))
 ·simp [dQ]
 ·(repeat' (first|exact trivial|(refine And.intro ⟨0, _, rfl, rfl, ?_⟩ ?_)|exact RnL.purI inferInstance))
theorem lF (bs : List UInt8) (p : Nat) (n : Int) (hb : bs.length ≤ 2000) (hp : p ≤ 1000000) (hn0 : 0 ≤ n) (hn : n ≤ 1000000) : MC Tryz.prog 47 [.optr 0 0, iv n] [(0, some (eZ bs p))] 1 (fun _ : Unit => True) (fun _ => iv (cT bs p n)) (fun _ => [(0, some (eZ bs (p + 1)))]) := by
 have hdiv : 0 ≤ ((p : Int) + 1 - 1) / (bs.length : Int) ∧ ((p : Int) + 1 - 1) / (bs.length : Int) ≤ p + 1 - 1 := ⟨Int.ediv_nonneg (by omega) (by omega), Int.ediv_le_self _ (by omega)⟩
 (refine b0 Tryz.func47 rfl (by simp [Tryz.ntmps47]) ?_; rw [Tryz.ntmps47])
 repeat' (first|(apply aM;first|(apply aE;rfl;rfl)|(apply aK;rfl;rfl;rfl;rfl)|(apply aD;rfl;rfl;rfl)|(first|(apply bB;rfl;rfl;rfl;(assumption))|(apply bC;rfl;rfl;rfl;(assumption))|(apply bK;(case hj|hb|hN => rfl);all_goals (intro hg;have hq := hg;(try simp only [cK] at hq);(try (exfalso;omega)))))|(first|(apply bR;rfl;rfl;omega;rfl)|(apply fO;rfl;rfl;omega;rfl)|(apply JN;rfl;rfl;omega;omega;rfl)|(apply JI;rfl;rfl;omega;rfl)|(apply KH;rfl;rfl;omega;rfl)|(apply KG;rfl;rfl;omega;rfl)|(apply aR;rfl;rfl;rfl;rfl))|(apply aC;rfl;rfl)|(first|(apply bS;rfl;(assumption);rfl;rfl)|(apply bI;rfl;(assumption);rfl;rfl))|(apply dA;(case hx|hi => rfl);(case hm => (first|omega|exact ⟨Int.emod_nonneg _ (by omega), Int.emod_lt_of_pos _ (by omega)⟩));(case hml => (rfl));(case hα | hf|hg => infer_instance);(case hN => rfl))|(apply a9;rfl;rfl;rfl)|(apply aF;kernel_rfl)|(apply Fs;rfl;rfl;(case' kk => intro hbd))|(apply bU;rfl;rfl;rfl)|(apply aW;rfl;rfl;rfl;rfl;rfl;(case hl => (simp;done));(exact (rfl:_=[_, _]))))|(apply aN;first|apply aH|apply aB|(apply bZ;kernel_rfl)|(apply b8;rfl;(rfl))|(apply aO;rfl;all_goals intro hc;have hq:=hc;(try simp only [cK] at hq);try exfalso;omega)|apply aS|apply aQ)|with_reducible apply aA|with_reducible apply bJ)
 all_goals (refine aP rfl ?_; refine bV () trivial ?_ ⟨.inr (Eq.trans (b := some _) rfl ?_), trivial⟩)
 all_goals first|rfl|skip
 all_goals simp only [bX, AV.v.injEq, Value.int.injEq, true_and, cT]
 ·rw [if_neg (by omega), if_pos (by omega)]
 ·rw [if_neg (by omega), if_neg (by omega), if_pos (by omega)]
 ·rw [if_neg (by omega), if_neg (by omega), if_neg (by omega)]; rfl
 ·rw [if_pos (by omega)]
theorem KR (bs : List UInt8) (p : Nat) (xs : List Int) (hb : bs.length ≤ 2000) (hp : p ≤ 1000000) (h0 : 0 < xs.length) (hn : xs.length ≤ 1000000) : MC Tryz.prog 48 [.optr 0 0, sl cI xs] [(0, some (eZ bs p))] 1 (fun _ : Unit => True) (fun _ => iv (gX bs p xs)) (fun _ => [(0, some (eZ bs (p + 1)))]) := by
 have hpf := e9 bs p xs.length
 (refine b0 Tryz.func48 rfl (by simp [Tryz.ntmps48]) ?_; rw [Tryz.ntmps48])
 repeat' (first|(apply aM;first|(apply aE;rfl;rfl)|(apply aK;rfl;rfl;rfl;rfl)|(apply aC;rfl;rfl)|(apply dA;(case hx|hi => rfl);(case hm => (omega));(case hml => (rfl));(case hα | hf|hg => infer_instance);(case hN => rfl))|(apply iS;rfl;rfl;(rfl);(apply lF <;> (first|assumption|omega));rfl;rfl)|(apply a9;rfl;rfl;rfl)|(apply aF;kernel_rfl))|(apply aN;first|apply aH|apply aB|apply aQ)|with_reducible apply aA)
 (refine aP rfl ?_; refine bV () trivial ?_ ⟨.inr (Eq.trans (b := some _) rfl ?_), trivial⟩)
 ·rfl
 ·rfl
theorem GM {Q : Exit → AS → Prop} {all : Array Oper} {rest : List Oper} {N : Nat} {tsl : List (Nat × AV)} {hsl : List (Nat × Option (List AV))} {nidl : Nat} {z0 : Lo} {md : Md} {d : Nat} {ty : TypeId} {pos : String} {af : Array Edge} {tys : Array TypeId}
  {bs : List UInt8} {p m : Nat} {cs : List AV} {xs : List Int} {x0 x1 : Operand} {i0 : Nat} (ha0 : ev (lk tsl) x0 = some (.optr i0 0)) (ha1 : ev (lk tsl) x1 = some (.imm m cs)) (hcs : NumL cs xs) (hH0 : cE hsl i0 = some (eZ bs p))
  (hm : m = xs.length) (hb : bs.length ≤ 2000) (hp : p ≤ 1000000) (h0 : 0 < xs.length) (hn : xs.length ≤ 1000000) (hM : Nat.ble (nidl + 0) fD = true) (hN : Nat.blt d N = true) {md' : Md}
  [hmd : MdA md (gS [x0, x1] ++ [.inr i0]) [.inr i0, .inl d] md']
  (kk : RW Tryz.prog N all Q md' rest ⟨(d, iv (gX bs p xs)) :: tsl, (i0, some (eZ bs (p + 1))) :: hsl, nidl + 0, z0⟩) : RW Tryz.prog N all Q md (⟨some d, .call ⟨.value (.func 48), #[x0, x1], tys⟩, ty, pos, af, none⟩ :: rest) ⟨tsl, hsl, nidl, z0⟩ := by
 have h := hcs.h
 subst hm h
 exact IE ha0 ha1 hH0 (KR bs p xs hb hp h0 hn) hM hN (hmd := hmd) kk
theorem IF (bs : List UInt8) (p : Nat) (xs : List Int) (hb : bs.length ≤ 2000) (hp : p ≤ 1000000) (h0 : 0 < xs.length) (hn : xs.length ≤ 1000000) : MC Tryz.prog 48 [.optr 0 0, .own 1 0 xs.length 1] [(0, some (eZ bs p)), (1, some (aI cI xs))] 2 (fun _ : Unit => True) (fun _ => iv (gX bs p xs)) (fun _ => [(0, some (eZ bs (p + 1)))]) := by
 have hpf := e9 bs p xs.length
 (refine b0 Tryz.func48 rfl (by simp [Tryz.ntmps48]) ?_; rw [Tryz.ntmps48])
 repeat' (first|(apply aM;first|(apply aE;rfl;rfl)|(apply eR;(case hx|hH => rfl);(case hf|hg|hα => infer_instance);(case hk => omega);(case hc|hN => rfl))|(apply aC;rfl;rfl)|(apply cM;rfl;rfl;(omega);rfl)|(apply iS;rfl;rfl;(rfl);(apply lF <;> (first|assumption|omega));rfl;rfl)|(apply a9;rfl;rfl;rfl)|(apply aF;kernel_rfl))|(apply aN;first|apply aH|apply aB|apply aQ)|with_reducible apply aA)
 (refine aP rfl ?_; refine bV () trivial ?_ ⟨.inr (Eq.trans (b := some _) rfl ?_), trivial⟩)
 ·rfl
 ·rfl
theorem oJ {Q : Exit → AS → Prop} {all : Array Oper} {rest : List Oper} {N : Nat} {tsl : List (Nat × AV)} {hsl : List (Nat × Option (List AV))} {nidl : Nat} {z0 : Lo} {md : Md} {d : Nat} {ty : TypeId} {pos : String} {af : Array Edge} {tys : Array TypeId}
  {bs : List UInt8} {p m : Nat} {cs : List AV} {xs : List Int} {x0 x1 : Operand} {i0 i1 : Nat} (ha0 : ev (lk tsl) x0 = some (.optr i0 0)) (ha1 : ev (lk tsl) x1 = some (.own i1 0 m 1)) (hH0 : cE hsl i0 = some (eZ bs p)) (hH1 : cE hsl i1 = some cs) (hcs : NumL cs xs)
  (hdd : Go.AL.distinct [i0, i1] = true) (hm : m = xs.length) (hb : bs.length ≤ 2000) (hp : p ≤ 1000000) (h0 : 0 < xs.length) (hn : xs.length ≤ 1000000) (hM : Nat.ble (nidl + 0) fD = true) (hN : Nat.blt d N = true) {md' : Md}
  [hmd : MdA md (gS [x0, x1] ++ [.inr i0, .inr i1]) [.inr i0, .inr i1, .inl d] md']
  (kk : RW Tryz.prog N all Q md' rest ⟨(d, iv (gX bs p xs)) :: tsl, iK hsl [(i0, some (eZ bs (p + 1))), (i1, none)], nidl + 0, z0⟩) : RW Tryz.prog N all Q md (⟨some d, .call ⟨.value (.func 48), #[x0, x1], tys⟩, ty, pos, af, none⟩ :: rest) ⟨tsl, hsl, nidl, z0⟩ := by
 have h := hcs.h
 subst hm h
 exact Gt ha0 ha1 hH0 hH1 hdd (IF bs p xs hb hp h0 hn) hM hN (hmd := hmd) kk
theorem J7 (bs : List UInt8) (hb : bs.length ≤ 1048576) : MC Tryz.prog 46 [sl cU bs] [] 0 (fun _ : Unit => True) (fun _ => .optr 0 0) (fun _ => [(0, some (eZ (bs.take 2000) 0))]) := by
 (refine b0 Tryz.func46 rfl (by simp [Tryz.ntmps46]) ?_; rw [Tryz.ntmps46])
 repeat' (first|(apply aM;first|(apply aE;rfl;rfl)|(apply aR;rfl;rfl;rfl;rfl)|(apply aC;rfl;rfl)|(apply a9;rfl;rfl;rfl)|(apply aF;kernel_rfl)|(apply b9;rfl;(exact (rfl:_=some [_, _]));(exact (rfl:_=[_, _]));rfl)|(apply wC;rfl;infer_instance;rfl;rfl;(omega);rfl)|(apply bW;rfl;rfl;rfl;rfl))|(apply aN;first|apply aH|apply aB|(apply aO;rfl;all_goals intro hc;have hq:=hc;(try simp only [cK] at hq);try exfalso;omega)|apply aS|apply aQ)|with_reducible apply aA)
 ·(refine aP rfl ?_; refine bV () trivial ?_ ⟨.inr (Eq.trans (b := some _) rfl ?_), trivial⟩)
  ·rfl
  ·rfl
 ·(refine aP rfl ?_; refine bV () trivial ?_ ⟨.inr (Eq.trans (b := some _) rfl ?_), trivial⟩)
  ·rfl
  ·rw [List.take_of_length_le (by omega)]; rfl
def st (op x y n : Int) : AL.Stmt := .mk op x y n [] []
def jW (bs : List UInt8) (p : Nat) : AL.Stmt × Nat :=
 let box := 1 + cT bs p 2
 let owner := gX bs (p + 1) [1, 2, 1, 4, 5]
 let c := cT bs (p + 1 + 1) 11
 if c = 0 then (st 1 0 0 (cT bs (p + 1 + 1 + 1) 10), p + 4)
 else if c = 1 then (st 2 box 0 (cT bs (p + 1 + 1 + 1) 10), p + 4)
 else if c = 2 then (st 3 box (3 - box) 0, p + 3)
 else if c = 3 then (st 4 3 owner 0, p + 3)
 else if c = 4 ∨ c = 5 then (st 5 4 (gX bs (p + 1 + 1 + 1) [1, 2, 1, 5]) 0, p + 4)
 else if c = 6 then (st 6 0 (gX bs (p + 1 + 1 + 1) [3, 4, 1, 2, 5]) 0, p + 4)
 else if c = 7 then (st 7 (gX bs (p + 1 + 1 + 1) [4, 1, 2, 5]) 0 0, p + 4)
 else if c = 8 then (st 8 box 0 0, p + 3)
 else (st 5 5 (gX bs (p + 1 + 1 + 1) [4, 1, 2]) 0, p + 4)
def iE (one : Nat → AL.Stmt × Nat) (s : AL.Stmt) (p : Nat) : Nat → List AL.Stmt × Nat
 | 0 => ([s], p)
 | k + 1 => ((iE one s p k).1 ++ [(one (iE one s p k).2).1], (one (iE one s p k).2).2)
def uI (bs : List UInt8) : Nat → Nat → AL.Stmt × Nat
 | 0, p => jW bs p
 | d + 1, p =>
  let c := cT bs (p + 1 + 1) 11
  if c = 9 then
   let r := iE (uI bs d) (st 2 1 0 (cT bs (p + 1 + 1 + 1 + 1) 10)) (p + 1 + 1 + 1 + 1 + 1) (cT bs (p + 1 + 1 + 1) 3).toNat
   let e := jW bs r.2
   (.mk 9 0 0 0 r.1 [e.1], e.2)
  else if c = 10 then
   let a := jW bs (p + 1 + 1 + 1)
   let b := jW bs a.2
   (.mk 10 0 0 0 [a.1, b.1] [], b.2)
  else jW bs p
def fJ (bs : List UInt8) (d : Int) (p : Nat) : AL.Stmt × Nat := uI bs d.toNat p
def eU (bs : List UInt8) (d n : Int) (p : Nat) : List AL.Stmt × Nat := iE (fJ bs d) (st 2 1 0 (cT bs p 10)) (p + 1) n.toNat
theorem tI (bs : List UInt8) (p : Nat) : (jW bs p).2 ≤ p + 4 := by
 unfold jW;dsimp only;repeat' split
 all_goals omega
theorem tL (bs : List UInt8) (p : Nat) : dK (jW bs p).1 = 1 := by
 unfold jW st;dsimp only;repeat' split
 all_goals simp [dK, bT]
theorem x7 {one : Nat → AL.Stmt × Nat} {c : Nat} (h : ∀ p, (one p).2 ≤ p + c) (s : AL.Stmt) (p : Nat) : ∀ k, (iE one s p k).2 ≤ p + k * c
 | 0 => by simp [iE]
 | k + 1 => by
  have := x7 h s p k
  have := h (iE one s p k).2
  simp only [iE, Nat.succ_mul]; omega
theorem xB {one : Nat → AL.Stmt × Nat} {c : Nat} (h : ∀ p, dK (one p).1 ≤ c) (s : AL.Stmt) (p : Nat) : ∀ k, bT (iE one s p k).1 ≤ dK s + k * c
 | 0 => by simp [iE, bT]
 | k + 1 => by
  have := xB h s p k
  have := h (iE one s p k).2
  simp only [iE, Nat.succ_mul, gR, bT]; omega
def AH : Nat → Nat
 | 0 => 4
 | d + 1 => 9 + 2 * AH d
def DB : Nat → Nat
 | 0 => 1
 | d + 1 => 3 + 2 * DB d
theorem k3 (bs : List UInt8) (p : Nat) : (cT bs p 3).toNat ≤ 2 := by have := e9 bs p 3; omega
theorem Ha (bs : List UInt8) : ∀ d p, (uI bs d p).2 ≤ p + AH d
 | 0, p => tI bs p
 | d + 1, p => by
  have h0 := tI bs p
  have h1 := x7 (Ha bs d) (st 2 1 0 (cT bs (p + 1 + 1 + 1 + 1) 10)) (p + 1 + 1 + 1 + 1 + 1) (cT bs (p + 1 + 1 + 1) 3).toNat
  have h2 := k3 bs (p + 1 + 1 + 1)
  have h3 : (cT bs (p + 1 + 1 + 1) 3).toNat * AH d ≤ 2 * AH d := Nat.mul_le_mul_right _ h2
  have h4 := tI bs (iE (uI bs d) (st 2 1 0 (cT bs (p + 1 + 1 + 1 + 1) 10)) (p + 1 + 1 + 1 + 1 + 1) (cT bs (p + 1 + 1 + 1) 3).toNat).2
  have h5 := tI bs (p + 1 + 1 + 1)
  have h6 := tI bs (jW bs (p + 1 + 1 + 1)).2
  have h7 : 1 ≤ AH d := by cases d <;> simp only [AH] <;> omega
  simp only [uI, AH]
  split
  ·dsimp only;omega
  ·split
   ·dsimp only;omega
   ·omega
theorem GQ (bs : List UInt8) : ∀ d p, dK (uI bs d p).1 ≤ DB d
 | 0, p => by rw [uI, tL]; decide
 | d + 1, p => by
  have h0 := tL bs p
  have h1 := xB (GQ bs d) (st 2 1 0 (cT bs (p + 1 + 1 + 1 + 1) 10)) (p + 1 + 1 + 1 + 1 + 1) (cT bs (p + 1 + 1 + 1) 3).toNat
  have h2 := k3 bs (p + 1 + 1 + 1)
  have h3 : (cT bs (p + 1 + 1 + 1) 3).toNat * DB d ≤ 2 * DB d := Nat.mul_le_mul_right _ h2
  have h4 := tL bs (iE (uI bs d) (st 2 1 0 (cT bs (p + 1 + 1 + 1 + 1) 10)) (p + 1 + 1 + 1 + 1 + 1) (cT bs (p + 1 + 1 + 1) 3).toNat).2
  have h5 := tL bs (p + 1 + 1 + 1)
  have h6 := tL bs (jW bs (p + 1 + 1 + 1)).2
  have h7 : dK (st 2 1 0 (cT bs (p + 1 + 1 + 1 + 1) 10)) = 1 := by simp [st, dK, bT]
  simp only [uI, DB]
  split
  ·simp only [dK, bT]; omega
  ·split
   ·simp only [dK, bT]; omega
   ·omega
theorem Ga (bs : List UInt8) {d : Int} (h : d ≤ 2) (p : Nat) : (fJ bs d p).2 ≤ p + 43 := by
 have h1 := Ha bs d.toNat p
 have h2 : AH d.toNat ≤ 43 := by
  have : d.toNat = 0 ∨ d.toNat = 1 ∨ d.toNat = 2 := by omega
  rcases this with h|h|h <;> rw [h] <;> decide
 exact Nat.le_trans h1 (by omega)
theorem J3 (bs : List UInt8) {d : Int} (h : d ≤ 2) (p : Nat) : dK (fJ bs d p).1 ≤ 13 := by
 have h1 := GQ bs d.toNat p
 have h2 : DB d.toNat ≤ 13 := by
  have : d.toNat = 0 ∨ d.toNat = 1 ∨ d.toNat = 2 := by omega
  rcases this with h|h|h <;> rw [h] <;> decide
 exact Nat.le_trans h1 h2
theorem vV {one : Nat → AL.Stmt × Nat} (s : AL.Stmt) (p : Nat) : ∀ k, (iE one s p k).1.length = k + 1
 | 0 => rfl
 | k + 1 => by simp only [iE, List.length_append, vV s p k, List.length_cons, List.length_nil]
theorem DV (bs : List UInt8) (d : Int) (n p : Nat) : (eU bs d (n : Int) p).1.length = n + 1 := vV _ _ _
theorem Ih (bs : List UInt8) (d : Int) (k p : Nat) : eU bs d ((k + 1 : Nat) : Int) p = ((eU bs d (k : Int) p).1 ++ [(fJ bs d (eU bs d (k : Int) p).2).1], (fJ bs d (eU bs d (k : Int) p).2).2) := rfl
theorem gV {xs : List AL.Stmt} {m : Nat} {s : AL.Stmt} (hm : m = xs.length) : ((aI aY xs).drop 0).take (m * 6) ++ [iv s.op, iv s.x, iv s.y, iv s.n, sl aY s.th, sl aY s.el] = aI aY (xs ++ [s]) := iC hm (dW s).symm
def L8 (s : AL.Stmt) (a : Int) : AL.Stmt := .mk a s.x s.y s.n s.th s.el
def uX (s : AL.Stmt) (a : Int) : AL.Stmt := .mk s.op a s.y s.n s.th s.el
def uY (s : AL.Stmt) (a : Int) : AL.Stmt := .mk s.op s.x a s.n s.th s.el
def uN (s : AL.Stmt) (a : Int) : AL.Stmt := .mk s.op s.x s.y a s.th s.el
theorem JK {xs : List AL.Stmt} {k : Nat} {a : Int} (hk : k < xs.length) : iR (aI aY xs) (0 + k * 6 + 0) [iv a] = aI aY (xs.set k (L8 xs[k]! a)) := fW hk (by simp) (by rw [dW, dW]; rfl)
theorem LX {xs : List AL.Stmt} {k : Nat} {a : Int} (hk : k < xs.length) : iR (aI aY xs) (0 + k * 6 + 1) [iv a] = aI aY (xs.set k (uX xs[k]! a)) := fW hk (by simp) (by rw [dW, dW]; rfl)
theorem Ll {xs : List AL.Stmt} {k : Nat} {a : Int} (hk : k < xs.length) : iR (aI aY xs) (0 + k * 6 + 2) [iv a] = aI aY (xs.set k (uY xs[k]! a)) := fW hk (by simp) (by rw [dW, dW]; rfl)
theorem L7 {xs : List AL.Stmt} {k : Nat} {a : Int} (hk : k < xs.length) : iR (aI aY xs) (0 + k * 6 + 3) [iv a] = aI aY (xs.set k (uN xs[k]! a)) := fW hk (by simp) (by rw [dW, dW]; rfl)
theorem wV (bs : List UInt8) {d : Int} (h : d ≤ 2) (n : Int) (p : Nat) : (eU bs d n p).2 ≤ p + 1 + n.toNat * 43 := x7 (Ga bs h) _ _ _
theorem Hv (bs : List UInt8) {d : Int} (h : d ≤ 2) (n : Int) (p : Nat) : bT (eU bs d n p).1 ≤ 1 + n.toNat * 13 := by
 have h7 : dK (st 2 1 0 (cT bs p 10)) = 1 := by simp [st, dK, bT]
 have := xB (J3 bs h) (st 2 1 0 (cT bs p 10)) (p + 1) n.toNat
 rw [h7] at this
 exact this
theorem BZ (bs : List UInt8) {d : Int} (h : 0 < d) (p : Nat) : fJ bs d p = 
  let c := cT bs (p + 1 + 1) 11
  if c = 9 then
   let r := eU bs (d - 1) (cT bs (p + 1 + 1 + 1) 3) (p + 1 + 1 + 1 + 1)
   let e := fJ bs 0 r.2
   (.mk 9 0 0 0 r.1 [e.1], e.2)
  else if c = 10 then
   let a := fJ bs 0 (p + 1 + 1 + 1)
   let b := fJ bs 0 a.2
   (.mk 10 0 0 0 [a.1, b.1] [], b.2)
  else jW bs p := by
 have : d.toNat = (d - 1).toNat + 1 := by omega
 simp only [fJ, this, uI, eU]
 rfl
theorem LA (s : AL.Stmt) : aI aY [s] = [iv s.op, iv s.x, iv s.y, iv s.n, sl aY s.th, sl aY s.el] := by simp [aI, dW]
theorem LY (s t : AL.Stmt) : aI aY [s, t] = [iv s.op, iv s.x, iv s.y, iv s.n, sl aY s.th, sl aY s.el, iv t.op, iv t.x, iv t.y, iv t.n, sl aY t.th, sl aY t.el] := by simp [aI, dW]
theorem JE (bs : List UInt8) {d : Int} (h0 : 0 ≤ d) (p : Nat) (h : ¬ 0 < d ∨ (cT bs (p + 1 + 1) 11 ≠ 9 ∧ cT bs (p + 1 + 1) 11 ≠ 10)) : fJ bs d p = jW bs p := by
 by_cases hd : 0 < d
 ·rw [BZ bs hd p]
  dsimp only
  rw [if_neg (by omega), if_neg (by omega)]
 ·have : d = 0 := by omega
  subst this;rfl
theorem KL (bs : List UInt8) {d : Int} (hd : 0 < d) (p : Nat) (h : cT bs (p + 1 + 1) 11 = 9) : fJ bs d p = (.mk 9 0 0 0 (eU bs (d - 1) (cT bs (p + 1 + 1 + 1) 3) (p + 1 + 1 + 1 + 1)).1 [(fJ bs 0 (eU bs (d - 1) (cT bs (p + 1 + 1 + 1) 3) (p + 1 + 1 + 1 + 1)).2).1], (fJ bs 0 (eU bs (d - 1) (cT bs (p + 1 + 1 + 1) 3) (p + 1 + 1 + 1 + 1)).2).2) := by
 rw [BZ bs hd p]
 dsimp only
 rw [if_pos h]
theorem I0 (bs : List UInt8) {d : Int} (hd : 0 < d) (p : Nat) (h : cT bs (p + 1 + 1) 11 = 10) : fJ bs d p = (.mk 10 0 0 0 [(fJ bs 0 (p + 1 + 1 + 1)).1, (fJ bs 0 (fJ bs 0 (p + 1 + 1 + 1)).2).1] [], (fJ bs 0 (fJ bs 0 (p + 1 + 1 + 1)).2).2) := by
 rw [BZ bs hd p]
 dsimp only
 rw [if_neg (by omega), if_pos h]
theorem z6 {bs : List UInt8} {p : Nat} {ts : List Int} {dp : Int} {N : Nat} {Q : Exit → AS → Prop} {all : Array Oper} {rest : List Oper} {tsl : List (Nat × AV)} {hsl : List (Nat × Option (List AV))} {nidl : Nat} {z0 : Lo} {md : Md} {d : Nat} {ty : TypeId} {pos : String} {af : Array Edge} {tys : Array TypeId} {x0 x1 x2 : Operand} {i0 : Nat} (ha0 : ev (lk tsl) x0 = some (.optr i0 0)) (ha1 : ev (lk tsl) x1 = some (sl cI ts)) (ha2 : ev (lk tsl) x2 = some (iv dp)) (hH0 : cE hsl i0 = some (eZ bs p)) (hmc : MC Tryz.prog 164 [.optr 0 0, sl cI ts, iv dp] [(0, some (eZ bs p))] 1 (fun _ : Unit => True) (fun _ => dH (fJ bs dp p).1) (fun _ => [(0, some (eZ bs (fJ bs dp p).2))])) (hM : Nat.ble (nidl + 0) fD = true) (hN : Nat.blt d N = true) {md' : Md} [hmd : MdA md (gS [x0, x1, x2] ++ [.inr i0]) (List.map Sum.inr (List.map Prod.fst ([(i0, some (eZ bs (fJ bs dp p).2))] : List (Nat × Option (List AV)))) ++ [.inl d]) md'] (kk : RW Tryz.prog N all Q md' rest ⟨(d, dH (fJ bs dp p).1) :: tsl, iK hsl [(i0, some (eZ bs (fJ bs dp p).2))], nidl + 0, z0⟩) : RW Tryz.prog N all Q md (⟨some d, .call ⟨.value (.func 164), #[x0, x1, x2], tys⟩, ty, pos, af, none⟩ :: rest) ⟨tsl, hsl, nidl, z0⟩ := by
 refine cJ [i0] 1 [(i0, some (eZ bs (fJ bs dp p).2))] hmc (avs := [.optr i0 0, sl cI ts, iv dp]) ?_ rfl ?_ rfl ?_ (by simpa using hM) ?_ ?_ ?_ hN (md' := md') (hmd := hmd) kk
 ·show evL (lk tsl) [x0, x1, x2] = _
  simp only [evL, ha0, ha1, ha2]
 ·exact ⟨⟨_, _, rfl, hH0, by (repeat' (exact RnL.purI inferInstance))⟩, trivial⟩
 ·(repeat' (first|exact RnL.purI inferInstance|exact RnV.optr rfl|refine RnL.cons ?_ ?_))
 ·(repeat' (exact RnV.purI inferInstance))
 ·simp [dQ]
 ·(repeat' (first|exact trivial|(refine And.intro ⟨0, _, rfl, rfl, ?_⟩ ?_)|exact RnL.purI inferInstance))
theorem v7 {bs : List UInt8} {p : Nat} {ts : List Int} {dp cn : Int} {N : Nat} {Q : Exit → AS → Prop} {all : Array Oper} {rest : List Oper} {tsl : List (Nat × AV)} {hsl : List (Nat × Option (List AV))} {nidl : Nat} {z0 : Lo} {md : Md} {d : Nat} {ty : TypeId} {pos : String} {af : Array Edge} {tys : Array TypeId} {x0 x1 x2 x3 : Operand} {i0 : Nat} (ha0 : ev (lk tsl) x0 = some (.optr i0 0)) (ha1 : ev (lk tsl) x1 = some (sl cI ts)) (ha2 : ev (lk tsl) x2 = some (iv dp)) (ha3 : ev (lk tsl) x3 = some (iv cn)) (hH0 : cE hsl i0 = some (eZ bs p)) (hmc : MC Tryz.prog 123 [.optr 0 0, sl cI ts, iv dp, iv cn] [(0, some (eZ bs p))] 1 (fun _ : Unit => True) (fun _ => sl aY (eU bs dp cn p).1) (fun _ => [(0, some (eZ bs (eU bs dp cn p).2))])) (hM : Nat.ble (nidl + 0) fD = true) (hN : Nat.blt d N = true) {md' : Md} [hmd : MdA md (gS [x0, x1, x2, x3] ++ [.inr i0]) (List.map Sum.inr (List.map Prod.fst ([(i0, some (eZ bs (eU bs dp cn p).2))] : List (Nat × Option (List AV)))) ++ [.inl d]) md'] (kk : RW Tryz.prog N all Q md' rest ⟨(d, sl aY (eU bs dp cn p).1) :: tsl, iK hsl [(i0, some (eZ bs (eU bs dp cn p).2))], nidl + 0, z0⟩) : RW Tryz.prog N all Q md (⟨some d, .call ⟨.value (.func 123), #[x0, x1, x2, x3], tys⟩, ty, pos, af, none⟩ :: rest) ⟨tsl, hsl, nidl, z0⟩ := by
 refine cJ [i0] 1 [(i0, some (eZ bs (eU bs dp cn p).2))] hmc (avs := [.optr i0 0, sl cI ts, iv dp, iv cn]) ?_ rfl ?_ rfl ?_ (by simpa using hM) ?_ ?_ ?_ hN (md' := md') (hmd := hmd) kk
 ·show evL (lk tsl) [x0, x1, x2, x3] = _
  simp only [evL, ha0, ha1, ha2, ha3]
 ·exact ⟨⟨_, _, rfl, hH0, by (repeat' (exact RnL.purI inferInstance))⟩, trivial⟩
 ·(repeat' (first|exact RnL.purI inferInstance|exact RnV.optr rfl|refine RnL.cons ?_ ?_))
 ·(repeat' (exact RnV.purI inferInstance))
 ·simp [dQ]
 ·(repeat' (first|exact trivial|(refine And.intro ⟨0, _, rfl, rfl, ?_⟩ ?_)|exact RnL.purI inferInstance))
attribute [local irreducible] cT
theorem y5 (D : Int) (hD0 : 0 ≤ D) (hD : D ≤ 2) (l1One_ih : ∀ bs p ts, 0 < D → bs.length ≤ 2000 → p ≤ 900000 → ∀ dp : Int, dp = 0 → MC Tryz.prog 164 [.optr 0 0, sl cI ts, iv dp] [(0, some (eZ bs p))] 1 (fun _ : Unit => True) (fun _ => dH (fJ bs dp p).1) (fun _ => [(0, some (eZ bs (fJ bs dp p).2))])) (l1Some_ih : ∀ bs (p : Nat) ts cn, 0 < D → bs.length ≤ 2000 → (p : Int) ≤ 850000 - 100000 * (D - 1) → 0 ≤ cn → cn ≤ 2 → ∀ dp : Int, dp = D - 1 → MC Tryz.prog 123 [.optr 0 0, sl cI ts, iv dp, iv cn] [(0, some (eZ bs p))] 1 (fun _ : Unit => True) (fun _ => sl aY (eU bs dp cn p).1) (fun _ => [(0, some (eZ bs (eU bs dp cn p).2))])) (bs : List UInt8) (p : Nat) (ts : List Int) (dp : Int) (hd : dp = D) (hb : bs.length ≤ 2000) (hp : (p : Int) ≤ 900000 - 100000 * D) : MC Tryz.prog 164 [.optr 0 0, sl cI ts, iv dp] [(0, some (eZ bs p))] 1 (fun _ : Unit => True) (fun _ => dH (fJ bs dp p).1) (fun _ => [(0, some (eZ bs (fJ bs dp p).2))]) := by
 subst hd
 have h0 := e9 bs p 2
 have h2 := e9 bs (p + 1 + 1) 11
 have h3 := e9 bs (p + 1 + 1 + 1) 3
 have h3' := k3 bs (p + 1 + 1 + 1)
 have h4 := Ga bs (d := 0) (by omega) (p + 1 + 1 + 1)
 have h5 := wV bs (d := dp - 1) (by omega) (cT bs (p + 1 + 1 + 1) 3) (p + 1 + 1 + 1 + 1)
 have h6 : (cT bs (p + 1 + 1 + 1) 3).toNat * 43 ≤ 2 * 43 := Nat.mul_le_mul_right _ h3'
 (refine b0 Tryz.func164 rfl (by simp [Tryz.ntmps164]) ?_; rw [Tryz.ntmps164])
 repeat' (first|(apply aM;first|(apply aE;rfl;rfl)|(first|(apply bR;rfl;rfl;omega;rfl)|(apply fO;rfl;rfl;omega;rfl)|(apply aR;rfl;rfl;rfl;rfl))|(apply aC;rfl;rfl)|(first|(apply iS;rfl;rfl;(rfl);(apply lF <;> (first|assumption|omega));rfl;rfl)|(apply GM;rfl;rfl;infer_instance;rfl;(rfl);assumption;omega;(decide);(decide);rfl;rfl)|(apply v7;rfl;rfl;rfl;rfl;(rfl);(apply l1Some_ih <;> (first|assumption|omega));rfl;rfl)|(apply z6;rfl;rfl;rfl;(rfl);(apply l1One_ih <;> (first|assumption|omega));rfl;rfl))|(apply aF;kernel_rfl)|(apply b9;rfl;(exact (rfl:_=some [_, _, _, _, _, _]));(exact (rfl:_=[_, _, _, _, _, _]));rfl)|(apply bH;rfl;rfl)|((apply bQ (t := _));(case hze|hsm|hl => rfl);(case hfl => (first|exact (rfl:_=some [_, _, _])|exact (rfl:_=some [_, _, _, _])|exact (rfl:_=some [_, _, _, _, _])|exact (rfl:_=some [_, _, _, _, _, _])|rfl));(case hM|hN => rfl))|(apply aW;rfl;rfl;rfl;rfl;rfl;(case hl => (simp;done));(exact (rfl:_=[_, _, _, _, _, _]))))|(apply aN;first|apply aH|apply aB|(apply b8;rfl;(assumption))|(apply aO;rfl;all_goals intro hc;have hq:=hc;(try simp only [cK] at hq);try exfalso;omega)|apply aL|apply aS|apply aQ)|with_reducible apply aA|with_reducible apply bJ|with_reducible apply aV|with_reducible apply cY)
 all_goals try (refine aP rfl ?_; refine bV () trivial ?_ ⟨.inr (Eq.trans (b := some _) rfl ?_), trivial⟩)
 all_goals try (rw [JE bs hD0 p (by omega)]; unfold jW; dsimp only; repeat' split
                all_goals (first|rfl|(exfalso;omega));done)
 iterate 2
  rewrite [KL bs (d := dp) (by assumption) p (by assumption)]
  first|rfl|(refine Eq.trans (b := AV.agg [_, _, _, _, _, AV.imm 1 (aI aY [_])]) ?_ rfl;rw [LA]; rfl)
 iterate 2
  rewrite [I0 bs (d := dp) (by omega) p (by omega)]
  first|rfl|(refine Eq.trans (b := AV.agg [_, _, _, _, AV.imm 2 (aI aY [_, _]), _]) ?_ rfl;rw [LY]; rfl)
theorem vZ (D : Int) (hD0 : 0 ≤ D) (hD : D ≤ 2) (l1One_ih : ∀ bs (p : Nat) ts, bs.length ≤ 2000 → (p : Int) ≤ 900000 - 100000 * D → ∀ dp : Int, dp = D → MC Tryz.prog 164 [.optr 0 0, sl cI ts, iv dp] [(0, some (eZ bs p))] 1 (fun _ : Unit => True) (fun _ => dH (fJ bs dp p).1) (fun _ => [(0, some (eZ bs (fJ bs dp p).2))])) (bs : List UInt8) (p : Nat) (ts : List Int) (dp : Int) (hd : dp = D) (cn : Int) (hb : bs.length ≤ 2000) (hp : (p : Int) ≤ 850000 - 100000 * D) (hc0 : 0 ≤ cn) (hc : cn ≤ 8) : MC Tryz.prog 123 [.optr 0 0, sl cI ts, iv dp, iv cn] [(0, some (eZ bs p))] 1 (fun _ : Unit => True) (fun _ => sl aY (eU bs dp cn p).1) (fun _ => [(0, some (eZ bs (eU bs dp cn p).2))]) := by
 subst hd
 (refine b0 Tryz.func123 rfl (by simp [Tryz.ntmps123]) ?_; rw [Tryz.ntmps123])
 repeat' (first|(apply aM;first|(apply aE;rfl;rfl)|(apply aC;rfl;rfl)|(apply iS;rfl;rfl;(rfl);(apply lF <;> (first|assumption|omega));rfl;rfl)|(apply aF;kernel_rfl)|(apply b9;rfl;(exact (rfl:_=some [_, _, _, _, _, _]));(exact (rfl:_=[_, _, _, _, _, _]));rfl)|(apply cA;rfl;rfl;rfl;(exact (rfl:_=some [_, _, _, _, _, _]));rfl;rfl))|(apply aN;first|apply aH|apply aB|apply aL)|with_reducible apply aA)
 refine a7 (σ := Nat × List AL.Stmt × Nat) [0, 1, 2, 3] [(0, _), (1, _), (2, _), (3, _)] [] [] (fun k => [(10, iv (k.1 : Int)), (9, .own 1 0 (k.1 + 1) 6)]) (fun k => [(0, some (eZ bs k.2.2)), (1, some (aI aY k.2.1))]) (fun k => (k.1 : Int) ≤ cn ∧ k.2 = eU bs dp (k.1 : Int) p) (fun k => cn.toNat - k.1) (0, [st 2 1 0 (cT bs p 10)], p + 1) ⟨by omega, rfl⟩ rfl rfl (by repeat' (first|exact trivial|refine And.intro rfl ?_)) (by repeat' (first|exact trivial|refine And.intro (.inr rfl) ?_)) ?_
 rintro ⟨k, xs, q⟩ ⟨hk, hse⟩
 dsimp only at hk hse ⊢
 have hp2 := wV bs (d := dp) (by omega) (k : Int) p
 have hkk : (k : Int).toNat * 43 ≤ 8 * 43 := Nat.mul_le_mul_right _ (by omega)
 have hln := DV bs dp k p
 rw [← hse] at hp2 hln
 dsimp only at hp2 hln
 repeat' (first|(apply aM;first|(apply aE;rfl;rfl)|(first|(apply bR;rfl;rfl;omega;rfl)|(apply aR;rfl;rfl;rfl;rfl))|(apply aC;rfl;rfl)|(apply z6;rfl;rfl;rfl;(rfl);(apply l1One_ih <;> (first|assumption|omega));rfl;rfl)|(apply cF;rfl;rfl;rfl;rfl;rfl;(rw [aU]; omega);(rfl);omega;omega;(exact gV (by (omega)));rfl;rfl)|(apply aF;kernel_rfl)|((apply bQ (t := _));(case hze|hsm|hl => rfl);(case hfl => (exact (rfl:_=some [_, _, _, _, _, _])));(case hM|hN => rfl)))|(apply aN;first|apply aH|apply aB|(apply aO;rfl;all_goals intro hc;have hq:=hc;(try simp only [cK] at hq);try exfalso;omega)|apply aL|apply aS|apply bF|apply aQ)|with_reducible apply aA|with_reducible apply bE|with_reducible apply aV|with_reducible apply bG)
 ·(apply dV (k + 1, _, _); focus (refine Le.ren [(1, 3)] rfl (by decide) ?_ ?_ <;> repeat' (first | exact trivial | refine And.intro ⟨_, rfl, ?_⟩ ?_ | refine And.intro ⟨_, _, rfl, rfl, ?_⟩ ?_ | exact Or.inr rfl | refine Or.inl ⟨?_, (by first | rfl | exact aZ _ _ | exact Pur.pf)⟩ | rfl)))
  ·dsimp only
   refine ⟨by omega, ?_⟩
   rw [Ih, ← hse]
  ·dsimp only;omega
 ·have hke : (k : Int) = cn := by omega
  rw [hke] at hse
  (refine cC (Le.frzD (d := 8) (i := 1) rfl rfl) ?_; refine aP rfl ?_)
  refine bV () trivial ?_ ⟨.inr (Eq.trans (b := some _) rfl ?_), trivial⟩
  ·rw [← hse]; show AV.imm (k + 1) (aI aY xs) = AV.imm xs.length (aI aY xs)
   rw [hln]
  ·rw [← hse]
theorem nF : ∀ D : Nat, D ≤ 2 → (∀ bs (p : Nat) ts, bs.length ≤ 2000 → (p : Int) ≤ 900000 - 100000 * (D : Int) → ∀ dp : Int, dp = (D : Int) → MC Tryz.prog 164 [.optr 0 0, sl cI ts, iv dp] [(0, some (eZ bs p))] 1 (fun _ : Unit => True) (fun _ => dH (fJ bs dp p).1) (fun _ => [(0, some (eZ bs (fJ bs dp p).2))])) ∧ (∀ bs (p : Nat) ts (cn : Int), bs.length ≤ 2000 → (p : Int) ≤ 850000 - 100000 * (D : Int) → 0 ≤ cn → cn ≤ 8 → ∀ dp : Int, dp = (D : Int) → MC Tryz.prog 123 [.optr 0 0, sl cI ts, iv dp, iv cn] [(0, some (eZ bs p))] 1 (fun _ : Unit => True) (fun _ => sl aY (eU bs dp cn p).1) (fun _ => [(0, some (eZ bs (eU bs dp cn p).2))]))
 | 0, _ => by
  have h1 : ∀ bs (p : Nat) ts, bs.length ≤ 2000 → (p : Int) ≤ 900000 - 100000 * ((0 : Nat) : Int) → ∀ dp : Int, dp = ((0 : Nat) : Int) → MC Tryz.prog 164 [.optr 0 0, sl cI ts, iv dp] [(0, some (eZ bs p))] 1 (fun _ : Unit => True) (fun _ => dH (fJ bs dp p).1) (fun _ => [(0, some (eZ bs (fJ bs dp p).2))]) :=
   fun bs p ts hb hp dp hd => y5 ((0 : Nat) : Int) (by omega) (by omega) (fun _ _ _ h => by omega) (fun _ _ _ _ h => by omega) bs p ts dp hd hb hp
  exact ⟨h1, fun bs p ts cn hb hp h0 h8 dp hd => vZ ((0 : Nat) : Int) (by omega) (by omega) h1 bs p ts dp hd cn hb hp h0 h8⟩
 | D + 1, hD => by
  have ih := nF D (by omega)
  have i0 := nF 0 (by omega)
  have h1 : ∀ bs (p : Nat) ts, bs.length ≤ 2000 → (p : Int) ≤ 900000 - 100000 * ((D + 1 : Nat) : Int) → ∀ dp : Int, dp = ((D + 1 : Nat) : Int) → MC Tryz.prog 164 [.optr 0 0, sl cI ts, iv dp] [(0, some (eZ bs p))] 1 (fun _ : Unit => True) (fun _ => dH (fJ bs dp p).1) (fun _ => [(0, some (eZ bs (fJ bs dp p).2))]) :=
   fun bs p ts hb hp dp hd => y5 ((D + 1 : Nat) : Int) (by omega) (by omega) (fun bs p ts _ hb hp dp hd => i0.1 bs p ts hb (by omega) dp (by omega)) (fun bs p ts cn _ hb hp h0 h2 dp hd => ih.2 bs p ts cn hb (by omega) h0 (by omega) dp (by omega)) bs p ts dp hd hb hp
  exact ⟨h1, fun bs p ts cn hb hp h0 h8 dp hd => vZ ((D + 1 : Nat) : Int) (by omega) (by omega) h1 bs p ts dp hd cn hb hp h0 h8⟩
theorem GD (bs : List UInt8) (p : Nat) (ts : List Int) (dp cn : Int) (hb : bs.length ≤ 2000) (hp : p ≤ 600000) (h0 : 0 ≤ cn) (h8 : cn ≤ 8) (hd0 : 0 ≤ dp) (hd : dp ≤ 2) : MC Tryz.prog 123 [.optr 0 0, sl cI ts, iv dp, iv cn] [(0, some (eZ bs p))] 1 (fun _ : Unit => True) (fun _ => sl aY (eU bs dp cn p).1) (fun _ => [(0, some (eZ bs (eU bs dp cn p).2))]) :=
 (nF dp.toNat (by omega)).2 bs p ts cn hb (by omega) h0 h8 dp (by omega)
end Go.Proofs.YtjcpngimjdckmaaGreat
namespace Go.Proofs.YtjcpngimjdckmaaGreat
open Go.AL Go.RowKit
theorem Ch {w : World} {bad : Nat → Prop} {ι : Pl} : ∀ {cs cs' : List AV}, All2 (fun c c' => c' = c ∨ c' = pU c) cs cs' → ∀ {b β : Nat}, RdC w bad ι cs b β → RdC w bad ι cs' b β
 | _, _, .nil, _, _, h => h
 | _, _, .cons h1 h2, b, β, h => by
  simp only [RdC] at h ⊢
  obtain ⟨⟨x, q1, q2, q3⟩, q4⟩ := h
  refine ⟨⟨x, q1, q2, ?_⟩, Ch h2 q4⟩
  rcases h1 with rfl|rfl
  ·exact q3
  ·exact nD q3
theorem CE : ∀ (l : List AV) {a b : List AV}, All2 (fun c c' => c' = c ∨ c' = pU c) a b → All2 (fun c c' => c' = c ∨ c' = pU c) (l ++ a) (l ++ b)
 | [], _, _, h => h
 | _ :: l, _, _, h => .cons (.inl rfl) (CE l h)
theorem pO {α : Type} {p q : α → Prop} {F : α → AS} {s s' : AS} (L : Le s s') (h : ∃ j, p j ∧ q j ∧ Le s' (F j)) : ∃ j, p j ∧ q j ∧ Le s (F j) := by
 obtain ⟨j, h1, h2, h3⟩ := h
 exact ⟨j, h1, h2, L.trans h3⟩
theorem Le.stmtN {ts : List (Nat × AV)} {hs : List (Nat × Option (List AV))} {n i : Nat} {z0 : Lo} {xs : List AL.Stmt} (s : AL.Stmt) {m : Nat} {a b : AV} (hm : m = xs.length)
  (ha : a = sl aY s.th ∨ (a = .v (.slice none 0 0) ∧ s.th = [])) (hb : b = sl aY s.el ∨ (b = .v (.slice none 0 0) ∧ s.el = []))
  (hi : cE hs i = some (((aI aY xs).drop 0).take (m * 6) ++ List.take (1 * 6) [iv s.op, iv s.x, iv s.y, iv s.n, a, b])) : Le ⟨ts, hs, n, z0⟩ ⟨ts, (i, some (aI aY (xs ++ [s]))) :: hs, n, z0⟩ := by
 have e : aI aY (xs ++ [s]) = ((aI aY xs).drop 0).take (m * 6) ++ [iv s.op, iv s.x, iv s.y, iv s.n, sl aY s.th, sl aY s.el] := (gV hm).symm
 have k : All2 (fun c c' => c' = c ∨ c' = pU c) (((aI aY xs).drop 0).take (m * 6) ++ List.take (1 * 6) [iv s.op, iv s.x, iv s.y, iv s.n, a, b]) (aI aY (xs ++ [s])) := by
  rw [e]
  refine CE _ (.cons (.inl rfl) (.cons (.inl rfl) (.cons (.inl rfl) (.cons (.inl rfl) (.cons ?_ (.cons ?_ .nil))))))
  ·rcases ha with h | ⟨h, h2⟩
   ·exact .inl h.symm
   ·refine .inr ?_; rw [h2, h]; rfl
  ·rcases hb with h | ⟨h, h2⟩
   ·exact .inl h.symm
   ·refine .inr ?_; rw [h2, h]; rfl
 refine Le.cells hi ?_ fun w bad ι b β h => Ch k h
 rw [e]; simp
theorem Dl (mm : Nat) (hmm : mm ≤ 1000000) (copy_ih : ∀ l, bT l < mm → PC Tryz.prog 72 [sl aY l] (fun r => r = sl aY l)) (l : List AL.Stmt) (hs : bT l ≤ mm) : PC Tryz.prog 72 [sl aY l] (fun r => r = sl aY l) := by
 have hlen := dL l
 (refine aT Tryz.func72 rfl (by simp [Tryz.ntmps72]) ?_; rw [Tryz.ntmps72])
 repeat' (first|(apply aM;first|(apply aC;rfl;rfl)|(apply aF;kernel_rfl)|(apply cA;rfl;rfl;rfl;(rfl);rfl;rfl))|(apply aN;first|apply aH|apply aB|apply aL)|with_reducible apply aA)
 refine a7 (σ := Nat × List AL.Stmt) [0] [(0, _)] [] [] (fun k => [(4, iv (k.1 : Int)), (3, .own 0 0 k.1 6)]) (fun k => [(0, some (aI aY k.2))]) (fun k => k.1 ≤ l.length ∧ k.2 = l.take k.1) (fun k => l.length - k.1) (0, []) ⟨by omega, rfl⟩ rfl rfl (by repeat' (first|exact trivial|refine And.intro rfl ?_)) (by repeat' (first|exact trivial|refine And.intro (.inr rfl) ?_)) ?_
 rintro ⟨k, xs⟩ ⟨hk, hxs⟩
 dsimp only at hk hxs ⊢
 have hck := fY l k
 have hct := iL l[k]!
 have hln : xs.length = k := by rw [hxs, List.length_take]; omega
 repeat' (first|(apply aM;first|(apply aE;rfl;rfl)|(first|(apply aK;rfl;rfl;rfl;rfl)|(apply aX;rfl;rfl;(exact (rfl:_=[_, _, _, _, _, _]));rfl;rfl;rfl))|(apply aD;rfl;rfl;rfl)|(first|(apply bR;rfl;rfl;omega;rfl)|(apply aR;rfl;rfl;rfl;rfl))|(apply aC;rfl;rfl)|(apply a6;(case hx|hi => rfl);(case hm => (omega));(case hml => (rfl));(case hα | hf|hg => infer_instance);(case hN => rfl))|((with_reducible apply aJ (k := 72));(case ha => rfl);(case h => (apply copy_ih <;> (omega)));(case hp => (exact Pur.pf));(case hN => rfl))|(first|(apply a9;rfl;rfl;rfl)|(apply cF;rfl;rfl;rfl;rfl;rfl;(rw [aU]; omega);(rfl);omega;omega;(first|exact gV (by (omega))|rfl);rfl;rfl))|(apply aF;kernel_rfl)|(apply bH;rfl;rfl)|((apply bQ (t := _));(case hze|hsm|hl => rfl);(case hfl => (exact (rfl:_=some [_, _, _, _, _, _])));(case hM|hN => rfl))|(apply aW;rfl;rfl;rfl;rfl;rfl;(case hl => (simp;done));(exact (rfl:_=[_, _, _, _, _, _]))))|(apply aN;first|apply aH|apply aB|(apply aO;rfl;all_goals intro hc;have hq:=hc;(try simp only [cK] at hq);try exfalso;omega)|apply aL|apply aS|apply bF|apply aQ)|with_reducible apply aA|with_reducible apply bE|with_reducible apply aV|with_reducible apply bG)
 ·(apply dV (k + 1, _); focus (refine Le.ren [(0, 3)] rfl (by decide) ?_ ?_ <;> repeat' (first | exact trivial | refine And.intro ⟨_, rfl, ?_⟩ ?_ | refine And.intro ⟨_, _, rfl, rfl, ?_⟩ ?_ | exact Or.inr rfl | refine Or.inl ⟨?_, (by first | rfl | exact aZ _ _)⟩ | rfl)))
  ·exact ⟨by dsimp only;omega, by dsimp only;rw [hxs, c9 l k (by omega)]⟩
  ·dsimp only;omega
 ·have hel : l[k]!.el = [] := List.eq_nil_of_length_eq_zero (by omega)
  refine pO (Le.stmtN (i := 3) l[k]! hln.symm (.inl rfl) (.inr ⟨rfl, hel⟩) rfl) ?_
  (apply dV (k + 1, _);focus (refine Le.ren [(0, 3)] rfl (by decide) ?_ ?_ <;> repeat' (first|exact trivial|refine And.intro ⟨_, rfl, ?_⟩ ?_|refine And.intro ⟨_, _, rfl, rfl, ?_⟩ ?_|exact Or.inr rfl|refine Or.inl ⟨?_, (by first|rfl|exact aZ _ _)⟩|rfl)))
  ·exact ⟨by dsimp only;omega, by dsimp only;rw [hxs, c9 l k (by omega)]⟩
  ·dsimp only;omega
 ·have hth : l[k]!.th = [] := List.eq_nil_of_length_eq_zero (by omega)
  refine pO (Le.stmtN (i := 3) l[k]! hln.symm (.inr ⟨rfl, hth⟩) (.inl rfl) rfl) ?_
  (apply dV (k + 1, _);focus (refine Le.ren [(0, 3)] rfl (by decide) ?_ ?_ <;> repeat' (first|exact trivial|refine And.intro ⟨_, rfl, ?_⟩ ?_|refine And.intro ⟨_, _, rfl, rfl, ?_⟩ ?_|exact Or.inr rfl|refine Or.inl ⟨?_, (by first|rfl|exact aZ _ _)⟩|rfl)))
  ·exact ⟨by dsimp only;omega, by dsimp only;rw [hxs, c9 l k (by omega)]⟩
  ·dsimp only;omega
 ·have hth : l[k]!.th = [] := List.eq_nil_of_length_eq_zero (by omega)
  have hel : l[k]!.el = [] := List.eq_nil_of_length_eq_zero (by omega)
  refine pO (Le.stmtN (i := 3) l[k]! hln.symm (.inr ⟨rfl, hth⟩) (.inr ⟨rfl, hel⟩) rfl) ?_
  (apply dV (k + 1, _);focus (refine Le.ren [(0, 3)] rfl (by decide) ?_ ?_ <;> repeat' (first|exact trivial|refine And.intro ⟨_, rfl, ?_⟩ ?_|refine And.intro ⟨_, _, rfl, rfl, ?_⟩ ?_|exact Or.inr rfl|refine Or.inl ⟨?_, (by first|rfl|exact aZ _ _)⟩|rfl)))
  ·exact ⟨by dsimp only;omega, by dsimp only;rw [hxs, c9 l k (by omega)]⟩
  ·dsimp only;omega
 ·have hke : k = l.length := by omega
  (refine cC (Le.frzD (d := 2) (i := 0) rfl rfl) ?_; refine aP rfl ?_)
  refine ⟨?_, Pur.pf⟩
  rw [hxs, hke, List.take_length]; rfl
theorem Ki (l : List AL.Stmt) (hb : bT l ≤ 1000000) : PC Tryz.prog 72 [sl aY l] (fun r => r = sl aY l) := by
 have key : ∀ m, m ≤ 1000000 → ∀ l, bT l ≤ m → PC Tryz.prog 72 [sl aY l] (fun r => r = sl aY l) := by
  intro m
  induction m with
  | zero => intro hm l hl;exact Dl 0 hm (fun l h => by omega) l hl
  | succ m ih => intro hm l hl;exact Dl (m + 1) hm (fun l h => ih (by omega) l (by omega)) l hl
 exact key (bT l) hb l (Nat.le_refl _)
theorem Ip (l : List AL.Stmt) (hs : bT l ≤ 1000000) : MC Tryz.prog 72 [sl aY l] [] 0 (fun _ : Unit => True) (fun _ => .own 0 0 l.length 6) (fun _ => [(0, some (aI aY l))]) := by
 have hlen := dL l
 (refine b0 Tryz.func72 rfl (by simp [Tryz.ntmps72]) ?_; rw [Tryz.ntmps72])
 repeat' (first|(apply aM;first|(apply aC;rfl;rfl)|(apply aF;kernel_rfl)|(apply cA;rfl;rfl;rfl;(rfl);rfl;rfl))|(apply aN;first|apply aH|apply aB|apply aL)|with_reducible apply aA)
 refine a7 (σ := Nat × List AL.Stmt) [0] [(0, _)] [] [] (fun k => [(4, iv (k.1 : Int)), (3, .own 0 0 k.1 6)]) (fun k => [(0, some (aI aY k.2))]) (fun k => k.1 ≤ l.length ∧ k.2 = l.take k.1) (fun k => l.length - k.1) (0, []) ⟨by omega, rfl⟩ rfl rfl (by repeat' (first|exact trivial|refine And.intro rfl ?_)) (by repeat' (first|exact trivial|refine And.intro (.inr rfl) ?_)) ?_
 rintro ⟨k, xs⟩ ⟨hk, hxs⟩
 dsimp only at hk hxs ⊢
 have hck := fY l k
 have hct := iL l[k]!
 have hln : xs.length = k := by rw [hxs, List.length_take]; omega
 repeat' (first|(apply aM;first|(apply aE;rfl;rfl)|(first|(apply aK;rfl;rfl;rfl;rfl)|(apply aX;rfl;rfl;(exact (rfl:_=[_, _, _, _, _, _]));rfl;rfl;rfl))|(apply aD;rfl;rfl;rfl)|(first|(apply bR;rfl;rfl;omega;rfl)|(apply aR;rfl;rfl;rfl;rfl))|(apply aC;rfl;rfl)|(apply a6;(case hx|hi => rfl);(case hm => (omega));(case hml => (rfl));(case hα | hf|hg => infer_instance);(case hN => rfl))|((with_reducible apply aJ (k := 72));(case ha => rfl);(case h => (apply Ki <;> (omega)));(case hp => (exact Pur.pf));(case hN => rfl))|(first|(apply a9;rfl;rfl;rfl)|(apply cF;rfl;rfl;rfl;rfl;rfl;(rw [aU]; omega);(rfl);omega;omega;(first|exact gV (by (omega))|rfl);rfl;rfl))|(apply aF;kernel_rfl)|(apply bH;rfl;rfl)|((apply bQ (t := _));(case hze|hsm|hl => rfl);(case hfl => (exact (rfl:_=some [_, _, _, _, _, _])));(case hM|hN => rfl))|(apply aW;rfl;rfl;rfl;rfl;rfl;(case hl => (simp;done));(exact (rfl:_=[_, _, _, _, _, _]))))|(apply aN;first|apply aH|apply aB|(apply aO;rfl;all_goals intro hc;have hq:=hc;(try simp only [cK] at hq);try exfalso;omega)|apply aL|apply aS|apply bF|apply aQ)|with_reducible apply aA|with_reducible apply bE|with_reducible apply aV|with_reducible apply bG)
 ·(apply dV (k + 1, _); focus (refine Le.ren [(0, 3)] rfl (by decide) ?_ ?_ <;> repeat' (first | exact trivial | refine And.intro ⟨_, rfl, ?_⟩ ?_ | refine And.intro ⟨_, _, rfl, rfl, ?_⟩ ?_ | exact Or.inr rfl | refine Or.inl ⟨?_, (by first | rfl | exact aZ _ _)⟩ | rfl)))
  ·exact ⟨by dsimp only;omega, by dsimp only;rw [hxs, c9 l k (by omega)]⟩
  ·dsimp only;omega
 ·have hel : l[k]!.el = [] := List.eq_nil_of_length_eq_zero (by omega)
  refine pO (Le.stmtN (i := 3) l[k]! hln.symm (.inl rfl) (.inr ⟨rfl, hel⟩) rfl) ?_
  (apply dV (k + 1, _);focus (refine Le.ren [(0, 3)] rfl (by decide) ?_ ?_ <;> repeat' (first|exact trivial|refine And.intro ⟨_, rfl, ?_⟩ ?_|refine And.intro ⟨_, _, rfl, rfl, ?_⟩ ?_|exact Or.inr rfl|refine Or.inl ⟨?_, (by first|rfl|exact aZ _ _)⟩|rfl)))
  ·exact ⟨by dsimp only;omega, by dsimp only;rw [hxs, c9 l k (by omega)]⟩
  ·dsimp only;omega
 ·have hth : l[k]!.th = [] := List.eq_nil_of_length_eq_zero (by omega)
  refine pO (Le.stmtN (i := 3) l[k]! hln.symm (.inr ⟨rfl, hth⟩) (.inl rfl) rfl) ?_
  (apply dV (k + 1, _);focus (refine Le.ren [(0, 3)] rfl (by decide) ?_ ?_ <;> repeat' (first|exact trivial|refine And.intro ⟨_, rfl, ?_⟩ ?_|refine And.intro ⟨_, _, rfl, rfl, ?_⟩ ?_|exact Or.inr rfl|refine Or.inl ⟨?_, (by first|rfl|exact aZ _ _)⟩|rfl)))
  ·exact ⟨by dsimp only;omega, by dsimp only;rw [hxs, c9 l k (by omega)]⟩
  ·dsimp only;omega
 ·have hth : l[k]!.th = [] := List.eq_nil_of_length_eq_zero (by omega)
  have hel : l[k]!.el = [] := List.eq_nil_of_length_eq_zero (by omega)
  refine pO (Le.stmtN (i := 3) l[k]! hln.symm (.inr ⟨rfl, hth⟩) (.inr ⟨rfl, hel⟩) rfl) ?_
  (apply dV (k + 1, _);focus (refine Le.ren [(0, 3)] rfl (by decide) ?_ ?_ <;> repeat' (first|exact trivial|refine And.intro ⟨_, rfl, ?_⟩ ?_|refine And.intro ⟨_, _, rfl, rfl, ?_⟩ ?_|exact Or.inr rfl|refine Or.inl ⟨?_, (by first|rfl|exact aZ _ _)⟩|rfl)))
  ·exact ⟨by dsimp only;omega, by dsimp only;rw [hxs, c9 l k (by omega)]⟩
  ·dsimp only;omega
 ·have hke : k = l.length := by omega
  have hxl : xs = l := by rw [hxs, hke, List.take_length]
  subst hke
  refine aP rfl ?_
  refine bV () trivial ?_ ⟨.inr (Eq.trans (b := some _) rfl ?_), trivial⟩
  ·rfl
  ·rw [hxl]
theorem EZ {l : List AL.Stmt} {N : Nat} {Q : Exit → AS → Prop} {all : Array Oper} {rest : List Oper} {tsl : List (Nat × AV)} {hsl : List (Nat × Option (List AV))} {nidl : Nat} {z0 : Lo} {md : Md} {d : Nat} {ty : TypeId} {pos : String} {af : Array Edge} {tys : Array TypeId} {x0 : Operand} (ha0 : ev (lk tsl) x0 = some (sl aY l)) (hmc : MC Tryz.prog 72 [sl aY l] [] 0 (fun _ : Unit => True) (fun _ => .own 0 0 l.length 6) (fun _ => [(0, some (aI aY l))])) (hM : Nat.ble (nidl + 1) fD = true) (hN : Nat.blt d N = true) {md' : Md} [hmd : MdA md (gS [x0] ++ []) (List.map Sum.inr (List.map Prod.fst ([(nidl, some (aI aY l))] : List (Nat × Option (List AV)))) ++ [.inl d]) md'] (kk : RW Tryz.prog N all Q md' rest ⟨(d, .own nidl 0 l.length 6) :: tsl, iK hsl [(nidl, some (aI aY l))], nidl + 1, z0⟩) : RW Tryz.prog N all Q md (⟨some d, .call ⟨.value (.func 72), #[x0], tys⟩, ty, pos, af, none⟩ :: rest) ⟨tsl, hsl, nidl, z0⟩ := by
 refine cJ [] 1 [(nidl, some (aI aY l))] hmc (avs := [sl aY l]) ?_ rfl ?_ rfl ?_ (by simpa using hM) ?_ ?_ ?_ hN (md' := md') (hmd := hmd) kk
 ·show evL (lk tsl) [x0] = _
  simp only [evL, ha0]
 ·exact trivial
 ·(repeat' (exact RnL.purI inferInstance))
 ·(repeat' (exact RnV.own rfl))
 ·simp [dQ]
 ·(repeat' (first|exact trivial|(refine And.intro ⟨0, _, rfl, rfl, ?_⟩ ?_)|exact RnL.purI inferInstance))
theorem pI {q : Prg} {N : Nat} {Q : Exit → AS → Prop} {all : Array Oper} {rest : List Oper} {tsl : List (Nat × AV)} {hsl : List (Nat × Option (List AV))} {nidl : Nat} {z0 : Lo} {md : Md} {d : Nat} {ty : TypeId} {pos : String} {af : Array Edge} {tys : Array TypeId} {x0 : Operand} (ha0 : ev (lk tsl) x0 = some (dS q)) (hmc : MC Tryz.prog 59 [dS q] [] 0 (fun _ : Unit => True) (fun _ => .agg [.own 3 0 q.types.length 1, .own 4 0 q.body.length 6]) (fun _ => [(3, some (aI cI q.types)), (4, some (aI aY q.body))])) (hM : Nat.ble (nidl + 5) fD = true) (hN : Nat.blt d N = true) {md' : Md} [hmd : MdA md (gS [x0] ++ []) (List.map Sum.inr (List.map Prod.fst ([((nidl + 3), some (aI cI q.types)), ((nidl + 4), some (aI aY q.body))] : List (Nat × Option (List AV)))) ++ [.inl d]) md'] (kk : RW Tryz.prog N all Q md' rest ⟨(d, .agg [.own (nidl + 3) 0 q.types.length 1, .own (nidl + 4) 0 q.body.length 6]) :: tsl, iK hsl [((nidl + 3), some (aI cI q.types)), ((nidl + 4), some (aI aY q.body))], nidl + 5, z0⟩) : RW Tryz.prog N all Q md (⟨some d, .call ⟨.value (.func 59), #[x0], tys⟩, ty, pos, af, none⟩ :: rest) ⟨tsl, hsl, nidl, z0⟩ := by
 refine cJ [] 5 [((nidl + 3), some (aI cI q.types)), ((nidl + 4), some (aI aY q.body))] hmc (avs := [dS q]) ?_ rfl ?_ rfl ?_ (by simpa using hM) ?_ ?_ ?_ hN (md' := md') (hmd := hmd) kk
 ·show evL (lk tsl) [x0] = _
  simp only [evL, ha0]
 ·exact trivial
 ·(repeat' (exact RnL.purI inferInstance))
 ·(repeat' (first|exact RnL.purI inferInstance|exact RnV.own rfl|refine RnL.cons ?_ ?_|refine RnV.agg ?_))
 ·simp [dQ]
 ·(repeat' (first|exact trivial|(refine And.intro ⟨3, _, rfl, rfl, ?_⟩ ?_)|(refine And.intro ⟨4, _, rfl, rfl, ?_⟩ ?_)|exact RnL.purI inferInstance))
theorem sI (q : Prg) (hs : bT q.body ≤ 1000000) (ht : q.types.length ≤ 1000000) : MC Tryz.prog 59 [dS q] [] 0 (fun _ : Unit => True) (fun _ => .agg [.own 3 0 q.types.length 1, .own 4 0 q.body.length 6]) (fun _ => [(3, some (aI cI q.types)), (4, some (aI aY q.body))]) := by
 (refine b0 Tryz.func59 rfl (by simp [Tryz.ntmps59]) ?_; rw [Tryz.ntmps59])
 repeat' (first|(apply aM;first|(apply EZ;rfl;(apply Ip;assumption);rfl;rfl)|(apply aK;rfl;rfl;rfl;rfl)|(apply aD;rfl;rfl;rfl)|(apply cF;rfl;rfl;rfl;rfl;rfl;(case hl => (simp [aU]; done));(exact sC (by (rfl)));omega;omega;(exact kH (by (omega)));rfl;rfl)|(apply aF;kernel_rfl)|(apply b9;rfl;(exact (rfl:_=some [_, _]));(exact (rfl:_=[_, _]));rfl)|(apply bW;rfl;rfl;rfl;rfl)|(apply bH;rfl;rfl)|(apply cA;rfl;rfl;rfl;(rfl);rfl;rfl)|(apply aW;rfl;rfl;rfl;rfl;rfl;(case hl => (simp;done));(exact (rfl:_=[_, _]))))|(apply aN;first|apply aH|apply aB|(apply bZ;kernel_rfl)|apply aQ)|with_reducible apply aA)
 refine aP rfl ?_
 refine bV () trivial ?_ ⟨.inr (Eq.trans (b := some _) rfl ?_), .inr (Eq.trans (b := some _) rfl ?_), trivial⟩
 ·show AV.agg [AV.own 3 0 (0 + q.types.length) 1, AV.own 4 0 q.body.length 6] = _
  rw [Nat.zero_add]
 ·rfl
 ·rfl
theorem FN (s : AL.Stmt) (a : Int) : dK (L8 s a) = dK s := by simp [gH, L8, AL.Stmt.th, AL.Stmt.el]
theorem Ho (s : AL.Stmt) (a : Int) : dK (uX s a) = dK s := by simp [gH, uX, AL.Stmt.th, AL.Stmt.el]
theorem HB (s : AL.Stmt) (a : Int) : dK (uY s a) = dK s := by simp [gH, uY, AL.Stmt.th, AL.Stmt.el]
theorem I3 (s : AL.Stmt) (a : Int) : dK (uN s a) = dK s := by simp [gH, uN, AL.Stmt.th, AL.Stmt.el]
theorem lX : ∀ (xs : List AL.Stmt) (k : Nat) (y : AL.Stmt), k < xs.length → dK y = dK xs[k]! → bT (xs.set k y) = bT xs
 | [], k, y, h, _ => by simp at h
 | x :: xs, 0, y, _, h => by simp only [List.set_cons_zero, bT]; simp only [List.getElem!_cons_zero] at h;omega
 | x :: xs, k + 1, y, h, h2 => by
  simp only [List.set_cons_succ, bT]
  rw [lX xs k y (by simpa using h) (by rw [h2]; simp only [List.getElem!_cons_succ])]
theorem Ba (s : AL.Stmt) : ∀ k, bT (List.replicate k s) = k * dK s
 | 0 => by simp [bT]
 | k + 1 => by simp only [List.replicate_succ, bT, Ba s k, Nat.succ_mul]; omega
theorem z7 : ∀ (xs : List AL.Stmt) (k : Nat), bT (xs.take k ++ xs.drop (k + 1)) ≤ bT xs
 | [], k => by simp [bT]
 | x :: xs, 0 => by simp [bT]
 | x :: xs, k + 1 => by have := z7 xs k;simp only [List.take_succ_cons, List.drop_succ_cons, List.cons_append, bT]; omega
theorem qQ {T : Nat → Option AV} {x : Operand} {dd : Nat} {k : IntKind} {m : Int} (hx : ev T x = some (.v (.int k m))) (h : 0 ≤ m) : g6 T (some x) dd = some m.toNat := by
 simp only [g6, hx]; rw [if_pos h]
section
variable {P : Program} {N : Nat} {Q : Exit → AS → Prop} {all : Array Oper} {rest : List Oper} {ts : List (Nat × AV)} {hs : List (Nat × Option (List AV))} {n : Nat} {z0 : Lo} {md : Md}
variable {d : Nat} {ty : TypeId} {pos : String} {af : Array Edge}
theorem Bg {t el : TypeId} {x : Operand} {hi : Option Operand} {i o m e h : Nat} [ht : SlT P t el] [he : SzT P el e] (hx : ev (lk ts) x = some (.own i o m e))
  (hh : g6 (lk ts) hi m = some h) (hb : h ≤ m) (hN : Nat.blt d N = true) {md' : Md} [hmd : MdA md (rO x ++ (rB none ++ rB hi)) [.inl d] md'] (kk : RW P N all Q md' rest ⟨(d, .own i o h e) :: ts, hs, n, z0⟩) :
  RW P N all Q md (⟨some d, .slice t x none hi none, ty, pos, af, none⟩ :: rest) ⟨ts, hs, n, z0⟩ :=
 iH (m := m) (l := 0) (h := h) hx rfl rfl hh (by simp [J2, hb]) hN (md' := md') (hmd := hmd) kk
end
theorem HV {hs : List (Nat × Option (List AV))} {xs : List AL.Stmt} {i k n : Nat} (hH : cE hs i = some (aI aY xs)) (hn : n = xs.length - k) : sCells (cE hs) 6 (pU (.own i (0 + k * 6) n 6)) = some (n, aI aY (xs.drop k)) := by
 show ((cE hs i).bind fun cs => if n * 6 ≤ (cs.drop (0 + k * 6)).length then some (n, (cs.drop (0 + k * 6)).take (n * 6)) else none) = _
 rw [hH, Option.bind_some, Nat.zero_add]
 have h1 : (aI aY xs).length = xs.length * 6 := aU aY xs
 have h3 : (aI aY xs).drop (k * 6) = aI aY (xs.drop k) := by
  have h4 : aI aY xs = aI aY (xs.take k) ++ aI aY (xs.drop k) := by rw [eE, List.take_append_drop]
  have h5 : (aI aY (xs.take k)).length = (xs.take k).length * 6 := aU aY _
  by_cases hk : k ≤ xs.length
  ·rw [h4, ← show (aI aY (xs.take k)).length = k * 6 from by rw [h5, List.length_take]; congr 1;omega, List.drop_left]
  ·rw [List.drop_of_length_le (by omega), List.drop_of_length_le (by omega)]; rfl
 rw [h3]
 have h2 : (aI aY (xs.drop k)).length = (xs.length - k) * 6 := by rw [aU aY (e := 6), List.length_drop]
 rw [if_pos (by omega), List.take_of_length_le (by omega)]
theorem HC {xs ys : List AL.Stmt} {k : Nat} (hk : k ≤ xs.length) : ((aI aY xs).drop 0).take (k * 6) ++ aI aY ys = aI aY (xs.take k ++ ys) := by
 rw [List.drop_zero, fB aY (e := 6), eE]
theorem Ae (bs : List UInt8) (p : Nat) (q : Prg) (hb : bs.length ≤ 2000) (hp : p ≤ 900000) (hs : bT q.body ≤ 10000) (ht : q.types.length ≤ 10000) : MC Tryz.prog 73 [.optr 0 0, dS q] [(0, some (eZ bs p))] 1 (fun x : Prg × Nat => bT x.1.body ≤ 32 * bT q.body ∧ x.1.types.length ≤ q.types.length + 1 ∧ x.2 ≤ p + 3) (fun x => dS x.1) (fun x => [(0, some (eZ bs x.2))]) := by
 have hlen := dL q.body
 have h0 := e9 bs p (q.body.length : Int)
 (refine b0 Tryz.func73 rfl (by simp [Tryz.ntmps73]) ?_; rw [Tryz.ntmps73])
 repeat' (first|(apply aM;first|(apply aE;rfl;rfl)|(first|(apply aK;rfl;rfl;rfl;rfl)|(apply aX;rfl;rfl;(exact (rfl:_=[_, _]));rfl;rfl;rfl))|(apply aD;rfl;rfl;rfl)|(apply aR;rfl;rfl;rfl;rfl)|(apply aC;rfl;rfl)|(apply cM;rfl;rfl;(omega);rfl)|(first|(apply iS;rfl;rfl;(rfl);(apply lF <;> (first|assumption|omega));rfl;rfl)|(apply oJ;rfl;rfl;rfl;rfl;infer_instance;rfl;(rfl);assumption;omega;(decide);(decide);rfl;rfl)|(apply pI;rfl;(apply sI <;> (omega));rfl;rfl))|(first|(apply a9;rfl;rfl;rfl)|(apply cF;rfl;rfl;rfl;rfl;rfl;(rw [aU]; omega);(rfl);omega;omega;(exact jD (by (omega)));rfl;rfl))|(apply aF;kernel_rfl)|(apply bW;rfl;rfl;rfl;rfl)|(apply bH;rfl;rfl)|(apply cA;rfl;rfl;rfl;(first|exact (rfl:_=some [_])|exact (rfl:_=some [_, _, _])|exact (rfl:_=some [_, _, _, _])|exact (rfl:_=some [_, _, _, _, _]));rfl;rfl)|(apply aW;rfl;rfl;rfl;rfl;rfl;(case hl => (first|(rw [aU]; simp only [hZ] <;> omega)|(simp;done)));(first|exact JK (by (omega))|exact LX (by (omega))|exact Ll (by (omega))|exact L7 (by (omega))|exact (rfl:_=[_, _]))))|(apply aN;first|apply aH|apply aB|(apply bZ;kernel_rfl)|(apply aO;rfl;all_goals intro hc;have hq:=hc;(try simp only [cK] at hq);try exfalso;omega)|apply aL|apply aS|apply aQ)|with_reducible apply aA|with_reducible apply bJ|with_reducible apply aV)
 ·refine cC (Le.frzC (j := 2) (i := 6) [] rfl rfl (by decide)) ?_
  refine cC (Le.frzC (j := 2) (i := 7) [.imm _ _] rfl rfl (by decide)) ?_
  refine aP rfl ?_
  refine bV ((⟨q.types, q.body⟩ : Prg), p) ?_ ?_ ⟨.inr (Eq.trans (b := some _) rfl ?_), trivial⟩
  ·exact ⟨by dsimp only;omega, by dsimp only;omega, by dsimp only;omega⟩
  ·rfl
  ·rfl
 ·refine cC (Le.frzC (j := 2) (i := 6) [] rfl rfl (by decide)) ?_
  refine cC (Le.frzC (j := 2) (i := 7) [.imm _ _] rfl rfl (by decide)) ?_
  refine aP rfl ?_
  refine bV ((⟨q.types, q.body.set (cT bs p (q.body.length : Int)).toNat (L8 q.body[(cT bs p (q.body.length : Int)).toNat]! (gX bs (p + 1 + 1) [0, 11, 1, 3, 8]))⟩ : Prg), p + 1 + 1 + 1) ?_ ?_ ⟨.inr (Eq.trans (b := some _) rfl ?_), trivial⟩
  ·refine ⟨?_, by dsimp only;omega, by dsimp only;omega⟩; dsimp only;rw [lX q.body (cT bs p (q.body.length : Int)).toNat _ (by omega) (by rw [FN])]; omega
  ·show _ = AV.agg [_, AV.imm (List.length (q.body.set _ _)) _]; rw [List.length_set]; rfl
  ·rfl
 ·refine cC (Le.frzC (j := 2) (i := 6) [] rfl rfl (by decide)) ?_
  refine cC (Le.frzC (j := 2) (i := 7) [.imm _ _] rfl rfl (by decide)) ?_
  refine aP rfl ?_
  refine bV ((⟨q.types, q.body.set (cT bs p (q.body.length : Int)).toNat (uX q.body[(cT bs p (q.body.length : Int)).toNat]! (gX bs (p + 1 + 1) [6, -1, 0, 1]))⟩ : Prg), p + 1 + 1 + 1) ?_ ?_ ⟨.inr (Eq.trans (b := some _) rfl ?_), trivial⟩
  ·refine ⟨?_, by dsimp only;omega, by dsimp only;omega⟩; dsimp only;rw [lX q.body (cT bs p (q.body.length : Int)).toNat _ (by omega) (by rw [Ho])]; omega
  ·show _ = AV.agg [_, AV.imm (List.length (q.body.set _ _)) _]; rw [List.length_set]; rfl
  ·rfl
 ·refine cC (Le.frzC (j := 2) (i := 6) [] rfl rfl (by decide)) ?_
  refine cC (Le.frzC (j := 2) (i := 7) [.imm _ _] rfl rfl (by decide)) ?_
  refine aP rfl ?_
  refine bV ((⟨q.types, q.body.set (cT bs p (q.body.length : Int)).toNat (uY q.body[(cT bs p (q.body.length : Int)).toNat]! (gX bs (p + 1 + 1) [6, -1, 0, 1]))⟩ : Prg), p + 1 + 1 + 1) ?_ ?_ ⟨.inr (Eq.trans (b := some _) rfl ?_), trivial⟩
  ·refine ⟨?_, by dsimp only;omega, by dsimp only;omega⟩; dsimp only;rw [lX q.body (cT bs p (q.body.length : Int)).toNat _ (by omega) (by rw [HB])]; omega
  ·show _ = AV.agg [_, AV.imm (List.length (q.body.set _ _)) _]; rw [List.length_set]; rfl
  ·rfl
 ·refine cC (Le.frzC (j := 2) (i := 6) [] rfl rfl (by decide)) ?_
  refine cC (Le.frzC (j := 2) (i := 7) [.imm _ _] rfl rfl (by decide)) ?_
  refine aP rfl ?_
  refine bV ((⟨q.types, q.body.set (cT bs p (q.body.length : Int)).toNat (uN q.body[(cT bs p (q.body.length : Int)).toNat]! (gX bs (p + 1 + 1) [10, -1, 5]))⟩ : Prg), p + 1 + 1 + 1) ?_ ?_ ⟨.inr (Eq.trans (b := some _) rfl ?_), trivial⟩
  ·refine ⟨?_, by dsimp only;omega, by dsimp only;omega⟩; dsimp only;rw [lX q.body (cT bs p (q.body.length : Int)).toNat _ (by omega) (by rw [I3])]; omega
  ·show _ = AV.agg [_, AV.imm (List.length (q.body.set _ _)) _]; rw [List.length_set]; rfl
  ·rfl
 ·refine cC (Le.frzC (j := 2) (i := 11) [] rfl rfl (by decide)) ?_
  refine cC (Le.frzC (j := 2) (i := 7) [.imm _ _] rfl rfl (by decide)) ?_
  refine aP rfl ?_
  refine bV ((⟨q.types ++ [gX bs (p + 1 + 1) [1, 5, 0, 4]], q.body⟩ : Prg), p + 1 + 1 + 1) ?_ ?_ ⟨.inr (Eq.trans (b := some _) rfl ?_), trivial⟩
  ·exact ⟨by dsimp only;omega, by simp, by dsimp only;omega⟩
  ·show _ = AV.agg [AV.imm (List.length (q.types ++ [_])) _, _]; rw [List.length_append]; rfl
  ·rfl
 ·refine a7 (σ := Nat × List AL.Stmt × Nat) [4, 5] [(4, _), (5, _)] [6, 2, 0] [(6, some _), (2, some _), (0, some _)] (fun k => [(7, iv (k.1 : Int))]) (fun k => [(7, some (aI aY k.2.1)), (8, some [.own 6 0 q.types.length 1, .own 7 0 k.2.2 6])]) (fun k => k.1 ≤ 31 ∧ k.2.1 = q.body ++ List.replicate k.1 q.body[0]! ∧ k.2.2 = k.2.1.length) (fun k => 31 - k.1) (0, q.body, q.body.length) ⟨by omega, by simp, rfl⟩ rfl rfl (by repeat' (first | exact trivial | refine And.intro rfl ?_)) (by repeat' (first | exact trivial | refine And.intro (.inr rfl) ?_)) ?_
  rintro ⟨k, xs, m⟩ ⟨hk, hxs, hm⟩
  dsimp only at hk hxs hm ⊢
  have hln : 0 < xs.length := by rw [hxs, List.length_append]; omega
  have hl2 : xs.length = q.body.length + k := by rw [hxs, List.length_append, List.length_replicate]
  repeat' (first|(apply aM;first|(apply aE;rfl;rfl)|(first|(apply gQ;(case hx|hH => rfl);(case hf|hg|hα => infer_instance);(case hk => omega);(case h0|hN => rfl))|(apply aK;rfl;rfl;rfl;rfl)|(apply aX;rfl;rfl;(exact (rfl:_=[_, _]));rfl;rfl;rfl))|(apply aD;rfl;rfl;rfl)|(first|(apply bR;rfl;rfl;omega;rfl)|(apply aR;rfl;rfl;rfl;rfl))|(apply aC;rfl;rfl)|(apply cM;rfl;rfl;(omega);rfl)|(apply cF;rfl;rfl;rfl;rfl;rfl;(rw [aU]; omega);(rfl);omega;omega;(exact gV (by (assumption)));rfl;rfl)|(apply aF;kernel_rfl)|(apply cA;rfl;rfl;rfl;(exact (rfl:_=some [_, _, _, _, _, _]));rfl;rfl)|(apply aW;rfl;rfl;rfl;rfl;rfl;(case hl => (simp;done));(exact (rfl:_=[_, _]))))|(apply aN;first|apply aH|apply aB|(apply bZ;kernel_rfl)|(apply aO;rfl;all_goals intro hc;have hq:=hc;(try simp only [cK] at hq);try exfalso;omega)|apply aL|apply aS|apply bF|apply aQ)|with_reducible apply aA|with_reducible apply bE|with_reducible apply aV|with_reducible apply bG)
  ·(apply dV (k + 1, _, _); focus (refine Le.ren [(7, 10), (8, 8), (6, 6), (2, 2)] rfl (by decide) ?_ ?_ <;> repeat' (first | exact trivial | refine And.intro ⟨_, rfl, ?_⟩ ?_ | refine And.intro ⟨_, _, rfl, rfl, ?_⟩ ?_ | exact Or.inr rfl | refine Or.inl ⟨?_, (by first | rfl | exact aZ _ _ | exact Pur.pf)⟩ | refine Or.inr (All2.cons ?_ ?_) | refine All2.cons ?_ ?_ | exact All2.nil | rfl)))
   ·dsimp only
    refine ⟨by omega, ?_, by simp [hm]⟩
    have e0 : xs[Int.toNat 0]! = q.body[0]! := by
     show xs[0]! = _
     rw [hxs, getElem!_pos _ _ (by rw [List.length_append]; omega), List.getElem_append_left (by omega), getElem!_pos _ _ (by omega)]
    rw [e0, hxs, List.replicate_succ', List.append_assoc]
   ·dsimp only;omega
  ·have hc0 : dK q.body[0]! ≤ bT q.body := fY q.body 0 (by omega)
   have hc1 : bT xs = bT q.body + k * dK q.body[0]! := by rw [hxs, gR, Ba]
   have hc2 : k * dK q.body[0]! ≤ 31 * bT q.body := Nat.mul_le_mul hk hc0
   subst hm
   refine cC (Le.frzC (j := 2) (i := 6) [] rfl rfl (by decide)) ?_
   refine cC (Le.frzC (j := 2) (i := 7) [.imm _ _] rfl rfl (by decide)) ?_
   refine aP rfl ?_
   refine bV ((⟨q.types, xs⟩ : Prg), p + 1 + 1) ?_ ?_ ⟨.inr (Eq.trans (b := some _) rfl ?_), trivial⟩
   ·exact ⟨by dsimp only;omega, by dsimp only;omega, by dsimp only;omega⟩
   ·rfl
   ·rfl
 ·have hK : (cT bs p (q.body.length : Int) + 1).toNat = (cT bs p (q.body.length : Int)).toNat + 1 := by omega
  repeat' (first|(apply aM;first|(apply Bg;rfl;exact qQ rfl (by omega);omega;rfl)|(apply B4;rfl;exact qQ rfl (by omega);omega;rfl)|(apply cF;rfl;rfl;rfl;rfl;rfl;(rw [aU]; omega);exact HV rfl (by omega);omega;omega;exact HC (by omega);rfl;rfl)|(apply aE;rfl;rfl)|(first|(apply aK;rfl;rfl;rfl;rfl)|(apply aX;rfl;rfl;(exact (rfl:_=[_, _]));rfl;rfl;rfl))|(apply aD;rfl;rfl;rfl)|(apply bR;rfl;rfl;omega;rfl)|(apply aF;kernel_rfl)|(apply aW;rfl;rfl;rfl;rfl;rfl;(case hl => (simp;done));(exact (rfl:_=[_, _]))))|(apply aN;first|apply aH|apply aB|apply aQ)|with_reducible apply aA|with_reducible apply aV)
  refine cC (Le.frzC (j := 2) (i := 6) [] rfl rfl (by decide)) ?_
  refine cC (Le.frzC (j := 2) (i := 9) [.imm _ _] rfl rfl (by decide)) ?_
  refine aP rfl ?_
  refine bV ((⟨q.types, q.body.take (cT bs p (q.body.length : Int)).toNat ++ q.body.drop (cT bs p (q.body.length : Int) + 1).toNat⟩ : Prg), p + 1 + 1) ?_ ?_ ⟨.inr (Eq.trans (b := some _) rfl ?_), trivial⟩
  ·refine ⟨?_, by dsimp only; omega, by dsimp only; omega⟩
   dsimp only
   rw [hK]
   have := z7 q.body (cT bs p (q.body.length : Int)).toNat
   omega
  ·show AV.agg [_, AV.imm _ _] = AV.agg [_, AV.imm (List.length (_ ++ _)) _]
   rw [List.length_append, List.length_take, List.length_drop, Nat.min_eq_left (by omega)]
  ·rfl
 ·refine cC (Le.frzC (j := 2) (i := 6) [] rfl rfl (by decide)) ?_
  refine cC (Le.frzC (j := 2) (i := 7) [.imm _ _] rfl rfl (by decide)) ?_
  refine aP rfl ?_
  refine bV (q, p + 1 + 1) ⟨by dsimp only;omega, by dsimp only;omega, by dsimp only;omega⟩ rfl ⟨.inr (Eq.trans (b := some _) rfl ?_), trivial⟩
  ·rfl
def Cn (s : ByteArray) (i : Int) (w : ByteArray) : Bool := decide (0 ≤ i) && (decide (i + w.size ≤ s.size) && ((s.extract i.toNat (i + w.size).toNat).toList == w.toList))
def Ij (lo hi : Int) (s : ByteArray) (i : Int) : Int := if i < 0 then -1 else if (s.size : Int) ≤ i then -1 else if ((s[i.toNat]!).toNat : Int) < lo then -1 else if hi < ((s[i.toNat]!).toNat : Int) then -1 else ((s[i.toNat]!).toNat : Int) - lo
theorem tK (s : ByteArray) (i : Int) (w : ByteArray) (hs : s.size ≤ 1000000) (hw : w.size ≤ 1000000) (hi : i ≤ 1000000) : PC Tryz.prog 161 [sv s, iv i, sv w] (fun r => r = bv (Cn s i w)) := by
 (refine aT Tryz.func161 rfl (by simp [Tryz.ntmps161]) ?_; rw [Tryz.ntmps161])
 repeat' (first|(apply aM;first|(apply lB;rfl;rfl;(rfl);rfl)|(apply Eg;rfl;exact qQ rfl (by omega);exact qQ rfl (by omega);omega;rfl)|(apply aE;rfl;rfl)|(first|(apply bB;rfl;rfl;rfl;(assumption))|(apply bC;rfl;rfl;rfl;(first|rfl|assumption))|(apply bK;(case hj|hb|hN => rfl);all_goals (intro hg;have hq := hg;(try simp only [cK] at hq);(try (exfalso;omega)))))|(first|(apply bR;rfl;rfl;omega;rfl)|(apply aR;rfl;rfl;rfl;rfl))|(apply aC;rfl;rfl)|(first|(apply bS;rfl;(assumption);rfl;rfl)|(apply bI;rfl;(first|rfl|assumption);rfl;rfl))|(apply jZ;rfl;rfl)|(apply aF;kernel_rfl))|(apply aN;first|apply aH|apply aB|apply aQ)|with_reducible apply aA|((with_reducible apply aP);case hr => rfl))
 all_goals (refine ⟨?_, rfl⟩; simp only [bX, AV.v.injEq, Value.bool.injEq, Value.int.injEq, true_and])
 ·unfold Cn
  rw [decide_eq_true (by omega), decide_eq_true (by omega)]; rfl
 ·unfold Cn
  rw [decide_eq_true (p := 0 ≤ i) (by omega), decide_eq_false (by omega)]; rfl
 ·unfold Cn
  rw [decide_eq_false (by omega)]; rfl
theorem Hz (s : ByteArray) (i : Int) (hs : s.size ≤ 1000000) : PC Tryz.prog 192 [sv s, iv i] (fun r => r = iv (Ij 97 122 s i)) := by
 have hb0 : ((s[i.toNat]!).toNat : Int) ≤ 255 := by have := (s[i.toNat]!).toNat_lt;omega
 (refine aT Tryz.func192 rfl (by simp [Tryz.ntmps192]) ?_; rw [Tryz.ntmps192])
 repeat' (first|(apply aM;first|(apply pB;rfl;rfl;omega;rfl)|(apply Cg;rfl;rfl;omega;rfl)|(apply aE;rfl;rfl)|(first|(apply bB;rfl;rfl;rfl;(assumption))|(apply bC;rfl;rfl;rfl;(first|rfl|assumption))|(apply bK;(case hj|hb|hN => rfl);all_goals (intro hg;have hq := hg;(try simp only [cK] at hq);(try (exfalso;omega)))))|(apply aR;rfl;rfl;rfl;rfl)|(apply aC;rfl;rfl)|(first|(apply bS;rfl;(first|rfl|assumption);rfl;rfl)|(apply bI;rfl;(assumption);rfl;rfl))|(apply jZ;rfl;rfl)|(apply aF;kernel_rfl)|(apply o8;rfl;(omega);rfl))|(apply aN;first|apply aH|apply aB|(apply b8;rfl;(rfl))|(apply aO;rfl;all_goals intro hc;have hq:=hc;(try simp only [cK] at hq);try exfalso;omega)|apply aS|apply aQ)|with_reducible apply aA|with_reducible apply bJ|((with_reducible apply aP);case hr => rfl))
 all_goals (refine ⟨?_, rfl⟩; simp only [bX, AV.v.injEq, Value.bool.injEq, Value.int.injEq, true_and])
 all_goals (unfold Ij;repeat' split)
 all_goals (first|rfl|omega)
theorem Ey (s : ByteArray) (i : Int) (hs : s.size ≤ 1000000) : PC Tryz.prog 194 [sv s, iv i] (fun r => r = iv (Ij 48 57 s i)) := by
 have hb0 : ((s[i.toNat]!).toNat : Int) ≤ 255 := by have := (s[i.toNat]!).toNat_lt;omega
 (refine aT Tryz.func194 rfl (by simp [Tryz.ntmps194]) ?_; rw [Tryz.ntmps194])
 repeat' (first|(apply aM;first|(apply pB;rfl;rfl;omega;rfl)|(apply Cg;rfl;rfl;omega;rfl)|(apply aE;rfl;rfl)|(first|(apply bB;rfl;rfl;rfl;(assumption))|(apply bC;rfl;rfl;rfl;(first|rfl|assumption))|(apply bK;(case hj|hb|hN => rfl);all_goals (intro hg;have hq := hg;(try simp only [cK] at hq);(try (exfalso;omega)))))|(apply aR;rfl;rfl;rfl;rfl)|(apply aC;rfl;rfl)|(first|(apply bS;rfl;(first|rfl|assumption);rfl;rfl)|(apply bI;rfl;(assumption);rfl;rfl))|(apply jZ;rfl;rfl)|(apply aF;kernel_rfl)|(apply o8;rfl;(omega);rfl))|(apply aN;first|apply aH|apply aB|(apply b8;rfl;(rfl))|(apply aO;rfl;all_goals intro hc;have hq:=hc;(try simp only [cK] at hq);try exfalso;omega)|apply aS|apply aQ)|with_reducible apply aA|with_reducible apply bJ|((with_reducible apply aP);case hr => rfl))
 all_goals (refine ⟨?_, rfl⟩; simp only [bX, AV.v.injEq, Value.bool.injEq, Value.int.injEq, true_and])
 all_goals (unfold Ij;repeat' split)
 all_goals (first|rfl|omega)
def QP (s : ByteArray) (i : Int) (r : AV) : Prop := ∃ (x : AL.Stmt) (nx : Int), r = .tup [dH x, iv nx] ∧ ((nx = -1 ∧ (dK x : Int) ≤ s.size + 1) ∨ (i < nx ∧ nx ≤ s.size + 3 ∧ (dK x : Int) ≤ nx - i))
def QB (s : ByteArray) (i : Int) (r : AV) : Prop := ∃ (l : List AL.Stmt) (nx : Int), r = .tup [sl aY l, iv nx] ∧ ((nx = -1 ∧ l = []) ∨ (0 ≤ i ∧ i + 2 ≤ nx ∧ nx ≤ s.size ∧ (bT l : Int) ≤ nx - i))
def QL (s : ByteArray) (i : Int) (r : AV) : Prop := ∃ (l : List AL.Stmt) (nx : Int), r = .tup [sl aY l, iv nx] ∧ ((nx = -1 ∧ l = []) ∨ (i ≤ nx ∧ nx ≤ s.size ∧ (bT l : Int) ≤ nx - i))
theorem kF {s w : ByteArray} {i : Int} (h : Cn s i w = true) : 0 ≤ i ∧ i + w.size ≤ s.size := by
 unfold Cn at h;simp only [Bool.and_eq_true, decide_eq_true_eq] at h;exact ⟨h.1, h.2.1⟩
theorem Mr {s : ByteArray} {i op x y n nx : Int} (h : nx = -1 ∨ (i < nx ∧ nx ≤ s.size + 3)) : QP s i (.tup [.agg [iv op, iv x, iv y, iv n, .imm 0 [], .imm 0 []], iv nx]) :=
 ⟨.mk op x y n [] [], nx, rfl, by simp only [dK, bT]; omega⟩
theorem Mn {s : ByteArray} {i op x y n nx : Int} {th : List AL.Stmt} (h : (nx = -1 ∧ (bT th : Int) ≤ s.size) ∨ (i < nx ∧ nx ≤ s.size + 3 ∧ (bT th : Int) + 1 ≤ nx - i)) : QP s i (.tup [.agg [iv op, iv x, iv y, iv n, sl aY th, .imm 0 []], iv nx]) :=
 ⟨.mk op x y n th [], nx, rfl, by simp only [dK, bT]; omega⟩
theorem Mp {s : ByteArray} {i op x y n nx : Int} {th el : List AL.Stmt} (h : (nx = -1 ∧ (bT th : Int) + bT el ≤ s.size) ∨ (i < nx ∧ nx ≤ s.size + 3 ∧ (bT th : Int) + bT el + 1 ≤ nx - i)) : QP s i (.tup [.agg [iv op, iv x, iv y, iv n, sl aY th, sl aY el], iv nx]) :=
 ⟨.mk op x y n th el, nx, rfl, by simp only [dK]; omega⟩
theorem QP.pur {s : ByteArray} {i : Int} {r : AV} (h : QP s i r) : r.pur = true := by obtain ⟨x, nx, rfl, _⟩ := h; exact Pur.pf
theorem QB.pur {s : ByteArray} {i : Int} {r : AV} (h : QB s i r) : r.pur = true := by obtain ⟨x, nx, rfl, _⟩ := h; exact Pur.pf
theorem QL.pur {s : ByteArray} {i : Int} {r : AV} (h : QL s i r) : r.pur = true := by obtain ⟨x, nx, rfl, _⟩ := h; exact Pur.pf
theorem sB {P : Program} {s : AS} {res : Array ResultVar} {q : AV → Prop} {l : List AV} (hQ : ∀ r, q r → r.pur = true) (hr : sH P (lk s.ts) (cE s.hs) res.toList = some l) (h : q (bX l)) : x8 P res (fun r _ => q r ∧ r.pur = true) .ret s := aP hr ⟨h, hQ _ h⟩
theorem AT (s : ByteArray) (i dp : Int) (hs : s.size ≤ 100000) (hi0 : 0 ≤ i) (hi : i ≤ s.size) (hd0 : 0 ≤ dp) (hd : dp ≤ 10) (braces_ih : ∀ j dj : Int, dj = dp - 1 → -1 ≤ j → j ≤ s.size + 10 → PC Tryz.prog 193 [sv s, iv j, iv dj] (QB s j)) : PC Tryz.prog 162 [sv s, iv i, iv dp] (QP s i) := by
 have h1 : Cn s i ⟨#[100, 114, 111, 112, 32]⟩ = true → i + 5 ≤ s.size := fun h => (kF h).2
 have h2 : Cn s i ⟨#[108, 111, 111, 112, 123]⟩ = true → i + 5 ≤ s.size := fun h => (kF h).2
 have h3 : Cn s i ⟨#[105, 102, 123]⟩ = true → i + 3 ≤ s.size := fun h => (kF h).2
 have h4 : Cn s i ⟨#[42]⟩ = true → i + 1 ≤ s.size := fun h => (kF h).2
 have h5 : Cn s (i + 1) ⟨#[61]⟩ = true → i + 1 + 1 ≤ s.size := fun h => (kF h).2
 have h6 : Cn s (i + 2) ⟨#[98, 111, 120, 32]⟩ = true → i + 2 + 4 ≤ s.size := fun h => (kF h).2
 have h7 : Cn s (i + 2) ⟨#[38, 109, 117, 116, 32]⟩ = true → i + 2 + 5 ≤ s.size := fun h => (kF h).2
 (refine aT Tryz.func162 rfl (by simp [Tryz.ntmps162]) ?_; rw [Tryz.ntmps162])
 repeat' (first|(apply aM;first|(apply aE;rfl;rfl)|(first|(apply bB;rfl;rfl;rfl;(assumption))|(apply bC;rfl;rfl;rfl;(assumption))|(apply bK;(case hj|hb|hN => rfl);all_goals (intro hg;have hq := hg;(try simp only [cK] at hq);(try (exfalso;omega)))))|(first|(apply bR;rfl;rfl;omega;rfl)|(apply fO;rfl;rfl;omega;rfl)|(apply aR;rfl;rfl;rfl;rfl))|(apply aC;rfl;rfl)|(first|(apply bS;rfl;(assumption);rfl;rfl)|(apply bI;rfl;(assumption);rfl;rfl))|(first|((with_reducible apply aJ (k := 161));(case ha => rfl);(case h => (apply tK <;> (first|omega|decide)));(case hp => (rfl));(case hN => rfl))|((with_reducible apply aJ (k := 192));(case ha => rfl);(case h => (apply Hz <;> (omega)));(case hp => (rfl));(case hN => rfl))|((with_reducible apply gI (k := 193));(case ha => rfl);(case h => (apply braces_ih <;> (omega)));(case hp => (rfl));(case hN => rfl);(rintro _ ⟨l, nx, rfl, hql⟩ _))|((with_reducible apply aJ (k := 194));(case ha => rfl);(case h => (apply Ey <;> (omega)));(case hp => (rfl));(case hN => rfl)))|(apply aF;kernel_rfl)|(apply b9;rfl;(exact (rfl:_=some [_, _, _, _, _, _]));(exact (rfl:_=[_, _, _, _, _, _]));rfl)|(apply cQ;rfl;rfl)|(apply bH;rfl;rfl)|(apply cD;rfl;rfl;rfl)|(apply aW;rfl;rfl;rfl;rfl;rfl;(case hl => (first|decide|(simp;done)));(exact (rfl:_=[_, _, _, _, _, _]))))|(apply aN;first|apply aH|apply aB|(apply b8;rfl;(rfl))|(apply aO;rfl;all_goals intro hc;have hq:=hc;(try simp only [cK] at hq);try exfalso;omega)|apply aL|apply aS|apply aQ)|with_reducible apply aA|with_reducible apply bJ|with_reducible apply aV|with_reducible apply cY)
 all_goals refine sB (fun _ => QP.pur) (l := [.agg [_, _, _, _, _, _], _]) rfl ?_
 all_goals (try have b1 := h1 (by assumption))
 all_goals (try have b2 := h2 (by assumption))
 all_goals (try have b3 := h3 (by assumption))
 all_goals (try have b4 := h4 (by assumption))
 all_goals (try have b5 := h5 (by assumption))
 all_goals (try have b6 := h6 (by assumption))
 all_goals (try have b7 := h7 (by assumption))
 all_goals clear h1 h2 h3 h4 h5 h6 h7
 all_goals first
  | (refine Mr ?_; omega)
  | skip
 ·refine Mn (th := l) ?_
  rcases hql with ⟨h8, h9⟩|hql
  ·rw [h9]; simp only [bT]; omega
  ·omega
 ·rename_i l1 nx1 hql1 hpu1 hpu2
  refine Mp (th := l1) (el := l) ?_
  rcases hql1 with ⟨h8, h9⟩|hql1 <;> rcases hql with ⟨h10, h11⟩|hql
  ·rw [h9, h11]; simp only [bT]; omega
  ·omega
  ·rw [h11]; simp only [bT]; omega
  ·omega
theorem vY (s : ByteArray) (i dp : Int) (hs : s.size ≤ 100000) (hi0 : -1 ≤ i) (hi : i ≤ s.size + 10) (hd0 : -1 ≤ dp) (hd : dp ≤ 10) (list_ih : ∀ j dj : Int, 0 ≤ dp → dj = dp → 0 ≤ j → j ≤ s.size → PC Tryz.prog 121 [sv s, iv j, iv dj] (QL s j)) : PC Tryz.prog 193 [sv s, iv i, iv dp] (QB s i) := by
 have h1 : Cn s i ⟨#[123]⟩ = true → 0 ≤ i ∧ i + 1 ≤ s.size := fun h => kF h
 (refine aT Tryz.func193 rfl (by simp [Tryz.ntmps193]) ?_; rw [Tryz.ntmps193])
 repeat' (first|(apply aM;first|(apply aE;rfl;rfl)|(first|(apply bB;rfl;rfl;rfl;(assumption))|(apply bC;rfl;rfl;rfl;(assumption))|(apply bK;(case hj|hb|hN => rfl);all_goals (intro hg;have hq := hg;(try simp only [cK] at hq);(try (exfalso;omega)))))|(first|(apply bR;rfl;rfl;omega;rfl)|(apply aR;rfl;rfl;rfl;rfl))|(apply aC;rfl;rfl)|(first|(apply bS;rfl;(assumption);rfl;rfl)|(apply bI;rfl;(assumption);rfl;rfl))|((with_reducible apply aJ (k := 161));(case ha => rfl);(case h => (apply tK <;> (first|omega|decide)));(case hp => (rfl));(case hN => rfl))|(apply aF;kernel_rfl)|(apply cQ;rfl;rfl))|(apply aN;first|apply aH|apply aB|(apply b8;rfl;(rfl))|(apply aO;rfl;all_goals intro hc;have hq:=hc;(try simp only [cK] at hq);try exfalso;omega)|apply aS|apply aQ)|with_reducible apply aA|with_reducible apply bJ)
 ·refine cC (Le.nilImm (d := 6) rfl) ?_
  exact sB (fun _ => QB.pur) (l := [.imm 0 [], iv (-1)]) rfl ⟨[], -1, rfl, .inl ⟨rfl, rfl⟩⟩
 ·have b1 := h1 (by assumption)
  repeat' (first|(apply aM;first|(apply aE;rfl;rfl)|(apply bR;rfl;rfl;omega;rfl)|(apply aC;rfl;rfl)|(first|((with_reducible apply gI (k := 121));(case ha => rfl);(case h => (apply list_ih <;> (first|assumption|omega)));(case hp => (rfl));(case hN => rfl);(rintro _ ⟨l, nx, rfl, hql⟩ _))|((with_reducible apply aJ (k := 161));(case ha => rfl);(case h => (apply tK <;> (first|omega|decide)));(case hp => (rfl));(case hN => rfl)))|(apply aF;kernel_rfl)|(apply cQ;rfl;rfl)|(apply cD;rfl;rfl;rfl))|(apply aN;first|apply aH|apply aB|(apply aO;rfl;all_goals intro hc;have hq:=hc;(try simp only [cK] at hq);try exfalso;omega)|apply aS|apply aQ)|with_reducible apply aA|with_reducible apply bJ)
  ·refine cC (Le.nilImm (d := 6) rfl) ?_
   exact sB (fun _ => QB.pur) (l := [.imm 0 [], iv (-1)]) rfl ⟨[], -1, rfl, .inl ⟨rfl, rfl⟩⟩
  ·have b2 : 0 ≤ nx ∧ nx + 1 ≤ s.size := kF (w := ⟨#[125]⟩) (by assumption)
   exact sB (fun _ => QB.pur) (l := [sl aY l, iv (nx + 1)]) rfl ⟨l, nx + 1, rfl, by omega⟩
 ·refine cC (Le.nilImm (d := 6) rfl) ?_
  exact sB (fun _ => QB.pur) (l := [.imm 0 [], iv (-1)]) rfl ⟨[], -1, rfl, .inl ⟨rfl, rfl⟩⟩
theorem CN (s : ByteArray) (i dp : Int) (hs : s.size ≤ 100000) (hi0 : 0 ≤ i) (hi : i ≤ s.size) (hd0 : 0 ≤ dp) (hd : dp ≤ 10) (parse_ih : ∀ j dj : Int, dj = dp → 0 ≤ j → j ≤ s.size → PC Tryz.prog 162 [sv s, iv j, iv dj] (QP s j)) : PC Tryz.prog 121 [sv s, iv i, iv dp] (QL s i) := by
 (refine aT Tryz.func121 rfl (by simp [Tryz.ntmps121]) ?_; rw [Tryz.ntmps121])
 repeat' (first|(apply aM;first|(apply aE;rfl;rfl)|(first|(apply bB;rfl;rfl;rfl;(assumption))|(apply bC;rfl;rfl;rfl;(assumption))|(apply bK;(case hj|hb|hN => rfl);all_goals (intro hg;have hq := hg;(try simp only [cK] at hq);(try (exfalso;omega)))))|(apply aR;rfl;rfl;rfl;rfl)|(apply aC;rfl;rfl)|(first|(apply bS;rfl;(assumption);rfl;rfl)|(apply bI;rfl;(assumption);rfl;rfl))|((with_reducible apply aJ (k := 161));(case ha => rfl);(case h => (apply tK <;> (first|omega|decide)));(case hp => (rfl));(case hN => rfl))|(apply jZ;rfl;rfl)|(apply aF;kernel_rfl)|(apply cA;rfl;rfl;rfl;(rfl);rfl;rfl))|(apply aN;first|apply aH|apply aB|(apply b8;rfl;(rfl))|(apply aO;rfl;all_goals intro hc;have hq:=hc;(try simp only [cK] at hq);try exfalso;omega)|apply aL|apply aS|apply aQ)|with_reducible apply aA|with_reducible apply bJ)
 rotate_left 1
 ·refine a7 (σ := Int × List AL.Stmt × Nat) [0, 2] [(0, _), (2, _)] [] [] (fun k => [(1, iv k.1), (8, .own 0 0 k.2.2 6)]) (fun k => [(0, some (aI aY k.2.1))]) (fun k => i ≤ k.1 ∧ k.1 ≤ s.size ∧ k.2.2 = k.2.1.length ∧ (bT k.2.1 : Int) ≤ k.1 - i) (fun k => (s.size - k.1).toNat) (i, [], 0) ⟨by omega, by omega, rfl, by simp [bT]⟩ rfl rfl (by repeat' (first | exact trivial | refine And.intro rfl ?_)) (by repeat' (first | exact trivial | refine And.intro (.inr rfl) ?_)) ?_
  rintro ⟨k, xs, m⟩ ⟨hk0, hk, hm, hc⟩
  dsimp only at hk0 hk hm hc ⊢
  have hln := dL xs
  repeat' (first|(apply aM;first|(apply aE;rfl;rfl)|(apply aX;rfl;rfl;(exact (rfl:_=[_, _, _, _, _, _]));rfl;rfl;rfl)|(first|(apply bB;rfl;rfl;rfl;(assumption))|(apply bC;rfl;rfl;rfl;(assumption))|(apply bK;(case hj|hb|hN => rfl);all_goals (intro hg;have hq := hg;(try simp only [cK] at hq);(try (exfalso;omega)))))|(first|(apply bR;rfl;rfl;omega;rfl)|(apply aR;rfl;rfl;rfl;rfl))|(apply aC;rfl;rfl)|(first|(apply bS;rfl;(assumption);rfl;rfl)|(apply bI;rfl;(assumption);rfl;rfl))|(first|((with_reducible apply aJ (k := 161));(case ha => rfl);(case h => (apply tK <;> (first|omega|decide)));(case hp => (rfl));(case hN => rfl))|((with_reducible apply gI (k := 162));(case ha => rfl);(case h => (apply parse_ih <;> (first|assumption|omega)));(case hp => (rfl));(case hN => rfl);(rintro _ ⟨x, nx, rfl, hqx⟩ _)))|(first|(apply jZ;rfl;rfl)|(apply cF;rfl;rfl;rfl;rfl;rfl;(rw [aU]; omega);(rfl);omega;omega;(exact gV (by (assumption)));rfl;rfl))|(apply aF;kernel_rfl)|(apply cQ;rfl;rfl)|(apply bH;rfl;rfl)|(apply cD;rfl;rfl;rfl)|((apply bQ (t := _));(case hze|hsm|hl => rfl);(case hfl => (exact (rfl:_=some [_, _, _, _, _, _])));(case hM|hN => rfl))|(apply aW;rfl;rfl;rfl;rfl;rfl;(case hl => (simp;done));(exact (rfl:_=[_, _, _, _, _, _]))))|(apply aN;first|apply aH|apply aB|(apply b8;rfl;(rfl))|(apply aO;rfl;all_goals intro hc;have hq:=hc;(try simp only [cK] at hq);try exfalso;omega)|apply aL|apply aS|apply aQ)|with_reducible apply aA|with_reducible apply bJ|with_reducible apply aV|with_reducible apply cY)
  ·refine cC (Le.nilImm (d := 6) rfl) ?_
   exact sB (fun _ => QL.pur) (l := [.imm 0 [], iv (-1)]) rfl ⟨[], -1, rfl, .inl ⟨rfl, rfl⟩⟩
  ·refine cC (Le.frzD (d := 6) (i := 3) rfl rfl) ?_
   refine sB (fun _ => QL.pur) (l := [.imm (m + 1) (aI aY (xs ++ [x])), iv nx]) rfl ⟨xs ++ [x], nx, ?_, ?_⟩
   ·show AV.tup [AV.imm (m + 1) _, _] = AV.tup [AV.imm (List.length (xs ++ [x])) _, _]
    rw [List.length_append, hm]; rfl
   ·rw [gR]; simp only [bT]; omega
  ·have b2 : 0 ≤ nx ∧ nx + 1 ≤ s.size := kF (w := ⟨#[59]⟩) (by assumption)
   (apply dV (nx + 1, xs ++ [x], m + 1);focus (refine Le.ren [(0, 3)] rfl (by decide) ?_ ?_ <;> repeat' (first|exact trivial|refine And.intro ⟨_, rfl, ?_⟩ ?_|refine And.intro ⟨_, _, rfl, rfl, ?_⟩ ?_|exact Or.inr rfl|refine Or.inl ⟨?_, (by first|rfl|exact aZ _ _)⟩|rfl)))
   ·dsimp only
    refine ⟨by omega, by omega, by simp [hm], ?_⟩
    rw [gR]; simp only [bT]; omega
   ·dsimp only;omega
  ·refine cC (Le.nilImm (d := 6) rfl) ?_
   exact sB (fun _ => QL.pur) (l := [.imm 0 [], iv (-1)]) rfl ⟨[], -1, rfl, .inl ⟨rfl, rfl⟩⟩
 ·refine cC (Le.frzD (d := 6) (i := 0) rfl rfl) ?_
  exact sB (fun _ => QL.pur) (l := [.imm 0 [], iv i]) rfl ⟨[], i, rfl, by simp only [bT]; omega⟩
 ·refine cC (Le.frzD (d := 6) (i := 0) rfl rfl) ?_
  exact sB (fun _ => QL.pur) (l := [.imm 0 [], iv i]) rfl ⟨[], i, rfl, by simp only [bT]; omega⟩
theorem AO (s : ByteArray) (hs : s.size ≤ 100000) : ∀ n : Nat, n ≤ 10 → (∀ j : Int, -1 ≤ j → j ≤ s.size + 10 → PC Tryz.prog 193 [sv s, iv j, iv ((n : Int) - 1)] (QB s j)) ∧ (∀ j : Int, 0 ≤ j → j ≤ s.size → PC Tryz.prog 121 [sv s, iv j, iv (n : Int)] (QL s j))
 | 0, hn => by
  have hB : ∀ j : Int, -1 ≤ j → j ≤ s.size + 10 → PC Tryz.prog 193 [sv s, iv j, iv (((0 : Nat) : Int) - 1)] (QB s j) :=
   fun j h0 h1 => vY s j (((0 : Nat) : Int) - 1) hs h0 h1 (by omega) (by omega) (fun _ _ h => by omega)
  have hP : ∀ j : Int, 0 ≤ j → j ≤ s.size → PC Tryz.prog 162 [sv s, iv j, iv ((0 : Nat) : Int)] (QP s j) :=
   fun j h0 h1 => AT s j _ hs h0 h1 (by omega) (by omega) (fun k dj h2 h3 h4 => by subst h2;exact hB k h3 h4)
  exact ⟨hB, fun j h0 h1 => CN s j _ hs h0 h1 (by omega) (by omega) (fun k dj h2 h3 h4 => by subst h2;exact hP k h3 h4)⟩
 | n + 1, hn => by
  have ih := AO s hs n (by omega)
  have e : (((n + 1 : Nat) : Int) - 1) = (n : Int) := by omega
  have hB : ∀ j : Int, -1 ≤ j → j ≤ s.size + 10 → PC Tryz.prog 193 [sv s, iv j, iv (((n + 1 : Nat) : Int) - 1)] (QB s j) :=
   fun j h0 h1 => vY s j _ hs h0 h1 (by omega) (by omega) (fun k dj h2 h3 h4 h5 => by rw [e] at h3;subst h3;exact ih.2 k h4 h5)
  have hP : ∀ j : Int, 0 ≤ j → j ≤ s.size → PC Tryz.prog 162 [sv s, iv j, iv ((n + 1 : Nat) : Int)] (QP s j) :=
   fun j h0 h1 => AT s j _ hs h0 h1 (by omega) (by omega) (fun k dj h2 h3 h4 => by subst h2;exact hB k h3 h4)
  exact ⟨hB, fun j h0 h1 => CN s j _ hs h0 h1 (by omega) (by omega) (fun k dj h2 h3 h4 => by subst h2;exact hP k h3 h4)⟩
theorem It (s : ByteArray) (i : Int) (hs : s.size ≤ 100000) (hi0 : 0 ≤ i) (hi : i ≤ s.size) : PC Tryz.prog 121 [sv s, iv i, iv 4] (QL s i) := (AO s hs 4 (by omega)).2 i hi0 hi
theorem BO (v : Int) (h0 : 0 ≤ v) (h1 : v ≤ 25) : PC Tryz.prog 214 [iv v] (fun r => r = sv (g7 v)) := by
 (refine aT Tryz.func214 rfl (by simp [Tryz.ntmps214]) ?_; rw [Tryz.ntmps214])
 repeat' (first|(apply aM;first|(apply ID;rfl;rfl;omega;rfl)|((apply Gx (ns := [_]));(case hx|hs'|hN => rfl))|(apply Bb;rfl;omega;rfl)|(apply aE;rfl;rfl)|(apply aC;rfl;rfl)|(apply aF;kernel_rfl)|(apply cA;rfl;rfl;rfl;exact (rfl:_=some [_]);rfl;rfl))|(apply aN;first|apply aH|apply aB|apply aQ)|with_reducible apply aA|((with_reducible apply aP);case hr => rfl))
 exact ⟨rfl, rfl⟩
theorem F7 (n : Int) (h0 : 0 ≤ n) (h1 : n ≤ 9) : PC Tryz.prog 215 [iv n] (fun r => r = sv (BD n)) := by
 (refine aT Tryz.func215 rfl (by simp [Tryz.ntmps215]) ?_; rw [Tryz.ntmps215])
 repeat' (first|(apply aM;first|(apply aE;rfl;rfl)|(apply aR;rfl;rfl;rfl;rfl)|(apply aC;rfl;rfl)|(apply aF;kernel_rfl))|(apply aN;first|apply aH|apply aB|(apply aO;rfl;all_goals intro hc;have hq:=hc;(try simp only [cK] at hq);try exfalso;omega)|apply aL|apply aS)|with_reducible apply aA)
 refine a7 (σ := Unit) [0, 3] [(0, _), (3, _)] [] [] (fun u => []) (fun u => []) (fun u => True) (fun u => 0) () trivial rfl rfl (by repeat' (exact trivial)) (by repeat' (exact trivial)) ?_
 rintro u _
 repeat' (first|(apply aM;first|(apply lB;rfl;rfl;(rfl);rfl)|((apply Gx (ns := [_]));(case hx|hs'|hN => rfl))|(apply Bb;rfl;omega;rfl)|(apply aE;rfl;rfl)|(first|(apply bR;rfl;rfl;omega;rfl)|(apply aR;rfl;rfl;rfl;rfl))|(apply aC;rfl;rfl)|(apply aF;kernel_rfl)|(apply cA;rfl;rfl;rfl;exact (rfl:_=some [_]);rfl;rfl))|(apply aN;first|apply aH|apply aB|(apply aO;rfl;all_goals intro hc;have hq:=hc;(try simp only [cK] at hq);try exfalso;omega)|apply bF|apply aQ)|with_reducible apply aA|with_reducible apply bE|with_reducible apply bG|((with_reducible apply aP);case hr => rfl))
 exact ⟨rfl, rfl⟩
theorem CU (s : AL.Stmt) (hc : dK s ≤ 10000) (hop : (s.op = 9 ∨ s.op = 10) ∨ (1 ≤ s.op ∧ s.op ≤ 8 ∧ 0 ≤ s.x ∧ s.x ≤ 5 ∧ 0 ≤ s.y ∧ s.y ≤ 5 ∧ (s.op = 1 ∨ s.op = 2 → 0 ≤ s.n ∧ s.n ≤ 9)))
  (hth : s.op = 9 ∨ s.op = 10 → PC Tryz.prog 163 [sl aY s.th] (fun r => r = sv (jQ s.th))) (hel : s.op = 9 → PC Tryz.prog 163 [sl aY s.el] (fun r => r = sv (jQ s.el))) : PC Tryz.prog 195 [dH s] (fun r => r = sv (lJ s)) := by
 have k1 := kV s.th
 have k2 := kV s.el
 have k3 := gH s
 (refine aT Tryz.func195 rfl (by simp [Tryz.ntmps195]) ?_; rw [Tryz.ntmps195])
 repeat' (first|(apply aM;first|(apply lB;rfl;rfl;(first|rfl|exact rI (by (simp only [ByteArray.size_append, oK, List.length_cons, List.length_nil, mL, mE, pQ] <;> omega)));rfl)|(apply aE;rfl;rfl)|(apply aK;rfl;rfl;rfl;rfl)|(apply aD;rfl;rfl;rfl)|(apply aR;rfl;rfl;rfl;rfl)|(apply aC;rfl;rfl)|(first|((with_reducible apply aJ (k := 163));(case ha => rfl);(case h => (first|(apply hth;omega)|(apply hel;omega)));(case hp => (exact Pur.pf));(case hN => rfl))|((with_reducible apply aJ (k := 214));(case ha => rfl);(case h => (apply BO <;> (omega)));(case hp => (rfl));(case hN => rfl))|((with_reducible apply aJ (k := 215));(case ha => rfl);(case h => (apply F7 <;> (omega)));(case hp => (rfl));(case hN => rfl)))|(apply aF;kernel_rfl)|(apply bW;rfl;rfl;rfl;rfl))|(apply aN;first|apply aH|apply aB|(apply bZ;kernel_rfl)|(apply aO;rfl;all_goals intro hc;have hq:=hc;(try simp only [cK] at hq);try exfalso;omega)|apply aL|apply aS|apply aQ)|with_reducible apply aA|with_reducible apply bJ|with_reducible apply aV|with_reducible apply cY|((with_reducible apply aP);case hr => rfl))
 all_goals (refine ⟨?_, rfl⟩; rw [EF]; repeat' split)
 all_goals (first|rfl|omega)
theorem Ak (l : List AL.Stmt) (hc : bT l ≤ 10000) (text_ih : ∀ k, k < l.length → PC Tryz.prog 195 [dH l[k]!] (fun r => r = sv (lJ l[k]!))) : PC Tryz.prog 163 [sl aY l] (fun r => r = sv (jQ l)) := by
 have hlen := dL l
 (refine aT Tryz.func163 rfl (by simp [Tryz.ntmps163]) ?_; rw [Tryz.ntmps163])
 repeat' (first|(apply aM;first|(apply aC;rfl;rfl)|(apply aF;kernel_rfl))|(apply aN;first|apply aH|apply aB|apply aL)|with_reducible apply aA)
 refine a7 (σ := Nat × ByteArray) [0] [(0, _)] [] [] (fun k => [(4, iv (k.1 : Int)), (3, sv k.2)]) (fun k => []) (fun k => k.1 ≤ l.length ∧ k.2 = jQ (l.take k.1)) (fun k => l.length - k.1) (0, ⟨#[]⟩) ⟨by omega, rfl⟩ rfl rfl (by repeat' (first|exact trivial|refine And.intro rfl ?_)) (by repeat' (exact trivial)) ?_
 rintro ⟨k, t⟩ ⟨hk, ht⟩
 dsimp only at hk ht ⊢
 have k1 := kV (l.take k)
 have k2 := uA l[k]!
 have hck := fY l k
 have hct : bT (l.take k) ≤ bT l := by have := gR (l.take k) (l.drop k);rw [List.take_append_drop] at this;omega
 have k3 : t.size = (jQ (l.take k)).size := by rw [ht]
 repeat' (first|(apply aM;first|(apply lB;rfl;rfl;(exact rI (by (first|omega|(simp only [ByteArray.size_append, oK, List.length_cons, List.length_nil, mL, mE, pQ] <;> omega))));rfl)|(apply aE;rfl;rfl)|(apply aX;rfl;rfl;(exact (rfl:_=[_, _, _, _, _, _]));rfl;rfl;rfl)|(first|(apply bR;rfl;rfl;omega;rfl)|(apply aR;rfl;rfl;rfl;rfl))|(apply aC;rfl;rfl)|(apply a6;(case hx|hi => rfl);(case hm => (omega));(case hml => (rfl));(case hα | hf|hg => infer_instance);(case hN => rfl))|((with_reducible apply aJ (k := 195));(case ha => rfl);(case h => (apply text_ih <;> (omega)));(case hp => (exact Pur.pf));(case hN => rfl))|(apply a9;rfl;rfl;rfl)|(apply aF;kernel_rfl))|(apply aN;first|apply aH|apply aB|(apply aO;rfl;all_goals intro hc;have hq:=hc;(try simp only [cK] at hq);try exfalso;omega)|apply aL|apply aS|apply bF|apply aQ)|with_reducible apply aA|with_reducible apply bE|with_reducible apply aV|with_reducible apply bG|((with_reducible apply aP);case hr => rfl))
 ·(apply dV (k + 1, _); focus (refine Le.ren [] rfl (by decide) ?_ ?_ <;> repeat' (first | exact trivial | refine And.intro ⟨_, rfl, ?_⟩ ?_ | refine Or.inl ⟨?_, (by first | rfl | exact aZ _ _)⟩ | rfl)))
  ·exact ⟨by dsimp only;omega, by dsimp only;rw [tP l k (by omega), p9, if_pos (by omega), ht]⟩
  ·dsimp only;omega
 ·(apply dV (k + 1, _); focus (refine Le.ren [] rfl (by decide) ?_ ?_ <;> repeat' (first | exact trivial | refine And.intro ⟨_, rfl, ?_⟩ ?_ | refine Or.inl ⟨?_, (by first | rfl | exact aZ _ _)⟩ | rfl)))
  ·exact ⟨by dsimp only;omega, by dsimp only;rw [tP l k (by omega), p9, if_neg (by omega), ht]⟩
  ·dsimp only;omega
 ·have hke : k = l.length := by omega
  refine ⟨?_, rfl⟩
  rw [ht, hke, List.take_length]; rfl
theorem GN (ts : List Int) (hts : dB ts = true) : ∀ m : Nat, m ≤ 10000 → ∀ l d, bT l ≤ m → okL ts d l = true → PC Tryz.prog 163 [sl aY l] (fun r => r = sv (jQ l)) := by
 intro m
 induction m with
 | zero =>
  intro hm l d hc ho
  have := dL l
  exact Ak l (by omega) (fun k hk => by omega)
 | succ m ih =>
  intro hm l d hc ho
  refine Ak l (by omega) (fun k hk => ?_)
  have hck := fY l k hk
  have hct := iL l[k]!
  have hs : oP ts d l[k]! = true := by rw [sO, j5] at ho;exact ho k hk
  rw [xS] at hs
  by_cases h9 : l[k]!.op ≠ 9 ∧ l[k]!.op ≠ 10
  ·rw [if_pos h9] at hs
   simp only [Bool.and_eq_true] at hs
   exact CU _ (by omega) (.inr (DT hts hs.2)) (fun h => by omega) (fun h => by omega)
  ·rw [if_neg h9] at hs
   cases d with
   | zero => cases hs
   | succ d =>
    simp only [Bool.and_eq_true] at hs
    exact CU _ (by omega) (.inl (by omega)) (fun h => ih (by omega) _ d (by omega) hs.1.2) (fun h => ih (by omega) _ d (by omega) hs.2)
theorem GG (ts : List Int) (d : Nat) (l : List AL.Stmt) (hts : dB ts = true) (hc : bT l ≤ 10000) (ho : okL ts d l = true) : PC Tryz.prog 163 [sl aY l] (fun r => r = sv (jQ l)) := GN ts hts _ hc l d (Nat.le_refl _) ho
def y8 (s : ByteArray) : List AV := [.v (.string s)]
instance : FlT y8 1 := ⟨fun _ => rfl⟩
instance : FE y8 (fun s => [.v (.string s)]) := ⟨fun _ => rfl⟩
instance (s : ByteArray) : Pur (y8 s) := ⟨rfl⟩
theorem Le.slotEq {ts : List (Nat × AV)} {hs : List (Nat × Option (List AV))} {n : Nat} {z0 : Lo} {d : Nat} (v v' : AV) (hd : lk ts d = some v) (h : v = v') : Le ⟨ts, hs, n, z0⟩ ⟨(d, v') :: ts, hs, n, z0⟩ :=
 Le.slot hd fun w bad ι y hr => h ▸ hr
def kinds : List ByteArray := [⟨#[]⟩, ⟨#[105]⟩, ⟨#[98]⟩, ⟨#[114]⟩, ⟨#[109]⟩]
theorem Bx (k : Nat) : (kinds[k]!).size ≤ 1 := by
 match k with
 | 0 => decide
 | 1 => decide
 | 2 => decide
 | 3 => decide
 | 4 => decide
 | k + 5 => exact (show (default : ByteArray).size ≤ 1 from by decide)
theorem Aq (p : Prg) (hv : dC p = true) : PC Tryz.prog 122 [dS p] (fun r => ∃ t, r = sv t) := by
 have hv2 := hv
 simp only [dC, Bool.and_eq_true, decide_eq_true_eq] at hv2
 obtain ⟨⟨hts, hol⟩, hcn⟩ := hv2
 have hl6 := gM hts
 have htx := kV p.body
 (refine aT Tryz.func122 rfl (by simp [Tryz.ntmps122]) ?_; rw [Tryz.ntmps122])
 repeat' (first|(apply aM;first|(apply aC;rfl;rfl)|(apply aF;kernel_rfl)|(apply bW;rfl;rfl;rfl;rfl))|(apply aN;first|apply aH|apply aB|apply aL)|with_reducible apply aA)
 refine a7 (σ := Nat × ByteArray) [1] [(1, _)] [0] [(0, some _)] (fun k => [(4, iv (k.1 : Int)), (3, sv k.2)]) (fun k => []) (fun k => k.1 ≤ p.types.length ∧ k.2.size ≤ k.1) (fun k => p.types.length - k.1) (0, ⟨#[]⟩) ⟨by omega, by show 0 ≤ 0;omega⟩ rfl rfl (by repeat' (first|exact trivial|refine And.intro rfl ?_)) (by repeat' (exact trivial)) ?_
 rintro ⟨k, t⟩ ⟨hk, ht⟩
 dsimp only at hk ht ⊢
 have htk := kU hts k
 have hkz : (kinds[(p.types[k]!).toNat]!).size ≤ 1 := Bx _
 have hkl : kinds.length = 5 := rfl
 repeat' (first|(apply aM;first|(with_reducible apply dG (d := 14))|((with_reducible apply aJ (k := 163));(case ha => rfl);(case h => exact GG p.types 4 p.body hts (by omega) hol);(case hp => (exact Pur.pf));(case hN => rfl))|(apply lB;rfl;rfl;(exact rI (by (simp only [ByteArray.size_append, oK, List.length_cons, List.length_nil, mL, mE, pQ] <;> omega)));rfl)|(apply aE;rfl;rfl)|(apply aK;rfl;rfl;rfl;rfl)|(apply aD;rfl;rfl;rfl)|(apply aR;rfl;rfl;rfl;rfl)|(apply aC;rfl;rfl)|(apply a9;rfl;rfl;rfl)|(apply aF;kernel_rfl)|((apply bQ (t := _));(case hze|hsm|hl => rfl);(case hfl => (exact (rfl:_=some [_, _, _, _, _])));(case hM|hN => rfl)))|(apply aN;first|apply aH|apply aB|(apply aO;rfl;all_goals intro hc;have hq:=hc;(try simp only [cK] at hq);try exfalso;omega)|apply aL|apply aS|apply bF|apply aQ)|with_reducible apply aA|with_reducible apply bE|with_reducible apply bG)
 ·refine fA (kI ?_ (Le.slotEq (d := 13) _ (.imm 5 (aI y8 kinds)) rfl rfl))
  repeat' (first|(apply aM;first|(apply lB;rfl;rfl;(exact rI (by (omega)));rfl)|(apply aE;rfl;rfl)|(apply aK;rfl;rfl;rfl;rfl)|(apply aD;rfl;rfl;rfl)|(apply bR;rfl;rfl;omega;rfl)|(apply aC;rfl;rfl)|(first|(apply a6;(case hx|hi => rfl);(case hm => (omega));(case hml => (rfl));(case hα | hf|hg => infer_instance);(case hN => rfl))|(apply dA;(case hx|hi => rfl);(case hm => (omega));(case hml => (rfl));(case hα | hf|hg => infer_instance);(case hN => rfl)))|(apply aF;kernel_rfl))|(apply aN;(apply aB))|with_reducible apply aA|with_reducible apply aV)
  (apply dV (k + 1, _);focus (refine Le.ren [(0, 0)] rfl (by decide) ?_ ?_ <;> repeat' (first|exact trivial|refine And.intro ⟨_, rfl, ?_⟩ ?_|refine And.intro ⟨_, _, rfl, rfl, ?_⟩ ?_|exact Or.inr rfl|refine Or.inl ⟨?_, (by first|rfl|exact Pur.pf)⟩|rfl)))
  ·exact ⟨by dsimp only;omega, by dsimp only;rw [ByteArray.size_append]; omega⟩
  ·dsimp only;omega
 ·refine aP rfl ⟨⟨_, rfl⟩, rfl⟩
theorem G6 {s : ByteArray} (b : Bool) : (∃ (q : Prg) (b' : Bool), AV.tup [AV.agg [.imm 0 [], .imm 0 []], bv b] = .tup [dS q, bv b'] ∧ bT q.body ≤ s.size + 10 ∧ q.types.length ≤ s.size + 10) :=
 ⟨⟨[], []⟩, b, rfl, by simp [bT], by simp⟩
theorem mC (s : ByteArray) (hs : s.size ≤ 10000) : PC Tryz.prog 68 [sv s] (fun r => ∃ (q : Prg) (b : Bool), r = .tup [dS q, bv b] ∧ bT q.body ≤ s.size + 10 ∧ q.types.length ≤ s.size + 10) := by
 (refine aT Tryz.func68 rfl (by simp [Tryz.ntmps68]) ?_; rw [Tryz.ntmps68])
 repeat' (first|(apply aM;first|(with_reducible apply dG (d := 13))|(apply aE;rfl;rfl)|(apply aR;rfl;rfl;rfl;rfl)|(apply aC;rfl;rfl)|(apply jZ;rfl;rfl)|(apply aF;kernel_rfl)|(apply b9;rfl;(exact (rfl:_=some [_, _]));(exact (rfl:_=[_, _]));rfl)|(apply bH;rfl;rfl)|(apply aW;rfl;rfl;rfl;rfl;rfl;(decide);(exact (rfl:_=[_, _]))))|(apply aN;first|apply aH|apply aB|(apply aO;rfl;all_goals intro hc;have hq:=hc;(try simp only [cK] at hq);try exfalso;omega)|apply aS|apply aQ)|with_reducible apply aA|with_reducible apply bJ)
 ·exact aP (l := [.agg [.imm 0 [], .imm 0 []], bv false]) rfl ⟨G6 false, rfl⟩
 refine fA ?_
 apply yW
 case hl => rfl
 case hf => exact (rfl:_=some [AV.v (.slice none 0 0), AV.v (.slice none 0 0)])
 case hN => rfl
 repeat' (first|(apply aM;first|(apply aC;rfl;rfl)|(apply aF;kernel_rfl)|(apply bH;rfl;rfl)|(apply aW;rfl;rfl;rfl;rfl;rfl;(decide);(exact (rfl:_=[_, _]))))|(apply aN;first|apply aH|apply aB|apply aL)|with_reducible apply aA)
 apply AW.le
 case k => exact Le.nilCell (i := 1) 1 [] rfl (by decide) (by decide)
 refine a7 (σ := Nat × List Int × Nat) [0, 2, 4] [(0, _), (2, _), (4, _)] [0] [(0, some _)] (fun k => [(5, iv (k.1 : Int))]) (fun k => [(1, some [.own 2 0 k.2.2 1, .v (.slice none 0 0)]), (2, some (aI cI k.2.1))]) (fun k => k.1 ≤ s.size ∧ k.2.1.length = k.1 ∧ k.2.2 = k.2.1.length) (fun k => s.size - k.1) (0, [], 0) ⟨by omega, rfl, rfl⟩ rfl rfl (by repeat' (first|exact trivial|refine And.intro rfl ?_)) (by repeat' (first|exact trivial|refine And.intro (.inr rfl) ?_)) ?_
 rintro ⟨k, xs, m⟩ ⟨hk, hxl, hm⟩
 dsimp only at hk hxl hm ⊢
 repeat' (first|(apply aM;first|(with_reducible apply dG (d := 43))|(apply pB;rfl;rfl;omega;rfl)|(apply aE;rfl;rfl)|(apply aK;rfl;rfl;rfl;rfl)|(apply aD;rfl;rfl;rfl)|(first|(apply bB;rfl;rfl;rfl;(assumption))|(apply bC;rfl;rfl;rfl;(assumption))|(apply bK;(case hj|hb|hN => rfl);all_goals (intro hg;have hq := hg;(try simp only [cK] at hq);(try (exfalso;omega)))))|(first|(apply bR;rfl;rfl;omega;rfl)|(apply aR;rfl;rfl;rfl;rfl))|(apply aC;rfl;rfl)|(first|(apply bS;rfl;(assumption);rfl;rfl)|(apply bI;rfl;(assumption);rfl;rfl))|(first|(apply jZ;rfl;rfl)|(apply cF;rfl;rfl;rfl;rfl;rfl;(rw [aU]; omega);(rfl);omega;omega;(exact jD (by (assumption)));rfl;rfl))|(apply aF;kernel_rfl)|((apply bQ (t := _));(case hze|hsm|hl => rfl);(case hfl => exact (rfl:_=some [_]));(case hM|hN => rfl))|(apply aW;rfl;rfl;rfl;rfl;rfl;(case hl => (simp;done));(exact (rfl:_=[_, _]))))|(apply aN;first|apply aH|apply aB|(apply cH;rfl;(rfl))|(apply aO;rfl;all_goals intro hc;have hq:=hc;(try simp only [cK] at hq);try exfalso;omega)|apply aL|apply aS|apply bF)|with_reducible apply aA|with_reducible apply bE|with_reducible apply aV|with_reducible apply bG)
 ·(apply dV (k + 1, xs ++ [1], m + 1); focus (refine Le.ren [(0, 0), (1, 1), (2, 4)] rfl (by decide) ?_ ?_ <;> repeat' (first | exact trivial | refine And.intro ⟨_, rfl, ?_⟩ ?_ | refine And.intro ⟨_, _, rfl, rfl, ?_⟩ ?_ | exact Or.inr rfl | refine Or.inl ⟨?_, (by first | rfl | exact aZ _ _)⟩ | refine Or.inr (All2.cons ?_ ?_) | refine All2.cons ?_ ?_ | exact All2.nil | rfl)))
  ·exact ⟨by dsimp only;omega, by simp [hxl], by simp [hm]⟩
  ·dsimp only;omega
 ·(apply dV (k + 1, xs ++ [2], m + 1); focus (refine Le.ren [(0, 0), (1, 1), (2, 4)] rfl (by decide) ?_ ?_ <;> repeat' (first | exact trivial | refine And.intro ⟨_, rfl, ?_⟩ ?_ | refine And.intro ⟨_, _, rfl, rfl, ?_⟩ ?_ | exact Or.inr rfl | refine Or.inl ⟨?_, (by first | rfl | exact aZ _ _)⟩ | refine Or.inr (All2.cons ?_ ?_) | refine All2.cons ?_ ?_ | exact All2.nil | rfl)))
  ·exact ⟨by dsimp only;omega, by simp [hxl], by simp [hm]⟩
  ·dsimp only;omega
 ·(apply dV (k + 1, xs ++ [3], m + 1); focus (refine Le.ren [(0, 0), (1, 1), (2, 4)] rfl (by decide) ?_ ?_ <;> repeat' (first | exact trivial | refine And.intro ⟨_, rfl, ?_⟩ ?_ | refine And.intro ⟨_, _, rfl, rfl, ?_⟩ ?_ | exact Or.inr rfl | refine Or.inl ⟨?_, (by first | rfl | exact aZ _ _)⟩ | refine Or.inr (All2.cons ?_ ?_) | refine All2.cons ?_ ?_ | exact All2.nil | rfl)))
  ·exact ⟨by dsimp only;omega, by simp [hxl], by simp [hm]⟩
  ·dsimp only;omega
 ·(apply dV (k + 1, xs ++ [4], m + 1); focus (refine Le.ren [(0, 0), (1, 1), (2, 4)] rfl (by decide) ?_ ?_ <;> repeat' (first | exact trivial | refine And.intro ⟨_, rfl, ?_⟩ ?_ | refine And.intro ⟨_, _, rfl, rfl, ?_⟩ ?_ | exact Or.inr rfl | refine Or.inl ⟨?_, (by first | rfl | exact aZ _ _)⟩ | refine Or.inr (All2.cons ?_ ?_) | refine All2.cons ?_ ?_ | exact All2.nil | rfl)))
  ·exact ⟨by dsimp only;omega, by simp [hxl], by simp [hm]⟩
  ·dsimp only;omega
 ·(apply dV (k + 1, xs ++ [0], m + 1); focus (refine Le.ren [(0, 0), (1, 1), (2, 4)] rfl (by decide) ?_ ?_ <;> repeat' (first | exact trivial | refine And.intro ⟨_, rfl, ?_⟩ ?_ | refine And.intro ⟨_, _, rfl, rfl, ?_⟩ ?_ | exact Or.inr rfl | refine Or.inl ⟨?_, (by first | rfl | exact aZ _ _)⟩ | refine Or.inr (All2.cons ?_ ?_) | refine All2.cons ?_ ?_ | exact All2.nil | rfl)))
  ·exact ⟨by dsimp only;omega, by simp [hxl], by simp [hm]⟩
  ·dsimp only;omega
 all_goals subst hm
 all_goals (refine fA (kI ?_ (Le.frzC (j := 1) (i := 2) [] rfl rfl (by decide))))
 all_goals repeat' (first|(apply aM;first|((with_reducible apply gI (k := 121));(case ha => rfl);(case h => (apply It <;> omega));(case hp => (rfl));(case hN => rfl);(rintro _ ⟨l, nx, rfl, hql⟩ _))|((with_reducible apply aJ (k := 57));(case ha => rfl);(case h => exact yX ⟨xs, l⟩ (by show xs.length ≤ _; omega) (by show bT l ≤ 100000000;rcases hql with ⟨_, h9⟩|h9;(rw [h9]; decide);omega));(case hp => (exact Pur.pf));(case hN => rfl))|((with_reducible apply gI (k := 122));(case ha => rfl);(case h => exact Aq ⟨xs, l⟩ (by assumption));(case hp => (exact Pur.pf));(case hN => rfl);(rintro _ ⟨t, rfl⟩ _))|(apply lB;rfl;rfl;(rfl);rfl)|(apply aE;rfl;rfl)|(apply aX;rfl;rfl;(exact (rfl:_=[_, _]));rfl;rfl;rfl)|(apply aD;rfl;rfl;rfl)|(first|(apply bB;rfl;rfl;rfl;(assumption))|(apply bC;rfl;rfl;rfl;(first|rfl|assumption))|(apply bK;(case hj|hb|hN => rfl);all_goals (intro hg;have hq := hg;(try simp only [cK] at hq);(try (exfalso;omega)))))|(first|(apply bR;rfl;rfl;omega;rfl)|(apply aR;rfl;rfl;rfl;rfl))|(apply aC;rfl;rfl)|(first|(apply bS;rfl;(first|rfl|assumption);rfl;rfl)|(apply bI;rfl;(assumption);rfl;rfl))|(apply jZ;rfl;rfl)|(apply aF;kernel_rfl)|(apply b9;rfl;(exact (rfl:_=some [_, _]));(exact (rfl:_=[_, _]));rfl)|(apply cQ;rfl;rfl)|(apply cD;rfl;rfl;rfl)|(apply aW;rfl;rfl;rfl;rfl;rfl;(case hl => (first|decide|(simp;done)));(exact (rfl:_=[_, _]))))|(apply aN;first|apply aH|apply aB|(apply b8;rfl;(rfl))|(apply aO;rfl;all_goals intro hc;have hq:=hc;(try simp only [cK] at hq);try exfalso;omega)|apply aS|apply aQ)|with_reducible apply aA|with_reducible apply bJ)
 all_goals first
  | exact aP (l := [.agg [.imm 0 [], .imm 0 []], bv false]) rfl ⟨G6 false, rfl⟩
  | (refine aP (l := [.agg [.imm xs.length (aI cI xs), sl aY l], bv true]) rfl ⟨⟨⟨xs, l⟩, true, rfl, ?_, by show xs.length ≤ _; omega⟩, Pur.pf⟩
     show bT l ≤ _
     rcases hql with ⟨_, h9⟩|h9
     ·rw [h9]; simp [bT]
     ·omega)
end Go.Proofs.YtjcpngimjdckmaaGreat
