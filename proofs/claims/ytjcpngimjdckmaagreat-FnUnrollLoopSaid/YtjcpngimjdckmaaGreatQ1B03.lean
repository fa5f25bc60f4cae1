/-
 A part of the proofs over this program: rules and contracts of its functions (the contracts).
-/
import Derived.Test.YtjcpngimjdckmaaGreatQ1B02
set_option linter.unusedVariables false
set_option linter.unusedSimpArgs false
set_option maxHeartbeats 8000000
set_option maxRecDepth 4000
attribute [local irreducible] Go.AL.RW Go.AL.AW Go.AL.Stop
namespace Go.Proofs.YtjcpngimjdckmaaGreat
open Go.AL Go.RowKit
abbrev e5 (bs : List UInt8) (p : Nat) : List AV := [sl cU bs, iv (p : Int)]
def I0 (bs : List UInt8) (q : Int) : Int := ((bs[(q % (bs.length : Int)).toNat]!).toNat : Int) * 131 + ((bs[((q * 7 + 3) % (bs.length : Int)).toNat]!).toNat : Int) * 1117 + q * 29 + q / (bs.length : Int) * 53
def cV (bs : List UInt8) (p : Nat) (n : Int) : Int :=
 if n < 1 then 0 else if (bs.length : Int) = 0 then 0 else
 if (p : Int) + 1 - 1 < (bs.length : Int) then ((bs[((p : Int) + 1 - 1).toNat]!).toNat : Int) % n
 else (((I0 bs ((p : Int) + 1 - 1)).toNat ^^^ (I0 bs ((p : Int) + 1 - 1) / 64).toNat : Nat) : Int) % n
theorem eU (bs : List UInt8) (p : Nat) (n : Int) : 0 ≤ cV bs p n ∧ (cV bs p n < n ∨ n < 1 ∧ cV bs p n = 0) := by
 unfold cV
 split
 ·omega
 ·split
  ·omega
  ·split
   ·exact ⟨Int.emod_nonneg _ (by omega), .inl (Int.emod_lt_of_pos _ (by omega))⟩
   ·exact ⟨Int.emod_nonneg _ (by omega), .inl (Int.emod_lt_of_pos _ (by omega))⟩
def gP (bs : List UInt8) (p : Nat) (xs : List Int) : Int := xs[(cV bs p (xs.length : Int)).toNat]!
class NumL (cs : List AV) (xs : outParam (List Int)) : Prop where h : cs = aH cI xs
instance NumL.nil : NumL [] [] := ⟨rfl⟩
instance NumL.cons {n : Int} {cs : List AV} {xs : List Int} [h : NumL cs xs] : NumL (.v (.int .i64 n) :: cs) (n :: xs) := ⟨by rw [h.h]; rfl⟩
theorem iB {bs : List UInt8} {p : Nat} {n : Int} {N : Nat} {Q : Exit → AS → Prop} {all : Array Oper} {rest : List Oper} {tsl : List (Nat × AV)} {hsl : List (Nat × Option (List AV))} {nidl : Nat} {z0 : Lo} {md : Md} {d : Nat} {ty : TypeId} {pos : String} {af : Array Edge} {tys : Array TypeId} {x0 x1 : Operand} {i0 : Nat} (ha0 : ev (lk tsl) x0 = some (.optr i0 0)) (ha1 : ev (lk tsl) x1 = some (iv n)) (hH0 : cJ hsl i0 = some (e5 bs p)) (hmc : MC Tryz.prog 47 [.optr 0 0, iv n] [(0, some (e5 bs p))] 1 (fun _ : Unit => True) (fun _ => iv (cV bs p n)) (fun _ => [(0, some (e5 bs (p + 1)))])) (hM : Nat.ble (nidl + 0) fG = true) (hN : Nat.blt d N = true) {md' : Md} [hmd : MdA md (hG [x0, x1] ++ [.inr i0]) (List.map Sum.inr (List.map Prod.fst ([(i0, some (e5 bs (p + 1)))] : List (Nat × Option (List AV)))) ++ [.inl d]) md'] (kk : RW Tryz.prog N all Q md' rest ⟨(d, iv (cV bs p n)) :: tsl, jF hsl [(i0, some (e5 bs (p + 1)))], nidl + 0, z0⟩) : RW Tryz.prog N all Q md (⟨some d, .call ⟨.value (.func 47), #[x0, x1], tys⟩, ty, pos, af, none⟩ :: rest) ⟨tsl, hsl, nidl, z0⟩ := by
 refine cM [i0] 1 [(i0, some (e5 bs (p + 1)))] hmc (avs := [.optr i0 0, iv n]) ?_ rfl ?_ rfl ?_ (by simpa using hM) ?_ ?_ ?_ hN (md' := md') (hmd := hmd) kk
 ·show evL (lk tsl) [x0, x1] = _
  simp only [evL, ha0, ha1]
 ·exact ⟨⟨_, _, rfl, hH0, by (repeat' (exact RnL.purI inferInstance))⟩, trivial⟩
 ·(repeat' (first|exact RnL.purI inferInstance|exact RnV.optr rfl|refine RnL.cons ?_ ?_))
 ·(repeat' (exact RnV.purI inferInstance))
 ·simp [eA]
 ·(repeat' (first|exact trivial|(refine And.intro ⟨0, _, rfl, rfl, ?_⟩ ?_)|exact RnL.purI inferInstance))
theorem IQ {bs : List UInt8} {p : Nat} {xs : List Int} {N : Nat} {Q : Exit → AS → Prop} {all : Array Oper} {rest : List Oper} {tsl : List (Nat × AV)} {hsl : List (Nat × Option (List AV))} {nidl : Nat} {z0 : Lo} {md : Md} {d : Nat} {ty : TypeId} {pos : String} {af : Array Edge} {tys : Array TypeId} {x0 x1 : Operand} {i0 : Nat} (ha0 : ev (lk tsl) x0 = some (.optr i0 0)) (ha1 : ev (lk tsl) x1 = some (sl cI xs)) (hH0 : cJ hsl i0 = some (e5 bs p)) (hmc : MC Tryz.prog 48 [.optr 0 0, sl cI xs] [(0, some (e5 bs p))] 1 (fun _ : Unit => True) (fun _ => iv (gP bs p xs)) (fun _ => [(0, some (e5 bs (p + 1)))])) (hM : Nat.ble (nidl + 0) fG = true) (hN : Nat.blt d N = true) {md' : Md} [hmd : MdA md (hG [x0, x1] ++ [.inr i0]) (List.map Sum.inr (List.map Prod.fst ([(i0, some (e5 bs (p + 1)))] : List (Nat × Option (List AV)))) ++ [.inl d]) md'] (kk : RW Tryz.prog N all Q md' rest ⟨(d, iv (gP bs p xs)) :: tsl, jF hsl [(i0, some (e5 bs (p + 1)))], nidl + 0, z0⟩) : RW Tryz.prog N all Q md (⟨some d, .call ⟨.value (.func 48), #[x0, x1], tys⟩, ty, pos, af, none⟩ :: rest) ⟨tsl, hsl, nidl, z0⟩ := by
 refine cM [i0] 1 [(i0, some (e5 bs (p + 1)))] hmc (avs := [.optr i0 0, sl cI xs]) ?_ rfl ?_ rfl ?_ (by simpa using hM) ?_ ?_ ?_ hN (md' := md') (hmd := hmd) kk
 ·show evL (lk tsl) [x0, x1] = _
  simp only [evL, ha0, ha1]
 ·exact ⟨⟨_, _, rfl, hH0, by (repeat' (exact RnL.purI inferInstance))⟩, trivial⟩
 ·(repeat' (first|exact RnL.purI inferInstance|exact RnV.optr rfl|refine RnL.cons ?_ ?_))
 ·(repeat' (exact RnV.purI inferInstance))
 ·simp [eA]
 ·(repeat' (first|exact trivial|(refine And.intro ⟨0, _, rfl, rfl, ?_⟩ ?_)|exact RnL.purI inferInstance))
theorem Fq {bs : List UInt8} {p : Nat} {xs : List Int} {N : Nat} {Q : Exit → AS → Prop} {all : Array Oper} {rest : List Oper} {tsl : List (Nat × AV)} {hsl : List (Nat × Option (List AV))} {nidl : Nat} {z0 : Lo} {md : Md} {d : Nat} {ty : TypeId} {pos : String} {af : Array Edge} {tys : Array TypeId} {x0 x1 : Operand} {i0 i1 : Nat} (ha0 : ev (lk tsl) x0 = some (.optr i0 0)) (ha1 : ev (lk tsl) x1 = some (.own i1 0 xs.length 1)) (hH0 : cJ hsl i0 = some (e5 bs p)) (hH1 : cJ hsl i1 = some (aH cI xs)) (hdd : Go.AL.distinct [i0, i1] = true) (hmc : MC Tryz.prog 48 [.optr 0 0, .own 1 0 xs.length 1] [(0, some (e5 bs p)), (1, some (aH cI xs))] 2 (fun _ : Unit => True) (fun _ => iv (gP bs p xs)) (fun _ => [(0, some (e5 bs (p + 1)))])) (hM : Nat.ble (nidl + 0) fG = true) (hN : Nat.blt d N = true) {md' : Md} [hmd : MdA md (hG [x0, x1] ++ [.inr i0, .inr i1]) (List.map Sum.inr (List.map Prod.fst ([(i0, some (e5 bs (p + 1))), (i1, none)] : List (Nat × Option (List AV)))) ++ [.inl d]) md'] (kk : RW Tryz.prog N all Q md' rest ⟨(d, iv (gP bs p xs)) :: tsl, jF hsl [(i0, some (e5 bs (p + 1))), (i1, none)], nidl + 0, z0⟩) : RW Tryz.prog N all Q md (⟨some d, .call ⟨.value (.func 48), #[x0, x1], tys⟩, ty, pos, af, none⟩ :: rest) ⟨tsl, hsl, nidl, z0⟩ := by
 refine cM [i0, i1] 2 [(i0, some (e5 bs (p + 1))), (i1, none)] hmc (avs := [.optr i0 0, .own i1 0 xs.length 1]) ?_ hdd ?_ rfl ?_ (by simpa using hM) ?_ ?_ ?_ hN (md' := md') (hmd := hmd) kk
 ·show evL (lk tsl) [x0, x1] = _
  simp only [evL, ha0, ha1]
 ·exact ⟨⟨_, _, rfl, hH0, by (repeat' (exact RnL.purI inferInstance))⟩, ⟨⟨_, _, rfl, hH1, by (repeat' (exact RnL.purI inferInstance))⟩, trivial⟩⟩
 ·(repeat' (first|exact RnL.purI inferInstance|exact RnV.own rfl|exact RnV.optr rfl|refine RnL.cons ?_ ?_))
 ·(repeat' (exact RnV.purI inferInstance))
 ·simp [eA]
 ·(repeat' (first|exact trivial|(refine And.intro ⟨0, _, rfl, rfl, ?_⟩ ?_)|exact RnL.purI inferInstance))
theorem kD (bs : List UInt8) (p : Nat) (n : Int) (hb : bs.length ≤ 2000) (hp : p ≤ 1000000) (hn0 : 0 ≤ n) (hn : n ≤ 1000000) : MC Tryz.prog 47 [.optr 0 0, iv n] [(0, some (e5 bs p))] 1 (fun _ : Unit => True) (fun _ => iv (cV bs p n)) (fun _ => [(0, some (e5 bs (p + 1)))]) := by
 have hdiv : 0 ≤ ((p : Int) + 1 - 1) / (bs.length : Int) ∧ ((p : Int) + 1 - 1) / (bs.length : Int) ≤ p + 1 - 1 := ⟨Int.ediv_nonneg (by omega) (by omega), Int.ediv_le_self _ (by omega)⟩
 (refine cD Tryz.func47 rfl (by simp [Tryz.ntmps47]) ?_; rw [Tryz.ntmps47])
 repeat' (first|(apply aM;first|(apply aE;rfl;rfl)|(apply aL;rfl;rfl;rfl;rfl)|(apply aD;rfl;rfl;rfl)|(first|(apply a6;rfl;rfl;rfl;(assumption))|(apply bD;rfl;rfl;rfl;(assumption))|(apply bO;(case hj|hb|hN => rfl);all_goals (intro hg;have hq := hg;(try simp only [cF] at hq);(try (exfalso;omega)))))|(first|(apply bU;rfl;rfl;omega;rfl)|(apply fU;rfl;rfl;omega;rfl)|(apply Jx;rfl;rfl;omega;omega;rfl)|(apply JP;rfl;rfl;omega;rfl)|(apply KL;rfl;rfl;omega;rfl)|(apply JN;rfl;rfl;omega;rfl)|(apply aR;rfl;rfl;rfl;rfl))|(apply aC;rfl;rfl)|(first|(apply bR;rfl;(assumption);rfl;rfl)|(apply bF;rfl;(assumption);rfl;rfl))|(apply dA;(case hx|hi => rfl);(case hm => (first|omega|exact ⟨Int.emod_nonneg _ (by omega), Int.emod_lt_of_pos _ (by omega)⟩));(case hml => (rfl));(case hα | hf|hg => infer_instance);(case hN => rfl))|(apply a8;rfl;rfl;rfl)|(apply aF;kernel_rfl)|(apply FJ;rfl;rfl;(case' kk => intro hbd))|(apply bW;rfl;rfl;rfl)|(apply aW;rfl;rfl;rfl;rfl;rfl;(case hl => (simp;done));(exact (rfl:_=[_, _]))))|(apply aN;first|apply aI|apply aB|(apply b8;kernel_rfl)|(apply bZ;rfl;(rfl))|(apply aO;rfl;all_goals intro hc;have hq:=hc;(try simp only [cF] at hq);try exfalso;omega)|apply aS|apply aQ)|with_reducible apply aA|with_reducible apply bK)
 all_goals (refine aP rfl ?_; refine bY () trivial ?_ ⟨.inr (Eq.trans (b := some _) rfl ?_), trivial⟩)
 all_goals first|rfl|skip
 all_goals simp only [b9, AV.v.injEq, Value.int.injEq, true_and, cV]
 ·rw [if_neg (by omega), if_pos (by omega)]
 ·rw [if_neg (by omega), if_neg (by omega), if_pos (by omega)]
 ·rw [if_neg (by omega), if_neg (by omega), if_neg (by omega)]; rfl
 ·rw [if_pos (by omega)]
theorem Kg (bs : List UInt8) (p : Nat) (xs : List Int) (hb : bs.length ≤ 2000) (hp : p ≤ 1000000) (h0 : 0 < xs.length) (hn : xs.length ≤ 1000000) : MC Tryz.prog 48 [.optr 0 0, sl cI xs] [(0, some (e5 bs p))] 1 (fun _ : Unit => True) (fun _ => iv (gP bs p xs)) (fun _ => [(0, some (e5 bs (p + 1)))]) := by
 have hpf := eU bs p xs.length
 (refine cD Tryz.func48 rfl (by simp [Tryz.ntmps48]) ?_; rw [Tryz.ntmps48])
 repeat' (first|(apply aM;first|(apply aE;rfl;rfl)|(apply aL;rfl;rfl;rfl;rfl)|(apply aC;rfl;rfl)|(apply dA;(case hx|hi => rfl);(case hm => (omega));(case hml => (rfl));(case hα | hf|hg => infer_instance);(case hN => rfl))|(apply iB;rfl;rfl;(rfl);(apply kD <;> (first|assumption|omega));rfl;rfl)|(apply a8;rfl;rfl;rfl)|(apply aF;kernel_rfl))|(apply aN;first|apply aI|apply aB|apply aQ)|with_reducible apply aA)
 (refine aP rfl ?_; refine bY () trivial ?_ ⟨.inr (Eq.trans (b := some _) rfl ?_), trivial⟩)
 ·rfl
 ·rfl
theorem Bx {Q : Exit → AS → Prop} {all : Array Oper} {rest : List Oper} {N : Nat} {tsl : List (Nat × AV)} {hsl : List (Nat × Option (List AV))} {nidl : Nat} {z0 : Lo} {md : Md} {d : Nat} {ty : TypeId} {pos : String} {af : Array Edge} {tys : Array TypeId}
  {bs : List UInt8} {p m : Nat} {cs : List AV} {xs : List Int} {x0 x1 : Operand} {i0 : Nat} (ha0 : ev (lk tsl) x0 = some (.optr i0 0)) (ha1 : ev (lk tsl) x1 = some (.imm m cs)) (hcs : NumL cs xs) (hH0 : cJ hsl i0 = some (e5 bs p))
  (hm : m = xs.length) (hb : bs.length ≤ 2000) (hp : p ≤ 1000000) (h0 : 0 < xs.length) (hn : xs.length ≤ 1000000) (hM : Nat.ble (nidl + 0) fG = true) (hN : Nat.blt d N = true) {md' : Md}
  [hmd : MdA md (hG [x0, x1] ++ [.inr i0]) [.inr i0, .inl d] md']
  (kk : RW Tryz.prog N all Q md' rest ⟨(d, iv (gP bs p xs)) :: tsl, (i0, some (e5 bs (p + 1))) :: hsl, nidl + 0, z0⟩) : RW Tryz.prog N all Q md (⟨some d, .call ⟨.value (.func 48), #[x0, x1], tys⟩, ty, pos, af, none⟩ :: rest) ⟨tsl, hsl, nidl, z0⟩ := by
 have h := hcs.h
 subst hm h
 exact IQ ha0 ha1 hH0 (Kg bs p xs hb hp h0 hn) hM hN (hmd := hmd) kk
theorem G8 (bs : List UInt8) (p : Nat) (xs : List Int) (hb : bs.length ≤ 2000) (hp : p ≤ 1000000) (h0 : 0 < xs.length) (hn : xs.length ≤ 1000000) : MC Tryz.prog 48 [.optr 0 0, .own 1 0 xs.length 1] [(0, some (e5 bs p)), (1, some (aH cI xs))] 2 (fun _ : Unit => True) (fun _ => iv (gP bs p xs)) (fun _ => [(0, some (e5 bs (p + 1)))]) := by
 have hpf := eU bs p xs.length
 (refine cD Tryz.func48 rfl (by simp [Tryz.ntmps48]) ?_; rw [Tryz.ntmps48])
 repeat' (first|(apply aM;first|(apply aE;rfl;rfl)|(apply eQ;(case hx|hH => rfl);(case hf|hg|hα => infer_instance);(case hk => omega);(case hc|hN => rfl))|(apply aC;rfl;rfl)|(apply cP;rfl;rfl;(omega);rfl)|(apply iB;rfl;rfl;(rfl);(apply kD <;> (first|assumption|omega));rfl;rfl)|(apply a8;rfl;rfl;rfl)|(apply aF;kernel_rfl))|(apply aN;first|apply aI|apply aB|apply aQ)|with_reducible apply aA)
 (refine aP rfl ?_; refine bY () trivial ?_ ⟨.inr (Eq.trans (b := some _) rfl ?_), trivial⟩)
 ·rfl
 ·rfl
theorem mX {Q : Exit → AS → Prop} {all : Array Oper} {rest : List Oper} {N : Nat} {tsl : List (Nat × AV)} {hsl : List (Nat × Option (List AV))} {nidl : Nat} {z0 : Lo} {md : Md} {d : Nat} {ty : TypeId} {pos : String} {af : Array Edge} {tys : Array TypeId}
  {bs : List UInt8} {p m : Nat} {cs : List AV} {xs : List Int} {x0 x1 : Operand} {i0 i1 : Nat} (ha0 : ev (lk tsl) x0 = some (.optr i0 0)) (ha1 : ev (lk tsl) x1 = some (.own i1 0 m 1)) (hH0 : cJ hsl i0 = some (e5 bs p)) (hH1 : cJ hsl i1 = some cs) (hcs : NumL cs xs)
  (hdd : Go.AL.distinct [i0, i1] = true) (hm : m = xs.length) (hb : bs.length ≤ 2000) (hp : p ≤ 1000000) (h0 : 0 < xs.length) (hn : xs.length ≤ 1000000) (hM : Nat.ble (nidl + 0) fG = true) (hN : Nat.blt d N = true) {md' : Md}
  [hmd : MdA md (hG [x0, x1] ++ [.inr i0, .inr i1]) [.inr i0, .inr i1, .inl d] md']
  (kk : RW Tryz.prog N all Q md' rest ⟨(d, iv (gP bs p xs)) :: tsl, jF hsl [(i0, some (e5 bs (p + 1))), (i1, none)], nidl + 0, z0⟩) : RW Tryz.prog N all Q md (⟨some d, .call ⟨.value (.func 48), #[x0, x1], tys⟩, ty, pos, af, none⟩ :: rest) ⟨tsl, hsl, nidl, z0⟩ := by
 have h := hcs.h
 subst hm h
 exact Fq ha0 ha1 hH0 hH1 hdd (G8 bs p xs hb hp h0 hn) hM hN (hmd := hmd) kk
theorem Kb (bs : List UInt8) (hb : bs.length ≤ 1048576) : MC Tryz.prog 46 [sl cU bs] [] 0 (fun _ : Unit => True) (fun _ => .optr 0 0) (fun _ => [(0, some (e5 (bs.take 2000) 0))]) := by
 (refine cD Tryz.func46 rfl (by simp [Tryz.ntmps46]) ?_; rw [Tryz.ntmps46])
 repeat' (first|(apply aM;first|(apply aE;rfl;rfl)|(apply aR;rfl;rfl;rfl;rfl)|(apply aC;rfl;rfl)|(apply a8;rfl;rfl;rfl)|(apply aF;kernel_rfl)|(apply bV;rfl;(exact (rfl:_=some [_, _]));(exact (rfl:_=[_, _]));rfl)|(apply mT;rfl;infer_instance;rfl;rfl;(omega);rfl)|(apply b0;rfl;rfl;rfl;rfl))|(apply aN;first|apply aI|apply aB|(apply aO;rfl;all_goals intro hc;have hq:=hc;(try simp only [cF] at hq);try exfalso;omega)|apply aS|apply aQ)|with_reducible apply aA)
 ·(refine aP rfl ?_; refine bY () trivial ?_ ⟨.inr (Eq.trans (b := some _) rfl ?_), trivial⟩)
  ·rfl
  ·rfl
 ·(refine aP rfl ?_; refine bY () trivial ?_ ⟨.inr (Eq.trans (b := some _) rfl ?_), trivial⟩)
  ·rfl
  ·rw [List.take_of_length_le (by omega)]; rfl
def st (op x y n : Int) : AL.Stmt := .mk op x y n [] []
def j5 (bs : List UInt8) (p : Nat) : AL.Stmt × Nat :=
 let box := 1 + cV bs p 2
 let owner := gP bs (p + 1) [1, 2, 1, 4, 5]
 let c := cV bs (p + 1 + 1) 11
 if c = 0 then (st 1 0 0 (cV bs (p + 1 + 1 + 1) 10), p + 4)
 else if c = 1 then (st 2 box 0 (cV bs (p + 1 + 1 + 1) 10), p + 4)
 else if c = 2 then (st 3 box (3 - box) 0, p + 3)
 else if c = 3 then (st 4 3 owner 0, p + 3)
 else if c = 4 ∨ c = 5 then (st 5 4 (gP bs (p + 1 + 1 + 1) [1, 2, 1, 5]) 0, p + 4)
 else if c = 6 then (st 6 0 (gP bs (p + 1 + 1 + 1) [3, 4, 1, 2, 5]) 0, p + 4)
 else if c = 7 then (st 7 (gP bs (p + 1 + 1 + 1) [4, 1, 2, 5]) 0 0, p + 4)
 else if c = 8 then (st 8 box 0 0, p + 3)
 else (st 5 5 (gP bs (p + 1 + 1 + 1) [4, 1, 2]) 0, p + 4)
def iL (one : Nat → AL.Stmt × Nat) (s : AL.Stmt) (p : Nat) : Nat → List AL.Stmt × Nat
 | 0 => ([s], p)
 | k + 1 => ((iL one s p k).1 ++ [(one (iL one s p k).2).1], (one (iL one s p k).2).2)
def u9 (bs : List UInt8) : Nat → Nat → AL.Stmt × Nat
 | 0, p => j5 bs p
 | d + 1, p =>
  let c := cV bs (p + 1 + 1) 11
  if c = 9 then
   let r := iL (u9 bs d) (st 2 1 0 (cV bs (p + 1 + 1 + 1 + 1) 10)) (p + 1 + 1 + 1 + 1 + 1) (cV bs (p + 1 + 1 + 1) 3).toNat
   let e := j5 bs r.2
   (.mk 9 0 0 0 r.1 [e.1], e.2)
  else if c = 10 then
   let a := j5 bs (p + 1 + 1 + 1)
   let b := j5 bs a.2
   (.mk 10 0 0 0 [a.1, b.1] [], b.2)
  else j5 bs p
def fO (bs : List UInt8) (d : Int) (p : Nat) : AL.Stmt × Nat := u9 bs d.toNat p
def eV (bs : List UInt8) (d n : Int) (p : Nat) : List AL.Stmt × Nat := iL (fO bs d) (st 2 1 0 (cV bs p 10)) (p + 1) n.toNat
theorem tI (bs : List UInt8) (p : Nat) : (j5 bs p).2 ≤ p + 4 := by
 unfold j5;dsimp only;repeat' split
 all_goals omega
theorem tB (bs : List UInt8) (p : Nat) : dM (j5 bs p).1 = 1 := by
 unfold j5 st;dsimp only;repeat' split
 all_goals simp [dM, bQ]
theorem w5 {one : Nat → AL.Stmt × Nat} {c : Nat} (h : ∀ p, (one p).2 ≤ p + c) (s : AL.Stmt) (p : Nat) : ∀ k, (iL one s p k).2 ≤ p + k * c
 | 0 => by simp [iL]
 | k + 1 => by
  have := w5 h s p k
  have := h (iL one s p k).2
  simp only [iL, Nat.succ_mul]; omega
theorem x8 {one : Nat → AL.Stmt × Nat} {c : Nat} (h : ∀ p, dM (one p).1 ≤ c) (s : AL.Stmt) (p : Nat) : ∀ k, bQ (iL one s p k).1 ≤ dM s + k * c
 | 0 => by simp [iL, bQ]
 | k + 1 => by
  have := x8 h s p k
  have := h (iL one s p k).2
  simp only [iL, Nat.succ_mul, fW, bQ]; omega
def z3 : Nat → Nat
 | 0 => 4
 | d + 1 => 9 + 2 * z3 d
def Ew : Nat → Nat
 | 0 => 1
 | d + 1 => 3 + 2 * Ew d
theorem k3 (bs : List UInt8) (p : Nat) : (cV bs p 3).toNat ≤ 2 := by have := eU bs p 3; omega
theorem GL (bs : List UInt8) : ∀ d p, (u9 bs d p).2 ≤ p + z3 d
 | 0, p => tI bs p
 | d + 1, p => by
  have h0 := tI bs p
  have h1 := w5 (GL bs d) (st 2 1 0 (cV bs (p + 1 + 1 + 1 + 1) 10)) (p + 1 + 1 + 1 + 1 + 1) (cV bs (p + 1 + 1 + 1) 3).toNat
  have h2 := k3 bs (p + 1 + 1 + 1)
  have h3 : (cV bs (p + 1 + 1 + 1) 3).toNat * z3 d ≤ 2 * z3 d := Nat.mul_le_mul_right _ h2
  have h4 := tI bs (iL (u9 bs d) (st 2 1 0 (cV bs (p + 1 + 1 + 1 + 1) 10)) (p + 1 + 1 + 1 + 1 + 1) (cV bs (p + 1 + 1 + 1) 3).toNat).2
  have h5 := tI bs (p + 1 + 1 + 1)
  have h6 := tI bs (j5 bs (p + 1 + 1 + 1)).2
  have h7 : 1 ≤ z3 d := by cases d <;> simp only [z3] <;> omega
  simp only [u9, z3]
  split
  ·dsimp only;omega
  ·split
   ·dsimp only;omega
   ·omega
theorem GH (bs : List UInt8) : ∀ d p, dM (u9 bs d p).1 ≤ Ew d
 | 0, p => by rw [u9, tB]; decide
 | d + 1, p => by
  have h0 := tB bs p
  have h1 := x8 (GH bs d) (st 2 1 0 (cV bs (p + 1 + 1 + 1 + 1) 10)) (p + 1 + 1 + 1 + 1 + 1) (cV bs (p + 1 + 1 + 1) 3).toNat
  have h2 := k3 bs (p + 1 + 1 + 1)
  have h3 : (cV bs (p + 1 + 1 + 1) 3).toNat * Ew d ≤ 2 * Ew d := Nat.mul_le_mul_right _ h2
  have h4 := tB bs (iL (u9 bs d) (st 2 1 0 (cV bs (p + 1 + 1 + 1 + 1) 10)) (p + 1 + 1 + 1 + 1 + 1) (cV bs (p + 1 + 1 + 1) 3).toNat).2
  have h5 := tB bs (p + 1 + 1 + 1)
  have h6 := tB bs (j5 bs (p + 1 + 1 + 1)).2
  have h7 : dM (st 2 1 0 (cV bs (p + 1 + 1 + 1 + 1) 10)) = 1 := by simp [st, dM, bQ]
  simp only [u9, Ew]
  split
  ·simp only [dM, bQ]; omega
  ·split
   ·simp only [dM, bQ]; omega
   ·omega
theorem EY (bs : List UInt8) {d : Int} (h : d ≤ 2) (p : Nat) : (fO bs d p).2 ≤ p + 43 := by
 have h1 := GL bs d.toNat p
 have h2 : z3 d.toNat ≤ 43 := by
  have : d.toNat = 0 ∨ d.toNat = 1 ∨ d.toNat = 2 := by omega
  rcases this with h|h|h <;> rw [h] <;> decide
 exact Nat.le_trans h1 (by omega)
theorem Kl (bs : List UInt8) {d : Int} (h : d ≤ 2) (p : Nat) : dM (fO bs d p).1 ≤ 13 := by
 have h1 := GH bs d.toNat p
 have h2 : Ew d.toNat ≤ 13 := by
  have : d.toNat = 0 ∨ d.toNat = 1 ∨ d.toNat = 2 := by omega
  rcases this with h|h|h <;> rw [h] <;> decide
 exact Nat.le_trans h1 h2
theorem vJ {one : Nat → AL.Stmt × Nat} (s : AL.Stmt) (p : Nat) : ∀ k, (iL one s p k).1.length = k + 1
 | 0 => rfl
 | k + 1 => by simp only [iL, List.length_append, vJ s p k, List.length_cons, List.length_nil]
theorem Em (bs : List UInt8) (d : Int) (n p : Nat) : (eV bs d (n : Int) p).1.length = n + 1 := vJ _ _ _
theorem H6 (bs : List UInt8) (d : Int) (k p : Nat) : eV bs d ((k + 1 : Nat) : Int) p = ((eV bs d (k : Int) p).1 ++ [(fO bs d (eV bs d (k : Int) p).2).1], (fO bs d (eV bs d (k : Int) p).2).2) := rfl
theorem gV {xs : List AL.Stmt} {m : Nat} {s : AL.Stmt} (hm : m = xs.length) : ((aH aV xs).drop 0).take (m * 6) ++ [iv s.op, iv s.x, iv s.y, iv s.n, sl aV s.th, sl aV s.el] = aH aV (xs ++ [s]) := gS hm (dJ s).symm
def Mv (s : AL.Stmt) (a : Int) : AL.Stmt := .mk a s.x s.y s.n s.th s.el
def uX (s : AL.Stmt) (a : Int) : AL.Stmt := .mk s.op a s.y s.n s.th s.el
def uY (s : AL.Stmt) (a : Int) : AL.Stmt := .mk s.op s.x a s.n s.th s.el
def uN (s : AL.Stmt) (a : Int) : AL.Stmt := .mk s.op s.x s.y a s.th s.el
theorem KE {xs : List AL.Stmt} {k : Nat} {a : Int} (hk : k < xs.length) : iJ (aH aV xs) (0 + k * 6 + 0) [iv a] = aH aV (xs.set k (Mv xs[k]! a)) := fH hk (by simp) (by rw [dJ, dJ]; rfl)
theorem Ja {xs : List AL.Stmt} {k : Nat} {a : Int} (hk : k < xs.length) : iJ (aH aV xs) (0 + k * 6 + 1) [iv a] = aH aV (xs.set k (uX xs[k]! a)) := fH hk (by simp) (by rw [dJ, dJ]; rfl)
theorem I8 {xs : List AL.Stmt} {k : Nat} {a : Int} (hk : k < xs.length) : iJ (aH aV xs) (0 + k * 6 + 2) [iv a] = aH aV (xs.set k (uY xs[k]! a)) := fH hk (by simp) (by rw [dJ, dJ]; rfl)
theorem Lm {xs : List AL.Stmt} {k : Nat} {a : Int} (hk : k < xs.length) : iJ (aH aV xs) (0 + k * 6 + 3) [iv a] = aH aV (xs.set k (uN xs[k]! a)) := fH hk (by simp) (by rw [dJ, dJ]; rfl)
theorem xJ (bs : List UInt8) {d : Int} (h : d ≤ 2) (n : Int) (p : Nat) : (eV bs d n p).2 ≤ p + 1 + n.toNat * 43 := w5 (EY bs h) _ _ _
theorem HM (bs : List UInt8) {d : Int} (h : d ≤ 2) (n : Int) (p : Nat) : bQ (eV bs d n p).1 ≤ 1 + n.toNat * 13 := by
 have h7 : dM (st 2 1 0 (cV bs p 10)) = 1 := by simp [st, dM, bQ]
 have := x8 (Kl bs h) (st 2 1 0 (cV bs p 10)) (p + 1) n.toNat
 rw [h7] at this
 exact this
theorem Ca (bs : List UInt8) {d : Int} (h : 0 < d) (p : Nat) : fO bs d p = 
  let c := cV bs (p + 1 + 1) 11
  if c = 9 then
   let r := eV bs (d - 1) (cV bs (p + 1 + 1 + 1) 3) (p + 1 + 1 + 1 + 1)
   let e := fO bs 0 r.2
   (.mk 9 0 0 0 r.1 [e.1], e.2)
  else if c = 10 then
   let a := fO bs 0 (p + 1 + 1 + 1)
   let b := fO bs 0 a.2
   (.mk 10 0 0 0 [a.1, b.1] [], b.2)
  else j5 bs p := by
 have : d.toNat = (d - 1).toNat + 1 := by omega
 simp only [fO, this, u9, eV]
 rfl
theorem L0 (s : AL.Stmt) : aH aV [s] = [iv s.op, iv s.x, iv s.y, iv s.n, sl aV s.th, sl aV s.el] := by simp [aH, dJ]
theorem Lu (s t : AL.Stmt) : aH aV [s, t] = [iv s.op, iv s.x, iv s.y, iv s.n, sl aV s.th, sl aV s.el, iv t.op, iv t.x, iv t.y, iv t.n, sl aV t.th, sl aV t.el] := by simp [aH, dJ]
theorem Kn (bs : List UInt8) {d : Int} (h0 : 0 ≤ d) (p : Nat) (h : ¬ 0 < d ∨ (cV bs (p + 1 + 1) 11 ≠ 9 ∧ cV bs (p + 1 + 1) 11 ≠ 10)) : fO bs d p = j5 bs p := by
 by_cases hd : 0 < d
 ·rw [Ca bs hd p]
  dsimp only
  rw [if_neg (by omega), if_neg (by omega)]
 ·have : d = 0 := by omega
  subst this;rfl
theorem J8 (bs : List UInt8) {d : Int} (hd : 0 < d) (p : Nat) (h : cV bs (p + 1 + 1) 11 = 9) : fO bs d p = (.mk 9 0 0 0 (eV bs (d - 1) (cV bs (p + 1 + 1 + 1) 3) (p + 1 + 1 + 1 + 1)).1 [(fO bs 0 (eV bs (d - 1) (cV bs (p + 1 + 1 + 1) 3) (p + 1 + 1 + 1 + 1)).2).1], (fO bs 0 (eV bs (d - 1) (cV bs (p + 1 + 1 + 1) 3) (p + 1 + 1 + 1 + 1)).2).2) := by
 rw [Ca bs hd p]
 dsimp only
 rw [if_pos h]
theorem IC (bs : List UInt8) {d : Int} (hd : 0 < d) (p : Nat) (h : cV bs (p + 1 + 1) 11 = 10) : fO bs d p = (.mk 10 0 0 0 [(fO bs 0 (p + 1 + 1 + 1)).1, (fO bs 0 (fO bs 0 (p + 1 + 1 + 1)).2).1] [], (fO bs 0 (fO bs 0 (p + 1 + 1 + 1)).2).2) := by
 rw [Ca bs hd p]
 dsimp only
 rw [if_neg (by omega), if_pos h]
theorem zD {bs : List UInt8} {p : Nat} {ts : List Int} {dp : Int} {N : Nat} {Q : Exit → AS → Prop} {all : Array Oper} {rest : List Oper} {tsl : List (Nat × AV)} {hsl : List (Nat × Option (List AV))} {nidl : Nat} {z0 : Lo} {md : Md} {d : Nat} {ty : TypeId} {pos : String} {af : Array Edge} {tys : Array TypeId} {x0 x1 x2 : Operand} {i0 : Nat} (ha0 : ev (lk tsl) x0 = some (.optr i0 0)) (ha1 : ev (lk tsl) x1 = some (sl cI ts)) (ha2 : ev (lk tsl) x2 = some (iv dp)) (hH0 : cJ hsl i0 = some (e5 bs p)) (hmc : MC Tryz.prog 164 [.optr 0 0, sl cI ts, iv dp] [(0, some (e5 bs p))] 1 (fun _ : Unit => True) (fun _ => eZ (fO bs dp p).1) (fun _ => [(0, some (e5 bs (fO bs dp p).2))])) (hM : Nat.ble (nidl + 0) fG = true) (hN : Nat.blt d N = true) {md' : Md} [hmd : MdA md (hG [x0, x1, x2] ++ [.inr i0]) (List.map Sum.inr (List.map Prod.fst ([(i0, some (e5 bs (fO bs dp p).2))] : List (Nat × Option (List AV)))) ++ [.inl d]) md'] (kk : RW Tryz.prog N all Q md' rest ⟨(d, eZ (fO bs dp p).1) :: tsl, jF hsl [(i0, some (e5 bs (fO bs dp p).2))], nidl + 0, z0⟩) : RW Tryz.prog N all Q md (⟨some d, .call ⟨.value (.func 164), #[x0, x1, x2], tys⟩, ty, pos, af, none⟩ :: rest) ⟨tsl, hsl, nidl, z0⟩ := by
 refine cM [i0] 1 [(i0, some (e5 bs (fO bs dp p).2))] hmc (avs := [.optr i0 0, sl cI ts, iv dp]) ?_ rfl ?_ rfl ?_ (by simpa using hM) ?_ ?_ ?_ hN (md' := md') (hmd := hmd) kk
 ·show evL (lk tsl) [x0, x1, x2] = _
  simp only [evL, ha0, ha1, ha2]
 ·exact ⟨⟨_, _, rfl, hH0, by (repeat' (exact RnL.purI inferInstance))⟩, trivial⟩
 ·(repeat' (first|exact RnL.purI inferInstance|exact RnV.optr rfl|refine RnL.cons ?_ ?_))
 ·(repeat' (exact RnV.purI inferInstance))
 ·simp [eA]
 ·(repeat' (first|exact trivial|(refine And.intro ⟨0, _, rfl, rfl, ?_⟩ ?_)|exact RnL.purI inferInstance))
theorem vO {bs : List UInt8} {p : Nat} {ts : List Int} {dp cn : Int} {N : Nat} {Q : Exit → AS → Prop} {all : Array Oper} {rest : List Oper} {tsl : List (Nat × AV)} {hsl : List (Nat × Option (List AV))} {nidl : Nat} {z0 : Lo} {md : Md} {d : Nat} {ty : TypeId} {pos : String} {af : Array Edge} {tys : Array TypeId} {x0 x1 x2 x3 : Operand} {i0 : Nat} (ha0 : ev (lk tsl) x0 = some (.optr i0 0)) (ha1 : ev (lk tsl) x1 = some (sl cI ts)) (ha2 : ev (lk tsl) x2 = some (iv dp)) (ha3 : ev (lk tsl) x3 = some (iv cn)) (hH0 : cJ hsl i0 = some (e5 bs p)) (hmc : MC Tryz.prog 123 [.optr 0 0, sl cI ts, iv dp, iv cn] [(0, some (e5 bs p))] 1 (fun _ : Unit => True) (fun _ => sl aV (eV bs dp cn p).1) (fun _ => [(0, some (e5 bs (eV bs dp cn p).2))])) (hM : Nat.ble (nidl + 0) fG = true) (hN : Nat.blt d N = true) {md' : Md} [hmd : MdA md (hG [x0, x1, x2, x3] ++ [.inr i0]) (List.map Sum.inr (List.map Prod.fst ([(i0, some (e5 bs (eV bs dp cn p).2))] : List (Nat × Option (List AV)))) ++ [.inl d]) md'] (kk : RW Tryz.prog N all Q md' rest ⟨(d, sl aV (eV bs dp cn p).1) :: tsl, jF hsl [(i0, some (e5 bs (eV bs dp cn p).2))], nidl + 0, z0⟩) : RW Tryz.prog N all Q md (⟨some d, .call ⟨.value (.func 123), #[x0, x1, x2, x3], tys⟩, ty, pos, af, none⟩ :: rest) ⟨tsl, hsl, nidl, z0⟩ := by
 refine cM [i0] 1 [(i0, some (e5 bs (eV bs dp cn p).2))] hmc (avs := [.optr i0 0, sl cI ts, iv dp, iv cn]) ?_ rfl ?_ rfl ?_ (by simpa using hM) ?_ ?_ ?_ hN (md' := md') (hmd := hmd) kk
 ·show evL (lk tsl) [x0, x1, x2, x3] = _
  simp only [evL, ha0, ha1, ha2, ha3]
 ·exact ⟨⟨_, _, rfl, hH0, by (repeat' (exact RnL.purI inferInstance))⟩, trivial⟩
 ·(repeat' (first|exact RnL.purI inferInstance|exact RnV.optr rfl|refine RnL.cons ?_ ?_))
 ·(repeat' (exact RnV.purI inferInstance))
 ·simp [eA]
 ·(repeat' (first|exact trivial|(refine And.intro ⟨0, _, rfl, rfl, ?_⟩ ?_)|exact RnL.purI inferInstance))
attribute [local irreducible] cV
theorem zZ (D : Int) (hD0 : 0 ≤ D) (hD : D ≤ 2) (l1One_ih : ∀ bs p ts, 0 < D → bs.length ≤ 2000 → p ≤ 900000 → ∀ dp : Int, dp = 0 → MC Tryz.prog 164 [.optr 0 0, sl cI ts, iv dp] [(0, some (e5 bs p))] 1 (fun _ : Unit => True) (fun _ => eZ (fO bs dp p).1) (fun _ => [(0, some (e5 bs (fO bs dp p).2))])) (l1Some_ih : ∀ bs (p : Nat) ts cn, 0 < D → bs.length ≤ 2000 → (p : Int) ≤ 850000 - 100000 * (D - 1) → 0 ≤ cn → cn ≤ 2 → ∀ dp : Int, dp = D - 1 → MC Tryz.prog 123 [.optr 0 0, sl cI ts, iv dp, iv cn] [(0, some (e5 bs p))] 1 (fun _ : Unit => True) (fun _ => sl aV (eV bs dp cn p).1) (fun _ => [(0, some (e5 bs (eV bs dp cn p).2))])) (bs : List UInt8) (p : Nat) (ts : List Int) (dp : Int) (hd : dp = D) (hb : bs.length ≤ 2000) (hp : (p : Int) ≤ 900000 - 100000 * D) : MC Tryz.prog 164 [.optr 0 0, sl cI ts, iv dp] [(0, some (e5 bs p))] 1 (fun _ : Unit => True) (fun _ => eZ (fO bs dp p).1) (fun _ => [(0, some (e5 bs (fO bs dp p).2))]) := by
 subst hd
 have h0 := eU bs p 2
 have h2 := eU bs (p + 1 + 1) 11
 have h3 := eU bs (p + 1 + 1 + 1) 3
 have h3' := k3 bs (p + 1 + 1 + 1)
 have h4 := EY bs (d := 0) (by omega) (p + 1 + 1 + 1)
 have h5 := xJ bs (d := dp - 1) (by omega) (cV bs (p + 1 + 1 + 1) 3) (p + 1 + 1 + 1 + 1)
 have h6 : (cV bs (p + 1 + 1 + 1) 3).toNat * 43 ≤ 2 * 43 := Nat.mul_le_mul_right _ h3'
 (refine cD Tryz.func164 rfl (by simp [Tryz.ntmps164]) ?_; rw [Tryz.ntmps164])
 repeat' (first|(apply aM;first|(apply aE;rfl;rfl)|(first|(apply bU;rfl;rfl;omega;rfl)|(apply fU;rfl;rfl;omega;rfl)|(apply aR;rfl;rfl;rfl;rfl))|(apply aC;rfl;rfl)|(first|(apply iB;rfl;rfl;(rfl);(apply kD <;> (first|assumption|omega));rfl;rfl)|(apply Bx;rfl;rfl;infer_instance;rfl;(rfl);assumption;omega;(decide);(decide);rfl;rfl)|(apply vO;rfl;rfl;rfl;rfl;(rfl);(apply l1Some_ih <;> (first|assumption|omega));rfl;rfl)|(apply zD;rfl;rfl;rfl;(rfl);(apply l1One_ih <;> (first|assumption|omega));rfl;rfl))|(apply aF;kernel_rfl)|(apply bV;rfl;(exact (rfl:_=some [_, _, _, _, _, _]));(exact (rfl:_=[_, _, _, _, _, _]));rfl)|(apply bE;rfl;rfl)|((apply bS (t := _));(case hze|hsm|hl => rfl);(case hfl => (first|exact (rfl:_=some [_, _, _])|exact (rfl:_=some [_, _, _, _])|exact (rfl:_=some [_, _, _, _, _])|exact (rfl:_=some [_, _, _, _, _, _])|rfl));(case hM|hN => rfl))|(apply aW;rfl;rfl;rfl;rfl;rfl;(case hl => (simp;done));(exact (rfl:_=[_, _, _, _, _, _]))))|(apply aN;first|apply aI|apply aB|(apply bZ;rfl;(assumption))|(apply aO;rfl;all_goals intro hc;have hq:=hc;(try simp only [cF] at hq);try exfalso;omega)|apply aK|apply aS|apply aQ)|with_reducible apply aA|with_reducible apply bK|with_reducible apply aX|with_reducible apply cT)
 all_goals try (refine aP rfl ?_; refine bY () trivial ?_ ⟨.inr (Eq.trans (b := some _) rfl ?_), trivial⟩)
 all_goals try (rw [Kn bs hD0 p (by omega)]; unfold j5; dsimp only; repeat' split
                all_goals (first|rfl|(exfalso;omega));done)
 iterate 2
  rewrite [J8 bs (d := dp) (by assumption) p (by assumption)]
  first|rfl|(refine Eq.trans (b := AV.agg [_, _, _, _, _, AV.imm 1 (aH aV [_])]) ?_ rfl;rw [L0]; rfl)
 iterate 2
  rewrite [IC bs (d := dp) (by omega) p (by omega)]
  first|rfl|(refine Eq.trans (b := AV.agg [_, _, _, _, AV.imm 2 (aH aV [_, _]), _]) ?_ rfl;rw [Lu]; rfl)
theorem wW (D : Int) (hD0 : 0 ≤ D) (hD : D ≤ 2) (l1One_ih : ∀ bs (p : Nat) ts, bs.length ≤ 2000 → (p : Int) ≤ 900000 - 100000 * D → ∀ dp : Int, dp = D → MC Tryz.prog 164 [.optr 0 0, sl cI ts, iv dp] [(0, some (e5 bs p))] 1 (fun _ : Unit => True) (fun _ => eZ (fO bs dp p).1) (fun _ => [(0, some (e5 bs (fO bs dp p).2))])) (bs : List UInt8) (p : Nat) (ts : List Int) (dp : Int) (hd : dp = D) (cn : Int) (hb : bs.length ≤ 2000) (hp : (p : Int) ≤ 850000 - 100000 * D) (hc0 : 0 ≤ cn) (hc : cn ≤ 8) : MC Tryz.prog 123 [.optr 0 0, sl cI ts, iv dp, iv cn] [(0, some (e5 bs p))] 1 (fun _ : Unit => True) (fun _ => sl aV (eV bs dp cn p).1) (fun _ => [(0, some (e5 bs (eV bs dp cn p).2))]) := by
 subst hd
 (refine cD Tryz.func123 rfl (by simp [Tryz.ntmps123]) ?_; rw [Tryz.ntmps123])
 repeat' (first|(apply aM;first|(apply aE;rfl;rfl)|(apply aC;rfl;rfl)|(apply iB;rfl;rfl;(rfl);(apply kD <;> (first|assumption|omega));rfl;rfl)|(apply aF;kernel_rfl)|(apply bV;rfl;(exact (rfl:_=some [_, _, _, _, _, _]));(exact (rfl:_=[_, _, _, _, _, _]));rfl)|(apply cG;rfl;rfl;rfl;(exact (rfl:_=some [_, _, _, _, _, _]));rfl;rfl))|(apply aN;first|apply aI|apply aB|apply aK)|with_reducible apply aA)
 refine bC (σ := Nat × List AL.Stmt × Nat) [0, 1, 2, 3] [(0, _), (1, _), (2, _), (3, _)] [] [] (fun k => [(10, iv (k.1 : Int)), (9, .own 1 0 (k.1 + 1) 6)]) (fun k => [(0, some (e5 bs k.2.2)), (1, some (aH aV k.2.1))]) (fun k => (k.1 : Int) ≤ cn ∧ k.2 = eV bs dp (k.1 : Int) p) (fun k => cn.toNat - k.1) (0, [st 2 1 0 (cV bs p 10)], p + 1) ⟨by omega, rfl⟩ rfl rfl (by repeat' (first|exact trivial|refine And.intro rfl ?_)) (by repeat' (first|exact trivial|refine And.intro (.inr rfl) ?_)) ?_
 rintro ⟨k, xs, q⟩ ⟨hk, hse⟩
 dsimp only at hk hse ⊢
 have hp2 := xJ bs (d := dp) (by omega) (k : Int) p
 have hkk : (k : Int).toNat * 43 ≤ 8 * 43 := Nat.mul_le_mul_right _ (by omega)
 have hln := Em bs dp k p
 rw [← hse] at hp2 hln
 dsimp only at hp2 hln
 repeat' (first|(apply aM;first|(apply aE;rfl;rfl)|(first|(apply bU;rfl;rfl;omega;rfl)|(apply aR;rfl;rfl;rfl;rfl))|(apply aC;rfl;rfl)|(apply zD;rfl;rfl;rfl;(rfl);(apply l1One_ih <;> (first|assumption|omega));rfl;rfl)|(apply cH;rfl;rfl;rfl;rfl;rfl;(rw [aT]; omega);(rfl);omega;omega;(exact gV (by (omega)));rfl;rfl)|(apply aF;kernel_rfl)|((apply bS (t := _));(case hze|hsm|hl => rfl);(case hfl => (exact (rfl:_=some [_, _, _, _, _, _])));(case hM|hN => rfl)))|(apply aN;first|apply aI|apply aB|(apply aO;rfl;all_goals intro hc;have hq:=hc;(try simp only [cF] at hq);try exfalso;omega)|apply aK|apply aS|apply bI|apply aQ)|with_reducible apply aA|with_reducible apply bJ|with_reducible apply aX|with_reducible apply bH)
 ·(apply dW (k + 1, _, _); focus (refine Le.ren [(1, 3)] rfl (by decide) ?_ ?_ <;> repeat' (first | exact trivial | refine And.intro ⟨_, rfl, ?_⟩ ?_ | refine And.intro ⟨_, _, rfl, rfl, ?_⟩ ?_ | exact Or.inr rfl | refine Or.inl ⟨?_, (by first | rfl | exact aZ _ _ | exact Pur.pf)⟩ | rfl)))
  ·dsimp only
   refine ⟨by omega, ?_⟩
   rw [H6, ← hse]
  ·dsimp only;omega
 ·have hke : (k : Int) = cn := by omega
  rw [hke] at hse
  (refine cE (Le.frzD (d := 8) (i := 1) rfl rfl) ?_; refine aP rfl ?_)
  refine bY () trivial ?_ ⟨.inr (Eq.trans (b := some _) rfl ?_), trivial⟩
  ·rw [← hse]; show AV.imm (k + 1) (aH aV xs) = AV.imm xs.length (aH aV xs)
   rw [hln]
  ·rw [← hse]
theorem nQ : ∀ D : Nat, D ≤ 2 → (∀ bs (p : Nat) ts, bs.length ≤ 2000 → (p : Int) ≤ 900000 - 100000 * (D : Int) → ∀ dp : Int, dp = (D : Int) → MC Tryz.prog 164 [.optr 0 0, sl cI ts, iv dp] [(0, some (e5 bs p))] 1 (fun _ : Unit => True) (fun _ => eZ (fO bs dp p).1) (fun _ => [(0, some (e5 bs (fO bs dp p).2))])) ∧ (∀ bs (p : Nat) ts (cn : Int), bs.length ≤ 2000 → (p : Int) ≤ 850000 - 100000 * (D : Int) → 0 ≤ cn → cn ≤ 8 → ∀ dp : Int, dp = (D : Int) → MC Tryz.prog 123 [.optr 0 0, sl cI ts, iv dp, iv cn] [(0, some (e5 bs p))] 1 (fun _ : Unit => True) (fun _ => sl aV (eV bs dp cn p).1) (fun _ => [(0, some (e5 bs (eV bs dp cn p).2))]))
 | 0, _ => by
  have h1 : ∀ bs (p : Nat) ts, bs.length ≤ 2000 → (p : Int) ≤ 900000 - 100000 * ((0 : Nat) : Int) → ∀ dp : Int, dp = ((0 : Nat) : Int) → MC Tryz.prog 164 [.optr 0 0, sl cI ts, iv dp] [(0, some (e5 bs p))] 1 (fun _ : Unit => True) (fun _ => eZ (fO bs dp p).1) (fun _ => [(0, some (e5 bs (fO bs dp p).2))]) :=
   fun bs p ts hb hp dp hd => zZ ((0 : Nat) : Int) (by omega) (by omega) (fun _ _ _ h => by omega) (fun _ _ _ _ h => by omega) bs p ts dp hd hb hp
  exact ⟨h1, fun bs p ts cn hb hp h0 h8 dp hd => wW ((0 : Nat) : Int) (by omega) (by omega) h1 bs p ts dp hd cn hb hp h0 h8⟩
 | D + 1, hD => by
  have ih := nQ D (by omega)
  have i0 := nQ 0 (by omega)
  have h1 : ∀ bs (p : Nat) ts, bs.length ≤ 2000 → (p : Int) ≤ 900000 - 100000 * ((D + 1 : Nat) : Int) → ∀ dp : Int, dp = ((D + 1 : Nat) : Int) → MC Tryz.prog 164 [.optr 0 0, sl cI ts, iv dp] [(0, some (e5 bs p))] 1 (fun _ : Unit => True) (fun _ => eZ (fO bs dp p).1) (fun _ => [(0, some (e5 bs (fO bs dp p).2))]) :=
   fun bs p ts hb hp dp hd => zZ ((D + 1 : Nat) : Int) (by omega) (by omega) (fun bs p ts _ hb hp dp hd => i0.1 bs p ts hb (by omega) dp (by omega)) (fun bs p ts cn _ hb hp h0 h2 dp hd => ih.2 bs p ts cn hb (by omega) h0 (by omega) dp (by omega)) bs p ts dp hd hb hp
  exact ⟨h1, fun bs p ts cn hb hp h0 h8 dp hd => wW ((D + 1 : Nat) : Int) (by omega) (by omega) h1 bs p ts dp hd cn hb hp h0 h8⟩
theorem GQ (bs : List UInt8) (p : Nat) (ts : List Int) (dp cn : Int) (hb : bs.length ≤ 2000) (hp : p ≤ 600000) (h0 : 0 ≤ cn) (h8 : cn ≤ 8) (hd0 : 0 ≤ dp) (hd : dp ≤ 2) : MC Tryz.prog 123 [.optr 0 0, sl cI ts, iv dp, iv cn] [(0, some (e5 bs p))] 1 (fun _ : Unit => True) (fun _ => sl aV (eV bs dp cn p).1) (fun _ => [(0, some (e5 bs (eV bs dp cn p).2))]) :=
 (nQ dp.toNat (by omega)).2 bs p ts cn hb (by omega) h0 h8 dp (by omega)
end Go.Proofs.YtjcpngimjdckmaaGreat
namespace Go.Proofs.YtjcpngimjdckmaaGreat
open Go.AL Go.RowKit
theorem CH {w : World} {bad : Nat → Prop} {ι : Pl} : ∀ {cs cs' : List AV}, All2 (fun c c' => c' = c ∨ c' = qC c) cs cs' → ∀ {b β : Nat}, RdC w bad ι cs b β → RdC w bad ι cs' b β
 | _, _, .nil, _, _, h => h
 | _, _, .cons h1 h2, b, β, h => by
  simp only [RdC] at h ⊢
  obtain ⟨⟨x, q1, q2, q3⟩, q4⟩ := h
  refine ⟨⟨x, q1, q2, ?_⟩, CH h2 q4⟩
  rcases h1 with rfl|rfl
  ·exact q3
  ·exact nU q3
theorem De : ∀ (l : List AV) {a b : List AV}, All2 (fun c c' => c' = c ∨ c' = qC c) a b → All2 (fun c c' => c' = c ∨ c' = qC c) (l ++ a) (l ++ b)
 | [], _, _, h => h
 | _ :: l, _, _, h => .cons (.inl rfl) (De l h)
theorem pF {α : Type} {p q : α → Prop} {F : α → AS} {s s' : AS} (L : Le s s') (h : ∃ j, p j ∧ q j ∧ Le s' (F j)) : ∃ j, p j ∧ q j ∧ Le s (F j) := by
 obtain ⟨j, h1, h2, h3⟩ := h
 exact ⟨j, h1, h2, L.trans h3⟩
theorem Le.stmtN {ts : List (Nat × AV)} {hs : List (Nat × Option (List AV))} {n i : Nat} {z0 : Lo} {xs : List AL.Stmt} (s : AL.Stmt) {m : Nat} {a b : AV} (hm : m = xs.length)
  (ha : a = sl aV s.th ∨ (a = .v (.slice none 0 0) ∧ s.th = [])) (hb : b = sl aV s.el ∨ (b = .v (.slice none 0 0) ∧ s.el = []))
  (hi : cJ hs i = some (((aH aV xs).drop 0).take (m * 6) ++ List.take (1 * 6) [iv s.op, iv s.x, iv s.y, iv s.n, a, b])) : Le ⟨ts, hs, n, z0⟩ ⟨ts, (i, some (aH aV (xs ++ [s]))) :: hs, n, z0⟩ := by
 have e : aH aV (xs ++ [s]) = ((aH aV xs).drop 0).take (m * 6) ++ [iv s.op, iv s.x, iv s.y, iv s.n, sl aV s.th, sl aV s.el] := (gV hm).symm
 have k : All2 (fun c c' => c' = c ∨ c' = qC c) (((aH aV xs).drop 0).take (m * 6) ++ List.take (1 * 6) [iv s.op, iv s.x, iv s.y, iv s.n, a, b]) (aH aV (xs ++ [s])) := by
  rw [e]
  refine De _ (.cons (.inl rfl) (.cons (.inl rfl) (.cons (.inl rfl) (.cons (.inl rfl) (.cons ?_ (.cons ?_ .nil))))))
  ·rcases ha with h | ⟨h, h2⟩
   ·exact .inl h.symm
   ·refine .inr ?_; rw [h2, h]; rfl
  ·rcases hb with h | ⟨h, h2⟩
   ·exact .inl h.symm
   ·refine .inr ?_; rw [h2, h]; rfl
 refine Le.cells hi ?_ fun w bad ι b β h => CH k h
 rw [e]; simp
theorem Cz (mm : Nat) (hmm : mm ≤ 1000000) (copy_ih : ∀ l, bQ l < mm → PC Tryz.prog 72 [sl aV l] (fun r => r = sl aV l)) (l : List AL.Stmt) (hs : bQ l ≤ mm) : PC Tryz.prog 72 [sl aV l] (fun r => r = sl aV l) := by
 have hlen := dI l
 (refine aU Tryz.func72 rfl (by simp [Tryz.ntmps72]) ?_; rw [Tryz.ntmps72])
 repeat' (first|(apply aM;first|(apply aC;rfl;rfl)|(apply aF;kernel_rfl)|(apply cG;rfl;rfl;rfl;(rfl);rfl;rfl))|(apply aN;first|apply aI|apply aB|apply aK)|with_reducible apply aA)
 refine bC (σ := Nat × List AL.Stmt) [0] [(0, _)] [] [] (fun k => [(4, iv (k.1 : Int)), (3, .own 0 0 k.1 6)]) (fun k => [(0, some (aH aV k.2))]) (fun k => k.1 ≤ l.length ∧ k.2 = l.take k.1) (fun k => l.length - k.1) (0, []) ⟨by omega, rfl⟩ rfl rfl (by repeat' (first|exact trivial|refine And.intro rfl ?_)) (by repeat' (first|exact trivial|refine And.intro (.inr rfl) ?_)) ?_
 rintro ⟨k, xs⟩ ⟨hk, hxs⟩
 dsimp only at hk hxs ⊢
 have hck := eS l k
 have hct := gB l[k]!
 have hln : xs.length = k := by rw [hxs, List.length_take]; omega
 repeat' (first|(apply aM;first|(apply aE;rfl;rfl)|(first|(apply aL;rfl;rfl;rfl;rfl)|(apply aY;rfl;rfl;(exact (rfl:_=[_, _, _, _, _, _]));rfl;rfl;rfl))|(apply aD;rfl;rfl;rfl)|(first|(apply bU;rfl;rfl;omega;rfl)|(apply aR;rfl;rfl;rfl;rfl))|(apply aC;rfl;rfl)|(apply a7;(case hx|hi => rfl);(case hm => (omega));(case hml => (rfl));(case hα | hf|hg => infer_instance);(case hN => rfl))|((with_reducible apply aJ (k := 72));(case ha => rfl);(case h => (apply copy_ih <;> (omega)));(case hp => (exact Pur.pf));(case hN => rfl))|(first|(apply a8;rfl;rfl;rfl)|(apply cH;rfl;rfl;rfl;rfl;rfl;(rw [aT]; omega);(rfl);omega;omega;(first|exact gV (by (omega))|rfl);rfl;rfl))|(apply aF;kernel_rfl)|(apply bE;rfl;rfl)|((apply bS (t := _));(case hze|hsm|hl => rfl);(case hfl => (exact (rfl:_=some [_, _, _, _, _, _])));(case hM|hN => rfl))|(apply aW;rfl;rfl;rfl;rfl;rfl;(case hl => (simp;done));(exact (rfl:_=[_, _, _, _, _, _]))))|(apply aN;first|apply aI|apply aB|(apply aO;rfl;all_goals intro hc;have hq:=hc;(try simp only [cF] at hq);try exfalso;omega)|apply aK|apply aS|apply bI|apply aQ)|with_reducible apply aA|with_reducible apply bJ|with_reducible apply aX|with_reducible apply bH)
 ·(apply dW (k + 1, _); focus (refine Le.ren [(0, 3)] rfl (by decide) ?_ ?_ <;> repeat' (first | exact trivial | refine And.intro ⟨_, rfl, ?_⟩ ?_ | refine And.intro ⟨_, _, rfl, rfl, ?_⟩ ?_ | exact Or.inr rfl | refine Or.inl ⟨?_, (by first | rfl | exact aZ _ _)⟩ | rfl)))
  ·exact ⟨by dsimp only;omega, by dsimp only;rw [hxs, cY l k (by omega)]⟩
  ·dsimp only;omega
 ·have hel : l[k]!.el = [] := List.eq_nil_of_length_eq_zero (by omega)
  refine pF (Le.stmtN (i := 3) l[k]! hln.symm (.inl rfl) (.inr ⟨rfl, hel⟩) rfl) ?_
  (apply dW (k + 1, _);focus (refine Le.ren [(0, 3)] rfl (by decide) ?_ ?_ <;> repeat' (first|exact trivial|refine And.intro ⟨_, rfl, ?_⟩ ?_|refine And.intro ⟨_, _, rfl, rfl, ?_⟩ ?_|exact Or.inr rfl|refine Or.inl ⟨?_, (by first|rfl|exact aZ _ _)⟩|rfl)))
  ·exact ⟨by dsimp only;omega, by dsimp only;rw [hxs, cY l k (by omega)]⟩
  ·dsimp only;omega
 ·have hth : l[k]!.th = [] := List.eq_nil_of_length_eq_zero (by omega)
  refine pF (Le.stmtN (i := 3) l[k]! hln.symm (.inr ⟨rfl, hth⟩) (.inl rfl) rfl) ?_
  (apply dW (k + 1, _);focus (refine Le.ren [(0, 3)] rfl (by decide) ?_ ?_ <;> repeat' (first|exact trivial|refine And.intro ⟨_, rfl, ?_⟩ ?_|refine And.intro ⟨_, _, rfl, rfl, ?_⟩ ?_|exact Or.inr rfl|refine Or.inl ⟨?_, (by first|rfl|exact aZ _ _)⟩|rfl)))
  ·exact ⟨by dsimp only;omega, by dsimp only;rw [hxs, cY l k (by omega)]⟩
  ·dsimp only;omega
 ·have hth : l[k]!.th = [] := List.eq_nil_of_length_eq_zero (by omega)
  have hel : l[k]!.el = [] := List.eq_nil_of_length_eq_zero (by omega)
  refine pF (Le.stmtN (i := 3) l[k]! hln.symm (.inr ⟨rfl, hth⟩) (.inr ⟨rfl, hel⟩) rfl) ?_
  (apply dW (k + 1, _);focus (refine Le.ren [(0, 3)] rfl (by decide) ?_ ?_ <;> repeat' (first|exact trivial|refine And.intro ⟨_, rfl, ?_⟩ ?_|refine And.intro ⟨_, _, rfl, rfl, ?_⟩ ?_|exact Or.inr rfl|refine Or.inl ⟨?_, (by first|rfl|exact aZ _ _)⟩|rfl)))
  ·exact ⟨by dsimp only;omega, by dsimp only;rw [hxs, cY l k (by omega)]⟩
  ·dsimp only;omega
 ·have hke : k = l.length := by omega
  (refine cE (Le.frzD (d := 2) (i := 0) rfl rfl) ?_; refine aP rfl ?_)
  refine ⟨?_, Pur.pf⟩
  rw [hxs, hke, List.take_length]; rfl
theorem B6 (l : List AL.Stmt) (hb : bQ l ≤ 1000000) : PC Tryz.prog 72 [sl aV l] (fun r => r = sl aV l) := by
 have key : ∀ m, m ≤ 1000000 → ∀ l, bQ l ≤ m → PC Tryz.prog 72 [sl aV l] (fun r => r = sl aV l) := by
  intro m
  induction m with
  | zero => intro hm l hl;exact Cz 0 hm (fun l h => by omega) l hl
  | succ m ih => intro hm l hl;exact Cz (m + 1) hm (fun l h => ih (by omega) l (by omega)) l hl
 exact key (bQ l) hb l (Nat.le_refl _)
theorem w9 (l : List AL.Stmt) (hs : bQ l ≤ 1000000) : MC Tryz.prog 72 [sl aV l] [] 0 (fun _ : Unit => True) (fun _ => .own 0 0 l.length 6) (fun _ => [(0, some (aH aV l))]) := by
 have hlen := dI l
 (refine cD Tryz.func72 rfl (by simp [Tryz.ntmps72]) ?_; rw [Tryz.ntmps72])
 repeat' (first|(apply aM;first|(apply aC;rfl;rfl)|(apply aF;kernel_rfl)|(apply cG;rfl;rfl;rfl;(rfl);rfl;rfl))|(apply aN;first|apply aI|apply aB|apply aK)|with_reducible apply aA)
 refine bC (σ := Nat × List AL.Stmt) [0] [(0, _)] [] [] (fun k => [(4, iv (k.1 : Int)), (3, .own 0 0 k.1 6)]) (fun k => [(0, some (aH aV k.2))]) (fun k => k.1 ≤ l.length ∧ k.2 = l.take k.1) (fun k => l.length - k.1) (0, []) ⟨by omega, rfl⟩ rfl rfl (by repeat' (first|exact trivial|refine And.intro rfl ?_)) (by repeat' (first|exact trivial|refine And.intro (.inr rfl) ?_)) ?_
 rintro ⟨k, xs⟩ ⟨hk, hxs⟩
 dsimp only at hk hxs ⊢
 have hck := eS l k
 have hct := gB l[k]!
 have hln : xs.length = k := by rw [hxs, List.length_take]; omega
 repeat' (first|(apply aM;first|(apply aE;rfl;rfl)|(first|(apply aL;rfl;rfl;rfl;rfl)|(apply aY;rfl;rfl;(exact (rfl:_=[_, _, _, _, _, _]));rfl;rfl;rfl))|(apply aD;rfl;rfl;rfl)|(first|(apply bU;rfl;rfl;omega;rfl)|(apply aR;rfl;rfl;rfl;rfl))|(apply aC;rfl;rfl)|(apply a7;(case hx|hi => rfl);(case hm => (omega));(case hml => (rfl));(case hα | hf|hg => infer_instance);(case hN => rfl))|((with_reducible apply aJ (k := 72));(case ha => rfl);(case h => (apply B6 <;> (omega)));(case hp => (exact Pur.pf));(case hN => rfl))|(first|(apply a8;rfl;rfl;rfl)|(apply cH;rfl;rfl;rfl;rfl;rfl;(rw [aT]; omega);(rfl);omega;omega;(first|exact gV (by (omega))|rfl);rfl;rfl))|(apply aF;kernel_rfl)|(apply bE;rfl;rfl)|((apply bS (t := _));(case hze|hsm|hl => rfl);(case hfl => (exact (rfl:_=some [_, _, _, _, _, _])));(case hM|hN => rfl))|(apply aW;rfl;rfl;rfl;rfl;rfl;(case hl => (simp;done));(exact (rfl:_=[_, _, _, _, _, _]))))|(apply aN;first|apply aI|apply aB|(apply aO;rfl;all_goals intro hc;have hq:=hc;(try simp only [cF] at hq);try exfalso;omega)|apply aK|apply aS|apply bI|apply aQ)|with_reducible apply aA|with_reducible apply bJ|with_reducible apply aX|with_reducible apply bH)
 ·(apply dW (k + 1, _); focus (refine Le.ren [(0, 3)] rfl (by decide) ?_ ?_ <;> repeat' (first | exact trivial | refine And.intro ⟨_, rfl, ?_⟩ ?_ | refine And.intro ⟨_, _, rfl, rfl, ?_⟩ ?_ | exact Or.inr rfl | refine Or.inl ⟨?_, (by first | rfl | exact aZ _ _)⟩ | rfl)))
  ·exact ⟨by dsimp only;omega, by dsimp only;rw [hxs, cY l k (by omega)]⟩
  ·dsimp only;omega
 ·have hel : l[k]!.el = [] := List.eq_nil_of_length_eq_zero (by omega)
  refine pF (Le.stmtN (i := 3) l[k]! hln.symm (.inl rfl) (.inr ⟨rfl, hel⟩) rfl) ?_
  (apply dW (k + 1, _);focus (refine Le.ren [(0, 3)] rfl (by decide) ?_ ?_ <;> repeat' (first|exact trivial|refine And.intro ⟨_, rfl, ?_⟩ ?_|refine And.intro ⟨_, _, rfl, rfl, ?_⟩ ?_|exact Or.inr rfl|refine Or.inl ⟨?_, (by first|rfl|exact aZ _ _)⟩|rfl)))
  ·exact ⟨by dsimp only;omega, by dsimp only;rw [hxs, cY l k (by omega)]⟩
  ·dsimp only;omega
 ·have hth : l[k]!.th = [] := List.eq_nil_of_length_eq_zero (by omega)
  refine pF (Le.stmtN (i := 3) l[k]! hln.symm (.inr ⟨rfl, hth⟩) (.inl rfl) rfl) ?_
  (apply dW (k + 1, _);focus (refine Le.ren [(0, 3)] rfl (by decide) ?_ ?_ <;> repeat' (first|exact trivial|refine And.intro ⟨_, rfl, ?_⟩ ?_|refine And.intro ⟨_, _, rfl, rfl, ?_⟩ ?_|exact Or.inr rfl|refine Or.inl ⟨?_, (by first|rfl|exact aZ _ _)⟩|rfl)))
  ·exact ⟨by dsimp only;omega, by dsimp only;rw [hxs, cY l k (by omega)]⟩
  ·dsimp only;omega
 ·have hth : l[k]!.th = [] := List.eq_nil_of_length_eq_zero (by omega)
  have hel : l[k]!.el = [] := List.eq_nil_of_length_eq_zero (by omega)
  refine pF (Le.stmtN (i := 3) l[k]! hln.symm (.inr ⟨rfl, hth⟩) (.inr ⟨rfl, hel⟩) rfl) ?_
  (apply dW (k + 1, _);focus (refine Le.ren [(0, 3)] rfl (by decide) ?_ ?_ <;> repeat' (first|exact trivial|refine And.intro ⟨_, rfl, ?_⟩ ?_|refine And.intro ⟨_, _, rfl, rfl, ?_⟩ ?_|exact Or.inr rfl|refine Or.inl ⟨?_, (by first|rfl|exact aZ _ _)⟩|rfl)))
  ·exact ⟨by dsimp only;omega, by dsimp only;rw [hxs, cY l k (by omega)]⟩
  ·dsimp only;omega
 ·have hke : k = l.length := by omega
  have hxl : xs = l := by rw [hxs, hke, List.take_length]
  subst hke
  refine aP rfl ?_
  refine bY () trivial ?_ ⟨.inr (Eq.trans (b := some _) rfl ?_), trivial⟩
  ·rfl
  ·rw [hxl]
theorem uJ {l : List AL.Stmt} {N : Nat} {Q : Exit → AS → Prop} {all : Array Oper} {rest : List Oper} {tsl : List (Nat × AV)} {hsl : List (Nat × Option (List AV))} {nidl : Nat} {z0 : Lo} {md : Md} {d : Nat} {ty : TypeId} {pos : String} {af : Array Edge} {tys : Array TypeId} {x0 : Operand} (ha0 : ev (lk tsl) x0 = some (sl aV l)) (hmc : MC Tryz.prog 72 [sl aV l] [] 0 (fun _ : Unit => True) (fun _ => .own 0 0 l.length 6) (fun _ => [(0, some (aH aV l))])) (hM : Nat.ble (nidl + 1) fG = true) (hN : Nat.blt d N = true) {md' : Md} [hmd : MdA md (hG [x0] ++ []) (List.map Sum.inr (List.map Prod.fst ([(nidl, some (aH aV l))] : List (Nat × Option (List AV)))) ++ [.inl d]) md'] (kk : RW Tryz.prog N all Q md' rest ⟨(d, .own nidl 0 l.length 6) :: tsl, jF hsl [(nidl, some (aH aV l))], nidl + 1, z0⟩) : RW Tryz.prog N all Q md (⟨some d, .call ⟨.value (.func 72), #[x0], tys⟩, ty, pos, af, none⟩ :: rest) ⟨tsl, hsl, nidl, z0⟩ := by
 refine cM [] 1 [(nidl, some (aH aV l))] hmc (avs := [sl aV l]) ?_ rfl ?_ rfl ?_ (by simpa using hM) ?_ ?_ ?_ hN (md' := md') (hmd := hmd) kk
 ·show evL (lk tsl) [x0] = _
  simp only [evL, ha0]
 ·exact trivial
 ·(repeat' (exact RnL.purI inferInstance))
 ·(repeat' (exact RnV.own rfl))
 ·simp [eA]
 ·(repeat' (first|exact trivial|(refine And.intro ⟨0, _, rfl, rfl, ?_⟩ ?_)|exact RnL.purI inferInstance))
theorem o9 {q : Prg} {N : Nat} {Q : Exit → AS → Prop} {all : Array Oper} {rest : List Oper} {tsl : List (Nat × AV)} {hsl : List (Nat × Option (List AV))} {nidl : Nat} {z0 : Lo} {md : Md} {d : Nat} {ty : TypeId} {pos : String} {af : Array Edge} {tys : Array TypeId} {x0 : Operand} (ha0 : ev (lk tsl) x0 = some (dD q)) (hmc : MC Tryz.prog 59 [dD q] [] 0 (fun _ : Unit => True) (fun _ => .agg [.own 3 0 q.types.length 1, .own 4 0 q.body.length 6]) (fun _ => [(3, some (aH cI q.types)), (4, some (aH aV q.body))])) (hM : Nat.ble (nidl + 5) fG = true) (hN : Nat.blt d N = true) {md' : Md} [hmd : MdA md (hG [x0] ++ []) (List.map Sum.inr (List.map Prod.fst ([((nidl + 3), some (aH cI q.types)), ((nidl + 4), some (aH aV q.body))] : List (Nat × Option (List AV)))) ++ [.inl d]) md'] (kk : RW Tryz.prog N all Q md' rest ⟨(d, .agg [.own (nidl + 3) 0 q.types.length 1, .own (nidl + 4) 0 q.body.length 6]) :: tsl, jF hsl [((nidl + 3), some (aH cI q.types)), ((nidl + 4), some (aH aV q.body))], nidl + 5, z0⟩) : RW Tryz.prog N all Q md (⟨some d, .call ⟨.value (.func 59), #[x0], tys⟩, ty, pos, af, none⟩ :: rest) ⟨tsl, hsl, nidl, z0⟩ := by
 refine cM [] 5 [((nidl + 3), some (aH cI q.types)), ((nidl + 4), some (aH aV q.body))] hmc (avs := [dD q]) ?_ rfl ?_ rfl ?_ (by simpa using hM) ?_ ?_ ?_ hN (md' := md') (hmd := hmd) kk
 ·show evL (lk tsl) [x0] = _
  simp only [evL, ha0]
 ·exact trivial
 ·(repeat' (exact RnL.purI inferInstance))
 ·(repeat' (first|exact RnL.purI inferInstance|exact RnV.own rfl|refine RnL.cons ?_ ?_|refine RnV.agg ?_))
 ·simp [eA]
 ·(repeat' (first|exact trivial|(refine And.intro ⟨3, _, rfl, rfl, ?_⟩ ?_)|(refine And.intro ⟨4, _, rfl, rfl, ?_⟩ ?_)|exact RnL.purI inferInstance))
theorem sW (q : Prg) (hs : bQ q.body ≤ 1000000) (ht : q.types.length ≤ 1000000) : MC Tryz.prog 59 [dD q] [] 0 (fun _ : Unit => True) (fun _ => .agg [.own 3 0 q.types.length 1, .own 4 0 q.body.length 6]) (fun _ => [(3, some (aH cI q.types)), (4, some (aH aV q.body))]) := by
 (refine cD Tryz.func59 rfl (by simp [Tryz.ntmps59]) ?_; rw [Tryz.ntmps59])
 repeat' (first|(apply aM;first|(apply uJ;rfl;(apply w9;assumption);rfl;rfl)|(apply aL;rfl;rfl;rfl;rfl)|(apply aD;rfl;rfl;rfl)|(apply cH;rfl;rfl;rfl;rfl;rfl;(case hl => (simp [aT]; done));(exact sC (by (rfl)));omega;omega;(exact mH (by (omega)));rfl;rfl)|(apply aF;kernel_rfl)|(apply bV;rfl;(exact (rfl:_=some [_, _]));(exact (rfl:_=[_, _]));rfl)|(apply b0;rfl;rfl;rfl;rfl)|(apply bE;rfl;rfl)|(apply cG;rfl;rfl;rfl;(rfl);rfl;rfl)|(apply aW;rfl;rfl;rfl;rfl;rfl;(case hl => (simp;done));(exact (rfl:_=[_, _]))))|(apply aN;first|apply aI|apply aB|(apply b8;kernel_rfl)|apply aQ)|with_reducible apply aA)
 refine aP rfl ?_
 refine bY () trivial ?_ ⟨.inr (Eq.trans (b := some _) rfl ?_), .inr (Eq.trans (b := some _) rfl ?_), trivial⟩
 ·show AV.agg [AV.own 3 0 (0 + q.types.length) 1, AV.own 4 0 q.body.length 6] = _
  rw [Nat.zero_add]
 ·rfl
 ·rfl
theorem EM (s : AL.Stmt) (a : Int) : dM (Mv s a) = dM s := by simp [gY, Mv, AL.Stmt.th, AL.Stmt.el]
theorem Ic (s : AL.Stmt) (a : Int) : dM (uX s a) = dM s := by simp [gY, uX, AL.Stmt.th, AL.Stmt.el]
theorem HQ (s : AL.Stmt) (a : Int) : dM (uY s a) = dM s := by simp [gY, uY, AL.Stmt.th, AL.Stmt.el]
theorem IY (s : AL.Stmt) (a : Int) : dM (uN s a) = dM s := by simp [gY, uN, AL.Stmt.th, AL.Stmt.el]
theorem l8 : ∀ (xs : List AL.Stmt) (k : Nat) (y : AL.Stmt), k < xs.length → dM y = dM xs[k]! → bQ (xs.set k y) = bQ xs
 | [], k, y, h, _ => by simp at h
 | x :: xs, 0, y, _, h => by simp only [List.set_cons_zero, bQ]; simp only [List.getElem!_cons_zero] at h;omega
 | x :: xs, k + 1, y, h, h2 => by
  simp only [List.set_cons_succ, bQ]
  rw [l8 xs k y (by simpa using h) (by rw [h2]; simp only [List.getElem!_cons_succ])]
theorem Aj (s : AL.Stmt) : ∀ k, bQ (List.replicate k s) = k * dM s
 | 0 => by simp [bQ]
 | k + 1 => by simp only [List.replicate_succ, bQ, Aj s k, Nat.succ_mul]; omega
theorem Ae : ∀ (xs : List AL.Stmt) (k : Nat), bQ (xs.take k ++ xs.drop (k + 1)) ≤ bQ xs
 | [], k => by simp [bQ]
 | x :: xs, 0 => by simp [bQ]
 | x :: xs, k + 1 => by have := Ae xs k;simp only [List.take_succ_cons, List.drop_succ_cons, List.cons_append, bQ]; omega
theorem rP {T : Nat → Option AV} {x : Operand} {dd : Nat} {k : IntKind} {m : Int} (hx : ev T x = some (.v (.int k m))) (h : 0 ≤ m) : g9 T (some x) dd = some m.toNat := by
 simp only [g9, hx]; rw [if_pos h]
section
variable {P : Program} {N : Nat} {Q : Exit → AS → Prop} {all : Array Oper} {rest : List Oper} {ts : List (Nat × AV)} {hs : List (Nat × Option (List AV))} {n : Nat} {z0 : Lo} {md : Md}
variable {d : Nat} {ty : TypeId} {pos : String} {af : Array Edge}
theorem Cm {t el : TypeId} {x : Operand} {hi : Option Operand} {i o m e h : Nat} [ht : SlT P t el] [he : SzT P el e] (hx : ev (lk ts) x = some (.own i o m e))
  (hh : g9 (lk ts) hi m = some h) (hb : h ≤ m) (hN : Nat.blt d N = true) {md' : Md} [hmd : MdA md (rO x ++ (rB none ++ rB hi)) [.inl d] md'] (kk : RW P N all Q md' rest ⟨(d, .own i o h e) :: ts, hs, n, z0⟩) :
  RW P N all Q md (⟨some d, .slice t x none hi none, ty, pos, af, none⟩ :: rest) ⟨ts, hs, n, z0⟩ :=
 iP (m := m) (l := 0) (h := h) hx rfl rfl hh (by simp [Jl, hb]) hN (md' := md') (hmd := hmd) kk
end
theorem Hq {hs : List (Nat × Option (List AV))} {xs : List AL.Stmt} {i k n : Nat} (hH : cJ hs i = some (aH aV xs)) (hn : n = xs.length - k) : sCells (cJ hs) 6 (qC (.own i (0 + k * 6) n 6)) = some (n, aH aV (xs.drop k)) := by
 show ((cJ hs i).bind fun cs => if n * 6 ≤ (cs.drop (0 + k * 6)).length then some (n, (cs.drop (0 + k * 6)).take (n * 6)) else none) = _
 rw [hH, Option.bind_some, Nat.zero_add]
 have h1 : (aH aV xs).length = xs.length * 6 := aT aV xs
 have h3 : (aH aV xs).drop (k * 6) = aH aV (xs.drop k) := by
  have h4 : aH aV xs = aH aV (xs.take k) ++ aH aV (xs.drop k) := by rw [dZ, List.take_append_drop]
  have h5 : (aH aV (xs.take k)).length = (xs.take k).length * 6 := aT aV _
  by_cases hk : k ≤ xs.length
  ·rw [h4, ← show (aH aV (xs.take k)).length = k * 6 from by rw [h5, List.length_take]; congr 1;omega, List.drop_left]
  ·rw [List.drop_of_length_le (by omega), List.drop_of_length_le (by omega)]; rfl
 rw [h3]
 have h2 : (aH aV (xs.drop k)).length = (xs.length - k) * 6 := by rw [aT aV (e := 6), List.length_drop]
 rw [if_pos (by omega), List.take_of_length_le (by omega)]
theorem Ig {xs ys : List AL.Stmt} {k : Nat} (hk : k ≤ xs.length) : ((aH aV xs).drop 0).take (k * 6) ++ aH aV ys = aH aV (xs.take k ++ ys) := by
 rw [List.drop_zero, fA aV (e := 6), dZ]
theorem sF (bs : List UInt8) (p : Nat) (q : Prg) (hb : bs.length ≤ 2000) (hp : p ≤ 900000) (hs : bQ q.body ≤ 10000) (ht : q.types.length ≤ 10000) : MC Tryz.prog 73 [.optr 0 0, dD q] [(0, some (e5 bs p))] 1 (fun x : Prg × Nat => bQ x.1.body ≤ 32 * bQ q.body ∧ x.1.types.length ≤ q.types.length + 1 ∧ x.2 ≤ p + 3) (fun x => dD x.1) (fun x => [(0, some (e5 bs x.2))]) := by
 have hlen := dI q.body
 have h0 := eU bs p (q.body.length : Int)
 (refine cD Tryz.func73 rfl (by simp [Tryz.ntmps73]) ?_; rw [Tryz.ntmps73])
 repeat' (first|(apply aM;first|(apply aE;rfl;rfl)|(first|(apply aL;rfl;rfl;rfl;rfl)|(apply aY;rfl;rfl;(exact (rfl:_=[_, _]));rfl;rfl;rfl))|(apply aD;rfl;rfl;rfl)|(apply aR;rfl;rfl;rfl;rfl)|(apply aC;rfl;rfl)|(apply cP;rfl;rfl;(omega);rfl)|(first|(apply iB;rfl;rfl;(rfl);(apply kD <;> (first|assumption|omega));rfl;rfl)|(apply mX;rfl;rfl;rfl;rfl;infer_instance;rfl;(rfl);assumption;omega;(decide);(decide);rfl;rfl)|(apply o9;rfl;(apply sW <;> (omega));rfl;rfl))|(first|(apply a8;rfl;rfl;rfl)|(apply cH;rfl;rfl;rfl;rfl;rfl;(rw [aT]; omega);(rfl);omega;omega;(exact j1 (by (omega)));rfl;rfl))|(apply aF;kernel_rfl)|(apply b0;rfl;rfl;rfl;rfl)|(apply bE;rfl;rfl)|(apply cG;rfl;rfl;rfl;(first|exact (rfl:_=some [_])|exact (rfl:_=some [_, _, _])|exact (rfl:_=some [_, _, _, _])|exact (rfl:_=some [_, _, _, _, _]));rfl;rfl)|(apply aW;rfl;rfl;rfl;rfl;rfl;(case hl => (first|(rw [aT]; simp only [gX] <;> omega)|(simp;done)));(first|exact KE (by (omega))|exact Ja (by (omega))|exact I8 (by (omega))|exact Lm (by (omega))|exact (rfl:_=[_, _]))))|(apply aN;first|apply aI|apply aB|(apply b8;kernel_rfl)|(apply aO;rfl;all_goals intro hc;have hq:=hc;(try simp only [cF] at hq);try exfalso;omega)|apply aK|apply aS|apply aQ)|with_reducible apply aA|with_reducible apply bK|with_reducible apply aX)
 ·refine cE (Le.frzC (j := 2) (i := 6) [] rfl rfl (by decide)) ?_
  refine cE (Le.frzC (j := 2) (i := 7) [.imm _ _] rfl rfl (by decide)) ?_
  refine aP rfl ?_
  refine bY ((⟨q.types, q.body⟩ : Prg), p) ?_ ?_ ⟨.inr (Eq.trans (b := some _) rfl ?_), trivial⟩
  ·exact ⟨by dsimp only;omega, by dsimp only;omega, by dsimp only;omega⟩
  ·rfl
  ·rfl
 ·refine cE (Le.frzC (j := 2) (i := 6) [] rfl rfl (by decide)) ?_
  refine cE (Le.frzC (j := 2) (i := 7) [.imm _ _] rfl rfl (by decide)) ?_
  refine aP rfl ?_
  refine bY ((⟨q.types, q.body.set (cV bs p (q.body.length : Int)).toNat (Mv q.body[(cV bs p (q.body.length : Int)).toNat]! (gP bs (p + 1 + 1) [0, 11, 1, 3, 8]))⟩ : Prg), p + 1 + 1 + 1) ?_ ?_ ⟨.inr (Eq.trans (b := some _) rfl ?_), trivial⟩
  ·refine ⟨?_, by dsimp only;omega, by dsimp only;omega⟩; dsimp only;rw [l8 q.body (cV bs p (q.body.length : Int)).toNat _ (by omega) (by rw [EM])]; omega
  ·show _ = AV.agg [_, AV.imm (List.length (q.body.set _ _)) _]; rw [List.length_set]; rfl
  ·rfl
 ·refine cE (Le.frzC (j := 2) (i := 6) [] rfl rfl (by decide)) ?_
  refine cE (Le.frzC (j := 2) (i := 7) [.imm _ _] rfl rfl (by decide)) ?_
  refine aP rfl ?_
  refine bY ((⟨q.types, q.body.set (cV bs p (q.body.length : Int)).toNat (uX q.body[(cV bs p (q.body.length : Int)).toNat]! (gP bs (p + 1 + 1) [6, -1, 0, 1]))⟩ : Prg), p + 1 + 1 + 1) ?_ ?_ ⟨.inr (Eq.trans (b := some _) rfl ?_), trivial⟩
  ·refine ⟨?_, by dsimp only;omega, by dsimp only;omega⟩; dsimp only;rw [l8 q.body (cV bs p (q.body.length : Int)).toNat _ (by omega) (by rw [Ic])]; omega
  ·show _ = AV.agg [_, AV.imm (List.length (q.body.set _ _)) _]; rw [List.length_set]; rfl
  ·rfl
 ·refine cE (Le.frzC (j := 2) (i := 6) [] rfl rfl (by decide)) ?_
  refine cE (Le.frzC (j := 2) (i := 7) [.imm _ _] rfl rfl (by decide)) ?_
  refine aP rfl ?_
  refine bY ((⟨q.types, q.body.set (cV bs p (q.body.length : Int)).toNat (uY q.body[(cV bs p (q.body.length : Int)).toNat]! (gP bs (p + 1 + 1) [6, -1, 0, 1]))⟩ : Prg), p + 1 + 1 + 1) ?_ ?_ ⟨.inr (Eq.trans (b := some _) rfl ?_), trivial⟩
  ·refine ⟨?_, by dsimp only;omega, by dsimp only;omega⟩; dsimp only;rw [l8 q.body (cV bs p (q.body.length : Int)).toNat _ (by omega) (by rw [HQ])]; omega
  ·show _ = AV.agg [_, AV.imm (List.length (q.body.set _ _)) _]; rw [List.length_set]; rfl
  ·rfl
 ·refine cE (Le.frzC (j := 2) (i := 6) [] rfl rfl (by decide)) ?_
  refine cE (Le.frzC (j := 2) (i := 7) [.imm _ _] rfl rfl (by decide)) ?_
  refine aP rfl ?_
  refine bY ((⟨q.types, q.body.set (cV bs p (q.body.length : Int)).toNat (uN q.body[(cV bs p (q.body.length : Int)).toNat]! (gP bs (p + 1 + 1) [10, -1, 5]))⟩ : Prg), p + 1 + 1 + 1) ?_ ?_ ⟨.inr (Eq.trans (b := some _) rfl ?_), trivial⟩
  ·refine ⟨?_, by dsimp only;omega, by dsimp only;omega⟩; dsimp only;rw [l8 q.body (cV bs p (q.body.length : Int)).toNat _ (by omega) (by rw [IY])]; omega
  ·show _ = AV.agg [_, AV.imm (List.length (q.body.set _ _)) _]; rw [List.length_set]; rfl
  ·rfl
 ·refine cE (Le.frzC (j := 2) (i := 11) [] rfl rfl (by decide)) ?_
  refine cE (Le.frzC (j := 2) (i := 7) [.imm _ _] rfl rfl (by decide)) ?_
  refine aP rfl ?_
  refine bY ((⟨q.types ++ [gP bs (p + 1 + 1) [1, 5, 0, 4]], q.body⟩ : Prg), p + 1 + 1 + 1) ?_ ?_ ⟨.inr (Eq.trans (b := some _) rfl ?_), trivial⟩
  ·exact ⟨by dsimp only;omega, by simp, by dsimp only;omega⟩
  ·show _ = AV.agg [AV.imm (List.length (q.types ++ [_])) _, _]; rw [List.length_append]; rfl
  ·rfl
 ·refine bC (σ := Nat × List AL.Stmt × Nat) [4, 5] [(4, _), (5, _)] [6, 2, 0] [(6, some _), (2, some _), (0, some _)] (fun k => [(7, iv (k.1 : Int))]) (fun k => [(7, some (aH aV k.2.1)), (8, some [.own 6 0 q.types.length 1, .own 7 0 k.2.2 6])]) (fun k => k.1 ≤ 31 ∧ k.2.1 = q.body ++ List.replicate k.1 q.body[0]! ∧ k.2.2 = k.2.1.length) (fun k => 31 - k.1) (0, q.body, q.body.length) ⟨by omega, by simp, rfl⟩ rfl rfl (by repeat' (first | exact trivial | refine And.intro rfl ?_)) (by repeat' (first | exact trivial | refine And.intro (.inr rfl) ?_)) ?_
  rintro ⟨k, xs, m⟩ ⟨hk, hxs, hm⟩
  dsimp only at hk hxs hm ⊢
  have hln : 0 < xs.length := by rw [hxs, List.length_append]; omega
  have hl2 : xs.length = q.body.length + k := by rw [hxs, List.length_append, List.length_replicate]
  repeat' (first|(apply aM;first|(apply aE;rfl;rfl)|(first|(apply fZ;(case hx|hH => rfl);(case hf|hg|hα => infer_instance);(case hk => omega);(case h0|hN => rfl))|(apply aL;rfl;rfl;rfl;rfl)|(apply aY;rfl;rfl;(exact (rfl:_=[_, _]));rfl;rfl;rfl))|(apply aD;rfl;rfl;rfl)|(first|(apply bU;rfl;rfl;omega;rfl)|(apply aR;rfl;rfl;rfl;rfl))|(apply aC;rfl;rfl)|(apply cP;rfl;rfl;(omega);rfl)|(apply cH;rfl;rfl;rfl;rfl;rfl;(rw [aT]; omega);(rfl);omega;omega;(exact gV (by (assumption)));rfl;rfl)|(apply aF;kernel_rfl)|(apply cG;rfl;rfl;rfl;(exact (rfl:_=some [_, _, _, _, _, _]));rfl;rfl)|(apply aW;rfl;rfl;rfl;rfl;rfl;(case hl => (simp;done));(exact (rfl:_=[_, _]))))|(apply aN;first|apply aI|apply aB|(apply b8;kernel_rfl)|(apply aO;rfl;all_goals intro hc;have hq:=hc;(try simp only [cF] at hq);try exfalso;omega)|apply aK|apply aS|apply bI|apply aQ)|with_reducible apply aA|with_reducible apply bJ|with_reducible apply aX|with_reducible apply bH)
  ·(apply dW (k + 1, _, _); focus (refine Le.ren [(7, 10), (8, 8), (6, 6), (2, 2)] rfl (by decide) ?_ ?_ <;> repeat' (first | exact trivial | refine And.intro ⟨_, rfl, ?_⟩ ?_ | refine And.intro ⟨_, _, rfl, rfl, ?_⟩ ?_ | exact Or.inr rfl | refine Or.inl ⟨?_, (by first | rfl | exact aZ _ _ | exact Pur.pf)⟩ | refine Or.inr (All2.cons ?_ ?_) | refine All2.cons ?_ ?_ | exact All2.nil | rfl)))
   ·dsimp only
    refine ⟨by omega, ?_, by simp [hm]⟩
    have e0 : xs[Int.toNat 0]! = q.body[0]! := by
     show xs[0]! = _
     rw [hxs, getElem!_pos _ _ (by rw [List.length_append]; omega), List.getElem_append_left (by omega), getElem!_pos _ _ (by omega)]
    rw [e0, hxs, List.replicate_succ', List.append_assoc]
   ·dsimp only;omega
  ·have hc0 : dM q.body[0]! ≤ bQ q.body := eS q.body 0 (by omega)
   have hc1 : bQ xs = bQ q.body + k * dM q.body[0]! := by rw [hxs, fW, Aj]
   have hc2 : k * dM q.body[0]! ≤ 31 * bQ q.body := Nat.mul_le_mul hk hc0
   subst hm
   refine cE (Le.frzC (j := 2) (i := 6) [] rfl rfl (by decide)) ?_
   refine cE (Le.frzC (j := 2) (i := 7) [.imm _ _] rfl rfl (by decide)) ?_
   refine aP rfl ?_
   refine bY ((⟨q.types, xs⟩ : Prg), p + 1 + 1) ?_ ?_ ⟨.inr (Eq.trans (b := some _) rfl ?_), trivial⟩
   ·exact ⟨by dsimp only;omega, by dsimp only;omega, by dsimp only;omega⟩
   ·rfl
   ·rfl
 ·have hK : (cV bs p (q.body.length : Int) + 1).toNat = (cV bs p (q.body.length : Int)).toNat + 1 := by omega
  repeat' (first|(apply aM;first|(apply Cm;rfl;exact rP rfl (by omega);omega;rfl)|(apply Bf;rfl;exact rP rfl (by omega);omega;rfl)|(apply cH;rfl;rfl;rfl;rfl;rfl;(rw [aT]; omega);exact Hq rfl (by omega);omega;omega;exact Ig (by omega);rfl;rfl)|(apply aE;rfl;rfl)|(first|(apply aL;rfl;rfl;rfl;rfl)|(apply aY;rfl;rfl;(exact (rfl:_=[_, _]));rfl;rfl;rfl))|(apply aD;rfl;rfl;rfl)|(apply bU;rfl;rfl;omega;rfl)|(apply aF;kernel_rfl)|(apply aW;rfl;rfl;rfl;rfl;rfl;(case hl => (simp;done));(exact (rfl:_=[_, _]))))|(apply aN;first|apply aI|apply aB|apply aQ)|with_reducible apply aA|with_reducible apply aX)
  refine cE (Le.frzC (j := 2) (i := 6) [] rfl rfl (by decide)) ?_
  refine cE (Le.frzC (j := 2) (i := 9) [.imm _ _] rfl rfl (by decide)) ?_
  refine aP rfl ?_
  refine bY ((⟨q.types, q.body.take (cV bs p (q.body.length : Int)).toNat ++ q.body.drop (cV bs p (q.body.length : Int) + 1).toNat⟩ : Prg), p + 1 + 1) ?_ ?_ ⟨.inr (Eq.trans (b := some _) rfl ?_), trivial⟩
  ·refine ⟨?_, by dsimp only; omega, by dsimp only; omega⟩
   dsimp only
   rw [hK]
   have := Ae q.body (cV bs p (q.body.length : Int)).toNat
   omega
  ·show AV.agg [_, AV.imm _ _] = AV.agg [_, AV.imm (List.length (_ ++ _)) _]
   rw [List.length_append, List.length_take, List.length_drop, Nat.min_eq_left (by omega)]
  ·rfl
 ·refine cE (Le.frzC (j := 2) (i := 6) [] rfl rfl (by decide)) ?_
  refine cE (Le.frzC (j := 2) (i := 7) [.imm _ _] rfl rfl (by decide)) ?_
  refine aP rfl ?_
  refine bY (q, p + 1 + 1) ⟨by dsimp only;omega, by dsimp only;omega, by dsimp only;omega⟩ rfl ⟨.inr (Eq.trans (b := some _) rfl ?_), trivial⟩
  ·rfl
def CK (s : ByteArray) (i : Int) (w : ByteArray) : Bool := decide (0 ≤ i) && (decide (i + w.size ≤ s.size) && ((s.extract i.toNat (i + w.size).toNat).toList == w.toList))
def IT (lo hi : Int) (s : ByteArray) (i : Int) : Int := if i < 0 then -1 else if (s.size : Int) ≤ i then -1 else if ((s[i.toNat]!).toNat : Int) < lo then -1 else if hi < ((s[i.toNat]!).toNat : Int) then -1 else ((s[i.toNat]!).toNat : Int) - lo
theorem uC (s : ByteArray) (i : Int) (w : ByteArray) (hs : s.size ≤ 1000000) (hw : w.size ≤ 1000000) (hi : i ≤ 1000000) : PC Tryz.prog 161 [sv s, iv i, sv w] (fun r => r = bv (CK s i w)) := by
 (refine aU Tryz.func161 rfl (by simp [Tryz.ntmps161]) ?_; rw [Tryz.ntmps161])
 repeat' (first|(apply aM;first|(apply lL;rfl;rfl;(rfl);rfl)|(apply EH;rfl;exact rP rfl (by omega);exact rP rfl (by omega);omega;rfl)|(apply aE;rfl;rfl)|(first|(apply a6;rfl;rfl;rfl;(assumption))|(apply bD;rfl;rfl;rfl;(first|rfl|assumption))|(apply bO;(case hj|hb|hN => rfl);all_goals (intro hg;have hq := hg;(try simp only [cF] at hq);(try (exfalso;omega)))))|(first|(apply bU;rfl;rfl;omega;rfl)|(apply aR;rfl;rfl;rfl;rfl))|(apply aC;rfl;rfl)|(first|(apply bR;rfl;(assumption);rfl;rfl)|(apply bF;rfl;(first|rfl|assumption);rfl;rfl))|(apply kB;rfl;rfl)|(apply aF;kernel_rfl))|(apply aN;first|apply aI|apply aB|apply aQ)|with_reducible apply aA|((with_reducible apply aP);case hr => rfl))
 all_goals (refine ⟨?_, rfl⟩; simp only [b9, AV.v.injEq, Value.bool.injEq, Value.int.injEq, true_and])
 ·unfold CK
  rw [decide_eq_true (by omega), decide_eq_true (by omega)]; rfl
 ·unfold CK
  rw [decide_eq_true (p := 0 ≤ i) (by omega), decide_eq_false (by omega)]; rfl
 ·unfold CK
  rw [decide_eq_false (by omega)]; rfl
theorem Hb (s : ByteArray) (i : Int) (hs : s.size ≤ 1000000) : PC Tryz.prog 192 [sv s, iv i] (fun r => r = iv (IT 97 122 s i)) := by
 have hb0 : ((s[i.toNat]!).toNat : Int) ≤ 255 := by have := (s[i.toNat]!).toNat_lt;omega
 (refine aU Tryz.func192 rfl (by simp [Tryz.ntmps192]) ?_; rw [Tryz.ntmps192])
 repeat' (first|(apply aM;first|(apply pH;rfl;rfl;omega;rfl)|(apply Dy;rfl;rfl;omega;rfl)|(apply aE;rfl;rfl)|(first|(apply a6;rfl;rfl;rfl;(assumption))|(apply bD;rfl;rfl;rfl;(first|rfl|assumption))|(apply bO;(case hj|hb|hN => rfl);all_goals (intro hg;have hq := hg;(try simp only [cF] at hq);(try (exfalso;omega)))))|(apply aR;rfl;rfl;rfl;rfl)|(apply aC;rfl;rfl)|(first|(apply bR;rfl;(first|rfl|assumption);rfl;rfl)|(apply bF;rfl;(assumption);rfl;rfl))|(apply kB;rfl;rfl)|(apply aF;kernel_rfl)|(apply pA;rfl;(omega);rfl))|(apply aN;first|apply aI|apply aB|(apply bZ;rfl;(rfl))|(apply aO;rfl;all_goals intro hc;have hq:=hc;(try simp only [cF] at hq);try exfalso;omega)|apply aS|apply aQ)|with_reducible apply aA|with_reducible apply bK|((with_reducible apply aP);case hr => rfl))
 all_goals (refine ⟨?_, rfl⟩; simp only [b9, AV.v.injEq, Value.bool.injEq, Value.int.injEq, true_and])
 all_goals (unfold IT;repeat' split)
 all_goals (first|rfl|omega)
theorem DN (s : ByteArray) (i : Int) (hs : s.size ≤ 1000000) : PC Tryz.prog 194 [sv s, iv i] (fun r => r = iv (IT 48 57 s i)) := by
 have hb0 : ((s[i.toNat]!).toNat : Int) ≤ 255 := by have := (s[i.toNat]!).toNat_lt;omega
 (refine aU Tryz.func194 rfl (by simp [Tryz.ntmps194]) ?_; rw [Tryz.ntmps194])
 repeat' (first|(apply aM;first|(apply pH;rfl;rfl;omega;rfl)|(apply Dy;rfl;rfl;omega;rfl)|(apply aE;rfl;rfl)|(first|(apply a6;rfl;rfl;rfl;(assumption))|(apply bD;rfl;rfl;rfl;(first|rfl|assumption))|(apply bO;(case hj|hb|hN => rfl);all_goals (intro hg;have hq := hg;(try simp only [cF] at hq);(try (exfalso;omega)))))|(apply aR;rfl;rfl;rfl;rfl)|(apply aC;rfl;rfl)|(first|(apply bR;rfl;(first|rfl|assumption);rfl;rfl)|(apply bF;rfl;(assumption);rfl;rfl))|(apply kB;rfl;rfl)|(apply aF;kernel_rfl)|(apply pA;rfl;(omega);rfl))|(apply aN;first|apply aI|apply aB|(apply bZ;rfl;(rfl))|(apply aO;rfl;all_goals intro hc;have hq:=hc;(try simp only [cF] at hq);try exfalso;omega)|apply aS|apply aQ)|with_reducible apply aA|with_reducible apply bK|((with_reducible apply aP);case hr => rfl))
 all_goals (refine ⟨?_, rfl⟩; simp only [b9, AV.v.injEq, Value.bool.injEq, Value.int.injEq, true_and])
 all_goals (unfold IT;repeat' split)
 all_goals (first|rfl|omega)
def QP (s : ByteArray) (i : Int) (r : AV) : Prop := ∃ (x : AL.Stmt) (nx : Int), r = .tup [eZ x, iv nx] ∧ ((nx = -1 ∧ (dM x : Int) ≤ s.size + 1) ∨ (i < nx ∧ nx ≤ s.size + 3 ∧ (dM x : Int) ≤ nx - i))
def QB (s : ByteArray) (i : Int) (r : AV) : Prop := ∃ (l : List AL.Stmt) (nx : Int), r = .tup [sl aV l, iv nx] ∧ ((nx = -1 ∧ l = []) ∨ (0 ≤ i ∧ i + 2 ≤ nx ∧ nx ≤ s.size ∧ (bQ l : Int) ≤ nx - i))
def QL (s : ByteArray) (i : Int) (r : AV) : Prop := ∃ (l : List AL.Stmt) (nx : Int), r = .tup [sl aV l, iv nx] ∧ ((nx = -1 ∧ l = []) ∨ (i ≤ nx ∧ nx ≤ s.size ∧ (bQ l : Int) ≤ nx - i))
theorem kL {s w : ByteArray} {i : Int} (h : CK s i w = true) : 0 ≤ i ∧ i + w.size ≤ s.size := by
 unfold CK at h;simp only [Bool.and_eq_true, decide_eq_true_eq] at h;exact ⟨h.1, h.2.1⟩
theorem MI {s : ByteArray} {i op x y n nx : Int} (h : nx = -1 ∨ (i < nx ∧ nx ≤ s.size + 3)) : QP s i (.tup [.agg [iv op, iv x, iv y, iv n, .imm 0 [], .imm 0 []], iv nx]) :=
 ⟨.mk op x y n [] [], nx, rfl, by simp only [dM, bQ]; omega⟩
theorem ML {s : ByteArray} {i op x y n nx : Int} {th : List AL.Stmt} (h : (nx = -1 ∧ (bQ th : Int) ≤ s.size) ∨ (i < nx ∧ nx ≤ s.size + 3 ∧ (bQ th : Int) + 1 ≤ nx - i)) : QP s i (.tup [.agg [iv op, iv x, iv y, iv n, sl aV th, .imm 0 []], iv nx]) :=
 ⟨.mk op x y n th [], nx, rfl, by simp only [dM, bQ]; omega⟩
theorem MJ {s : ByteArray} {i op x y n nx : Int} {th el : List AL.Stmt} (h : (nx = -1 ∧ (bQ th : Int) + bQ el ≤ s.size) ∨ (i < nx ∧ nx ≤ s.size + 3 ∧ (bQ th : Int) + bQ el + 1 ≤ nx - i)) : QP s i (.tup [.agg [iv op, iv x, iv y, iv n, sl aV th, sl aV el], iv nx]) :=
 ⟨.mk op x y n th el, nx, rfl, by simp only [dM]; omega⟩
theorem QP.pur {s : ByteArray} {i : Int} {r : AV} (h : QP s i r) : r.pur = true := by obtain ⟨x, nx, rfl, _⟩ := h; exact Pur.pf
theorem QB.pur {s : ByteArray} {i : Int} {r : AV} (h : QB s i r) : r.pur = true := by obtain ⟨x, nx, rfl, _⟩ := h; exact Pur.pf
theorem QL.pur {s : ByteArray} {i : Int} {r : AV} (h : QL s i r) : r.pur = true := by obtain ⟨x, nx, rfl, _⟩ := h; exact Pur.pf
theorem sY {P : Program} {s : AS} {res : Array ResultVar} {q : AV → Prop} {l : List AV} (hQ : ∀ r, q r → r.pur = true) (hr : uT P (lk s.ts) (cJ s.hs) res.toList = some l) (h : q (b9 l)) : AO P res (fun r _ => q r ∧ r.pur = true) .ret s := aP hr ⟨h, hQ _ h⟩
theorem AE (s : ByteArray) (i dp : Int) (hs : s.size ≤ 100000) (hi0 : 0 ≤ i) (hi : i ≤ s.size) (hd0 : 0 ≤ dp) (hd : dp ≤ 10) (braces_ih : ∀ j dj : Int, dj = dp - 1 → -1 ≤ j → j ≤ s.size + 10 → PC Tryz.prog 193 [sv s, iv j, iv dj] (QB s j)) : PC Tryz.prog 162 [sv s, iv i, iv dp] (QP s i) := by
 have h1 : CK s i ⟨#[100, 114, 111, 112, 32]⟩ = true → i + 5 ≤ s.size := fun h => (kL h).2
 have h2 : CK s i ⟨#[108, 111, 111, 112, 123]⟩ = true → i + 5 ≤ s.size := fun h => (kL h).2
 have h3 : CK s i ⟨#[105, 102, 123]⟩ = true → i + 3 ≤ s.size := fun h => (kL h).2
 have h4 : CK s i ⟨#[42]⟩ = true → i + 1 ≤ s.size := fun h => (kL h).2
 have h5 : CK s (i + 1) ⟨#[61]⟩ = true → i + 1 + 1 ≤ s.size := fun h => (kL h).2
 have h6 : CK s (i + 2) ⟨#[98, 111, 120, 32]⟩ = true → i + 2 + 4 ≤ s.size := fun h => (kL h).2
 have h7 : CK s (i + 2) ⟨#[38, 109, 117, 116, 32]⟩ = true → i + 2 + 5 ≤ s.size := fun h => (kL h).2
 (refine aU Tryz.func162 rfl (by simp [Tryz.ntmps162]) ?_; rw [Tryz.ntmps162])
 repeat' (first|(apply aM;first|(apply aE;rfl;rfl)|(first|(apply a6;rfl;rfl;rfl;(assumption))|(apply bD;rfl;rfl;rfl;(assumption))|(apply bO;(case hj|hb|hN => rfl);all_goals (intro hg;have hq := hg;(try simp only [cF] at hq);(try (exfalso;omega)))))|(first|(apply bU;rfl;rfl;omega;rfl)|(apply fU;rfl;rfl;omega;rfl)|(apply aR;rfl;rfl;rfl;rfl))|(apply aC;rfl;rfl)|(first|(apply bR;rfl;(assumption);rfl;rfl)|(apply bF;rfl;(assumption);rfl;rfl))|(first|((with_reducible apply aJ (k := 161));(case ha => rfl);(case h => (apply uC <;> (first|omega|decide)));(case hp => (rfl));(case hN => rfl))|((with_reducible apply aJ (k := 192));(case ha => rfl);(case h => (apply Hb <;> (omega)));(case hp => (rfl));(case hN => rfl))|((with_reducible apply e8 (k := 193));(case ha => rfl);(case h => (apply braces_ih <;> (omega)));(case hp => (rfl));(case hN => rfl);(rintro _ ⟨l, nx, rfl, hql⟩ _))|((with_reducible apply aJ (k := 194));(case ha => rfl);(case h => (apply DN <;> (omega)));(case hp => (rfl));(case hN => rfl)))|(apply aF;kernel_rfl)|(apply bV;rfl;(exact (rfl:_=some [_, _, _, _, _, _]));(exact (rfl:_=[_, _, _, _, _, _]));rfl)|(apply cC;rfl;rfl)|(apply bE;rfl;rfl)|(apply cB;rfl;rfl;rfl)|(apply aW;rfl;rfl;rfl;rfl;rfl;(case hl => (first|decide|(simp;done)));(exact (rfl:_=[_, _, _, _, _, _]))))|(apply aN;first|apply aI|apply aB|(apply bZ;rfl;(rfl))|(apply aO;rfl;all_goals intro hc;have hq:=hc;(try simp only [cF] at hq);try exfalso;omega)|apply aK|apply aS|apply aQ)|with_reducible apply aA|with_reducible apply bK|with_reducible apply aX|with_reducible apply cT)
 all_goals refine sY (fun _ => QP.pur) (l := [.agg [_, _, _, _, _, _], _]) rfl ?_
 all_goals (try have b1 := h1 (by assumption))
 all_goals (try have b2 := h2 (by assumption))
 all_goals (try have b3 := h3 (by assumption))
 all_goals (try have b4 := h4 (by assumption))
 all_goals (try have b5 := h5 (by assumption))
 all_goals (try have b6 := h6 (by assumption))
 all_goals (try have b7 := h7 (by assumption))
 all_goals clear h1 h2 h3 h4 h5 h6 h7
 all_goals first
  | (refine MI ?_; omega)
  | skip
 ·refine ML (th := l) ?_
  rcases hql with ⟨h8, h9⟩|hql
  ·rw [h9]; simp only [bQ]; omega
  ·omega
 ·rename_i l1 nx1 hql1 hpu1 hpu2
  refine MJ (th := l1) (el := l) ?_
  rcases hql1 with ⟨h8, h9⟩|hql1 <;> rcases hql with ⟨h10, h11⟩|hql
  ·rw [h9, h11]; simp only [bQ]; omega
  ·omega
  ·rw [h11]; simp only [bQ]; omega
  ·omega
theorem vF (s : ByteArray) (i dp : Int) (hs : s.size ≤ 100000) (hi0 : -1 ≤ i) (hi : i ≤ s.size + 10) (hd0 : -1 ≤ dp) (hd : dp ≤ 10) (list_ih : ∀ j dj : Int, 0 ≤ dp → dj = dp → 0 ≤ j → j ≤ s.size → PC Tryz.prog 121 [sv s, iv j, iv dj] (QL s j)) : PC Tryz.prog 193 [sv s, iv i, iv dp] (QB s i) := by
 have h1 : CK s i ⟨#[123]⟩ = true → 0 ≤ i ∧ i + 1 ≤ s.size := fun h => kL h
 (refine aU Tryz.func193 rfl (by simp [Tryz.ntmps193]) ?_; rw [Tryz.ntmps193])
 repeat' (first|(apply aM;first|(apply aE;rfl;rfl)|(first|(apply a6;rfl;rfl;rfl;(assumption))|(apply bD;rfl;rfl;rfl;(assumption))|(apply bO;(case hj|hb|hN => rfl);all_goals (intro hg;have hq := hg;(try simp only [cF] at hq);(try (exfalso;omega)))))|(first|(apply bU;rfl;rfl;omega;rfl)|(apply aR;rfl;rfl;rfl;rfl))|(apply aC;rfl;rfl)|(first|(apply bR;rfl;(assumption);rfl;rfl)|(apply bF;rfl;(assumption);rfl;rfl))|((with_reducible apply aJ (k := 161));(case ha => rfl);(case h => (apply uC <;> (first|omega|decide)));(case hp => (rfl));(case hN => rfl))|(apply aF;kernel_rfl)|(apply cC;rfl;rfl))|(apply aN;first|apply aI|apply aB|(apply bZ;rfl;(rfl))|(apply aO;rfl;all_goals intro hc;have hq:=hc;(try simp only [cF] at hq);try exfalso;omega)|apply aS|apply aQ)|with_reducible apply aA|with_reducible apply bK)
 ·refine cE (Le.nilImm (d := 6) rfl) ?_
  exact sY (fun _ => QB.pur) (l := [.imm 0 [], iv (-1)]) rfl ⟨[], -1, rfl, .inl ⟨rfl, rfl⟩⟩
 ·have b1 := h1 (by assumption)
  repeat' (first|(apply aM;first|(apply aE;rfl;rfl)|(apply bU;rfl;rfl;omega;rfl)|(apply aC;rfl;rfl)|(first|((with_reducible apply e8 (k := 121));(case ha => rfl);(case h => (apply list_ih <;> (first|assumption|omega)));(case hp => (rfl));(case hN => rfl);(rintro _ ⟨l, nx, rfl, hql⟩ _))|((with_reducible apply aJ (k := 161));(case ha => rfl);(case h => (apply uC <;> (first|omega|decide)));(case hp => (rfl));(case hN => rfl)))|(apply aF;kernel_rfl)|(apply cC;rfl;rfl)|(apply cB;rfl;rfl;rfl))|(apply aN;first|apply aI|apply aB|(apply aO;rfl;all_goals intro hc;have hq:=hc;(try simp only [cF] at hq);try exfalso;omega)|apply aS|apply aQ)|with_reducible apply aA|with_reducible apply bK)
  ·refine cE (Le.nilImm (d := 6) rfl) ?_
   exact sY (fun _ => QB.pur) (l := [.imm 0 [], iv (-1)]) rfl ⟨[], -1, rfl, .inl ⟨rfl, rfl⟩⟩
  ·have b2 : 0 ≤ nx ∧ nx + 1 ≤ s.size := kL (w := ⟨#[125]⟩) (by assumption)
   exact sY (fun _ => QB.pur) (l := [sl aV l, iv (nx + 1)]) rfl ⟨l, nx + 1, rfl, by omega⟩
 ·refine cE (Le.nilImm (d := 6) rfl) ?_
  exact sY (fun _ => QB.pur) (l := [.imm 0 [], iv (-1)]) rfl ⟨[], -1, rfl, .inl ⟨rfl, rfl⟩⟩
theorem DA (s : ByteArray) (i dp : Int) (hs : s.size ≤ 100000) (hi0 : 0 ≤ i) (hi : i ≤ s.size) (hd0 : 0 ≤ dp) (hd : dp ≤ 10) (parse_ih : ∀ j dj : Int, dj = dp → 0 ≤ j → j ≤ s.size → PC Tryz.prog 162 [sv s, iv j, iv dj] (QP s j)) : PC Tryz.prog 121 [sv s, iv i, iv dp] (QL s i) := by
 (refine aU Tryz.func121 rfl (by simp [Tryz.ntmps121]) ?_; rw [Tryz.ntmps121])
 repeat' (first|(apply aM;first|(apply aE;rfl;rfl)|(first|(apply a6;rfl;rfl;rfl;(assumption))|(apply bD;rfl;rfl;rfl;(assumption))|(apply bO;(case hj|hb|hN => rfl);all_goals (intro hg;have hq := hg;(try simp only [cF] at hq);(try (exfalso;omega)))))|(apply aR;rfl;rfl;rfl;rfl)|(apply aC;rfl;rfl)|(first|(apply bR;rfl;(assumption);rfl;rfl)|(apply bF;rfl;(assumption);rfl;rfl))|((with_reducible apply aJ (k := 161));(case ha => rfl);(case h => (apply uC <;> (first|omega|decide)));(case hp => (rfl));(case hN => rfl))|(apply kB;rfl;rfl)|(apply aF;kernel_rfl)|(apply cG;rfl;rfl;rfl;(rfl);rfl;rfl))|(apply aN;first|apply aI|apply aB|(apply bZ;rfl;(rfl))|(apply aO;rfl;all_goals intro hc;have hq:=hc;(try simp only [cF] at hq);try exfalso;omega)|apply aK|apply aS|apply aQ)|with_reducible apply aA|with_reducible apply bK)
 rotate_left 1
 ·refine bC (σ := Int × List AL.Stmt × Nat) [0, 2] [(0, _), (2, _)] [] [] (fun k => [(1, iv k.1), (8, .own 0 0 k.2.2 6)]) (fun k => [(0, some (aH aV k.2.1))]) (fun k => i ≤ k.1 ∧ k.1 ≤ s.size ∧ k.2.2 = k.2.1.length ∧ (bQ k.2.1 : Int) ≤ k.1 - i) (fun k => (s.size - k.1).toNat) (i, [], 0) ⟨by omega, by omega, rfl, by simp [bQ]⟩ rfl rfl (by repeat' (first | exact trivial | refine And.intro rfl ?_)) (by repeat' (first | exact trivial | refine And.intro (.inr rfl) ?_)) ?_
  rintro ⟨k, xs, m⟩ ⟨hk0, hk, hm, hc⟩
  dsimp only at hk0 hk hm hc ⊢
  have hln := dI xs
  repeat' (first|(apply aM;first|(apply aE;rfl;rfl)|(apply aY;rfl;rfl;(exact (rfl:_=[_, _, _, _, _, _]));rfl;rfl;rfl)|(first|(apply a6;rfl;rfl;rfl;(assumption))|(apply bD;rfl;rfl;rfl;(assumption))|(apply bO;(case hj|hb|hN => rfl);all_goals (intro hg;have hq := hg;(try simp only [cF] at hq);(try (exfalso;omega)))))|(first|(apply bU;rfl;rfl;omega;rfl)|(apply aR;rfl;rfl;rfl;rfl))|(apply aC;rfl;rfl)|(first|(apply bR;rfl;(assumption);rfl;rfl)|(apply bF;rfl;(assumption);rfl;rfl))|(first|((with_reducible apply aJ (k := 161));(case ha => rfl);(case h => (apply uC <;> (first|omega|decide)));(case hp => (rfl));(case hN => rfl))|((with_reducible apply e8 (k := 162));(case ha => rfl);(case h => (apply parse_ih <;> (first|assumption|omega)));(case hp => (rfl));(case hN => rfl);(rintro _ ⟨x, nx, rfl, hqx⟩ _)))|(first|(apply kB;rfl;rfl)|(apply cH;rfl;rfl;rfl;rfl;rfl;(rw [aT]; omega);(rfl);omega;omega;(exact gV (by (assumption)));rfl;rfl))|(apply aF;kernel_rfl)|(apply cC;rfl;rfl)|(apply bE;rfl;rfl)|(apply cB;rfl;rfl;rfl)|((apply bS (t := _));(case hze|hsm|hl => rfl);(case hfl => (exact (rfl:_=some [_, _, _, _, _, _])));(case hM|hN => rfl))|(apply aW;rfl;rfl;rfl;rfl;rfl;(case hl => (simp;done));(exact (rfl:_=[_, _, _, _, _, _]))))|(apply aN;first|apply aI|apply aB|(apply bZ;rfl;(rfl))|(apply aO;rfl;all_goals intro hc;have hq:=hc;(try simp only [cF] at hq);try exfalso;omega)|apply aK|apply aS|apply aQ)|with_reducible apply aA|with_reducible apply bK|with_reducible apply aX|with_reducible apply cT)
  ·refine cE (Le.nilImm (d := 6) rfl) ?_
   exact sY (fun _ => QL.pur) (l := [.imm 0 [], iv (-1)]) rfl ⟨[], -1, rfl, .inl ⟨rfl, rfl⟩⟩
  ·refine cE (Le.frzD (d := 6) (i := 3) rfl rfl) ?_
   refine sY (fun _ => QL.pur) (l := [.imm (m + 1) (aH aV (xs ++ [x])), iv nx]) rfl ⟨xs ++ [x], nx, ?_, ?_⟩
   ·show AV.tup [AV.imm (m + 1) _, _] = AV.tup [AV.imm (List.length (xs ++ [x])) _, _]
    rw [List.length_append, hm]; rfl
   ·rw [fW]; simp only [bQ]; omega
  ·have b2 : 0 ≤ nx ∧ nx + 1 ≤ s.size := kL (w := ⟨#[59]⟩) (by assumption)
   (apply dW (nx + 1, xs ++ [x], m + 1);focus (refine Le.ren [(0, 3)] rfl (by decide) ?_ ?_ <;> repeat' (first|exact trivial|refine And.intro ⟨_, rfl, ?_⟩ ?_|refine And.intro ⟨_, _, rfl, rfl, ?_⟩ ?_|exact Or.inr rfl|refine Or.inl ⟨?_, (by first|rfl|exact aZ _ _)⟩|rfl)))
   ·dsimp only
    refine ⟨by omega, by omega, by simp [hm], ?_⟩
    rw [fW]; simp only [bQ]; omega
   ·dsimp only;omega
  ·refine cE (Le.nilImm (d := 6) rfl) ?_
   exact sY (fun _ => QL.pur) (l := [.imm 0 [], iv (-1)]) rfl ⟨[], -1, rfl, .inl ⟨rfl, rfl⟩⟩
 ·refine cE (Le.frzD (d := 6) (i := 0) rfl rfl) ?_
  exact sY (fun _ => QL.pur) (l := [.imm 0 [], iv i]) rfl ⟨[], i, rfl, by simp only [bQ]; omega⟩
 ·refine cE (Le.frzD (d := 6) (i := 0) rfl rfl) ?_
  exact sY (fun _ => QL.pur) (l := [.imm 0 [], iv i]) rfl ⟨[], i, rfl, by simp only [bQ]; omega⟩
theorem AZ (s : ByteArray) (hs : s.size ≤ 100000) : ∀ n : Nat, n ≤ 10 → (∀ j : Int, -1 ≤ j → j ≤ s.size + 10 → PC Tryz.prog 193 [sv s, iv j, iv ((n : Int) - 1)] (QB s j)) ∧ (∀ j : Int, 0 ≤ j → j ≤ s.size → PC Tryz.prog 121 [sv s, iv j, iv (n : Int)] (QL s j))
 | 0, hn => by
  have hB : ∀ j : Int, -1 ≤ j → j ≤ s.size + 10 → PC Tryz.prog 193 [sv s, iv j, iv (((0 : Nat) : Int) - 1)] (QB s j) :=
   fun j h0 h1 => vF s j (((0 : Nat) : Int) - 1) hs h0 h1 (by omega) (by omega) (fun _ _ h => by omega)
  have hP : ∀ j : Int, 0 ≤ j → j ≤ s.size → PC Tryz.prog 162 [sv s, iv j, iv ((0 : Nat) : Int)] (QP s j) :=
   fun j h0 h1 => AE s j _ hs h0 h1 (by omega) (by omega) (fun k dj h2 h3 h4 => by subst h2;exact hB k h3 h4)
  exact ⟨hB, fun j h0 h1 => DA s j _ hs h0 h1 (by omega) (by omega) (fun k dj h2 h3 h4 => by subst h2;exact hP k h3 h4)⟩
 | n + 1, hn => by
  have ih := AZ s hs n (by omega)
  have e : (((n + 1 : Nat) : Int) - 1) = (n : Int) := by omega
  have hB : ∀ j : Int, -1 ≤ j → j ≤ s.size + 10 → PC Tryz.prog 193 [sv s, iv j, iv (((n + 1 : Nat) : Int) - 1)] (QB s j) :=
   fun j h0 h1 => vF s j _ hs h0 h1 (by omega) (by omega) (fun k dj h2 h3 h4 h5 => by rw [e] at h3;subst h3;exact ih.2 k h4 h5)
  have hP : ∀ j : Int, 0 ≤ j → j ≤ s.size → PC Tryz.prog 162 [sv s, iv j, iv ((n + 1 : Nat) : Int)] (QP s j) :=
   fun j h0 h1 => AE s j _ hs h0 h1 (by omega) (by omega) (fun k dj h2 h3 h4 => by subst h2;exact hB k h3 h4)
  exact ⟨hB, fun j h0 h1 => DA s j _ hs h0 h1 (by omega) (by omega) (fun k dj h2 h3 h4 => by subst h2;exact hP k h3 h4)⟩
theorem IK (s : ByteArray) (i : Int) (hs : s.size ≤ 100000) (hi0 : 0 ≤ i) (hi : i ≤ s.size) : PC Tryz.prog 121 [sv s, iv i, iv 4] (QL s i) := (AZ s hs 4 (by omega)).2 i hi0 hi
theorem B2 (v : Int) (h0 : 0 ≤ v) (h1 : v ≤ 25) : PC Tryz.prog 214 [iv v] (fun r => r = sv (g8 v)) := by
 (refine aU Tryz.func214 rfl (by simp [Tryz.ntmps214]) ?_; rw [Tryz.ntmps214])
 repeat' (first|(apply aM;first|(apply HR;rfl;rfl;omega;rfl)|((apply FL (ns := [_]));(case hx|hs'|hN => rfl))|(apply AA;rfl;omega;rfl)|(apply aE;rfl;rfl)|(apply aC;rfl;rfl)|(apply aF;kernel_rfl)|(apply cG;rfl;rfl;rfl;exact (rfl:_=some [_]);rfl;rfl))|(apply aN;first|apply aI|apply aB|apply aQ)|with_reducible apply aA|((with_reducible apply aP);case hr => rfl))
 exact ⟨rfl, rfl⟩
theorem Fh (n : Int) (h0 : 0 ≤ n) (h1 : n ≤ 9) : PC Tryz.prog 215 [iv n] (fun r => r = sv (A9 n)) := by
 (refine aU Tryz.func215 rfl (by simp [Tryz.ntmps215]) ?_; rw [Tryz.ntmps215])
 repeat' (first|(apply aM;first|(apply aE;rfl;rfl)|(apply aR;rfl;rfl;rfl;rfl)|(apply aC;rfl;rfl)|(apply aF;kernel_rfl))|(apply aN;first|apply aI|apply aB|(apply aO;rfl;all_goals intro hc;have hq:=hc;(try simp only [cF] at hq);try exfalso;omega)|apply aK|apply aS)|with_reducible apply aA)
 refine bC (σ := Unit) [0, 3] [(0, _), (3, _)] [] [] (fun u => []) (fun u => []) (fun u => True) (fun u => 0) () trivial rfl rfl (by repeat' (exact trivial)) (by repeat' (exact trivial)) ?_
 rintro u _
 repeat' (first|(apply aM;first|(apply lL;rfl;rfl;(rfl);rfl)|((apply FL (ns := [_]));(case hx|hs'|hN => rfl))|(apply AA;rfl;omega;rfl)|(apply aE;rfl;rfl)|(first|(apply bU;rfl;rfl;omega;rfl)|(apply aR;rfl;rfl;rfl;rfl))|(apply aC;rfl;rfl)|(apply aF;kernel_rfl)|(apply cG;rfl;rfl;rfl;exact (rfl:_=some [_]);rfl;rfl))|(apply aN;first|apply aI|apply aB|(apply aO;rfl;all_goals intro hc;have hq:=hc;(try simp only [cF] at hq);try exfalso;omega)|apply bI|apply aQ)|with_reducible apply aA|with_reducible apply bJ|with_reducible apply bH|((with_reducible apply aP);case hr => rfl))
 exact ⟨rfl, rfl⟩
theorem Dg (s : AL.Stmt) (hc : dM s ≤ 10000) (hop : (s.op = 9 ∨ s.op = 10) ∨ (1 ≤ s.op ∧ s.op ≤ 8 ∧ 0 ≤ s.x ∧ s.x ≤ 5 ∧ 0 ≤ s.y ∧ s.y ≤ 5 ∧ (s.op = 1 ∨ s.op = 2 → 0 ≤ s.n ∧ s.n ≤ 9)))
  (hth : s.op = 9 ∨ s.op = 10 → PC Tryz.prog 163 [sl aV s.th] (fun r => r = sv (jQ s.th))) (hel : s.op = 9 → PC Tryz.prog 163 [sl aV s.el] (fun r => r = sv (jQ s.el))) : PC Tryz.prog 195 [eZ s] (fun r => r = sv (lR s)) := by
 have k1 := lF s.th
 have k2 := lF s.el
 have k3 := gY s
 (refine aU Tryz.func195 rfl (by simp [Tryz.ntmps195]) ?_; rw [Tryz.ntmps195])
 repeat' (first|(apply aM;first|(apply lL;rfl;rfl;(first|rfl|exact qT (by (simp only [ByteArray.size_append, oM, List.length_cons, List.length_nil, mS, mQ, pJ] <;> omega)));rfl)|(apply aE;rfl;rfl)|(apply aL;rfl;rfl;rfl;rfl)|(apply aD;rfl;rfl;rfl)|(apply aR;rfl;rfl;rfl;rfl)|(apply aC;rfl;rfl)|(first|((with_reducible apply aJ (k := 163));(case ha => rfl);(case h => (first|(apply hth;omega)|(apply hel;omega)));(case hp => (exact Pur.pf));(case hN => rfl))|((with_reducible apply aJ (k := 214));(case ha => rfl);(case h => (apply B2 <;> (omega)));(case hp => (rfl));(case hN => rfl))|((with_reducible apply aJ (k := 215));(case ha => rfl);(case h => (apply Fh <;> (omega)));(case hp => (rfl));(case hN => rfl)))|(apply aF;kernel_rfl)|(apply b0;rfl;rfl;rfl;rfl))|(apply aN;first|apply aI|apply aB|(apply b8;kernel_rfl)|(apply aO;rfl;all_goals intro hc;have hq:=hc;(try simp only [cF] at hq);try exfalso;omega)|apply aK|apply aS|apply aQ)|with_reducible apply aA|with_reducible apply bK|with_reducible apply aX|with_reducible apply cT|((with_reducible apply aP);case hr => rfl))
 all_goals (refine ⟨?_, rfl⟩; rw [Ep]; repeat' split)
 all_goals (first|rfl|omega)
theorem Aq (l : List AL.Stmt) (hc : bQ l ≤ 10000) (text_ih : ∀ k, k < l.length → PC Tryz.prog 195 [eZ l[k]!] (fun r => r = sv (lR l[k]!))) : PC Tryz.prog 163 [sl aV l] (fun r => r = sv (jQ l)) := by
 have hlen := dI l
 (refine aU Tryz.func163 rfl (by simp [Tryz.ntmps163]) ?_; rw [Tryz.ntmps163])
 repeat' (first|(apply aM;first|(apply aC;rfl;rfl)|(apply aF;kernel_rfl))|(apply aN;first|apply aI|apply aB|apply aK)|with_reducible apply aA)
 refine bC (σ := Nat × ByteArray) [0] [(0, _)] [] [] (fun k => [(4, iv (k.1 : Int)), (3, sv k.2)]) (fun k => []) (fun k => k.1 ≤ l.length ∧ k.2 = jQ (l.take k.1)) (fun k => l.length - k.1) (0, ⟨#[]⟩) ⟨by omega, rfl⟩ rfl rfl (by repeat' (first|exact trivial|refine And.intro rfl ?_)) (by repeat' (exact trivial)) ?_
 rintro ⟨k, t⟩ ⟨hk, ht⟩
 dsimp only at hk ht ⊢
 have k1 := lF (l.take k)
 have k2 := tH l[k]!
 have hck := eS l k
 have hct : bQ (l.take k) ≤ bQ l := by have := fW (l.take k) (l.drop k);rw [List.take_append_drop] at this;omega
 have k3 : t.size = (jQ (l.take k)).size := by rw [ht]
 repeat' (first|(apply aM;first|(apply lL;rfl;rfl;(exact qT (by (first|omega|(simp only [ByteArray.size_append, oM, List.length_cons, List.length_nil, mS, mQ, pJ] <;> omega))));rfl)|(apply aE;rfl;rfl)|(apply aY;rfl;rfl;(exact (rfl:_=[_, _, _, _, _, _]));rfl;rfl;rfl)|(first|(apply bU;rfl;rfl;omega;rfl)|(apply aR;rfl;rfl;rfl;rfl))|(apply aC;rfl;rfl)|(apply a7;(case hx|hi => rfl);(case hm => (omega));(case hml => (rfl));(case hα | hf|hg => infer_instance);(case hN => rfl))|((with_reducible apply aJ (k := 195));(case ha => rfl);(case h => (apply text_ih <;> (omega)));(case hp => (exact Pur.pf));(case hN => rfl))|(apply a8;rfl;rfl;rfl)|(apply aF;kernel_rfl))|(apply aN;first|apply aI|apply aB|(apply aO;rfl;all_goals intro hc;have hq:=hc;(try simp only [cF] at hq);try exfalso;omega)|apply aK|apply aS|apply bI|apply aQ)|with_reducible apply aA|with_reducible apply bJ|with_reducible apply aX|with_reducible apply bH|((with_reducible apply aP);case hr => rfl))
 ·(apply dW (k + 1, _); focus (refine Le.ren [] rfl (by decide) ?_ ?_ <;> repeat' (first | exact trivial | refine And.intro ⟨_, rfl, ?_⟩ ?_ | refine Or.inl ⟨?_, (by first | rfl | exact aZ _ _)⟩ | rfl)))
  ·exact ⟨by dsimp only;omega, by dsimp only;rw [s7 l k (by omega), p8, if_pos (by omega), ht]⟩
  ·dsimp only;omega
 ·(apply dW (k + 1, _); focus (refine Le.ren [] rfl (by decide) ?_ ?_ <;> repeat' (first | exact trivial | refine And.intro ⟨_, rfl, ?_⟩ ?_ | refine Or.inl ⟨?_, (by first | rfl | exact aZ _ _)⟩ | rfl)))
  ·exact ⟨by dsimp only;omega, by dsimp only;rw [s7 l k (by omega), p8, if_neg (by omega), ht]⟩
  ·dsimp only;omega
 ·have hke : k = l.length := by omega
  refine ⟨?_, rfl⟩
  rw [ht, hke, List.take_length]; rfl
theorem GW (ts : List Int) (hts : cR ts = true) : ∀ m : Nat, m ≤ 10000 → ∀ l d, bQ l ≤ m → okL ts d l = true → PC Tryz.prog 163 [sl aV l] (fun r => r = sv (jQ l)) := by
 intro m
 induction m with
 | zero =>
  intro hm l d hc ho
  have := dI l
  exact Aq l (by omega) (fun k hk => by omega)
 | succ m ih =>
  intro hm l d hc ho
  refine Aq l (by omega) (fun k hk => ?_)
  have hck := eS l k hk
  have hct := gB l[k]!
  have hs : o8 ts d l[k]! = true := by rw [rY, kC] at ho;exact ho k hk
  rw [jD] at hs
  by_cases h9 : l[k]!.op ≠ 9 ∧ l[k]!.op ≠ 10
  ·rw [if_pos h9] at hs
   simp only [Bool.and_eq_true] at hs
   exact Dg _ (by omega) (.inr (D2 hts hs.2)) (fun h => by omega) (fun h => by omega)
  ·rw [if_neg h9] at hs
   cases d with
   | zero => cases hs
   | succ d =>
    simp only [Bool.and_eq_true] at hs
    exact Dg _ (by omega) (.inl (by omega)) (fun h => ih (by omega) _ d (by omega) hs.1.2) (fun h => ih (by omega) _ d (by omega) hs.2)
theorem F0 (ts : List Int) (d : Nat) (l : List AL.Stmt) (hts : cR ts = true) (hc : bQ l ≤ 10000) (ho : okL ts d l = true) : PC Tryz.prog 163 [sl aV l] (fun r => r = sv (jQ l)) := GW ts hts _ hc l d (Nat.le_refl _) ho
def Bn (s : ByteArray) : List AV := [.v (.string s)]
instance : FlT Bn 1 := ⟨fun _ => rfl⟩
instance : FE Bn (fun s => [.v (.string s)]) := ⟨fun _ => rfl⟩
instance (s : ByteArray) : Pur (Bn s) := ⟨rfl⟩
theorem Le.slotEq {ts : List (Nat × AV)} {hs : List (Nat × Option (List AV))} {n : Nat} {z0 : Lo} {d : Nat} (v v' : AV) (hd : lk ts d = some v) (h : v = v') : Le ⟨ts, hs, n, z0⟩ ⟨(d, v') :: ts, hs, n, z0⟩ :=
 Le.slot hd fun w bad ι y hr => h ▸ hr
def kinds : List ByteArray := [⟨#[]⟩, ⟨#[105]⟩, ⟨#[98]⟩, ⟨#[114]⟩, ⟨#[109]⟩]
theorem B1 (k : Nat) : (kinds[k]!).size ≤ 1 := by
 match k with
 | 0 => decide
 | 1 => decide
 | 2 => decide
 | 3 => decide
 | 4 => decide
 | k + 5 => exact (show (default : ByteArray).size ≤ 1 from by decide)
theorem zS (p : Prg) (hv : cQ p = true) : PC Tryz.prog 122 [dD p] (fun r => ∃ t, r = sv t) := by
 have hv2 := hv
 simp only [cQ, Bool.and_eq_true, decide_eq_true_eq] at hv2
 obtain ⟨⟨hts, hol⟩, hcn⟩ := hv2
 have hl6 := fF hts
 have htx := lF p.body
 (refine aU Tryz.func122 rfl (by simp [Tryz.ntmps122]) ?_; rw [Tryz.ntmps122])
 repeat' (first|(apply aM;first|(apply aC;rfl;rfl)|(apply aF;kernel_rfl)|(apply b0;rfl;rfl;rfl;rfl))|(apply aN;first|apply aI|apply aB|apply aK)|with_reducible apply aA)
 refine bC (σ := Nat × ByteArray) [1] [(1, _)] [0] [(0, some _)] (fun k => [(4, iv (k.1 : Int)), (3, sv k.2)]) (fun k => []) (fun k => k.1 ≤ p.types.length ∧ k.2.size ≤ k.1) (fun k => p.types.length - k.1) (0, ⟨#[]⟩) ⟨by omega, by show 0 ≤ 0;omega⟩ rfl rfl (by repeat' (first|exact trivial|refine And.intro rfl ?_)) (by repeat' (exact trivial)) ?_
 rintro ⟨k, t⟩ ⟨hk, ht⟩
 dsimp only at hk ht ⊢
 have htk := jN hts k
 have hkz : (kinds[(p.types[k]!).toNat]!).size ≤ 1 := B1 _
 have hkl : kinds.length = 5 := rfl
 repeat' (first|(apply aM;first|(with_reducible apply dE (d := 14))|((with_reducible apply aJ (k := 163));(case ha => rfl);(case h => exact F0 p.types 4 p.body hts (by omega) hol);(case hp => (exact Pur.pf));(case hN => rfl))|(apply lL;rfl;rfl;(exact qT (by (simp only [ByteArray.size_append, oM, List.length_cons, List.length_nil, mS, mQ, pJ] <;> omega)));rfl)|(apply aE;rfl;rfl)|(apply aL;rfl;rfl;rfl;rfl)|(apply aD;rfl;rfl;rfl)|(apply aR;rfl;rfl;rfl;rfl)|(apply aC;rfl;rfl)|(apply a8;rfl;rfl;rfl)|(apply aF;kernel_rfl)|((apply bS (t := _));(case hze|hsm|hl => rfl);(case hfl => (exact (rfl:_=some [_, _, _, _, _])));(case hM|hN => rfl)))|(apply aN;first|apply aI|apply aB|(apply aO;rfl;all_goals intro hc;have hq:=hc;(try simp only [cF] at hq);try exfalso;omega)|apply aK|apply aS|apply bI|apply aQ)|with_reducible apply aA|with_reducible apply bJ|with_reducible apply bH)
 ·refine eR (iT ?_ (Le.slotEq (d := 13) _ (.imm 5 (aH Bn kinds)) rfl rfl))
  repeat' (first|(apply aM;first|(apply lL;rfl;rfl;(exact qT (by (omega)));rfl)|(apply aE;rfl;rfl)|(apply aL;rfl;rfl;rfl;rfl)|(apply aD;rfl;rfl;rfl)|(apply bU;rfl;rfl;omega;rfl)|(apply aC;rfl;rfl)|(first|(apply a7;(case hx|hi => rfl);(case hm => (omega));(case hml => (rfl));(case hα | hf|hg => infer_instance);(case hN => rfl))|(apply dA;(case hx|hi => rfl);(case hm => (omega));(case hml => (rfl));(case hα | hf|hg => infer_instance);(case hN => rfl)))|(apply aF;kernel_rfl))|(apply aN;(apply aB))|with_reducible apply aA|with_reducible apply aX)
  (apply dW (k + 1, _);focus (refine Le.ren [(0, 0)] rfl (by decide) ?_ ?_ <;> repeat' (first|exact trivial|refine And.intro ⟨_, rfl, ?_⟩ ?_|refine And.intro ⟨_, _, rfl, rfl, ?_⟩ ?_|exact Or.inr rfl|refine Or.inl ⟨?_, (by first|rfl|exact Pur.pf)⟩|rfl)))
  ·exact ⟨by dsimp only;omega, by dsimp only;rw [ByteArray.size_append]; omega⟩
  ·dsimp only;omega
 ·refine aP rfl ⟨⟨_, rfl⟩, rfl⟩
theorem FG {s : ByteArray} (b : Bool) : (∃ (q : Prg) (b' : Bool), AV.tup [AV.agg [.imm 0 [], .imm 0 []], bv b] = .tup [dD q, bv b'] ∧ bQ q.body ≤ s.size + 10 ∧ q.types.length ≤ s.size + 10) :=
 ⟨⟨[], []⟩, b, rfl, by simp [bQ], by simp⟩
theorem lW (s : ByteArray) (hs : s.size ≤ 10000) : PC Tryz.prog 68 [sv s] (fun r => ∃ (q : Prg) (b : Bool), r = .tup [dD q, bv b] ∧ bQ q.body ≤ s.size + 10 ∧ q.types.length ≤ s.size + 10) := by
 (refine aU Tryz.func68 rfl (by simp [Tryz.ntmps68]) ?_; rw [Tryz.ntmps68])
 repeat' (first|(apply aM;first|(with_reducible apply dE (d := 13))|(apply aE;rfl;rfl)|(apply aR;rfl;rfl;rfl;rfl)|(apply aC;rfl;rfl)|(apply kB;rfl;rfl)|(apply aF;kernel_rfl)|(apply bV;rfl;(exact (rfl:_=some [_, _]));(exact (rfl:_=[_, _]));rfl)|(apply bE;rfl;rfl)|(apply aW;rfl;rfl;rfl;rfl;rfl;(decide);(exact (rfl:_=[_, _]))))|(apply aN;first|apply aI|apply aB|(apply aO;rfl;all_goals intro hc;have hq:=hc;(try simp only [cF] at hq);try exfalso;omega)|apply aS|apply aQ)|with_reducible apply aA|with_reducible apply bK)
 ·exact aP (l := [.agg [.imm 0 [], .imm 0 []], bv false]) rfl ⟨FG false, rfl⟩
 refine eR ?_
 apply zK
 case hl => rfl
 case hf => exact (rfl:_=some [AV.v (.slice none 0 0), AV.v (.slice none 0 0)])
 case hN => rfl
 repeat' (first|(apply aM;first|(apply aC;rfl;rfl)|(apply aF;kernel_rfl)|(apply bE;rfl;rfl)|(apply aW;rfl;rfl;rfl;rfl;rfl;(decide);(exact (rfl:_=[_, _]))))|(apply aN;first|apply aI|apply aB|apply aK)|with_reducible apply aA)
 apply AW.le
 case k => exact Le.nilCell (i := 1) 1 [] rfl (by decide) (by decide)
 refine bC (σ := Nat × List Int × Nat) [0, 2, 4] [(0, _), (2, _), (4, _)] [0] [(0, some _)] (fun k => [(5, iv (k.1 : Int))]) (fun k => [(1, some [.own 2 0 k.2.2 1, .v (.slice none 0 0)]), (2, some (aH cI k.2.1))]) (fun k => k.1 ≤ s.size ∧ k.2.1.length = k.1 ∧ k.2.2 = k.2.1.length) (fun k => s.size - k.1) (0, [], 0) ⟨by omega, rfl, rfl⟩ rfl rfl (by repeat' (first|exact trivial|refine And.intro rfl ?_)) (by repeat' (first|exact trivial|refine And.intro (.inr rfl) ?_)) ?_
 rintro ⟨k, xs, m⟩ ⟨hk, hxl, hm⟩
 dsimp only at hk hxl hm ⊢
 repeat' (first|(apply aM;first|(with_reducible apply dE (d := 43))|(apply pH;rfl;rfl;omega;rfl)|(apply aE;rfl;rfl)|(apply aL;rfl;rfl;rfl;rfl)|(apply aD;rfl;rfl;rfl)|(first|(apply a6;rfl;rfl;rfl;(assumption))|(apply bD;rfl;rfl;rfl;(assumption))|(apply bO;(case hj|hb|hN => rfl);all_goals (intro hg;have hq := hg;(try simp only [cF] at hq);(try (exfalso;omega)))))|(first|(apply bU;rfl;rfl;omega;rfl)|(apply aR;rfl;rfl;rfl;rfl))|(apply aC;rfl;rfl)|(first|(apply bR;rfl;(assumption);rfl;rfl)|(apply bF;rfl;(assumption);rfl;rfl))|(first|(apply kB;rfl;rfl)|(apply cH;rfl;rfl;rfl;rfl;rfl;(rw [aT]; omega);(rfl);omega;omega;(exact j1 (by (assumption)));rfl;rfl))|(apply aF;kernel_rfl)|((apply bS (t := _));(case hze|hsm|hl => rfl);(case hfl => exact (rfl:_=some [_]));(case hM|hN => rfl))|(apply aW;rfl;rfl;rfl;rfl;rfl;(case hl => (simp;done));(exact (rfl:_=[_, _]))))|(apply aN;first|apply aI|apply aB|(apply cS;rfl;(rfl))|(apply aO;rfl;all_goals intro hc;have hq:=hc;(try simp only [cF] at hq);try exfalso;omega)|apply aK|apply aS|apply bI)|with_reducible apply aA|with_reducible apply bJ|with_reducible apply aX|with_reducible apply bH)
 ·(apply dW (k + 1, xs ++ [1], m + 1); focus (refine Le.ren [(0, 0), (1, 1), (2, 4)] rfl (by decide) ?_ ?_ <;> repeat' (first | exact trivial | refine And.intro ⟨_, rfl, ?_⟩ ?_ | refine And.intro ⟨_, _, rfl, rfl, ?_⟩ ?_ | exact Or.inr rfl | refine Or.inl ⟨?_, (by first | rfl | exact aZ _ _)⟩ | refine Or.inr (All2.cons ?_ ?_) | refine All2.cons ?_ ?_ | exact All2.nil | rfl)))
  ·exact ⟨by dsimp only;omega, by simp [hxl], by simp [hm]⟩
  ·dsimp only;omega
 ·(apply dW (k + 1, xs ++ [2], m + 1); focus (refine Le.ren [(0, 0), (1, 1), (2, 4)] rfl (by decide) ?_ ?_ <;> repeat' (first | exact trivial | refine And.intro ⟨_, rfl, ?_⟩ ?_ | refine And.intro ⟨_, _, rfl, rfl, ?_⟩ ?_ | exact Or.inr rfl | refine Or.inl ⟨?_, (by first | rfl | exact aZ _ _)⟩ | refine Or.inr (All2.cons ?_ ?_) | refine All2.cons ?_ ?_ | exact All2.nil | rfl)))
  ·exact ⟨by dsimp only;omega, by simp [hxl], by simp [hm]⟩
  ·dsimp only;omega
 ·(apply dW (k + 1, xs ++ [3], m + 1); focus (refine Le.ren [(0, 0), (1, 1), (2, 4)] rfl (by decide) ?_ ?_ <;> repeat' (first | exact trivial | refine And.intro ⟨_, rfl, ?_⟩ ?_ | refine And.intro ⟨_, _, rfl, rfl, ?_⟩ ?_ | exact Or.inr rfl | refine Or.inl ⟨?_, (by first | rfl | exact aZ _ _)⟩ | refine Or.inr (All2.cons ?_ ?_) | refine All2.cons ?_ ?_ | exact All2.nil | rfl)))
  ·exact ⟨by dsimp only;omega, by simp [hxl], by simp [hm]⟩
  ·dsimp only;omega
 ·(apply dW (k + 1, xs ++ [4], m + 1); focus (refine Le.ren [(0, 0), (1, 1), (2, 4)] rfl (by decide) ?_ ?_ <;> repeat' (first | exact trivial | refine And.intro ⟨_, rfl, ?_⟩ ?_ | refine And.intro ⟨_, _, rfl, rfl, ?_⟩ ?_ | exact Or.inr rfl | refine Or.inl ⟨?_, (by first | rfl | exact aZ _ _)⟩ | refine Or.inr (All2.cons ?_ ?_) | refine All2.cons ?_ ?_ | exact All2.nil | rfl)))
  ·exact ⟨by dsimp only;omega, by simp [hxl], by simp [hm]⟩
  ·dsimp only;omega
 ·(apply dW (k + 1, xs ++ [0], m + 1); focus (refine Le.ren [(0, 0), (1, 1), (2, 4)] rfl (by decide) ?_ ?_ <;> repeat' (first | exact trivial | refine And.intro ⟨_, rfl, ?_⟩ ?_ | refine And.intro ⟨_, _, rfl, rfl, ?_⟩ ?_ | exact Or.inr rfl | refine Or.inl ⟨?_, (by first | rfl | exact aZ _ _)⟩ | refine Or.inr (All2.cons ?_ ?_) | refine All2.cons ?_ ?_ | exact All2.nil | rfl)))
  ·exact ⟨by dsimp only;omega, by simp [hxl], by simp [hm]⟩
  ·dsimp only;omega
 all_goals subst hm
 all_goals (refine eR (iT ?_ (Le.frzC (j := 1) (i := 2) [] rfl rfl (by decide))))
 all_goals repeat' (first|(apply aM;first|((with_reducible apply e8 (k := 121));(case ha => rfl);(case h => (apply IK <;> omega));(case hp => (rfl));(case hN => rfl);(rintro _ ⟨l, nx, rfl, hql⟩ _))|((with_reducible apply aJ (k := 57));(case ha => rfl);(case h => exact l9 ⟨xs, l⟩ (by show xs.length ≤ _; omega) (by show bQ l ≤ 100000000;rcases hql with ⟨_, h9⟩|h9;(rw [h9]; decide);omega));(case hp => (exact Pur.pf));(case hN => rfl))|((with_reducible apply e8 (k := 122));(case ha => rfl);(case h => exact zS ⟨xs, l⟩ (by assumption));(case hp => (exact Pur.pf));(case hN => rfl);(rintro _ ⟨t, rfl⟩ _))|(apply lL;rfl;rfl;(rfl);rfl)|(apply aE;rfl;rfl)|(apply aY;rfl;rfl;(exact (rfl:_=[_, _]));rfl;rfl;rfl)|(apply aD;rfl;rfl;rfl)|(first|(apply a6;rfl;rfl;rfl;(assumption))|(apply bD;rfl;rfl;rfl;(first|rfl|assumption))|(apply bO;(case hj|hb|hN => rfl);all_goals (intro hg;have hq := hg;(try simp only [cF] at hq);(try (exfalso;omega)))))|(first|(apply bU;rfl;rfl;omega;rfl)|(apply aR;rfl;rfl;rfl;rfl))|(apply aC;rfl;rfl)|(first|(apply bR;rfl;(first|rfl|assumption);rfl;rfl)|(apply bF;rfl;(assumption);rfl;rfl))|(apply kB;rfl;rfl)|(apply aF;kernel_rfl)|(apply bV;rfl;(exact (rfl:_=some [_, _]));(exact (rfl:_=[_, _]));rfl)|(apply cC;rfl;rfl)|(apply cB;rfl;rfl;rfl)|(apply aW;rfl;rfl;rfl;rfl;rfl;(case hl => (first|decide|(simp;done)));(exact (rfl:_=[_, _]))))|(apply aN;first|apply aI|apply aB|(apply bZ;rfl;(rfl))|(apply aO;rfl;all_goals intro hc;have hq:=hc;(try simp only [cF] at hq);try exfalso;omega)|apply aS|apply aQ)|with_reducible apply aA|with_reducible apply bK)
 all_goals first
  | exact aP (l := [.agg [.imm 0 [], .imm 0 []], bv false]) rfl ⟨FG false, rfl⟩
  | (refine aP (l := [.agg [.imm xs.length (aH cI xs), sl aV l], bv true]) rfl ⟨⟨⟨xs, l⟩, true, rfl, ?_, by show xs.length ≤ _; omega⟩, Pur.pf⟩
     show bQ l ≤ _
     rcases hql with ⟨_, h9⟩|h9
     ·rw [h9]; simp [bQ]
     ·omega)
end Go.Proofs.YtjcpngimjdckmaaGreat
