/-
 A part of the proofs over this program: rules and contracts of its functions (the contracts).
-/
import Derived.Test.YteidfaaldcedpaaGreatDoorU1B03
set_option linter.unusedVariables false
set_option linter.unusedSimpArgs false
set_option maxHeartbeats 8000000
set_option maxRecDepth 4000
attribute [local irreducible] Go.AL.RW Go.AL.AW Go.AL.Stop
namespace Go.Proofs.YteidfaaldcedpaaGreatDoor
open Go.AL Go.RowKit
variable {N : Nat} {Q : Exit → AS → Prop} {all : Array Oper} {rest : List Oper} {tsl : List (Nat × AV)} {hsl : List (Nat × Option (List AV))} {nidl : Nat} {z0 : Lo} {md : Md} {d : Nat} {ty : TypeId} {pos : String} {af : Array Edge} {tys : Array TypeId}
class NumS (cs : List AV) (xs : outParam (List ByteArray)) : Prop where h : cs = flat DR xs
instance NumS.nil : NumS [] []:=⟨rfl⟩
instance NumS.cons {n : ByteArray} {cs : List AV} {xs : List ByteArray} [h : NumS cs xs] : NumS (.v (.string n) :: cs) (n :: xs):=⟨by rw [h.h]; rfl⟩
theorem HY {cs:List AV}{xs:List ByteArray}{m:Nat}(h:NumS cs xs) (hm:m = xs.length) (hs:xs.all (fun s => decide (s.size ≤ 600)) = true):∃ ys:List ByteArray,AV.imm m cs = sl DR ys ∧ ys.length = m ∧ ∀ i:Nat,(ys[i]!).size ≤ 600:=by
 refine ⟨xs,by rw [h.h,hm],hm.symm,fun i => ?_⟩
 by_cases hi : i < xs.length
 ·rw [List.all_eq_true] at hs
  rw [aY _ _ hi]
  simpa using hs _ (List.getElem_mem hi)
 ·rw [getElem!_neg xs i hi]; decide
theorem Hm:PC Tryz.prog 60 [] (fun r => ∃ ys:List ByteArray,r = sl DR ys ∧ ys.length = 25 ∧ ∀ i:Nat,(ys[i]!).size ≤ 600):=by
 refine aB Tryz.func60 Tryz.ntmps60 ?_
 repeat' (first|(apply aF;(apply aJ (t := _);rfl;rfl;rfl;exact (rfl:_=some [_,_,_,_,_,_,_,_,_,_,_,_,_,_,_,_,_,_,_,_,_,_,_,_,_]);rfl;rfl))|refine aE ?_|fail)
 refine uC (l := [.imm 25 [_,_,_,_,_,_,_,_,_,_,_,_,_,_,_,_,_,_,_,_,_,_,_,_,_]]) ?_ rfl ?_
 ·rintro _ ⟨ys,rfl,_⟩; exact bD _ _
 ·exact HY inferInstance rfl (by decide)
theorem uP {P:Program}{N:Nat}{Q:Exit → AS → Prop}{all:Array Oper}{rest:List Oper}{ts:List (Nat × AV)}{hs:List (Nat × Option (List AV))}{n:Nat}{z0:Lo}{ty:TypeId}{pos:String}{af:Array Edge}{d:Nat}{args:Array Operand}{tys:Array TypeId}
  {k : FuncId} {pv : List AV} {p0 : Prg × Nat → Prop} {i p : Nat} {bs : List UInt8} (h : MC P k (.optr 0 0 :: pv) [(0,some (eT bs p))] 1 p0 (fun x => bI x.1) (fun x => [(0,some (eT bs x.2))])) [hc : CaT P k] (ha : evL (lk ts) args.toList = some (.optr i 0 :: pv)) (hpv : bR pv = true)
  (hH : aT hs i = some (eT bs p)) (hM : Nat.ble (n + 0) a6 = true) (hN : Nat.blt d N = true) (kk : ∀ x,p0 x → RW P N all Q .txt rest ⟨(d,bI x.1) :: ts,(i,some (eT bs x.2)) :: hs,n + 0,z0⟩) :
  RW P N all Q .txt (⟨some d,.call ⟨.value (.func k),args,tys⟩,ty,pos,af,none⟩ :: rest) ⟨ts,hs,n,z0⟩ :=
 Kj (σ := Prg × Nat) [i] 1 (fun x : Prg × Nat => [(i, some (eT bs x.2))]) h ha rfl ⟨⟨_, _, rfl, hH, RnL.purI inferInstance⟩, trivial⟩ rfl (RnL.cons (RnV.optr rfl) (RnL.pur hpv)) (by simpa using hM)
  (fun x _ => RnV.purI inferInstance) (fun x _ => by simp [uE]) (fun x _ => ⟨⟨0,_,rfl,rfl,RnL.purI inferInstance⟩,trivial⟩) hN kk
theorem Ot (bs:List UInt8) (p:Nat) (xs:List Int) (lo hi:Int) (h0:0 < xs.length) (h:xs.all (fun x => decide (lo ≤ x) && decide (x ≤ hi)) = true):lo ≤ jC bs p xs ∧ jC bs p xs ≤ hi:=by
 have h1 := dO bs p (xs.length : Int)
 rw [kG] at h
 have := h (bJ bs p (xs.length : Int)).toNat (by omega)
 simp only [Bool.and_eq_true,decide_eq_true_eq] at this
 exact this
theorem PJ (bs:List UInt8) (p:Nat) (hb:bs.length ≤ 2000) (hp:p ≤ 1000):MC Tryz.prog 25 [.optr 0 0] [(0,some (eT bs p))] 1 (fun x:Prg × Nat => aR x.1.body ≤ 620 ∧ x.1.types.length ≤ 620 ∧ x.2 ≤ 2000) (fun x => bI x.1) (fun x => [(0,some (eT bs x.2))]):=by
 have h0 := dO bs p 25
 have hn := Ot bs (p + 1 + 1) [5,4,7,3,8] 0 8 (by decide) (by decide)
 refine aU Tryz.func25 Tryz.ntmps25 ?_
 repeat' (first|(apply aF;first|(apply jE (k := 60);rfl;exact Hm;(rfl);rfl;(rintro _ ⟨ys,rfl,hyl,hsz⟩ _);(have hpk := dO bs p (ys.length : Int)))|(apply jE (k := 61);rfl;exact uZ _ (Nat.le_trans (hsz _) (by decide));(rfl);rfl;(rintro _ ⟨q,b,rfl,hqc,hqt⟩ _))|(apply yZ (ts := [1,2,2,3,4,4]);rfl;rfl;rfl;rfl;rfl;(apply Kn <;> (first|assumption|omega));rfl;rfl)|(apply aJ (t := _);rfl;rfl;rfl;(exact (rfl:_=some [_,_,_,_,_,_]));rfl;rfl)|(first|(apply lQ;rfl;rfl;(rfl);(apply o6 <;> (first|assumption|omega));rfl;rfl)|(apply Ft;rfl;rfl;rfl;rfl;infer_instance;rfl;(rfl);assumption;omega;(decide);(decide);rfl;rfl)))|refine aE ?_|(refine aK ?_ ?_ <;> intro hc hq <;> try (exfalso;omega))|(refine bK ?_ ?_ <;> intro hg hq <;> try (exfalso;omega))|refine bH ?_|fail)
 ·have h9 := hsz (bJ bs p (ys.length : Int)).toNat
  refine aC rfl ?_
  exact aP (q,p + 1 + 1) ⟨by dsimp only;omega,by dsimp only;omega,by dsimp only;omega⟩ rfl ⟨.inr rfl,trivial⟩
 ·have h9 := MW bs (d := 2) (by omega) (jC bs (p + 1 + 1) [5, 4, 7, 3, 8]) (p + 1 + 1 + 1)
  have h10 := Ar bs (d := 2) (by omega) (jC bs (p + 1 + 1) [5,4,7,3,8]) (p + 1 + 1 + 1)
  refine aC rfl ?_
  exact aP ((⟨[1,2,2,3,4,4],(dP bs 2 (jC bs (p + 1 + 1) [5,4,7,3,8]) (p + 1 + 1 + 1)).1⟩ : Prg),(dP bs 2 (jC bs (p + 1 + 1) [5,4,7,3,8]) (p + 1 + 1 + 1)).2) ⟨by dsimp only;omega,by show 6 ≤ 620;decide,by dsimp only;omega⟩ rfl ⟨.inr rfl,trivial⟩
 ·have h9 := hsz (bJ bs p (ys.length : Int)).toNat
  refine aC rfl ?_
  exact aP (q,p + 1 + 1) ⟨by dsimp only;omega,by dsimp only;omega,by dsimp only;omega⟩ rfl ⟨.inr rfl,trivial⟩
theorem C8 {bs:List UInt8}{x0:Operand}(ha0:ev (lk tsl) x0 = some (sl cU bs)) (hmc:MC Tryz.prog 23 [sl cU bs] [] 0 (fun _:Unit => True) (fun _ => .optr 0 0) (fun _ => [(0,some (eT (bs.take 2000) 0))])) (hM:Nat.ble (nidl + 1) a6 = true) (hN:Nat.blt d N = true){md':Md}[hmd:MdA md (fF [x0] ++ []) (List.map Sum.inr (List.map Prod.fst ([(nidl,some (eT (bs.take 2000) 0))]:List (Nat × Option (List AV)))) ++ [.inl d]) md'] (kk:RW Tryz.prog N all Q md' rest ⟨(d,.optr nidl 0) :: tsl,gD hsl [(nidl,some (eT (bs.take 2000) 0))],nidl + 1,z0⟩):RW Tryz.prog N all Q md (⟨some d,.call ⟨.value (.func 23),#[x0],tys⟩,ty,pos,af,none⟩ :: rest) ⟨tsl,hsl,nidl,z0⟩:=by
 exact aX (l := [x0]) [] 1 [(nidl,some (eT (bs.take 2000) 0))] hmc (avs := [sl cU bs]) (by simp only [evL,ha0]) rfl hM hN (md' := md') (hmd := hmd) kk
theorem Gu (bs:List UInt8) (hb:bs.length ≤ 1048576):MC Tryz.prog 23 [sl cU bs] [] 0 (fun _:Unit => True) (fun _ => .optr 0 0) (fun _ => [(0,some (eT (bs.take 2000) 0))]) := PO bs hb
theorem yQ (p:Prg) (hv:bE p = false) (hl:p.types.length ≤ 1048576) (hs:aR p.body ≤ 1048576):PC Tryz.prog 26 [bI p] (fun r => r = sl iW []):=by
 have hval := jU p hl (by omega)
 rw [hv] at hval
 refine aB Tryz.func26 Tryz.ntmps26 ?_
 repeat' (first|(apply aF;first|(apply aA (k := 63);rfl;exact hval;exact Pur.pf;rfl)|(apply aJ (t := _);rfl;rfl;rfl;(rfl);rfl;rfl))|refine aE ?_|fail)
 exact aC rfl ⟨rfl,rfl⟩
instance : Eq3 Tryz.prog 28 where
 g := Tryz.eqGuardType28
 e := fun a b c a' b' c' w => by
  have u3 := Tryz.underlying3
  have a3 := Tryz.isAgg3
  have z3 := Tryz.sizeOf3
  have hS : Tryz.prog.underlying 28 = some (.struct (Tryz.prog.fieldsOf 28)) := by kernel_rfl
  have hp : Tryz.prog.stoodInHeld 28 = false := by kernel_rfl
  rw [show (10000 : Nat) = 9999 + 1 from rfl,run_equalIn_agg w 9999 28 _ _ hS hp]
  simp only [Program.fieldsOf,Tryz.underlying28]
  go_simp
  by_cases h1 : a = a' <;> by_cases h2 : b = b' <;> by_cases h3 : c = c' <;> simp [h1,h2,h3]
theorem Dd (p:Prg) (xs:List Int) (hl:p.types.length ≤ 1048576) (hs:aR p.body ≤ 1048576) (hx:xs.length ≤ 10):PC Tryz.prog 17 [bI p,sl cI xs] (fun r => r = if bE p = true ∧ (∀ j,j < xs.length → 0 ≤ xs[j]! ∧ xs[j]! < (aD p).length) then .tup [aG p.types p.body (aD p),bv true] else .tup [.v (.pointer none),bv false]):=by
 have hpl := j6 p
 have hnl := lP p.body
 refine aB Tryz.func17 Tryz.ntmps17 ?_
 repeat' (first|(apply aF;(first|(apply aA (k := 45);rfl;(apply BP <;> (first|assumption|omega));exact Pur.pf;rfl)|(apply aA (k := 46);rfl;(apply BL <;> (assumption));exact Pur.pf;rfl)))|refine aE ?_|(refine aK ?_ ?_ <;> intro hc hq <;> try (exfalso;omega))|refine bH ?_|fail)
 ·refine aC rfl ⟨?_, (by (rfl))⟩
  rw [if_neg (by simp [hq])]; rfl
 ·refine aH (σ := Nat) [6, 17, 18] [1] (fun k => [(19, iv (k : Int))]) (fun k => []) (fun k => k ≤ xs.length ∧ ∀ j, j < k → 0 ≤ xs[j]! ∧ xs[j]! < (aD p).length) (fun k => xs.length - k) (0) ⟨by omega, by omega⟩ ?_
  rintro k ⟨hk,hall⟩
  repeat' (first|(apply aF;(apply aA (k := 47);rfl;(apply cY);(rfl);rfl))|refine aE ?_|(refine aK ?_ ?_ <;> intro hc hq <;> try (exfalso;omega))|fail)
  ·refine aC rfl ⟨?_, (by (rfl))⟩
   rw [if_neg (fun h => by have := h.2 k (by omega);omega)]; rfl
  ·(refine bB (k + 1) (Le.renA [(1, 1)]) ?_ ?_)
   ·exact ⟨by omega, fun j hj => by
     by_cases e : j = k
     ·subst e;omega
     ·exact hall j (by omega)⟩
   ·omega
  ·refine aO (Le.frzP (d := 4) (i := 1) rfl rfl) ?_
   refine aC rfl ⟨?_,(by show (AV.tup [aG p.types p.body (aD p),bv true]).pur = true;exact PurV.pf)⟩
   rw [if_pos ⟨by assumption,fun j hj => hall j (by omega)⟩]; rfl
def Q8 (p : Prg) (i : Int) : Prop := bE p = true ∧ 0 ≤ i ∧ i < (aD p).length
theorem GC (p:Prg) (i:Int) (hl:p.types.length ≤ 1048576) (hs:aR p.body ≤ 1048576) (h:Q8 p i):PC Tryz.prog 17 [bI p,.imm 1 [iv i]] (fun r => r = .tup [aG p.types p.body (aD p),bv true]):=by
 have := Dd p [i] hl hs (by simp)
 rw [if_pos ⟨h.1, fun j hj => by obtain rfl : j = 0 := by simpa using hj
                                 exact h.2⟩] at this
 exact this
theorem r7 (p:Prg) (hl:p.types.length ≤ 1048576) (hs:aR p.body ≤ 1048576):PC Tryz.prog 41 [bI p] (fun r => r = sl b8 (if bE p = true then aD p else [])):=by
 have hval := jU p hl (by omega)
 have h2 := dH p hs
 refine aB Tryz.func41 Tryz.ntmps41 ?_
 repeat' (first|(apply aF;first|(apply aA (k := 63);rfl;exact hval;exact Pur.pf;rfl)|(apply aA (k := 36);rfl;exact h2;exact Pur.pf;rfl)|(apply aJ (t := _);rfl;rfl;rfl;(rfl);rfl;rfl))|refine aE ?_|(refine aK ?_ ?_ <;> intro hc hq <;> try (exfalso;omega))|fail)
 ·refine aC rfl ⟨?_, (by (rfl))⟩
  rw [if_neg (by simp [hq])]; rfl
 ·refine aC rfl ⟨?_, (by (exact bD _ _))⟩
  rw [if_pos hq]; rfl
theorem PX (L:List Int) (n:Int) (hl:L.length ≤ 1048576):PC Tryz.prog 8 [sl cI L,iv n] (fun r => r = bv (decide (n ∈ L))):=by
 refine aB Tryz.func8 Tryz.ntmps8 ?_
 repeat' (first|refine aE ?_|fail)
 refine aH (σ := Nat) [0,1] [] (fun k => [(5,iv (k : Int))]) (fun k => []) (fun k => k ≤ L.length ∧ ∀ j,j < k → L[j]! ≠ n) (fun k => L.length - k) (0) ⟨by omega,by omega⟩ ?_
 rintro k ⟨hk,hall⟩
 repeat' (first|refine aE ?_|(refine aK ?_ ?_ <;> intro hc hq <;> try (exfalso;omega))|fail)
 ·refine aC rfl ⟨?_, rfl⟩
  simp only [aM]
  rw [decide_eq_true (by have h := aS L k (by omega);rw [hq] at h;exact h)]
 ·(refine bB (k + 1) (Le.renA []) ?_ ?_)
  ·exact ⟨by omega, fun j hj => by
    by_cases e : j = k
    ·subst e;exact hq
    ·exact hall j (by omega)⟩
  ·omega
 ·refine aC rfl ⟨?_, rfl⟩
  simp only [aM]
  rw [decide_eq_false (fun h => by
   obtain ⟨j,hj,e⟩ := List.getElem_of_mem h
   exact hall j (by omega) (by rw [aY _ _ hj]; exact e))]
theorem P2 {xs:List Int}{m:Nat}{x0:Operand}{i0:Nat}(ha0:ev (lk tsl) x0 = some (.own i0 0 m 1)) (hH0:aT hsl i0 = some (flat cI xs)) (hmc:MC Tryz.prog 69 [.own 0 0 m 1] [(0,some (flat cI xs))] 1 (fun _:Unit => True) (fun _ => .tup []) (fun _ => [(0,some (flat cI xs.reverse))])) (hM:Nat.ble (nidl + 0) a6 = true) (hN:Nat.blt d N = true){md':Md}[hmd:MdA md (fF [x0] ++ [.inr i0]) (List.map Sum.inr (List.map Prod.fst ([(i0,some (flat cI xs.reverse))]:List (Nat × Option (List AV)))) ++ [.inl d]) md'] (kk:RW Tryz.prog N all Q md' rest ⟨(d,.tup []) :: tsl,gD hsl [(i0,some (flat cI xs.reverse))],nidl + 0,z0⟩):RW Tryz.prog N all Q md (⟨some d,.call ⟨.value (.func 69),#[x0],tys⟩,ty,pos,af,none⟩ :: rest) ⟨tsl,hsl,nidl,z0⟩:=by
 exact aX (l := [x0]) [i0] 1 [(i0,some (flat cI xs.reverse))] hmc (avs := [.own i0 0 m 1]) (by simp only [evL,ha0]) rfl hM hN (md' := md') (hmd := hmd) kk
theorem QF (xs:List Int) (m:Nat) (hm:m = xs.length) (hl:xs.length ≤ 1048576):MC Tryz.prog 69 [.own 0 0 m 1] [(0,some (flat cI xs))] 1 (fun _:Unit => True) (fun _ => .tup []) (fun _ => [(0,some (flat cI xs.reverse))]):=by
 subst hm
 refine aU Tryz.func69 Tryz.ntmps69 ?_
 repeat' (first|refine aE ?_|fail)
 refine aH (σ := Nat × List Int × Int) [0] [] (fun k => [(2,iv (k.1 : Int)),(3,iv k.2.2)]) (fun k => [(0,some (flat cI k.2.1))]) (fun k => 2 * k.1 ≤ xs.length ∧ k.2.1.length = xs.length ∧ (∀ l,l < xs.length → k.2.1[l]! = if l < k.1 ∨ xs.length ≤ l + k.1 then xs[xs.length - 1 - l]! else xs[l]!) ∧ k.2.2 = (xs.length : Int) - 1 - (k.1 : Int)) (fun k => xs.length - k.1) (0,xs,(xs.length : Int) - 1) ⟨by omega,rfl,fun l hl => by rw [if_neg (by omega)],by simp⟩ ?_
 rintro ⟨k,u,z⟩ ⟨hk,hul,hu,hz⟩
 dsimp only at hk hul hu hz
 try dsimp only
 repeat' (first|refine aE ?_|(refine aK ?_ ?_ <;> intro hc hq <;> try (exfalso;omega))|refine bH ?_|fail)
 ·(refine bB (k + 1, _, _) (Le.renA []) ?_ ?_)
  ·dsimp only
   refine ⟨by omega,by rw [List.length_set,List.length_set]; exact hul,fun l hl => ?_,by omega⟩
   have h1 := hu l hl
   have h2 := hu k (by omega)
   have h3 := hu z.toNat (by omega)
   have e1 : xs.length - 1 - k = z.toNat := by omega
   have e2 : xs.length - 1 - z.toNat = k := by omega
   rw [if_neg (by omega)] at h2 h3
   rw [aW,aW,List.length_set]
   by_cases q1 : z.toNat = l
   ·rw [if_pos ⟨q1,by omega⟩,if_pos (by omega),h2,← q1,e2]
   ·rw [if_neg (by omega)]
    by_cases q2 : k = l
    ·rw [if_pos ⟨q2,by omega⟩,if_pos (by omega),h3,← q2,e1]
    ·rw [if_neg (by omega), h1]
     by_cases q3 : l < k ∨ xs.length ≤ l + k
     ·rw [if_pos q3,if_pos (by omega)]
     ·rw [if_neg q3,if_neg (by omega)]
  ·dsimp only;omega
 ·refine Au (l := []) rfl ?_
  refine aP () trivial rfl ⟨sE ?_,trivial⟩
  have e : u = xs.reverse := bT (by rw [List.length_reverse, hul]) fun l hl => by
   rw [hul] at hl
   rw [hu l hl,aY xs.reverse l (by simpa using hl),List.getElem_reverse,← aY]
   split
   ·rfl
   ·congr 1;omega
  rw [e]
theorem NL {m:Nat}{x0 x1:Operand}(ha0:ev (lk tsl) x0 = some (.v (.slice none 0 0))) (ha1:ev (lk tsl) x1 = some (iv (m:Int))) (hmc:MC Tryz.prog 70 [.v (.slice none 0 0),iv (m:Int)] [] 0 (fun _:Unit => True) (fun _ => .own 0 0 0 1) (fun _ => [(0,some (flat cI ([]:List Int)))])) (hM:Nat.ble (nidl + 1) a6 = true) (hN:Nat.blt d N = true){md':Md}[hmd:MdA md (fF [x0,x1] ++ []) (List.map Sum.inr (List.map Prod.fst ([(nidl,some (flat cI ([]:List Int)))]:List (Nat × Option (List AV)))) ++ [.inl d]) md'] (kk:RW Tryz.prog N all Q md' rest ⟨(d,.own nidl 0 0 1) :: tsl,gD hsl [(nidl,some (flat cI ([]:List Int)))],nidl + 1,z0⟩):RW Tryz.prog N all Q md (⟨some d,.call ⟨.value (.func 70),#[x0,x1],tys⟩,ty,pos,af,none⟩ :: rest) ⟨tsl,hsl,nidl,z0⟩:=by
 exact aX (l := [x0,x1]) [] 1 [(nidl,some (flat cI ([] : List Int)))] hmc (avs := [.v (.slice none 0 0),iv (m : Int)]) (by simp only [evL,ha0,ha1]) rfl hM hN (md' := md') (hmd := hmd) kk
theorem Qa (m:Nat) (hm:m ≤ 1048576):MC Tryz.prog 70 [.v (.slice none 0 0),iv (m:Int)] [] 0 (fun _:Unit => True) (fun _ => .own 0 0 0 1) (fun _ => [(0,some (flat cI ([]:List Int)))]):=by
 refine aU Tryz.func70 Tryz.ntmps70 ?_
 repeat' (first|(apply aF;first|(apply Hj;rfl;rfl)|(apply KM (m := m) (k' := .i64);kernel_rfl;rfl;rfl;omega;rfl;rfl;omega;omega;omega;rfl;rfl)|(apply vA (h := 0);rfl;rfl;(rfl);omega;rfl)|(apply Cn;rfl;rfl;rfl))|refine aE ?_|(refine aK ?_ ?_ <;> intro hc hq <;> try (exfalso;omega))|fail)
 ·
  refine aO (Le.cut (i := 0) 0 rfl) ?_
  refine aC rfl ?_
  refine aP () trivial ?_ ⟨sE ?_,trivial⟩
  all_goals first|rfl|exact congrArg some (List.take_zero)
 ·refine aO (Le.nilOwn (d := 4) 1 ?_ ?_) ?_
  ·rfl
  ·decide
  refine aC rfl ?_
  refine aP () trivial ?_ ⟨sE ?_,trivial⟩
  all_goals rfl
theorem I1 (Ls:List (List Int)) (hn:Ls.length ≤ 1000) (hl:Ls.flatten.length ≤ 1048576):PC Tryz.prog 31 [sl RH Ls] (fun r => r = sl cI Ls.flatten):=by
 have hpre : ∀ k, (Ls.take k).flatten.length ≤ 1048576 := fun k => by
  have : Ls.flatten = (Ls.take k).flatten ++ (Ls.drop k).flatten := by rw [← List.flatten_append,List.take_append_drop]
  rw [this,List.length_append] at hl;omega
 have hst : ∀ k,k < Ls.length → (Ls.take (k + 1)).flatten = (Ls.take k).flatten ++ Ls[k]! := fun k hk => by rw [bG _ _ hk]; simp
 refine aB Tryz.func31 Tryz.ntmps31 ?_
 repeat' (first|refine aE ?_|fail)
 refine aH (σ := Nat × Int) [0,9,10] [] (fun k => [(11,iv (k.1 : Int)),(3,iv k.2)]) (fun k => []) (fun k => k.1 ≤ Ls.length ∧ k.2 = ((Ls.take k.1).flatten.length : Int)) (fun k => Ls.length - k.1) (0,0) ⟨by omega,rfl⟩ ?_
 rintro ⟨k,z⟩ ⟨hk,hz⟩
 dsimp only at hk hz
 try dsimp only
 have hz2 := hpre k
 by_cases hkn : k < Ls.length
 ·have h1 := hst k hkn
  have h2 := hpre (k + 1)
  rw [h1,List.length_append] at h2
  repeat' (first|refine aE ?_|(refine aK ?_ ?_ <;> intro hc hq <;> try (exfalso;omega))|fail)
  (refine bB (k + 1,_) (Le.renA []) ?_ ?_)
  ·exact ⟨by dsimp only;omega,by dsimp only;rw [h1,List.length_append]; omega⟩
  ·dsimp only;omega
 ·obtain ⟨z', rfl⟩ : ∃ z' : Nat, z = (z' : Int) := ⟨_, hz⟩
  repeat' (first|(apply aF;(apply NL;rfl;rfl;(apply Qa <;> (omega));rfl;rfl))|refine aE ?_|(refine aK ?_ ?_ <;> intro hc hq <;> try (exfalso;omega))|fail)
  refine aH (σ := Nat × List Int × Nat) [25,26] [] (fun k => [(27,iv (k.1 : Int)),(6,.own 0 0 k.2.2 1)]) (fun k => [(0,some (flat cI k.2.1))]) (fun k => k.1 ≤ Ls.length ∧ k.2.1 = (Ls.take k.1).flatten ∧ k.2.2 = k.2.1.length) (fun k => Ls.length - k.1) (0,[],0) ⟨by omega,rfl,rfl⟩ ?_
  rintro ⟨k,u,m⟩ ⟨hk,hu,hm⟩
  dsimp only at hk hu hm
  try dsimp only
  have hu2 := hpre k
  rw [← hu] at hu2
  by_cases hkn : k < Ls.length
  ·have h1 := hst k hkn
   have h2 := hpre (k + 1)
   rw [h1,List.length_append,← hu] at h2
   repeat' (first|(apply aF;(apply bZ;rfl;rfl;rfl;rfl;rfl;(rw [aI]; omega);(exact wE (by (rfl)));omega;omega;(exact pT (by (assumption)));rfl;rfl))|refine aE ?_|(refine aK ?_ ?_ <;> intro hc hq <;> try (exfalso;omega))|fail)
   (refine bB (k + 1,_,_) (Le.renA [(0,1)]) ?_ ?_)
   ·exact ⟨by dsimp only;omega,by dsimp only;rw [h1,hu],by dsimp only;rw [List.length_append]; omega⟩
   ·dsimp only;omega
  ·repeat' (first | refine aE ?_ | (refine aK ?_ ?_ <;> intro hc hq <;> try (exfalso; omega))|fail)
   refine aO (Le.frzD (d := 2) (i := 0) rfl rfl) ?_
   refine aC rfl ⟨?_,(by (exact bD _ _))⟩
   have e : u = Ls.flatten := by rw [hu,show k = Ls.length by omega,List.take_length]
   rw [← e]
   simp only [aM,sl,hm]
theorem Mo (A l:Nat):decide (((A >>> l &&& 1:Nat):Int) = 1) = A.testBit l:=by
 rw [Nat.testBit,Nat.and_comm]
 by_cases h : 1 &&& A >>> l = 1
 ·rw [h]; rfl
 ·have := Nat.and_le_left (n := 1) (m := A >>> l)
  have h0 : 1 &&& A >>> l = 0 := by omega
  rw [h0]; rfl
theorem Pk {Af:List Nat}{n i v:Nat}(hA:Af.length = n * 6) (hi:i < n) (hv:v < 6):(List.drop (v * 1) (flat cW (Af.drop (i * 6))))[0]? = some (.v (.int .u64 ((dG Af i)[v]!:Nat))):=by
 rw [fM hA hi hv,Nat.mul_one]
 have e : flat cW (Af.drop (i * 6)) = (Af.drop (i * 6)).map (fun (x : Nat) => AV.v (.int .u64 (x : Int))) := by
  generalize Af.drop (i * 6) = l
  induction l with
  | nil => rfl
  | cons a l ih => rw [List.map_cons,← ih]; rfl
 rw [e,List.getElem?_drop,List.getElem?_map,List.getElem?_drop,Nat.add_zero,List.getElem?_eq_getElem (by omega),aY Af _ (by omega)]; rfl
theorem BZ (v:Int) (n:Nat) (Af:List Nat) (i loan:Int) (hA:Af.length = n * 6) (hv:0 ≤ v ∧ v < 6) (hi:0 ≤ i ∧ i < n) (hl:0 ≤ loan ∧ loan < 62) (hs:∀ z:Nat,Sm (dG Af i.toNat)[z]!) :
  PC Tryz.prog 68 [iv v,.iptr [.imm n (flat cW Af)],.iptr [iv i],.iptr [iv loan]] (fun r => r = bv ((dG Af i.toNat)[v.toNat]!.testBit loan.toNat)) := by
 have hsv := hs v.toNat
 refine aB Tryz.func68 Tryz.ntmps68 ?_
 repeat' (first|(apply aF;(apply B3;rfl;rfl;exact Pk hA (by omega) (by omega);rfl))|refine aE ?_|refine bH ?_|fail)
 refine aC rfl ⟨?_,rfl⟩
 exact congrArg bv (Mo _ _)
def Rh (U : Int → Bool) (xs : List Int) : Int := match xs.findIdx? U with | some i => i | none => -1
def u1 (Af : List Nat) (i loan : Int) (v : Int) : Bool := (dG Af i.toNat)[v.toNat]!.testBit loan.toNat
theorem Qr (xs:List Int) (n:Nat) (Af:List Nat) (i loan:Int) (hxl:xs.length ≤ 1000) (hx:∀ v ∈ xs,0 ≤ v ∧ v < 6) (hA:Af.length = n * 6) (hi:0 ≤ i ∧ i < n) (hl:0 ≤ loan ∧ loan < 62) (hs:∀ z:Nat,Sm (dG Af i.toNat)[z]!) :
  PC Tryz.prog 112 [sl cI xs,.clos (.func 68) [] [.iptr [.imm n (flat cW Af)],.iptr [iv i],.iptr [iv loan]]] (fun r => r = iv (Rh (u1 Af i loan) xs)) := by
 refine aB Tryz.func112 Tryz.ntmps112 ?_
 repeat' (first|refine aE ?_|fail)
 refine aH (σ := Nat) [0,1,7] [] (fun k => [(8,iv (k : Int))]) (fun k => []) (fun k => k ≤ xs.length ∧ ∀ j,j < k → u1 Af i loan xs[j]! = false) (fun k => xs.length - k) (0) ⟨by omega,by omega⟩ ?_
 intro k ⟨hk,hall⟩
 by_cases hkn : k < xs.length
 ·have hv := hx _ (aS xs k hkn)
  have hcl := BZ xs[k]! n Af i loan hA hv hi hl hs
  have hu : (dG Af i.toNat)[(xs[k]!).toNat]!.testBit loan.toNat = u1 Af i loan xs[k]! := rfl
  rw [hu] at hcl
  cases hb : u1 Af i loan xs[k]!
  ·rw [hb] at hcl
   repeat' (first|(apply aF;(apply gQ;rfl;rfl;infer_instance;rfl;(apply hcl);exact Pur.pf;rfl))|refine aE ?_|(refine aK ?_ ?_ <;> intro hc hq <;> try (exfalso;omega))|fail)
   (refine bB (k + 1) (Le.renA []) ?_ ?_)
   ·refine ⟨by omega, fun j hj => ?_⟩
    by_cases e : j = k
    ·subst e;exact hb
    ·exact hall j (by omega)
   ·omega
  ·rw [hb] at hcl
   repeat' (first|(apply aF;(apply gQ;rfl;rfl;infer_instance;rfl;(apply hcl);exact Pur.pf;rfl))|refine aE ?_|(refine aK ?_ ?_ <;> intro hc hq <;> try (exfalso;omega))|fail)
   refine aC rfl ⟨?_,rfl⟩
   have : xs.findIdx? (u1 Af i loan) = some k := by
    rw [List.findIdx?_eq_some_iff_getElem]
    refine ⟨hkn,by rw [← aY xs k hkn]; exact hb,fun j hj => ?_⟩
    have := hall j hj;rw [aY xs j (by omega)] at this;rw [this]; decide
   simp only [Rh,this]; rfl
 ·repeat' (first | refine aE ?_ | (refine aK ?_ ?_ <;> intro hc hq <;> try (exfalso; omega))|fail)
  refine aC rfl ⟨?_,rfl⟩
  have : xs.findIdx? (u1 Af i loan) = none := by
   rw [List.findIdx?_eq_none_iff]
   intro x hx
   obtain ⟨j,hj,rfl⟩ := List.getElem_of_mem hx
   have := hall j (by omega);rw [aY xs j hj] at this;exact this
  simp only [Rh,this]; rfl
theorem Pw (U:Int → Bool) (xs:List Int):decide (0 ≤ Rh U xs) = xs.any U:=by
 unfold Rh
 split
 ·rename_i i h
  obtain ⟨h1,h2,_⟩ := List.findIdx?_eq_some_iff_getElem.1 h
  rw [List.any_eq_true.2 ⟨xs[i],List.getElem_mem h1,h2⟩]; simp
 ·rename_i h
  rw [List.findIdx?_eq_none_iff] at h
  have : xs.any U = false := by rw [List.any_eq_false]; intro x hx;rw [h x hx]; decide
  rw [this]; rfl
theorem Lx (xs:List Int) (n:Nat) (Af:List Nat) (i loan:Int) (hxl:xs.length ≤ 1000) (hx:∀ v ∈ xs,0 ≤ v ∧ v < 6) (hA:Af.length = n * 6) (hi:0 ≤ i ∧ i < n) (hl:0 ≤ loan ∧ loan < 62) (hs:∀ z:Nat,Sm (dG Af i.toNat)[z]!) :
  PC Tryz.prog 66 [sl cI xs,.clos (.func 68) [] [.iptr [.imm n (flat cW Af)],.iptr [iv i],.iptr [iv loan]]] (fun r => r = bv (xs.any (u1 Af i loan))) := by
 have hix := Qr xs n Af i loan hxl hx hA hi hl hs
 refine aB Tryz.func66 Tryz.ntmps66 ?_
 repeat' (first|(apply aF;(apply aA (k := 112);rfl;exact hix;exact Pur.pf;rfl))|refine aE ?_|fail)
 refine aC rfl ⟨?_,rfl⟩
 exact congrArg bv (Pw _ _)
theorem Of (n:Nat):flat cN (List.replicate n 0) = flat cI (List.replicate n (0:Int)):=by
 induction n with
 | zero => rfl
 | succ n ih => rw [List.replicate_succ,List.replicate_succ]; show cN 0 ++ flat cN _ = cI 0 ++ flat cI _; rw [ih]; rfl
theorem hO (ts:List Int) (bd:List AL.Stmt) (pts:List Pnt) (f t:Nat) (w:WG ts pts) (hf:f < pts.length) (ht:t < pts.length) :
  PC Tryz.prog 30 [aG ts bd pts,iv (f : Int),iv (t : Int)] (fun r => r = .tup [sl cI (eJ (eH pts f t)),bv (decide (0 ≤ iR (mK pts f) t))]) := by
 have hpl := w.pl
 have hbe : ∀ h,BI pts f (kS pts f h) := oM w.nx hf
 refine aB Tryz.func30 Tryz.ntmps30 ?_
 repeat' (first|refine aE ?_|fail)
 rw [Of]
 refine aH (σ := Nat × List Int) [0,1,2,8,23] [] (fun k => [(24,iv (k.1 : Int))]) (fun k => [(0,some (flat cI k.2))]) (fun k => k.1 ≤ pts.length ∧ k.2.length = pts.length ∧ (∀ l,l < k.1 → k.2[l]! = -1)) (fun k => pts.length - k.1) (0,List.replicate pts.length 0) ⟨by omega,by simp,by omega⟩ ?_
 rintro ⟨k,u⟩ ⟨hk,hul,hu⟩
 dsimp only at hk hul hu
 try dsimp only
 by_cases hkn : k < pts.length
 ·repeat' (first | refine aE ?_ | (refine aK ?_ ?_ <;> intro hc hq <;> try (exfalso; omega))|fail)
  (refine bB (k + 1,_) (Le.renA [(0,0)]) ?_ ?_)
  ·refine ⟨by omega, by dsimp only; rw [List.length_set]; exact hul, fun l hl => ?_⟩
   dsimp only at hl ⊢
   rw [aW]
   by_cases e : k = l
   ·rw [if_pos ⟨e,by omega⟩]
   ·rw [if_neg (by omega)]; exact hu l (by omega)
  ·dsimp only;omega
 ·repeat' (first | refine aE ?_ | (refine aK ?_ ?_ <;> intro hc hq <;> try (exfalso; omega))|fail)
  have hbk0 : u = wT pts.length [] := bT (by rw [gF,hul]) fun l hl => by rw [hu l (by omega),iE (by omega)]; rfl
  subst hbk0
  refine aH (σ := Nat × List (Nat × Nat) × List Int × Nat) [0,1,2,8] [] (fun s => [(10,.own 1 0 s.2.2.2 1)]) (fun s => [(0,some (flat cI (wT pts.length s.2.1))),(1,some (flat cI s.2.2.1))]) (fun s => s.2.1 = kS pts f s.1 ∧ s.2.2.1 = fT f s.2.1 s.1 ∧ s.2.2.2 = s.2.2.1.length ∧ s.1 ≤ s.2.1.length + 1 ∧ (0 ≤ iR s.2.1 t → 0 < s.2.2.2)) (fun s => pts.length + 1 - s.1) (0,[],[(f : Int)],1) ⟨rfl,rfl,rfl,by dsimp only;omega,fun h => by dsimp only;omega⟩ ?_
  rintro ⟨h,E,T,m⟩ ⟨hE,hT,hm,hh,hmt⟩
  dsimp only at hE hT hm hh hmt
  try dsimp only
  have I := hbe h
  rw [← hE] at I
  have hle := I.le w.nx
  have hbt : (wT pts.length E)[t]! = iR E t := iE ht
  have hbl := gF pts.length E
  by_cases hlk : iR E t < 0
  by_cases hgo : 0 < T.length
  ·have hlt : h < (k9 f E).length := by
    have := nT f E h;rw [gS]; rw [← hT] at this;omega
   have hcons := uF hlt
   have hqo := Di hlt
   obtain ⟨a,ha⟩ : ∃ a,a = (k9 f E)[h]! := ⟨_,rfl⟩
   rw [← ha] at hcons hqo
   have hal : a < pts.length := by
    rcases hqo with e|e
    ·rw [e]; exact hf
    ·obtain ⟨x,hx,e⟩ := List.mem_map.1 e;rw [← e]; exact (hle.2 x hx).1
   rw [hcons] at hT
   subst hT
   simp only [List.length_cons] at hm
   repeat' (first|(apply aF;first|(with_reducible apply aZ (d := 10))|(apply lX;rfl;rfl;omega;rfl))|refine aE ?_|(refine aK ?_ ?_ <;> intro hc hq <;> try (exfalso;omega))|(refine bK ?_ ?_ <;> intro hg hq <;> try (exfalso;omega))|fail)
   refine bY (cX ?_ (Le.mvO (d := 47) (i := 1) rfl rfl (by simp [aI]) (by decide)))
   have hnl := w.nl a hal
   have hpop : fT f E (h + 1) = fT f (jV E a (pts[a]!.next.take 0)) (h + 1) := rfl
   have hnk := w.nx a hal
   have hek : ∀ k,BI pts f (jV E a (pts[a]!.next.take k)) := fun k => zI _ _ I hqo (fun z hz => ⟨hal,by have := hnk z (List.mem_of_mem_take hz);rw [Int.toNat_of_nonneg this.1]; exact List.mem_of_mem_take hz⟩)
   repeat' (first|refine aE ?_|fail)
   refine aH (σ := Nat × List (Nat × Nat) × List Int × Nat) [0,1,2,8,55,56] [] (fun s => [(57,iv (s.1 : Int)),(11,iv (a : Int)),(10,.own 2 0 s.2.2.2 1)]) (fun s => [(0,some (flat cI (wT pts.length s.2.1))),(2,some (flat cI s.2.2.1))]) (fun s => s.1 ≤ pts[a]!.next.length ∧ s.2.1 = jV E a (pts[a]!.next.take s.1) ∧ s.2.2.1 = fT f s.2.1 (h + 1) ∧ s.2.2.2 = s.2.2.1.length) (fun s => pts[a]!.next.length - s.1) (0,E,fT f E (h + 1),m - 1) ⟨by omega,rfl,hpop,by dsimp only;omega⟩ ?_
   rintro ⟨k,E2,T2,m2⟩ ⟨hk,hE2,hT2,hm2⟩
   dsimp only at hk hE2 hT2 hm2
   try dsimp only
   have I2 := hek k
   rw [← hE2] at I2
   have hle2 := I2.le w.nx
   have hbl2 := gF pts.length E2
   have htl2 := nT f E2 (h + 1)
   rw [← hT2] at htl2
   by_cases hkn : k < pts[a]!.next.length
   ·have hz := hnk _ (aS _ _ hkn)
    have hbz : (wT pts.length E2)[(pts[a]!.next[k]!).toNat]! = iR E2 (pts[a]!.next[k]!).toNat := iE (by omega)
    have hsu := yE E a pts[a]!.next k hkn
    rw [← hE2] at hsu
    have hql : h + 1 ≤ (k9 f E2).length := by
     have h1 := iU a (pts[a]!.next.take k) E
     rw [← hE2] at h1
     have := h1.length_le
     rw [gS] at hlt ⊢; omega
    by_cases hlz : iR E2 (pts[a]!.next[k]!).toNat < 0
    ·repeat' (first | (apply aF; (apply aJ (t := _);rfl;rfl;rfl;exact (rfl:_=some [_]);rfl;rfl)) | refine aE ?_ | (refine aK ?_ ?_ <;> intro hc hq <;> try (exfalso; omega))|fail)
     rw [AE hlz (by omega)]
     (refine bB (k + 1,_,_,_) (Le.renA [(0,0),(2,4)]) ?_ ?_)
     ·refine ⟨by dsimp only;omega,by dsimp only;rw [hsu,AX hlz],by dsimp only;rw [yY hql,hT2,Int.toNat_of_nonneg hz.1],by dsimp only;rw [List.length_append]; simp;omega⟩
     ·dsimp only;omega
    ·repeat' (first | refine aE ?_ | (refine aK ?_ ?_ <;> intro hc hq <;> try (exfalso; omega))|fail)
     (refine bB (k + 1,E2,T2,m2) (Le.renA [(0,0),(2,2)]) ?_ ?_)
     ·refine ⟨by dsimp only;omega,by dsimp only;rw [hsu,FU (by omega)],hT2,hm2⟩
     ·dsimp only;omega
   ·repeat' (first | refine aE ?_ | (refine aK ?_ ?_ <;> intro hc hq <;> try (exfalso; omega))|fail)
    have hkl : k = pts[a]!.next.length := by omega
    rw [hkl,List.take_length] at hE2
    have hpre : E <+: E2 := by rw [hE2]; exact iU _ _ _
    have hple := hpre.length_le
    rw [gS] at hlt
    (refine bB (h + 1,E2,T2,m2) (Le.renA [(0,0),(1,2)]) ?_ ?_)
    ·refine ⟨?_, hT2, hm2, by dsimp only; omega, fun hl => ?_⟩
     ·dsimp only;rw [hE2,kS,← hE,if_pos (by rw [gS]; exact hlt),← ha]
     ·dsimp only at hl ⊢
      have : E.length ≠ E2.length := fun e => by
       have := hpre.eq_of_length e
       rw [this] at hlk;omega
      omega
    ·dsimp only;omega
  ·have hT0 : T = [] := List.eq_nil_of_length_eq_zero (by omega)
   have hee : E = mK pts f := by
    rw [hE]; exact Fz w.nx hf (by rw [← hE]; rw [hT] at hT0;exact xW.1 hT0)
   have hm0 : m = 0 := by omega
   repeat' (first|refine aE ?_|(refine aK ?_ ?_ <;> intro hc hq <;> try (exfalso;omega))|(refine bK ?_ ?_ <;> intro hg hq <;> try (exfalso;omega))|fail)
   (refine aO (Le.nilImm (d := 6) rfl) ?_; refine aC rfl ?_)
   refine ⟨?_,(by (rfl))⟩
   have e1 : eH pts f t = [] := by unfold eH;rw [← hee,if_neg (by omega)]
   rw [e1,← hee,decide_eq_false (by omega)]
   rfl
  ·have hm1 := hmt (by omega)
   repeat' (first|refine aE ?_|(refine aK ?_ ?_ <;> intro hc hq <;> try (exfalso;omega))|(refine bK ?_ ?_ <;> intro hg hq <;> try (exfalso;omega))|fail)
   have hwt : pts.length ≤ 61 := hpl
   have hlk0 : 0 ≤ iR E t := by omega
   have hpre : E <+: mK pts f := by rw [hE]; exact Fu (h := h) (by omega)
   obtain ⟨_,a0,R0,hx0,hcs0⟩ := CS.start w.nx hf hpre hlk0
   have hen : iR (mK pts f) t = iR E t := (A1 (f := f) hpre (hbe _).nd (fB.1 hlk0)).2
   have hbt0 : (wT pts.length E)[t]! = (a0 : Int) := by rw [hbt,hx0]
   rw [hbt0]
   refine aH (σ := Nat × List (Nat × Nat) × List Int × Nat) [1,8] [0] (fun s => [(15,iv (s.1 : Int)),(14,.own 2 0 s.2.2.2 1)]) (fun s => [(2,some (flat cI s.2.2.1))]) (fun s => CS pts f t E s.1 s.2.1 s.2.2.1.reverse ∧ s.2.2.2 = s.2.2.1.length) (fun s => s.2.1.length) (a0,R0,[(t : Int)],1) ⟨hcs0,rfl⟩ ?_
   rintro ⟨x,R,u,m3⟩ ⟨hcs,hm3⟩
   dsimp only at hcs hm3
   try dsimp only
   have hcl := hcs.len
   rw [List.length_reverse] at hcl
   have hxl := hcs.xl
   have hbx : (wT pts.length E)[x]! = iR E x := iE hxl
   by_cases hxf : x = f
   ·have hcs2 := hcs
    rw [hxf] at hcs2
    have hfin := hcs2.fin
    repeat' (first|(apply aF;first|(apply aJ (t := _);rfl;rfl;rfl;exact (rfl:_=some [_]);rfl;rfl)|(apply P2;rfl;(rfl);(apply QF <;> (simp only [gB] <;> omega));rfl;rfl))|refine aE ?_|(refine aK ?_ ?_ <;> intro hc hq <;> try (exfalso;omega))|fail)
    refine aO (Le.frzD (d := 6) (i := 4) rfl rfl) ?_
    refine aC rfl ⟨?_,(by exact Pur.pf)⟩
    rw [hfin,hen,decide_eq_true hlk0,List.reverse_append,hxf,hm3]
    simp [aM,sl]
   ·obtain ⟨a, R', h1, h2, h3⟩ := hcs.step w.nx hf I hxf
    rw [h1] at hbx
    repeat' (first|(apply aF;(apply aJ (t := _);rfl;rfl;rfl;exact (rfl:_=some [_]);rfl;rfl))|refine aE ?_|(refine aK ?_ ?_ <;> intro hc hq <;> try (exfalso;omega))|fail)
    rw [hbx]
    (refine bB (a,R',_,_) (Le.renA [(0,0),(2,4)]) ?_ ?_)
    ·exact ⟨by dsimp only;rw [List.reverse_append]; exact h2,by dsimp only;rw [List.length_append,hm3]; rfl⟩
    ·dsimp only;omega
theorem oV (ts:List Int) (bd:List AL.Stmt) (pts:List Pnt) (f:Flows ts pts) (w:WG ts pts) (a l:Nat) (ha:a < pts.length) (hl:l < pts.length) :
  PC Tryz.prog 29 [aG ts bd pts,iv (a : Int),iv (l : Int)] (fun r => r = .tup [iv (kU (eH pts a) (eO ts pts f.Af l) pts.length).1,bv (decide (0 ≤ (kU (eH pts a) (eO ts pts f.Af l) pts.length).1))]) := by
 have hpl := w.pl
 have htl := w.tl
 have b := f.bnd w
 have hli := yK ts bd pts f.Af w f.gf
 refine aB Tryz.func29 Tryz.ntmps29 ?_
 repeat' (first|(apply aF;(apply aA (k := 49);rfl;exact hli;exact Pur.pf;rfl))|refine aE ?_|fail)
 refine AW.le ?_ (Le.frzP (d := 5) (i := 0) rfl rfl)
 refine AW.le ?_ (Le.frzP (d := 8) (i := 1) rfl rfl)
 refine aH (σ := Nat × Int × Nat) [0,1,5,8,21,22] [] (fun s => [(23,iv (s.1 : Int)),(9,iv s.2.1),(10,iv (s.2.2 : Int))]) (fun s => []) (fun s => s.1 ≤ pts.length ∧ s.2.1 = (kU (eH pts a) (eO ts pts f.Af l) s.1).1 ∧ s.2.2 = (kU (eH pts a) (eO ts pts f.Af l) s.1).2.length) (fun s => pts.length - s.1) (0,-1,0) ⟨by omega,rfl,rfl⟩ ?_
 rintro ⟨i,bi,li⟩ ⟨hi,hbi,hli2⟩
 dsimp only at hi hbi hli2
 try dsimp only
 by_cases hin : i < pts.length
 ·have hus := gK ts bd pts pts[i]! htl
  have hsm : Sm (wS ts pts[i]! [1,2,3]) := b0 (by omega)
  have hmem : ∀ v ∈ a7 (wS ts pts[i]! [1, 2, 3]), 0 ≤ v ∧ v < 6 := fun v hv => by
   obtain ⟨v',h3,h4,rfl⟩ := cJ.1 hv
   rw [cC,Bool.and_eq_true,decide_eq_true_eq] at h4
   omega
  have hco := Lx (a7 (wS ts pts[i]! [1,2,3])) pts.length f.Af (i : Int) (l : Int) (by unfold a7;rw [List.length_map]; exact Nat.le_trans (List.length_filter_le _ _) (by simp)) hmem f.gf.1 (by omega) (by omega) (b.rs i hin)
  have hU : (a7 (wS ts pts[i]! [1,2,3])).any (u1 f.Af (i : Int) (l : Int)) = eO ts pts f.Af l i := I3 ts pts f.Af l i htl
  rw [hU] at hco
  have hsw := hO ts bd pts a i w ha hin
  have hwl := iL (x := i) w.nx ha
  rw [← c5] at hwl
  repeat' (first|(apply aF;first|((apply fP 11);(case hx|hH|hc|hN => rfl))|(apply aA (k := 66);rfl;exact hco;exact Pur.pf;rfl)|(apply aA (k := 30);rfl;exact hsw;exact Pur.pf;rfl)|(first|(apply aA (k := 21);rfl;(apply fR <;> (assumption));(rfl);rfl)|(apply aA (k := 67);rfl;(apply gK <;> (assumption));exact Pur.pf;rfl)))|refine aE ?_|(refine aK ?_ ?_ <;> intro hc hq <;> try (exfalso;omega))|(refine bK ?_ ?_ <;> intro hg hq <;> try (exfalso;omega))|fail)
  ·have hb := zA (W := eH pts a) (U := eO ts pts f.Af l) (i := i) (.inl (by assumption))
   (refine bB (i + 1,bi,li) (Le.renA []) ?_ ?_)
   ·exact ⟨by dsimp only;omega,by dsimp only;rw [hb,hbi],by dsimp only;rw [hb,hli2]⟩
   ·dsimp only;omega
  ·have hu : eO ts pts f.Af l i = true := by assumption
   have hW := Ez w.nx ha (by assumption : 0 ≤ iR (mK pts a) i)
   have hb := tL (W := eH pts a) (U := eO ts pts f.Af l) hu hW (by rw [c5] at *; omega)
   (refine bB (i + 1,_,_) (Le.renA []) ?_ ?_)
   ·exact ⟨by dsimp only;omega,by dsimp only;rw [hb],by dsimp only;rw [hb,c5]⟩
   ·dsimp only;omega
  ·have hb := EG (W := eH pts a) (U := eO ts pts f.Af l) (i := i) (by omega) (by rw [c5] at *; omega)
   (refine bB (i + 1,bi,li) (Le.renA []) ?_ ?_)
   ·exact ⟨by dsimp only;omega,by dsimp only;rw [hb,hbi],by dsimp only;rw [hb,hli2]⟩
   ·dsimp only;omega
  ·have hu : eO ts pts f.Af l i = true := by assumption
   have hW := Ez w.nx ha (by assumption : 0 ≤ iR (mK pts a) i)
   have hb := tL (W := eH pts a) (U := eO ts pts f.Af l) hu hW (by rw [c5] at *; omega)
   (refine bB (i + 1,_,_) (Le.renA []) ?_ ?_)
   ·exact ⟨by dsimp only;omega,by dsimp only;rw [hb],by dsimp only;rw [hb,c5]⟩
   ·dsimp only;omega
  ·have hb := zA (W := eH pts a) (U := eO ts pts f.Af l) (i := i) (.inr (EB (by assumption)))
   (refine bB (i + 1,bi,li) (Le.renA []) ?_ ?_)
   ·exact ⟨by dsimp only;omega,by dsimp only;rw [hb,hbi],by dsimp only;rw [hb,hli2]⟩
   ·dsimp only;omega
 ·repeat' (first | refine aE ?_ | (refine aK ?_ ?_ <;> intro hc hq <;> try (exfalso; omega))|fail)
  refine aC rfl ⟨?_,rfl⟩
  rw [show pts.length = i by omega,← hbi]; rfl
theorem Hh (ts:List Int) (pts:List Pnt) (f t:Nat) (E:List (Nat × Nat)) (w:WG ts pts) (hf:f < pts.length) (ht:t < pts.length) (hE:E <+: mK pts f) (hlk:0 ≤ iR E t) :
  PC Tryz.prog 75 [sl cI (wT pts.length E),iv (f : Int),iv (t : Int)] (fun r => r = sl cI (eJ (eH pts f t))) := by
 have hpl := w.pl
 have hbl := gF pts.length E
 have hbt : (wT pts.length E)[t]! = iR E t := iE ht
 obtain ⟨I,a0,R0,hx0,hcs0⟩ := CS.start w.nx hf hE hlk
 have hle := I.le w.nx
 rw [hx0] at hbt
 refine aB Tryz.func75 Tryz.ntmps75 ?_
 repeat' (first|refine aE ?_|fail)
 rw [hbt]
 refine aH (σ := Nat × List (Nat × Nat) × List Int × Nat) [0,1] [] (fun s => [(8,iv (s.1 : Int)),(7,.own 0 0 s.2.2.2 1)]) (fun s => [(0,some (flat cI s.2.2.1))]) (fun s => CS pts f t E s.1 s.2.1 s.2.2.1 ∧ s.2.2.2 = s.2.2.1.length) (fun s => s.2.1.length) (a0,R0,[(t : Int)],1) ⟨hcs0,rfl⟩ ?_
 rintro ⟨x,R,u,m⟩ ⟨hcs,hm⟩
 dsimp only at hcs hm
 try dsimp only
 have hcl := hcs.len
 have hxl := hcs.xl
 have hbx : (wT pts.length E)[x]! = iR E x := iE hxl
 by_cases hxf : x = f
 ·have hcs2 := hcs
  rw [hxf] at hcs2
  have hfin := hcs2.fin
  repeat' (first|(apply aF;(apply bZ;rfl;rfl;rfl;rfl;rfl;exact Nat.le_refl _;exact JF rfl hm;omega;omega;exact (rfl:_=flat cI (_ :: u));rfl;rfl))|refine aE ?_|(refine aK ?_ ?_ <;> intro hc hq <;> try (exfalso;omega))|fail)
  refine aO (Le.frzD (d := 6) (i := 2) rfl rfl) ?_
  refine aC rfl ⟨?_,(by (exact bD _ _))⟩
  rw [hfin,hm,Nat.add_comm]
  rfl
 ·obtain ⟨a, R', h1, h2, h3⟩ := hcs.step w.nx hf I hxf
  rw [h1] at hbx
  repeat' (first|(apply aF;(apply bZ;rfl;rfl;rfl;rfl;rfl;exact Nat.le_refl _;exact JF rfl hm;omega;omega;exact (rfl:_=flat cI (_ :: u));rfl;rfl))|refine aE ?_|(refine aK ?_ ?_ <;> intro hc hq <;> try (exfalso;omega))|fail)
  rw [hbx]
  (refine bB (a,R',_,_) (Le.renA [(0,2)]) ?_ ?_)
  ·exact ⟨h2,by dsimp only;rw [List.length_cons]; omega⟩
  ·dsimp only;omega
theorem lI (ts:List Int) (pts:List Pnt) (f t:Nat) (w:WG ts pts) (hf:f < pts.length) (ht:t < pts.length) :
  PC Tryz.prog 38 [sl b8 pts,iv (f : Int),iv (t : Int)] (fun r => r = .tup [sl cI (eJ (eH pts f t)),bv (decide (0 ≤ iR (mK pts f) t))]) := by
 have hpl := w.pl
 have hbe : ∀ h,BI pts f (kS pts f h) := oM w.nx hf
 refine aB Tryz.func38 Tryz.ntmps38 ?_
 repeat' (first|refine aE ?_|fail)
 rw [Of]
 refine aH (σ := Nat × List Int) [0,1,2,8] [] (fun k => [(9,iv (k.1 : Int))]) (fun k => [(0,some (flat cI k.2))]) (fun k => k.1 ≤ pts.length ∧ k.2.length = pts.length ∧ (∀ l,l < k.1 → k.2[l]! = -1)) (fun k => pts.length - k.1) (0,List.replicate pts.length 0) ⟨by omega,by simp,by omega⟩ ?_
 rintro ⟨k,u⟩ ⟨hk,hul,hu⟩
 dsimp only at hk hul hu
 try dsimp only
 by_cases hkn : k < pts.length
 ·repeat' (first | refine aE ?_ | (refine aK ?_ ?_ <;> intro hc hq <;> try (exfalso; omega))|fail)
  (refine bB (k + 1,_) (Le.renA [(0,0)]) ?_ ?_)
  ·refine ⟨by omega, by dsimp only; rw [List.length_set]; exact hul, fun l hl => ?_⟩
   dsimp only at hl ⊢
   rw [aW]
   by_cases e : k = l
   ·rw [if_pos ⟨e,by omega⟩]
   ·rw [if_neg (by omega)]; exact hu l (by omega)
  ·dsimp only;omega
 ·repeat' (first | refine aE ?_ | (refine aK ?_ ?_ <;> intro hc hq <;> try (exfalso; omega))|fail)
  have hbk0 : u = wT pts.length [] := bT (by rw [gF,hul]) fun l hl => by rw [hu l (by omega),iE (by omega)]; rfl
  subst hbk0
  refine aH (σ := Nat × List (Nat × Nat) × List Int × Nat) [0,1,2,8] [] (fun s => [(10,.own 1 0 s.2.2.2 1)]) (fun s => [(0,some (flat cI (wT pts.length s.2.1))),(1,some (flat cI s.2.2.1))]) (fun s => s.2.1 = kS pts f s.1 ∧ s.2.2.1 = fT f s.2.1 s.1 ∧ s.2.2.2 = s.2.2.1.length ∧ s.1 ≤ s.2.1.length + 1 ∧ iR s.2.1 t < 0) (fun s => pts.length + 1 - s.1) (0,[],[(f : Int)],1) ⟨rfl,rfl,rfl,by dsimp only;omega,(by show (-1 : Int) < 0;decide)⟩ ?_
  rintro ⟨h,E,T,m⟩ ⟨hE,hT,hm,hh,hlk⟩
  dsimp only at hE hT hm hh hlk
  try dsimp only
  have I := hbe h
  rw [← hE] at I
  have hle := I.le w.nx
  have hbl := gF pts.length E
  by_cases hgo : 0 < T.length
  ·have hlt : h < (k9 f E).length := by
    have := nT f E h;rw [gS]; rw [← hT] at this;omega
   have hcons := uF hlt
   have hqo := Di hlt
   obtain ⟨a,ha⟩ : ∃ a,a = (k9 f E)[h]! := ⟨_,rfl⟩
   rw [← ha] at hcons hqo
   have hal : a < pts.length := by
    rcases hqo with e|e
    ·rw [e]; exact hf
    ·obtain ⟨x,hx,e⟩ := List.mem_map.1 e;rw [← e]; exact (hle.2 x hx).1
   have hbs : kS pts f (h + 1) = jV E a pts[a]!.next := by rw [hE] at hlt ha ⊢; exact Jz hlt ha
   rw [hcons] at hT
   subst hT
   simp only [List.length_cons] at hm
   repeat' (first|(apply aF;first|(with_reducible apply aZ (d := 10))|(apply lX;rfl;rfl;omega;rfl))|refine aE ?_|(refine aK ?_ ?_ <;> intro hc hq <;> try (exfalso;omega))|fail)
   refine bY (cX ?_ (Le.mvO (d := 35) (i := 1) rfl rfl (by simp [aI]) (by decide)))
   have hnl := w.nl a hal
   have hpop : fT f E (h + 1) = fT f (jV E a (pts[a]!.next.take 0)) (h + 1) := rfl
   have hnk := w.nx a hal
   have hek : ∀ k,BI pts f (jV E a (pts[a]!.next.take k)) := fun k => zI _ _ I hqo (fun z hz => ⟨hal,by have := hnk z (List.mem_of_mem_take hz);rw [Int.toNat_of_nonneg this.1]; exact List.mem_of_mem_take hz⟩)
   repeat' (first|refine aE ?_|fail)
   refine aH (σ := Nat × List (Nat × Nat) × List Int × Nat) [0,1,2,8] [] (fun s => [(12,iv (s.1 : Int)),(11,iv (a : Int)),(10,.own 2 0 s.2.2.2 1)]) (fun s => [(0,some (flat cI (wT pts.length s.2.1))),(2,some (flat cI s.2.2.1))]) (fun s => s.1 ≤ pts[a]!.next.length ∧ s.2.1 = jV E a (pts[a]!.next.take s.1) ∧ s.2.2.1 = fT f s.2.1 (h + 1) ∧ s.2.2.2 = s.2.2.1.length ∧ iR s.2.1 t < 0) (fun s => pts[a]!.next.length - s.1) (0,E,fT f E (h + 1),m - 1) ⟨by omega,rfl,hpop,by dsimp only;omega,hlk⟩ ?_
   rintro ⟨k,E2,T2,m2⟩ ⟨hk,hE2,hT2,hm2,hlk2⟩
   dsimp only at hk hE2 hT2 hm2 hlk2
   try dsimp only
   have I2 := hek k
   rw [← hE2] at I2
   have hle2 := I2.le w.nx
   have hbl2 := gF pts.length E2
   have htl2 := nT f E2 (h + 1)
   rw [← hT2] at htl2
   by_cases hkn : k < pts[a]!.next.length
   ·have hz := hnk _ (aS _ _ hkn)
    have hbz : (wT pts.length E2)[(pts[a]!.next[k]!).toNat]! = iR E2 (pts[a]!.next[k]!).toNat := iE (by omega)
    have hsu := yE E a pts[a]!.next k hkn
    rw [← hE2] at hsu
    have hql : h + 1 ≤ (k9 f E2).length := by
     have h1 := iU a (pts[a]!.next.take k) E
     rw [← hE2] at h1
     have := h1.length_le
     rw [gS] at hlt ⊢; omega
    by_cases hlz : iR E2 (pts[a]!.next[k]!).toNat < 0
    ·have hnew := AX (a := a) hlz
     by_cases hzt : pts[a]!.next[k]! = (t : Int)
     ·have hE3 : E2 ++ [((pts[a]!.next[k]!).toNat, a)] <+: mK pts f := by
       rw [← hnew,← hsu]
       exact (Gw _ _ _ _).trans (by rw [← hbs]; exact Fu (h := h + 1) (by have := gS f E;omega))
      have hl3 : 0 ≤ iR (E2 ++ [((pts[a]!.next[k]!).toNat, a)]) t := by
       rw [Ag hlz,if_pos (by omega)]; omega
      have hbk := Hh ts pts f t _ w hf ht hE3 hl3
      have hl4 : 0 ≤ iR (mK pts f) t := by rw [(A1 (f := f) hE3 (hbe _).nd (fB.1 hl3)).2]; exact hl3
      rw [← AE hlz (by omega),show sl cI ((wT pts.length E2).set (pts[a]!.next[k]!).toNat (a : Int)) = AV.imm pts.length (flat cI ((wT pts.length E2).set (pts[a]!.next[k]!).toNat (a : Int))) from by unfold sl;rw [List.length_set,gF]] at hbk
      repeat' (first|(apply aF;(with_reducible apply aZ (d := 66)))|refine aE ?_|(refine aK ?_ ?_ <;> intro hc hq <;> try (exfalso;omega))|fail)
      refine bY (cX ?_ (Le.frzD (d := 8) (i := 0) rfl rfl))
      repeat' (first|(apply aF;(apply aA (k := 75);rfl;exact hbk;exact Pur.pf;rfl))|refine aE ?_|fail)
      refine aC rfl ⟨?_,(by exact Pur.pf)⟩
      rw [decide_eq_true hl4]
      rfl
     ·repeat' (first | (apply aF; (apply aJ (t := _);rfl;rfl;rfl;exact (rfl:_=some [_]);rfl;rfl)) | refine aE ?_ | (refine aK ?_ ?_ <;> intro hc hq <;> try (exfalso; omega))|fail)
      rw [AE hlz (by omega)]
      (refine bB (k + 1,_,_,_) (Le.renA [(0,0),(2,4)]) ?_ ?_)
      ·refine ⟨by dsimp only; omega, by dsimp only; rw [hsu, AX hlz], by dsimp only; rw [yY hql, hT2, Int.toNat_of_nonneg hz.1], by dsimp only; rw [List.length_append]; simp; omega, ?_⟩
       dsimp only;rw [Ag hlz,if_neg (by omega)]; exact hlk2
      ·dsimp only;omega
    ·repeat' (first | refine aE ?_ | (refine aK ?_ ?_ <;> intro hc hq <;> try (exfalso; omega))|fail)
     (refine bB (k + 1,E2,T2,m2) (Le.renA [(0,0),(2,2)]) ?_ ?_)
     ·refine ⟨by dsimp only;omega,by dsimp only;rw [hsu,FU (by omega)],hT2,hm2,hlk2⟩
     ·dsimp only;omega
   ·repeat' (first | refine aE ?_ | (refine aK ?_ ?_ <;> intro hc hq <;> try (exfalso; omega))|fail)
    have hkl : k = pts[a]!.next.length := by omega
    rw [hkl,List.take_length] at hE2
    have hpre : E <+: E2 := by rw [hE2]; exact iU _ _ _
    have hple := hpre.length_le
    rw [gS] at hlt
    (refine bB (h + 1,E2,T2,m2) (Le.renA [(0,0),(1,2)]) ?_ ?_)
    ·exact ⟨by dsimp only;rw [hbs,hE2],hT2,hm2,by dsimp only;omega,hlk2⟩
    ·dsimp only;omega
  ·have hT0 : T = [] := List.eq_nil_of_length_eq_zero (by omega)
   have hee : E = mK pts f := by
    rw [hE]; exact Fz w.nx hf (by rw [← hE]; rw [hT] at hT0;exact xW.1 hT0)
   have hm0 : m = 0 := by omega
   repeat' (first|(apply aF;(apply aJ (t := _);rfl;rfl;rfl;(rfl);rfl;rfl))|refine aE ?_|(refine aK ?_ ?_ <;> intro hc hq <;> try (exfalso;omega))|fail)
   refine aC rfl ⟨?_,(by (rfl))⟩
   rw [EB (by rw [← hee]; exact hlk),← hee,decide_eq_false (by omega)]
   rfl
theorem KC (ts:List Int) (pts:List Pnt) (a:Nat) (F0:List Bool) (w:WG ts pts) (ha:a < pts.length) (hF0:GoodR pts a F0):PC Tryz.prog 77 [sl b8 pts,iv (a:Int)] (fun r => r = sl cB F0):=by
 have hpl := w.pl
 have hnl := w.nl a ha
 have hst := RI.start w.nx ha
 have hmu := G9 hpl hnl
 refine aB Tryz.func77 Tryz.ntmps77 ?_
 repeat' (first|refine aE ?_|fail)
 refine aH (σ := List Bool × List Int × Nat) [0,5] [] (fun s => [(6,.own 2 0 s.2.2 1)]) (fun s => [(0,some (flat cB s.1)),(2,some (flat cI s.2.1))]) (fun s => RI pts a s.1 s.2.1 ∧ C7 s.1 s.2.1 ≤ 200 ∧ s.2.2 = s.2.1.length) (fun s => C7 s.1 s.2.1) (List.replicate pts.length false,pts[a]!.next,0 + pts[a]!.next.length) ⟨hst,hmu,Nat.zero_add _⟩ ?_
 rintro ⟨F,T,m⟩ ⟨I,hm,hml⟩
 dsimp only at I hm hml
 try dsimp only
 have hFl := I.len
 have hTl := NZ F T
 by_cases hT : 0 < m
 ·repeat' (first | (apply aF; first | (with_reducible apply aZ (d := 6)) | (apply vA (h := m - 1);rfl;rfl;omega;omega;rfl)) | refine aE ?_ | (refine aK ?_ ?_ <;> intro hc hq <;> try (exfalso; omega))|fail)
  rw [show ((m : Int) - 1).toNat = m - 1 by omega]
  refine bY (cX ?_ (Le.cut (i := 2) (m - 1) rfl))
  rw [JX]
  obtain ⟨hkm,hks⟩ := JE hml hT
  obtain ⟨k,hkk⟩ : ∃ k,k = T[m - 1]! := ⟨_,rfl⟩
  rw [← hkk] at hkm hks ⊢
  have hk := I.tw k hkm
  have hnk := w.nl k.toNat (by omega)
  have hk1 : 0 ≤ k ∧ k < pts.length := ⟨hk.1,hk.2.1⟩
  have htk : (T.take (m - 1)).length = m - 1 := by rw [List.length_take]; omega
  have htl : ∀ G,C7 G (T.take (m - 1)) + 1 = C7 G T := fun G => by unfold C7;rw [htk]; omega
  have htF := htl F
  by_cases hv : F[k.toNat]! = true
  ·repeat' (first | (apply aF; (apply bZ;rfl;rfl;rfl;rfl;rfl;(rw [aI]; omega);(exact wE (by (rfl)));omega;omega;(exact pT (by (omega)));rfl;rfl)) | refine aE ?_ | (refine aK ?_ ?_ <;> intro hc hq <;> try (exfalso; omega))|fail)
   all_goals try exact absurd (hv.symm.trans (by assumption : F[k.toNat]! = false)) (by decide)
   (refine bB (F,_,_) (Le.renA [(0,0),(2,2)]) ?_ ?_)
   ·exact ⟨I.vis hks (fun x hx => List.mem_of_mem_take hx) hv,by dsimp only;omega,by dsimp only;omega⟩
   ·dsimp only;omega
  ·rw [Bool.not_eq_true] at hv
   have hms := NS (F := F) (k := k.toNat) (by omega) hv (T.take (m - 1))
   have hma := NB (F.set k.toNat true) (T.take (m - 1)) pts[k.toNat]!.next
   repeat' (first|(apply aF;(apply bZ;rfl;rfl;rfl;rfl;rfl;(rw [aI]; omega);(exact wE (by (rfl)));omega;omega;(exact pT (by (omega)));rfl;rfl))|refine aE ?_|(refine aK ?_ ?_ <;> intro hc hq <;> try (exfalso;omega))|fail)
   all_goals try exact absurd (hv.symm.trans (by assumption : F[k.toNat]! = true)) (by decide)
   (refine bB (F.set k.toNat true,_,_) (Le.renA [(0,0),(2,3)]) ?_ ?_)
   ·exact ⟨I.new w.nx hkm (fun x hx => by
     rcases hks x hx with h|h
     ·exact .inl h
     ·exact .inr (List.mem_append_left _ h)) (fun x hx => List.mem_append_right _ hx) (fun x hx => by
     rcases List.mem_append.1 hx with h|h
     ·exact .inl (List.mem_of_mem_take h)
     ·exact .inr h),by dsimp only;omega,by dsimp only;rw [List.length_append]; omega⟩
   ·dsimp only;omega
 ·have hT0 : T = [] := List.eq_nil_of_length_eq_zero (by omega)
  rw [hT0] at I
  repeat' (first|refine aE ?_|(refine aK ?_ ?_ <;> intro hc hq <;> try (exfalso;omega))|fail)
  refine aO (Le.frzD (d := 4) (i := 0) rfl rfl) ?_
  refine aC rfl ⟨?_,(by (exact bD _ _))⟩
  have e := I.fin hF0 w.nx
  rw [← e]
  simp only [aM,sl,hFl]
def HS (ts : List Int) (x : Pnt) (fr : List (List Bool)) (loan v : Nat) : Bool := fr[v]![loan]! && decide (aV ts x v ≠ 0)
theorem Gg (ts:List Int) (x:Pnt) (fr:List (List Bool)) (pl:List Bool) (loan:Nat) (hn:ts.length ≤ 6) (h1:fr.length = ts.length) (h2:∀ v,v < ts.length → loan < fr[v]!.length) :
  PC Tryz.prog 78 [sl cI ts,dJ x,.agg [sl iF fr,sl cB pl],iv (loan : Int)] (fun r => r = bv ((List.range ts.length).any (HS ts x fr loan))) := by
 refine aB Tryz.func78 Tryz.ntmps78 ?_
 repeat' (first|refine aE ?_|fail)
 refine aH (σ := Nat) [0,3,5,6] [0,1] (fun k => [(9,iv (k : Int))]) (fun k => []) (fun k => k ≤ ts.length ∧ ∀ v,v < k → HS ts x fr loan v = false) (fun k => ts.length - k) (0) ⟨by omega,by omega⟩ ?_
 rintro k ⟨hk,hall⟩
 try dsimp only
 by_cases hkn : k < ts.length
 ·have hlo := h2 k hkn
  have hnx : HS ts x fr loan k = false → ∀ v, v < k + 1 → HS ts x fr loan v = false := fun h v hv => by
   by_cases e : v = k
   ·rw [e]; exact h
   ·exact hall v (by omega)
  have hyes : HS ts x fr loan k = true → (List.range ts.length).any (HS ts x fr loan) = true := fun h => List.any_eq_true.2 ⟨k,List.mem_range.2 hkn,h⟩
  have hus : HS ts x fr loan k = (fr[k]![loan]! && decide (aV ts x k ≠ 0)) := rfl
  repeat' (first|(apply aF;(apply aA (k := 107);rfl;(apply lT <;> (omega));exact Pur.pf;rfl))|refine aE ?_|(refine aK ?_ ?_ <;> intro hc hq <;> try (exfalso;omega))|(refine bK ?_ ?_ <;> intro hg hq <;> try (exfalso;omega))|fail)
  ·refine aC rfl ⟨?_, rfl⟩
   rw [hyes (by rw [hus,(by assumption : fr[k]![loan]! = true),decide_eq_true (by assumption)]; rfl)]; rfl
  ·(refine bB (k + 1) (Le.renA [(0, 0), (1, 1)]) ?_ ?_)
   ·exact ⟨by omega,hnx (by rw [hus,decide_eq_false (fun h => h (by assumption)),Bool.and_false])⟩
   ·omega
  ·(refine bB (k + 1) (Le.renA [(0, 0), (1, 1)]) ?_ ?_)
   ·exact ⟨by omega,hnx (by rw [hus,(by assumption : fr[k]![loan]! = false),Bool.false_and])⟩
   ·omega
 ·repeat' (first | refine aE ?_ | (refine aK ?_ ?_ <;> intro hc hq <;> try (exfalso; omega))|fail)
  refine aC rfl ⟨?_,rfl⟩
  have : (List.range ts.length).any (HS ts x fr loan) = false := by
   rw [List.any_eq_false]; intro v hv;rw [hall v (by rw [List.mem_range] at hv;omega)]; decide
  rw [this]; rfl
theorem Mw (ts:List Int) (pts:List Pnt) (Af Ap:List Nat) (loan i:Nat) (hA:Af.length = pts.length * 6) (hn:ts.length ≤ 6) (hi:i < pts.length) (hl:loan < pts.length):(List.range ts.length).any (HS ts pts[i]! (iX ts.length pts.length Af Ap i).1 loan) = eO ts pts Af loan i:=by
 unfold eO
 rw [Bool.eq_iff_iff,List.any_eq_true,List.any_eq_true]
 have key : ∀ v, v < ts.length → HS ts pts[i]! (iX ts.length pts.length Af Ap i).1 loan v = (decide (aV ts pts[i]! v ≠ 0) && (dG Af i)[v]!.testBit loan) := fun v hv => by
  unfold HS iX
  dsimp only
  rw [bQ _ _ _ hv,bQ _ _ _ hl,fM hA hi (by omega),Bool.and_comm]
 constructor
 ·rintro ⟨v,hv,h⟩; exact ⟨v,hv,by rw [← key v (List.mem_range.1 hv)]; exact h⟩
 ·rintro ⟨v,hv,h⟩; exact ⟨v,hv,by rw [key v (List.mem_range.1 hv)]; exact h⟩
theorem mB (p:Prg) (a l:Nat) (f:Flows p.types (aD p)) (F0:List Bool) (hl:p.types.length ≤ 1048576) (hs:aR p.body ≤ 1048576) (hv:bE p = true) (ha:a < (aD p).length) (hll:l < (aD p).length) (hF0:GoodR (aD p) a F0) :
  PC Tryz.prog 39 [bI p,iv (a : Int),iv (l : Int)] (fun r => r = if 0 ≤ (kU (eH (aD p) a) (eO p.types (aD p) f.Af l) (aD p).length).1 then .tup [iv (kU (eH (aD p) a) (eO p.types (aD p) f.Af l) (aD p).length).1,bv true] else .tup [iv 0,bv false]) := by
 have w := WG.of_valid hv
 have hpl := w.pl
 have htl := w.tl
 have hPP := r7 p hl hs
 rw [if_pos hv] at hPP
 have hfl := CJ p f.Af f.Ap hs w f.gf f.gp
 have hfll : ((List.range (aD p).length).map (iX p.types.length (aD p).length f.Af f.Ap)).length = (aD p).length := by simp
 have hfi : ∀ i,i < (aD p).length → ((List.range (aD p).length).map (iX p.types.length (aD p).length f.Af f.Ap))[i]! = iX p.types.length (aD p).length f.Af f.Ap i := fun i hi => bQ _ _ _ hi
 have hf1 : ∀ i,(iX p.types.length (aD p).length f.Af f.Ap i).1.length = p.types.length := fun i => by simp [iX]
 have hf2 : ∀ i v, v < p.types.length → l < (iX p.types.length (aD p).length f.Af f.Ap i).1[v]!.length := fun i v hv => by
  unfold iX;dsimp only;rw [bQ _ _ _ hv]; simpa using hll
 have hus := fun (i : Nat) (hi : i < (aD p).length) => Gg p.types (aD p)[i]! ((List.range (aD p).length).map (iX p.types.length (aD p).length f.Af f.Ap))[i]!.1 ((List.range (aD p).length).map (iX p.types.length (aD p).length f.Af f.Ap))[i]!.2 l htl (by rw [hfi i hi]; exact hf1 i) (by rw [hfi i hi]; exact hf2 i)
 have hU : ∀ i,i < (aD p).length → (List.range p.types.length).any (HS p.types (aD p)[i]! ((List.range (aD p).length).map (iX p.types.length (aD p).length f.Af f.Ap))[i]!.1 l) = eO p.types (aD p) f.Af l i := fun i hi => by rw [hfi i hi]; exact Mw _ _ _ _ _ _ f.gf.1 htl hi hll
 clear hfi hf1 hf2
 generalize (List.range (aD p).length).map (iX p.types.length (aD p).length f.Af f.Ap) = FL at hfl hfll hus hU
 have hfr := KC p.types (aD p) a F0 w ha hF0
 have hF0l := hF0.l
 have hUt := p.types.length
 refine aB Tryz.func39 Tryz.ntmps39 ?_
 repeat' (first|(apply aF;first|(apply aA (k := 41);rfl;exact hPP;exact Pur.pf;rfl)|(apply aA (k := 76);rfl;exact hfl;exact Pur.pf;rfl)|(apply aA (k := 77);rfl;exact hfr;exact Pur.pf;rfl)|(apply aJ (t := _);rfl;rfl;rfl;(rfl);rfl;rfl))|refine aE ?_|(refine aK ?_ ?_ <;> intro hc hq <;> try (exfalso;omega))|(refine bK ?_ ?_ <;> intro hg hq <;> try (exfalso;omega))|fail)
 refine aH (σ := Nat × List Int) [1,2,3,8,9,10] [0] (fun s => [(12,iv (s.1 : Int)),(11,sl cI s.2)]) (fun s => []) (fun s => s.1 ≤ (aD p).length ∧ s.2 = eJ (kU (eH (aD p) a) (eO p.types (aD p) f.Af l) s.1).2) (fun s => (aD p).length - s.1) (0,[]) ⟨by omega,rfl⟩ ?_
 rintro ⟨i,bl⟩ ⟨hi,hbl⟩
 dsimp only at hi hbl
 try dsimp only
 have hbp := N2 (W := eH (aD p) a) (U := eO p.types (aD p) f.Af l) (i := i)
 have hbln := LR (W := eH (aD p) a) (U := eO p.types (aD p) f.Af l) (fun j => iL (x := j) w.nx ha) i
 have hbll : bl.length = (kU (eH (aD p) a) (eO p.types (aD p) f.Af l) i).2.length := by rw [hbl,c5]
 by_cases hin : i < (aD p).length
 ·have hu := hus i hin
  rw [hU i hin] at hu
  have hw := lI p.types (aD p) a i w ha hin
  have hwl := iL (x := i) w.nx ha
  rw [← c5] at hwl
  repeat' (first|(apply aF;first|(apply aA (k := 78);rfl;exact hu;exact Pur.pf;rfl)|(apply aA (k := 38);rfl;exact hw;exact Pur.pf;rfl))|refine aE ?_|(refine aK ?_ ?_ <;> intro hc hq <;> try (exfalso;omega))|(refine bK ?_ ?_ <;> intro hg hq <;> try (exfalso;omega))|refine bH ?_|fail)
  ·have hb := zA (W := eH (aD p) a) (U := eO p.types (aD p) f.Af l) (i := i) (.inl (by assumption))
   (refine bB (i + 1,bl) (Le.renA [(0,0)]) ?_ ?_)
   ·exact ⟨by dsimp only;omega,by dsimp only;rw [hb,hbl]⟩
   ·dsimp only;omega
  ·have hu2 : eO p.types (aD p) f.Af l i = true := by assumption
   have hW := (j5 w.nx ha).2 ((hF0.g i hin).1 (by assumption))
   have hb := tL (W := eH (aD p) a) (U := eO p.types (aD p) f.Af l) hu2 hW (by rw [c5] at *; omega)
   (refine bB (i + 1,_) (Le.renA [(0,0)]) ?_ ?_)
   ·exact ⟨by dsimp only;omega,by dsimp only;rw [hb]; rfl⟩
   ·dsimp only;omega
  ·have hb := EG (W := eH (aD p) a) (U := eO p.types (aD p) f.Af l) (i := i) (by omega) (by rw [c5] at *; omega)
   (refine bB (i + 1,bl) (Le.renA [(0,0)]) ?_ ?_)
   ·exact ⟨by dsimp only;omega,by dsimp only;rw [hb,hbl]⟩
   ·dsimp only;omega
  ·have hu2 : eO p.types (aD p) f.Af l i = true := by assumption
   have hW := (j5 w.nx ha).2 ((hF0.g i hin).1 (by assumption))
   have hb := tL (W := eH (aD p) a) (U := eO p.types (aD p) f.Af l) hu2 hW (by rw [c5] at *; omega)
   (refine bB (i + 1,_) (Le.renA [(0,0)]) ?_ ?_)
   ·exact ⟨by dsimp only;omega,by dsimp only;rw [hb]; rfl⟩
   ·dsimp only;omega
  ·have hb := zA (W := eH (aD p) a) (U := eO p.types (aD p) f.Af l) (i := i) (.inr (Classical.byContradiction fun h => by have h2 := (hF0.g i hin).2 ((j5 w.nx ha).1 h); rw [(by assumption : F0[i]! = false)] at h2; cases h2))
   (refine bB (i + 1,bl) (Le.renA [(0,0)]) ?_ ?_)
   ·exact ⟨by dsimp only;omega,by dsimp only;rw [hb,hbl]⟩
   ·dsimp only;omega
 ·have hin2 : (aD p).length = i := by omega
  repeat' (first|refine aE ?_|(refine aK ?_ ?_ <;> intro hc hq <;> try (exfalso;omega))|fail)
  ·exact aC rfl ⟨by rw [hin2,if_neg (by omega)]; rfl,rfl⟩
  ·have hla := Kg w.nx ha hbl (by omega)
   refine aC rfl ⟨?_,rfl⟩
   rw [hla.1,hin2,if_pos hla.2]; rfl
theorem Mg (p:Prg) (hl:p.types.length ≤ 1048576) (hs:aR p.body ≤ 1048576):∃ L:List Iss,PC Tryz.prog 26 [bI p] (fun r => r = sl iW L) ∧ L.length ≤ 1048576:=by
 cases hv : bE p
 ·exact ⟨[],yQ p hv hl hs,by simp⟩
 ·have w := WG.of_valid hv
  obtain ⟨f⟩ := Flows.ex w
  have e : H3 p f = f.iss := if_pos hv
  exact ⟨f.iss,by rw [← e]; exact uH p f hl hs,Nat.le_trans (fK w f) (by decide)⟩
theorem Hf (bs:List UInt8) (hb:bs.length ≤ 1048576):PC Tryz.prog 10 [sl cU bs] (fun r => ∃ (q:Prg) (x:Iss),r = .tup [bI q,dY x] ∧ aR q.body ≤ 20000 ∧ q.types.length ≤ 1000):=by
 have hb2 : (bs.take 2000).length ≤ 2000 := by rw [List.length_take]; omega
 refine aB Tryz.func10 Tryz.ntmps10 ?_
 repeat' (first|(apply aF;first|(apply uP (k := 25);exact PJ (bs.take 2000) 0 hb2 (by decide);rfl;rfl;rfl;rfl;rfl;(rintro ⟨q,p1⟩ ⟨hq1,hq2,hq3⟩);(dsimp only at hq1 hq2 hq3))|(apply uP (k := 24);exact Iq (bs.take 2000) p1 q hb2 (by omega) (by omega) (by omega);rfl;exact Pur.pf;rfl;rfl;rfl;(rintro ⟨q2,p2⟩ ⟨hr1,hr2,hr3⟩);(dsimp only at hr1 hr2 hr3))|(with_reducible apply aZ (d := 14))|(apply C8;rfl;(apply Gu <;> (assumption));rfl;rfl))|refine aE ?_|fail)
 refine bY ?_
 obtain ⟨L,hC,hLl⟩ := Mg q2 (by omega) (by omega)
 have h1 := dO (bs.take 2000) (q2,p2).2 5
 have h2 := dO (bs.take 2000) ((q2,p2).2 + 1) 3
 have h3 := dO (bs.take 2000) ((q2,p2).2 + 1 + 1) 3
 have h4 := dO (bs.take 2000) ((q2,p2).2 + 1 + 1 + 1 + 1) L.length
 repeat' (first|(apply aF;first|(apply bC;rfl;rfl;rfl;rfl;rfl;(case hl => (simp;done));exact (rfl:_=[_,_,_]))|(apply aA (k := 26);rfl;exact hC;exact Pur.pf;rfl)|(apply lQ;rfl;rfl;(rfl);(apply o6 <;> (first|assumption|omega));rfl;rfl))|refine aE ?_|(refine aK ?_ ?_ <;> intro hc hq <;> try (exfalso;omega))|(refine bK ?_ ?_ <;> intro hg hq <;> try (exfalso;omega))|refine bH ?_|fail)
 all_goals exact aC (l := [bI q2,dY ⟨_,_,_⟩]) rfl ⟨⟨q2,_,rfl,by omega,by omega⟩,Pur.pf⟩
def Jv (x : Iss) (L : List Iss) : Int := match L.findIdx? (IS x) with | some i => i | none => -1
theorem Ov (L:List Iss) (x:Iss) (hl:L.length ≤ 1048576):PC Tryz.prog 48 [sl iW L,dY x] (fun r => r = iv (Jv x L)):=by
 refine aB Tryz.func48 Tryz.ntmps48 ?_
 repeat' (first|refine aE ?_|fail)
 refine aH (σ := Nat) [0,3,7] [0] (fun k => [(8,iv (k : Int))]) (fun k => []) (fun k => k ≤ L.length ∧ ∀ j,j < k → IS x L[j]! = false) (fun k => L.length - k) (0) ⟨by omega,by omega⟩ ?_
 intro k ⟨hk,hall⟩
 have heq : (x.point == L[k]!.point && (x.kind == L[k]!.kind && x.with_ == L[k]!.with_)) = IS x L[k]! := rfl
 by_cases hkn : k < L.length
 ·cases hb : IS x L[k]!
  ·rw [hb] at heq
   repeat' (first|(apply aF;(apply A9;rfl;rfl;(rw [heq]; rfl);rfl))|refine aE ?_|(refine aK ?_ ?_ <;> intro hc hq <;> try (exfalso;omega))|refine bH ?_|fail)
   (refine bB (k + 1) (Le.renA [(0,0)]) ?_ ?_)
   ·refine ⟨by omega, fun j hj => ?_⟩
    by_cases e : j = k
    ·subst e;exact hb
    ·exact hall j (by omega)
   ·omega
  ·rw [hb] at heq
   repeat' (first|(apply aF;(apply A9;rfl;rfl;(rw [heq]; rfl);rfl))|refine aE ?_|(refine aK ?_ ?_ <;> intro hc hq <;> try (exfalso;omega))|refine bH ?_|fail)
   refine aC rfl ⟨?_,rfl⟩
   have : L.findIdx? (IS x) = some k := by
    rw [List.findIdx?_eq_some_iff_getElem]
    refine ⟨hkn,by rw [← aY L k hkn]; exact hb,fun j hj => ?_⟩
    have := hall j hj;rw [aY L j (by omega)] at this;rw [this]; decide
   simp only [Jv,this]; rfl
 ·repeat' (first | refine aE ?_ | (refine aK ?_ ?_ <;> intro hc hq <;> try (exfalso; omega))|fail)
  refine aC rfl ⟨?_,rfl⟩
  have : L.findIdx? (IS x) = none := by
   rw [List.findIdx?_eq_none_iff]
   intro y hy
   obtain ⟨j,hj,rfl⟩ := List.getElem_of_mem hy
   have := hall j (by omega);rw [aY L j hj] at this;exact this
  simp only [Jv,this]; rfl
theorem NR (x:Iss) (L:List Iss):decide (0 ≤ Jv x L) = decide (x ∈ L):=by
 unfold Jv
 split
 ·rename_i i h
  obtain ⟨h1,h2,_⟩ := List.findIdx?_eq_some_iff_getElem.1 h
  rw [decide_eq_true (by rw [(tD _ _).1 h2]; exact List.getElem_mem h1 : x ∈ L)]; simp
 ·rename_i h
  rw [List.findIdx?_eq_none_iff] at h
  have : ¬ x ∈ L := fun hx => by have := h x hx;rw [(tD x x).2 rfl] at this;cases this
  rw [decide_eq_false this]; rfl
theorem lS (L:List Iss) (x:Iss) (hl:L.length ≤ 1048576):PC Tryz.prog 18 [sl iW L,dY x] (fun r => r = bv (decide (x ∈ L))):=by
 have hi := Ov L x hl
 refine aB Tryz.func18 Tryz.ntmps18 ?_
 repeat' (first|(apply aF;(apply aA (k := 48);rfl;exact hi;exact Pur.pf;rfl))|refine aE ?_|fail)
 refine aC rfl ⟨?_,rfl⟩
 exact congrArg bv (NR x L)
theorem nP (p:Prg) (L:List Iss) (x:Iss) (hC:PC Tryz.prog 26 [bI p] (fun r => r = sl iW L)) (hl:L.length ≤ 1048576):PC Tryz.prog 35 [bI p,dY x] (fun r => r = bv (decide (x ∈ L))):=by
 refine aB Tryz.func35 Tryz.ntmps35 ?_
 repeat' (first|(apply aF;(apply aA (k := 26);rfl;exact hC;exact Pur.pf;rfl))|refine aE ?_|fail)
 refine aH (σ := Nat) [3,5] [0,1] (fun k => [(6,iv (k : Int))]) (fun k => []) (fun k => k ≤ L.length ∧ ∀ j,j < k → IS L[j]! x = false) (fun k => L.length - k) (0) ⟨by omega,by omega⟩ ?_
 intro k ⟨hk,hall⟩
 have heq : (L[k]!.point == x.point && (L[k]!.kind == x.kind && L[k]!.with_ == x.with_)) = IS L[k]! x := rfl
 by_cases hkn : k < L.length
 ·cases hb : IS L[k]! x
  ·rw [hb] at heq
   repeat' (first|(apply aF;(apply A9;rfl;rfl;(rw [heq]; rfl);rfl))|refine aE ?_|(refine aK ?_ ?_ <;> intro hc hq <;> try (exfalso;omega))|refine bH ?_|fail)
   (refine bB (k + 1) (Le.renA [(0,0),(1,1)]) ?_ ?_)
   ·refine ⟨by omega, fun j hj => ?_⟩
    by_cases e : j = k
    ·subst e;exact hb
    ·exact hall j (by omega)
   ·omega
  ·rw [hb] at heq
   repeat' (first|(apply aF;(apply A9;rfl;rfl;(rw [heq]; rfl);rfl))|refine aE ?_|(refine aK ?_ ?_ <;> intro hc hq <;> try (exfalso;omega))|refine bH ?_|fail)
   refine aC rfl ⟨?_,rfl⟩
   rw [decide_eq_true (by have := aS L k hkn;rw [(tD _ _).1 hb] at this;exact this : x ∈ L)]; rfl
 ·repeat' (first | refine aE ?_ | (refine aK ?_ ?_ <;> intro hc hq <;> try (exfalso; omega))|fail)
  refine aC rfl ⟨?_,rfl⟩
  rw [decide_eq_false (fun h => by
   obtain ⟨j,hj,e⟩ := List.getElem_of_mem h
   have := hall j (by omega)
   rw [aY L j hj,e,(tD x x).2 rfl] at this;cases this)]; rfl
theorem zL (ts:List Int) (bd:List AL.Stmt) (pts:List Pnt) (t:Nat) (w:WG ts pts) (hr:Rch pts) (ht:t < pts.length):PC Tryz.prog 28 [aG ts bd pts,iv (t:Int)] (fun r => r = .tup [sl cI (eJ (rC pts t)),bv true]):=by
 have h0 := w.p0
 by_cases hz : t = 0
 ·subst hz
  refine aB Tryz.func28 Tryz.ntmps28 ?_
  repeat' (first|(apply aF;(apply aJ (t := _);rfl;rfl;rfl;exact (rfl:_=some [_]);rfl;rfl))|refine aE ?_|fail)
  all_goals first|exact aC rfl ⟨rfl,(by (rfl))⟩|exact absurd trivial (by assumption : ¬ True)
 ·have hsw := hO ts bd pts 0 t w h0 ht
  rw [decide_eq_true ((gO w.nx h0 t).2 (hr.wy t t (Nat.le_refl _) (by omega) ht))] at hsw
  have e : rC pts t = eH pts 0 t := if_neg hz
  rw [← e] at hsw
  refine aB Tryz.func28 Tryz.ntmps28 ?_
  repeat' (first|(apply aF;(apply aA (k := 30);rfl;exact hsw;exact Pur.pf;rfl))|refine aE ?_|(refine aK ?_ ?_ <;> intro hc hq <;> try (exfalso;omega))|fail)
  exact aC rfl ⟨rfl,(by exact Pur.pf)⟩
theorem tM (ts:List Int) (pts:List Pnt) (t:Nat) (w:WG ts pts) (ht:t < pts.length):PC Tryz.prog 37 [sl b8 pts,iv (t:Int)] (fun r => r = sl cI (eJ (rC pts t))):=by
 have h0 := w.p0
 by_cases hz : t = 0
 ·subst hz
  refine aB Tryz.func37 Tryz.ntmps37 ?_
  repeat' (first|(apply aF;(apply aJ (t := _);rfl;rfl;rfl;exact (rfl:_=some [_]);rfl;rfl))|refine aE ?_|fail)
  all_goals first|exact aC rfl ⟨rfl,(by (rfl))⟩|exact absurd trivial (by assumption : ¬ True)
 ·have hsw := lI ts pts 0 t w h0 ht
  have e : rC pts t = eH pts 0 t := if_neg hz
  rw [← e] at hsw
  refine aB Tryz.func37 Tryz.ntmps37 ?_
  repeat' (first|(apply aF;(apply aA (k := 38);rfl;exact hsw;exact Pur.pf;rfl))|refine aE ?_|(refine aK ?_ ?_ <;> intro hc hq <;> try (exfalso;omega))|fail)
  exact aC rfl ⟨rfl,(by (exact bD _ _))⟩
theorem yP (a b:List Int) (ha:a.length ≤ 1000) (hb:b.length ≤ 1000) (h1:0 < b.length):PC Tryz.prog 40 [sl cI a,sl cI b] (fun r => r = sl cI (a ++ b.drop 1)):=by
 have htl : (List.take (b.length - Int.toNat 1) (List.drop (Int.toNat 1) b)).length = b.length - 1 := by
  show (List.take (b.length - 1) (List.drop 1 b)).length = _
  rw [List.length_take,List.length_drop]; omega
 refine aB Tryz.func40 Tryz.ntmps40 ?_
 repeat' (first|(apply aF;(apply bZ;rfl;rfl;rfl;rfl;rfl;(case hl => first|(rw [aI]; omega)|(simp [aI]; done));(exact wE (by (rfl)));omega;omega;(exact pT (by (omega)));rfl;rfl))|refine aE ?_|refine bH ?_|fail)
 refine aO (Le.frzD (d := 4) (i := 2) rfl rfl) ?_
 refine aC rfl ⟨?_,(by (exact bD _ _))⟩
 have e : List.take (b.length - Int.toNat 1) (List.drop (Int.toNat 1) b) = b.drop 1 := by
  show List.take (b.length - 1) (List.drop 1 b) = _
  exact List.take_of_length_le (by rw [List.length_drop]; omega)
 rw [e]
 simp only [aM,sl,List.length_append,Nat.zero_add]
theorem M1 (p:Prg) (x:Iss) (hv:bE p = false) (hl:p.types.length ≤ 1048576) (hs:aR p.body ≤ 1048576):PC Tryz.prog 11 [bI p,dY x] (fun r => r = .tup [sl cI [],bv false]):=by
 have hg := dK p hl hs
 rw [if_neg (by simp [hv])] at hg
 refine aB Tryz.func11 Tryz.ntmps11 ?_
 repeat' (first|(apply aF;(apply aA (k := 17);rfl;exact hg;exact Pur.pf;rfl))|refine aE ?_|refine bH ?_|fail)
 (refine aO (Le.nilImm (d := 4) rfl) ?_; refine aC rfl ?_)
 exact ⟨rfl,rfl⟩
theorem Me (p:Prg) (f:Flows p.types (aD p)) (x:Iss) (hv:bE p = true) (hx:x ∉ f.iss) (hl:p.types.length ≤ 1048576) (hs:aR p.body ≤ 1048576):PC Tryz.prog 11 [bI p,dY x] (fun r => r = .tup [sl cI [],bv false]):=by
 have w := WG.of_valid hv
 have hg := dK p hl hs
 rw [if_pos hv] at hg
 have hi := gY p.types p.body (aD p) w f
 have hc := lS f.iss x (Nat.le_trans (fK w f) (by decide))
 rw [decide_eq_false hx] at hc
 refine aB Tryz.func11 Tryz.ntmps11 ?_
 repeat' (first|(apply aF;first|(apply aA (k := 17);rfl;exact hg;exact Pur.pf;rfl)|(apply aA (k := 19);rfl;exact hi;exact Pur.pf;rfl)|(apply aA (k := 18);rfl;exact hc;exact Pur.pf;rfl))|refine aE ?_|refine bH ?_|fail)
 (refine aO (Le.nilImm (d := 4) rfl) ?_; refine aC rfl ?_)
 exact ⟨rfl,rfl⟩
theorem Fg (p:Prg) (f:Flows p.types (aD p)) (a:Nat) (k wi:Int) (hk:k = 1) (ha:a < (aD p).length) (hv:bE p = true) (hx:(⟨(a:Int),k,wi⟩:Iss) ∈ f.iss) (hl:p.types.length ≤ 1048576) (hs:aR p.body ≤ 1048576) :
  PC Tryz.prog 11 [bI p,dY ⟨(a : Int),k,wi⟩] (fun r => r = .tup [sl cI (eJ (rC (aD p) a)),bv true]) := by
 have w := WG.of_valid hv
 have hg := dK p hl hs
 rw [if_pos hv] at hg
 have hi := gY p.types p.body (aD p) w f
 have hc := lS f.iss ⟨(a : Int),k,wi⟩ (Nat.le_trans (fK w f) (by decide))
 rw [decide_eq_true hx] at hc
 have hb := zL p.types p.body (aD p) a w (Rch.of p) ha
 subst hk
 refine aB Tryz.func11 Tryz.ntmps11 ?_
 repeat' (first|(apply aF;first|(apply aA (k := 17);rfl;exact hg;exact Pur.pf;rfl)|(apply aA (k := 19);rfl;exact hi;exact Pur.pf;rfl)|(apply aA (k := 18);rfl;exact hc;exact Pur.pf;rfl)|(apply aA (k := 28);rfl;exact hb;exact Pur.pf;rfl))|refine aE ?_|refine bH ?_|fail)
 all_goals first|exact aC rfl ⟨rfl,(by exact Pur.pf)⟩
theorem LJ (p:Prg) (f:Flows p.types (aD p)) (a l:Nat) (k:Int) (hk:k ≠ 1) (ha:a < (aD p).length) (hll:l < (aD p).length) (hv:bE p = true) (hx:(⟨(a:Int),k,(l:Int)⟩:Iss) ∈ f.iss) (hl:p.types.length ≤ 1048576) (hs:aR p.body ≤ 1048576) (u:Nat)
  (hu : (kU (eH (aD p) a) (eO p.types (aD p) f.Af l) (aD p).length).1 = (u : Int)) (hun : u < (aD p).length) (h2 : eH (aD p) l a ≠ []) (h3 : eH (aD p) a u ≠ []) :
  PC Tryz.prog 11 [bI p,dY ⟨(a : Int),k,(l : Int)⟩] (fun r => r = .tup [sl cI (eJ (rC (aD p) l) ++ (eJ (eH (aD p) l a)).drop 1 ++ (eJ (eH (aD p) a u)).drop 1),bv true]) := by
 have w := WG.of_valid hv
 have hg := dK p hl hs
 rw [if_pos hv] at hg
 have hi := gY p.types p.body (aD p) w f
 have hc := lS f.iss ⟨(a : Int),k,(l : Int)⟩ (Nat.le_trans (fK w f) (by decide))
 rw [decide_eq_true hx] at hc
 have hua := oV p.types p.body (aD p) f w a l ha hll
 rw [hu,decide_eq_true (by omega)] at hua
 have hb := zL p.types p.body (aD p) l w (Rch.of p) hll
 have hs1 := hO p.types p.body (aD p) l a w hll ha
 rw [decide_eq_true ((gO w.nx hll a).2 ((j5 w.nx hll).1 h2))] at hs1
 have hs2 := hO p.types p.body (aD p) a u w ha hun
 rw [decide_eq_true ((gO w.nx ha u).2 ((j5 w.nx ha).1 h3))] at hs2
 have hl1 := iL (x := a) w.nx hll
 have hl2 := iL (x := u) w.nx ha
 have hl0 := oA w.nx w.p0 l
 have hpl := w.pl
 rw [← c5] at hl0 hl1 hl2
 have hp1 : 0 < (eJ (eH (aD p) l a)).length := by rw [c5]; exact List.length_pos_iff.2 h2
 have hp2 : 0 < (eJ (eH (aD p) a u)).length := by rw [c5]; exact List.length_pos_iff.2 h3
 generalize eJ (rC (aD p) l) = A at *
 generalize eJ (eH (aD p) l a) = B at *
 generalize eJ (eH (aD p) a u) = D at *
 have hco := I1 [A,List.take (B.length - Int.toNat 1) (List.drop (Int.toNat 1) B),List.take (D.length - Int.toNat 1) (List.drop (Int.toNat 1) D)] (by simp) (by simp;omega)
 refine aB Tryz.func11 Tryz.ntmps11 ?_
 repeat' (first|(apply aF;first|(apply uU (t := 115);rfl;rfl;rfl;exact (rfl:_=some [_,_,_]);rfl;rfl)|(apply aA (k := 17);rfl;exact hg;exact Pur.pf;rfl)|(apply aA (k := 19);rfl;exact hi;exact Pur.pf;rfl)|(apply aA (k := 18);rfl;exact hc;exact Pur.pf;rfl)|(apply aA (k := 29);rfl;exact hua;exact Pur.pf;rfl)|(apply aA (k := 28);rfl;exact hb;exact Pur.pf;rfl)|(apply aA (k := 30);rfl;exact hs1;exact Pur.pf;rfl)|(apply aA (k := 30);rfl;exact hs2;exact Pur.pf;rfl)|(apply aA (k := 31);rfl;exact hco;exact Pur.pf;rfl))|refine aE ?_|(refine aK ?_ ?_ <;> intro hc hq <;> try (exfalso;omega))|refine bH ?_|fail)
 refine aC rfl ⟨?_,(by exact Pur.pf)⟩
 have eB : List.take (B.length - Int.toNat 1) (List.drop (Int.toNat 1) B) = B.drop 1 := by
  show List.take (B.length - 1) (List.drop 1 B) = _
  exact List.take_of_length_le (by rw [List.length_drop]; omega)
 have eD : List.take (D.length - Int.toNat 1) (List.drop (Int.toNat 1) D) = D.drop 1 := by
  show List.take (D.length - 1) (List.drop 1 D) = _
  exact List.take_of_length_le (by rw [List.length_drop]; omega)
 rw [eB,eD]
 simp [aM]
theorem MP (p:Prg) (f:Flows p.types (aD p)) (a l:Nat) (k:Int) (hk:k ≠ 1) (ha:a < (aD p).length) (hll:l < (aD p).length) (hv:bE p = true) (hx:(⟨(a:Int),k,(l:Int)⟩:Iss) ∈ f.iss) (hl:p.types.length ≤ 1048576) (hs:aR p.body ≤ 1048576)
  (hu : (kU (eH (aD p) a) (eO p.types (aD p) f.Af l) (aD p).length).1 < 0) :
  PC Tryz.prog 11 [bI p,dY ⟨(a : Int),k,(l : Int)⟩] (fun r => r = .tup [sl cI [],bv false]) := by
 have w := WG.of_valid hv
 have hg := dK p hl hs
 rw [if_pos hv] at hg
 have hi := gY p.types p.body (aD p) w f
 have hc := lS f.iss ⟨(a : Int),k,(l : Int)⟩ (Nat.le_trans (fK w f) (by decide))
 rw [decide_eq_true hx] at hc
 have hua := oV p.types p.body (aD p) f w a l ha hll
 rw [decide_eq_false (by omega : ¬ 0 ≤ (kU (eH (aD p) a) (eO p.types (aD p) f.Af l) (aD p).length).1)] at hua
 refine aB Tryz.func11 Tryz.ntmps11 ?_
 repeat' (first|(apply aF;first|(apply aA (k := 17);rfl;exact hg;exact Pur.pf;rfl)|(apply aA (k := 19);rfl;exact hi;exact Pur.pf;rfl)|(apply aA (k := 18);rfl;exact hc;exact Pur.pf;rfl)|(apply aA (k := 29);rfl;exact hua;exact Pur.pf;rfl))|refine aE ?_|(refine aK ?_ ?_ <;> intro hc hq <;> try (exfalso;omega))|refine bH ?_|fail)
 (refine aO (Le.nilImm (d := 4) rfl) ?_; refine aC rfl ?_)
 exact ⟨rfl,rfl⟩
theorem Mm (p:Prg) (f:Flows p.types (aD p)) (a l:Nat) (k:Int) (hk:k ≠ 1) (ha:a < (aD p).length) (hll:l < (aD p).length) (hv:bE p = true) (hx:(⟨(a:Int),k,(l:Int)⟩:Iss) ∈ f.iss) (hl:p.types.length ≤ 1048576) (hs:aR p.body ≤ 1048576) (u:Nat)
  (hu : (kU (eH (aD p) a) (eO p.types (aD p) f.Af l) (aD p).length).1 = (u : Int)) (hun : u < (aD p).length) (h2 : ¬ Wy (aD p) l a) :
  PC Tryz.prog 11 [bI p,dY ⟨(a : Int),k,(l : Int)⟩] (fun r => r = .tup [sl cI [],bv false]) := by
 have w := WG.of_valid hv
 have hg := dK p hl hs
 rw [if_pos hv] at hg
 have hi := gY p.types p.body (aD p) w f
 have hc := lS f.iss ⟨(a : Int),k,(l : Int)⟩ (Nat.le_trans (fK w f) (by decide))
 rw [decide_eq_true hx] at hc
 have hua := oV p.types p.body (aD p) f w a l ha hll
 rw [hu,decide_eq_true (by omega)] at hua
 have hb := zL p.types p.body (aD p) l w (Rch.of p) hll
 have hs1 := hO p.types p.body (aD p) l a w hll ha
 rw [decide_eq_false (fun h => h2 ((gO w.nx hll a).1 h))] at hs1
 have hs2 := hO p.types p.body (aD p) a u w ha hun
 refine aB Tryz.func11 Tryz.ntmps11 ?_
 repeat' (first|(apply aF;first|(apply aA (k := 17);rfl;exact hg;exact Pur.pf;rfl)|(apply aA (k := 19);rfl;exact hi;exact Pur.pf;rfl)|(apply aA (k := 18);rfl;exact hc;exact Pur.pf;rfl)|(apply aA (k := 29);rfl;exact hua;exact Pur.pf;rfl)|(apply aA (k := 28);rfl;exact hb;exact Pur.pf;rfl)|(apply aA (k := 30);rfl;exact hs1;exact Pur.pf;rfl)|(apply aA (k := 30);rfl;exact hs2;exact Pur.pf;rfl))|refine aE ?_|(refine aK ?_ ?_ <;> intro hc hq <;> try (exfalso;omega))|refine bH ?_|fail)
 (refine aO (Le.nilImm (d := 4) rfl) ?_; refine aC rfl ?_)
 exact ⟨rfl,rfl⟩
theorem EX (p:Prg) (L:List Iss) (x:Iss) (hC:PC Tryz.prog 26 [bI p] (fun r => r = sl iW L)) (hLl:L.length ≤ 1048576) (hx:x ∉ L):PC Tryz.prog 14 [bI p,dY x] (fun r => r = .tup [sl cI [],bv false]):=by
 have hh := nP p L x hC hLl
 rw [decide_eq_false hx] at hh
 refine aB Tryz.func14 Tryz.ntmps14 ?_
 repeat' (first|(apply aF;first|(apply aA (k := 35);rfl;exact hh;exact Pur.pf;rfl)|(apply aJ (t := _);rfl;rfl;rfl;(rfl);rfl;rfl))|refine aE ?_|fail)
 exact aC rfl ⟨rfl,(by (rfl))⟩
theorem F2 (p:Prg) (L:List Iss) (a:Nat) (k wi:Int) (hC:PC Tryz.prog 26 [bI p] (fun r => r = sl iW L)) (hLl:L.length ≤ 1048576) (hk:k = 1) (ha:a < (aD p).length) (hv:bE p = true) (hx:(⟨(a:Int),k,wi⟩:Iss) ∈ L) (hs:aR p.body ≤ 1048576) :
  PC Tryz.prog 14 [bI p,dY ⟨(a : Int),k,wi⟩] (fun r => r = .tup [sl cI (eJ (rC (aD p) a)),bv true]) := by
 have w := WG.of_valid hv
 have hh := nP p L ⟨(a : Int),k,wi⟩ hC hLl
 rw [decide_eq_true hx] at hh
 have hp := dH p hs
 have hb := tM p.types (aD p) a w ha
 subst hk
 refine aB Tryz.func14 Tryz.ntmps14 ?_
 repeat' (first|(apply aF;first|(apply aA (k := 35);rfl;exact hh;exact Pur.pf;rfl)|(apply aA (k := 36);rfl;exact hp;exact Pur.pf;rfl)|(apply aA (k := 37);rfl;exact hb;exact Pur.pf;rfl))|refine aE ?_|fail)
 all_goals first|exact aC rfl ⟨rfl,(by exact Pur.pf)⟩
theorem LQ (p:Prg) (f:Flows p.types (aD p)) (L:List Iss) (a l:Nat) (k:Int) (hC:PC Tryz.prog 26 [bI p] (fun r => r = sl iW L)) (hLl:L.length ≤ 1048576) (hk:k ≠ 1) (ha:a < (aD p).length) (hll:l < (aD p).length) (hv:bE p = true) (hx:(⟨(a:Int),k,(l:Int)⟩:Iss) ∈ L) (hl:p.types.length ≤ 1048576) (hs:aR p.body ≤ 1048576) (u:Nat)
  (hu : (kU (eH (aD p) a) (eO p.types (aD p) f.Af l) (aD p).length).1 = (u : Int)) (hun : u < (aD p).length) (h2 : eH (aD p) l a ≠ []) (h3 : eH (aD p) a u ≠ []) :
  PC Tryz.prog 14 [bI p,dY ⟨(a : Int),k,(l : Int)⟩] (fun r => r = .tup [sl cI (eJ (rC (aD p) l) ++ (eJ (eH (aD p) l a)).drop 1 ++ (eJ (eH (aD p) a u)).drop 1),bv true]) := by
 have w := WG.of_valid hv
 have hh := nP p L ⟨(a : Int),k,(l : Int)⟩ hC hLl
 rw [decide_eq_true hx] at hh
 have hp := dH p hs
 have hb := tM p.types (aD p) l w hll
 obtain ⟨F0,hF0⟩ := GoodR.exist (aD p) a
 have hua := mB p a l f F0 hl hs hv ha hll hF0
 rw [hu,if_pos (by omega)] at hua
 have hs1 := lI p.types (aD p) l a w hll ha
 rw [decide_eq_true ((gO w.nx hll a).2 ((j5 w.nx hll).1 h2))] at hs1
 have hs2 := lI p.types (aD p) a u w ha hun
 have hl1 := iL (x := a) w.nx hll
 have hl2 := iL (x := u) w.nx ha
 have hl0 := oA w.nx w.p0 l
 have hpl := w.pl
 rw [← c5] at hl0 hl1 hl2
 have hp1 : 0 < (eJ (eH (aD p) l a)).length := by rw [c5]; exact List.length_pos_iff.2 h2
 have hp2 : 0 < (eJ (eH (aD p) a u)).length := by rw [c5]; exact List.length_pos_iff.2 h3
 generalize eJ (rC (aD p) l) = A at *
 generalize eJ (eH (aD p) l a) = B at *
 generalize eJ (eH (aD p) a u) = D at *
 have hj1 := yP A B (by omega) (by omega) hp1
 have hj2 := yP (A ++ B.drop 1) D (by rw [List.length_append,List.length_drop]; omega) (by omega) hp2
 refine aB Tryz.func14 Tryz.ntmps14 ?_
 repeat' (first|(apply aF;first|(apply aA (k := 35);rfl;exact hh;exact Pur.pf;rfl)|(apply aA (k := 36);rfl;exact hp;exact Pur.pf;rfl)|(apply aA (k := 37);rfl;exact hb;exact Pur.pf;rfl)|(apply aA (k := 39);rfl;exact hua;exact Pur.pf;rfl)|(apply aA (k := 38);rfl;exact hs1;exact Pur.pf;rfl)|(apply aA (k := 38);rfl;exact hs2;exact Pur.pf;rfl)|(apply aA (k := 40);rfl;exact hj1;exact Pur.pf;rfl)|(apply aA (k := 40);rfl;exact hj2;exact Pur.pf;rfl))|refine aE ?_|(refine aK ?_ ?_ <;> intro hc hq <;> try (exfalso;omega))|fail)
 all_goals first|exact aC rfl ⟨rfl,(by exact Pur.pf)⟩
theorem LM (p:Prg) (f:Flows p.types (aD p)) (L:List Iss) (a l:Nat) (k:Int) (hC:PC Tryz.prog 26 [bI p] (fun r => r = sl iW L)) (hLl:L.length ≤ 1048576) (hk:k ≠ 1) (ha:a < (aD p).length) (hll:l < (aD p).length) (hv:bE p = true) (hx:(⟨(a:Int),k,(l:Int)⟩:Iss) ∈ L) (hl:p.types.length ≤ 1048576) (hs:aR p.body ≤ 1048576)
  (hu : (kU (eH (aD p) a) (eO p.types (aD p) f.Af l) (aD p).length).1 < 0) :
  PC Tryz.prog 14 [bI p,dY ⟨(a : Int),k,(l : Int)⟩] (fun r => r = .tup [sl cI [],bv false]) := by
 have w := WG.of_valid hv
 have hh := nP p L ⟨(a : Int),k,(l : Int)⟩ hC hLl
 rw [decide_eq_true hx] at hh
 have hp := dH p hs
 have hb := tM p.types (aD p) l w hll
 obtain ⟨F0,hF0⟩ := GoodR.exist (aD p) a
 have hua := mB p a l f F0 hl hs hv ha hll hF0
 rw [if_neg (by omega)] at hua
 have hs1 := lI p.types (aD p) l a w hll ha
 refine aB Tryz.func14 Tryz.ntmps14 ?_
 repeat' (first|(apply aF;first|(apply aA (k := 35);rfl;exact hh;exact Pur.pf;rfl)|(apply aA (k := 36);rfl;exact hp;exact Pur.pf;rfl)|(apply aA (k := 37);rfl;exact hb;exact Pur.pf;rfl)|(apply aA (k := 39);rfl;exact hua;exact Pur.pf;rfl)|(apply aA (k := 38);rfl;exact hs1;exact Pur.pf;rfl)|(apply aJ (t := _);rfl;rfl;rfl;(rfl);rfl;rfl))|refine aE ?_|(refine aK ?_ ?_ <;> intro hc hq <;> try (exfalso;omega))|(refine bK ?_ ?_ <;> intro hg hq <;> try (exfalso;omega))|fail)
 all_goals first|exact aC rfl ⟨rfl,(by (rfl))⟩
theorem Mn (p:Prg) (f:Flows p.types (aD p)) (L:List Iss) (a l:Nat) (k:Int) (hC:PC Tryz.prog 26 [bI p] (fun r => r = sl iW L)) (hLl:L.length ≤ 1048576) (hk:k ≠ 1) (ha:a < (aD p).length) (hll:l < (aD p).length) (hv:bE p = true) (hx:(⟨(a:Int),k,(l:Int)⟩:Iss) ∈ L) (hl:p.types.length ≤ 1048576) (hs:aR p.body ≤ 1048576) (u:Nat)
  (hu : (kU (eH (aD p) a) (eO p.types (aD p) f.Af l) (aD p).length).1 = (u : Int)) (h2 : ¬ Wy (aD p) l a) :
  PC Tryz.prog 14 [bI p,dY ⟨(a : Int),k,(l : Int)⟩] (fun r => r = .tup [sl cI [],bv false]) := by
 have w := WG.of_valid hv
 have hh := nP p L ⟨(a : Int),k,(l : Int)⟩ hC hLl
 rw [decide_eq_true hx] at hh
 have hp := dH p hs
 have hb := tM p.types (aD p) l w hll
 obtain ⟨F0,hF0⟩ := GoodR.exist (aD p) a
 have hua := mB p a l f F0 hl hs hv ha hll hF0
 rw [hu,if_pos (by omega)] at hua
 have hs1 := lI p.types (aD p) l a w hll ha
 rw [decide_eq_false (fun h => h2 ((gO w.nx hll a).1 h))] at hs1
 refine aB Tryz.func14 Tryz.ntmps14 ?_
 repeat' (first|(apply aF;first|(apply aA (k := 35);rfl;exact hh;exact Pur.pf;rfl)|(apply aA (k := 36);rfl;exact hp;exact Pur.pf;rfl)|(apply aA (k := 37);rfl;exact hb;exact Pur.pf;rfl)|(apply aA (k := 39);rfl;exact hua;exact Pur.pf;rfl)|(apply aA (k := 38);rfl;exact hs1;exact Pur.pf;rfl)|(apply aJ (t := _);rfl;rfl;rfl;(rfl);rfl;rfl))|refine aE ?_|(refine aK ?_ ?_ <;> intro hc hq <;> try (exfalso;omega))|fail)
 all_goals first|exact aC rfl ⟨rfl,(by (rfl))⟩
theorem vO {stk:List Tg}{id:Int}(h:0 ≤ cA stk id):∀ k < (cA stk id).toNat,stk[k]!.id ≠ id:=by
 unfold cA at h ⊢
 split
 ·rename_i k hk
  obtain ⟨h1,h2,h3⟩ := List.findIdx?_eq_some_iff_getElem.1 hk
  rw [Int.toNat_natCast]
  intro j hj he
  have := h3 j hj
  rw [aY _ _ (by omega)] at he
  simp [he] at this
 ·rename_i hk;rw [hk] at h;dsimp only at h;omega
theorem zU {stk:List Tg}{id:Int}{i:Nat}(hi:i < stk.length) (h:stk[i]!.id = id) (hn:∀ k < i,stk[k]!.id ≠ id):cA stk id = (i:Int):=by
 have hb := eX stk id
 by_cases hneg : cA stk id < 0
 ·have := rI.1 hneg stk[i]! (by rw [aY _ _ hi]; exact List.getElem_mem hi)
  exact absurd h this
 ·have ha := N3 (stk := stk) (id := id) (by omega)
  have hf := vO (stk := stk) (id := id) (by omega)
  rcases Nat.lt_trichotomy (cA stk id).toNat i with h1|h1|h1
  ·exact absurd ha (hn _ h1)
  ·omega
  ·exact absurd h (hf _ h1)
theorem E1 (stk:List Tg) (id:Int) (hl:stk.length ≤ 1048576):PC Tryz.prog 186 [sl cD stk,iv id] (fun r => r = iv (cA stk id)):=by
 refine aB Tryz.func186 Tryz.ntmps186 ?_
 repeat' (first|refine aE ?_|fail)
 refine aH (σ := Nat) [0,1] [] (fun i => [(5,iv (i : Int))]) (fun i => []) (fun i => i ≤ stk.length ∧ (∀ k < i,stk[k]!.id ≠ id)) (fun i => stk.length - i) (0) ⟨Nat.zero_le _,fun k hk => absurd hk (by omega)⟩ ?_
 rintro i ⟨hi,hn⟩
 try dsimp only at hi hn
 repeat' (first|refine aE ?_|(refine aK ?_ ?_ <;> intro hc hq <;> try (exfalso;omega))|fail)
 ·refine aC rfl ⟨?_, rfl⟩
  simp only [aM]; rw [zU (i := i) (by omega) (by assumption) hn]
 ·(refine bB (i + 1) (Le.renA []) ?_ ?_)
  ·refine ⟨by omega, fun k hk => ?_⟩
   rcases Nat.lt_or_ge k i with h|h
   ·exact hn k h
   ·rw [show k = i by omega]; assumption
  ·show stk.length - (i + 1) < stk.length - i;omega
 ·refine aC rfl ⟨?_, rfl⟩
  have := rI (stk := stk) (id := id)
  have hb := eX stk id
  have : cA stk id < 0 := this.2 (fun t ht => by obtain ⟨k,hk,rfl⟩ := List.getElem_of_mem ht;have := hn k (by omega);rwa [aY _ _ hk] at this)
  simp only [aM]; rw [show cA stk id = -1 by omega]
theorem qQ (c:Cl):OkC c ↔ (0 ≤ c.val ∧ c.val ≤ 9) ∧ (1 ≤ c.next ∧ c.next ≤ 1000) ∧ (1 ≤ c.stk.length ∧ c.stk.length ≤ 200) ∧ c.stk[0]!.uq = true ∧ (∀ k < c.stk.length,0 ≤ c.stk[k]!.id ∧ c.stk[k]!.id < c.next ∧ cA c.stk c.stk[k]!.id = (k:Int)):=by
 constructor
 ·intro h
  refine ⟨h.v,h.n,h.l,h.u,fun k hk => ?_⟩
  have h1 := h.i c.stk[k]! (by rw [aY _ _ hk]; exact List.getElem_mem hk)
  refine ⟨h1.1,h1.2,zU hk rfl (fun j hj he => ?_)⟩
  have hd := List.nodup_iff_pairwise_ne.1 h.d |> List.pairwise_iff_getElem.1
  have := hd j k (by rw [List.length_map]; omega) (by rw [List.length_map]; omega) hj
  simp only [List.getElem_map] at this
  rw [aY _ _ (by omega),aY _ _ hk] at he
  exact this he
 ·rintro ⟨h1, h2, h3, h4, h5⟩
  refine ⟨h1,h2,h3,h4,fun t ht => ?_,?_⟩
  ·obtain ⟨k, hk, rfl⟩ := List.getElem_of_mem ht
   have := h5 k hk;rw [aY _ _ hk] at this
   exact ⟨this.1,this.2.1⟩
  ·rw [List.nodup_iff_pairwise_ne, List.pairwise_iff_getElem]
   intro i j hi hj hij he
   rw [List.length_map] at hi hj
   simp only [List.getElem_map] at he
   have a := (h5 i hi).2.2
   have b := (h5 j hj).2.2
   rw [aY _ _ hi] at a;rw [aY _ _ hj,← he,a] at b
   omega
instance (c : Cl) : Decidable (OkC c) := decidable_of_iff _ (qQ c).symm
theorem cQ (m:List Cl):OkM m ↔ m.length ≤ 200 ∧ ∀ k < m.length,OkC m[k]!:=by
 constructor
 ·exact fun h => ⟨h.l,fun k hk => h.c _ (by rw [aY _ _ hk]; exact List.getElem_mem hk)⟩
 ·exact fun h => ⟨h.1,fun c hc => by obtain ⟨k,hk,rfl⟩ := List.getElem_of_mem hc;have := h.2 k hk;rwa [aY _ _ hk] at this⟩
instance (m : List Cl) : Decidable (OkM m) := decidable_of_iff _ (cQ m).symm
theorem Ie (c:Cl):PC Tryz.prog 184 [Sd c] (fun r => r = bv (decide (OkC c))):=by
 refine aB Tryz.func184 Tryz.ntmps184 ?_
 repeat' (first|refine aE ?_|(refine aK ?_ ?_ <;> intro hc hq <;> try (exfalso;omega))|(refine bK ?_ ?_ <;> intro hg hq <;> try (exfalso;omega))|fail)
 all_goals try (refine aC rfl ⟨?_, rfl⟩; simp only [aM]; rw [show decide (OkC c) = false from decide_eq_false (fun h => by
  obtain ⟨h1,h2,h3,h4,h5⟩ := (qQ c).1 h
  first|omega|exact absurd (by assumption : c.stk[Int.toNat 0]!.uq = false) (by rw [show Int.toNat 0 = 0 from rfl,h4]; decide))]; done)
 have hu : c.stk[0]!.uq = true := by assumption
 refine aH (σ := Nat) [1] [0] (fun i => [(3,iv (i : Int))]) (fun i => []) (fun i => i ≤ c.stk.length ∧ (∀ k < i,0 ≤ c.stk[k]!.id ∧ c.stk[k]!.id < c.next ∧ cA c.stk c.stk[k]!.id = (k : Int))) (fun i => c.stk.length - i) (0) ⟨Nat.zero_le _,fun k hk => absurd hk (by omega)⟩ ?_
 rintro i ⟨hi,hn⟩
 try dsimp only at hi hn
 repeat' (first|(apply aF;(apply aA (k := 186);rfl;exact E1 c.stk c.stk[i]!.id (by omega);exact Pur.pf;rfl))|refine aE ?_|(refine aK ?_ ?_ <;> intro hc hq <;> try (exfalso;omega))|(refine bK ?_ ?_ <;> intro hg hq <;> try (exfalso;omega))|refine bH ?_|fail)
 all_goals try (refine aC rfl ⟨?_, rfl⟩; simp only [aM]; rw [show decide (OkC c) = false from decide_eq_false (fun h => by
  obtain ⟨h1,h2,h3,h4,h5⟩ := (qQ c).1 h
  exact absurd (h5 i (by omega)) (by omega))]; done)
 ·(refine bB (i + 1) (Le.renA [(0, 0)]) ?_ ?_)
  ·refine ⟨by omega, fun k hk => ?_⟩
   rcases Nat.lt_or_ge k i with h|h
   ·exact hn k h
   ·rw [show k = i by omega]; exact ⟨by assumption,by assumption,by assumption⟩
  ·show c.stk.length - (i + 1) < c.stk.length - i;omega
 ·refine aC rfl ⟨?_, rfl⟩
  simp only [aM]
  rw [show decide (OkC c) = true from decide_eq_true ((qQ c).2 ⟨by omega,by omega,by omega,hu,fun k hk => hn k (by omega)⟩)]
theorem oI (m:List Cl) (hl:m.length ≤ 1048576):PC Tryz.prog 161 [sl bO m] (fun r => r = bv (decide (OkM m))):=by
 refine aB Tryz.func161 Tryz.ntmps161 ?_
 repeat' (first|refine aE ?_|fail)
 refine aH (σ := Nat) [0] [] (fun i => [(3,iv (i : Int))]) (fun i => []) (fun i => i ≤ m.length ∧ i ≤ 201 ∧ (∀ k < i,OkC m[k]!)) (fun i => m.length - i) (0) ⟨Nat.zero_le _,by omega,fun k hk => absurd hk (by omega)⟩ ?_
 rintro i ⟨hi,hi2,hn⟩
 try dsimp only at hi hi2 hn
 repeat' (first|(apply aF;(apply aA (k := 184);rfl;exact Ie m[i]!;exact Pur.pf;rfl))|refine aE ?_|(refine aK ?_ ?_ <;> intro hc hq <;> try (exfalso;omega))|(refine bK ?_ ?_ <;> intro hg hq <;> try (exfalso;omega))|fail)
 ·refine aC rfl ⟨?_, rfl⟩
  simp only [aM]; rw [show decide (OkM m) = false from decide_eq_false (fun h => by
   have h1 := ((cQ m).1 h).2 i (by omega)
   have h2 : ¬ OkC m[i]! := by assumption
   exact h2 h1)]
 ·(refine bB (i + 1) (Le.renA []) ?_ ?_)
  ·refine ⟨by omega, by omega, fun k hk => ?_⟩
   rcases Nat.lt_or_ge k i with h|h
   ·exact hn k h
   ·rw [show k = i by omega]; assumption
  ·show m.length - (i + 1) < m.length - i;omega
 ·refine aC rfl ⟨?_, rfl⟩
  simp only [aM]
  rw [show decide ((m.length : Int) ≤ 200) = false from decide_eq_false (by omega),show decide (OkM m) = false from decide_eq_false (fun h => by have := h.l;omega)]
 ·refine aC rfl ⟨?_, rfl⟩
  simp only [aM]
  rw [show decide ((m.length : Int) ≤ 200) = decide (OkM m) from decide_eq_decide.2 ⟨fun h => (cQ m).2 ⟨by omega,fun k hk => hn k (by omega)⟩,fun h => by have := h.l;omega⟩]
theorem lK (k:Int):PC Tryz.prog 128 [iv k] (fun r => r = iv (if k = 1 then 3 else if k = 0 then 0 else 4)):=by
 refine aB Tryz.func128 Tryz.ntmps128 ?_
 repeat' (first|refine aE ?_|(refine aK ?_ ?_ <;> intro hc hq <;> try (exfalso;omega))|refine cV ?_|fail)
 all_goals (refine ⟨?_,rfl⟩; simp only [aM,AV.v.injEq,Value.bool.injEq,Value.int.injEq,true_and])
 all_goals grind
theorem tN (k:Int):PC Tryz.prog 118 [iv k] (fun r => r = iv (dZ k)):=by
 refine aB Tryz.func118 Tryz.ntmps118 ?_
 repeat' (first|refine aE ?_|(refine aK ?_ ?_ <;> intro hc hq <;> try (exfalso;omega))|refine cV ?_|fail)
 all_goals (refine ⟨?_,rfl⟩; simp only [aM,AV.v.injEq,Value.bool.injEq,Value.int.injEq,true_and])
 all_goals grind [dZ]
theorem tW {xs:List Tg}{m:Nat}{a:Int}{b:Bool}(hm:m = xs.length):((flat cD xs).drop 0).take (m * 2) ++ [iv a,bv b] = flat cD (xs ++ [⟨a,b⟩]) := fJ hm rfl
theorem I8 {xs:List Cl}{m:Nat}{a c:Int}{b:Bool}{s:List Tg}(hm:m = xs.length):((flat bO xs).drop 0).take (m * 4) ++ [iv a,bv b,iv c,sl cD s] = flat bO (xs ++ [⟨a,b,c,s⟩]) := fJ hm rfl
theorem kM {α:Type}[Inhabited α] (l:List α){k i:Nat}(h:k ≤ i) (hi:i < l.length):(l.drop k).take (i + 1 - k) = (l.drop k).take (i - k) ++ [l[i]!]:=by
 have hl : i - k < (l.drop k).length := by rw [List.length_drop]; omega
 have h1 := bG (l.drop k) (i - k) hl
 rw [show i + 1 - k = i - k + 1 by omega,h1]
 congr 2
 rw [aY (l.drop k) (i - k) hl,List.getElem_drop,aY l i hi]
 congr 1;omega
theorem rX {α}{p:α → Bool}{a:α}(h:p a = true):[a].filter p = [a] := by simp [h]
theorem oD {α}{p:α → Bool}{a:α}(h:p a = false):[a].filter p = [] := by simp [h]
theorem I9 (stk:List Tg) (k:Nat) (hk:k < stk.length) (hl:stk.length ≤ 1048576):PC Tryz.prog 166 [sl cD stk,iv (k:Int)] (fun r => r = sl cD (gV stk k false)):=by
 have e1 : List.take (((k : Int) + 1).toNat - 0) (List.drop 0 stk) = stk.take (k + 1) := by rw [List.drop_zero]; congr 1
 have e2 : (stk.take (k + 1)).length = k + 1 := by rw [List.length_take]; omega
 refine aB Tryz.func166 Tryz.ntmps166 ?_
 repeat' (first|(apply aF;(with_reducible apply aZ (d := 12)))|refine aE ?_|fail)
 refine bY ?_
 rw [e1]
 repeat' (first|refine aE ?_|fail)
 refine aH (σ := Nat × List Tg × Nat) [0] [] (fun s => [(6,iv (s.1 : Int)),(5,.own 1 0 s.2.2 2)]) (fun s => [(1,some (flat cD s.2.1))]) (fun s => k + 1 ≤ s.1 ∧ s.1 ≤ stk.length ∧ s.2.1 = stk.take (k + 1) ++ ((stk.drop (k + 1)).take (s.1 - (k + 1))).filter (fun t => !t.uq) ∧ s.2.2 = s.2.1.length ∧ s.2.2 ≤ s.1) (fun s => stk.length - s.1) (k + 1,stk.take (k + 1),0 + (stk.take (k + 1)).length) ⟨Nat.le_refl _,by dsimp only;omega,by simp,by dsimp only;omega,by dsimp only;omega⟩ ?_
 rintro ⟨i,xs,n⟩ ⟨hki,hi,hxs,hn,hni⟩
 dsimp only at hki hi hxs hn hni ⊢
 repeat' (first|(apply aF;first|(apply bZ;rfl;rfl;rfl;rfl;rfl;(rw [aI]; omega);(rfl);omega;omega;(exact tW (by (assumption)));rfl;rfl)|(apply aJ (t := _);rfl;rfl;rfl;(exact (rfl:_=some [_,_]));rfl;rfl))|refine aE ?_|(refine aK ?_ ?_ <;> intro hc hq <;> try (exfalso;omega))|fail)
 ·(refine bB (i + 1, _, _) (Le.renA [(1, 3)]) ?_ ?_)
  ·refine ⟨by dsimp only; omega, by dsimp only; omega, ?_, by dsimp only; rw [List.length_append, hn]; rfl, by dsimp only; omega⟩
   dsimp only
   rw [hxs,kM stk hki (by omega),List.filter_append,List.append_assoc]
   congr 2
   have hu : stk[i]!.uq = false := by assumption
   rw [rX (by rw [hu]; rfl)]
  ·dsimp only;omega
 ·(refine bB (i + 1, xs, n) (Le.renA [(1, 1)]) ?_ ?_)
  ·refine ⟨by dsimp only; omega, by dsimp only; omega, ?_, hn, by dsimp only; omega⟩
   dsimp only
   have hu : stk[i]!.uq = true := by assumption
   rw [hxs,kM stk hki (by omega),List.filter_append,oD (by rw [hu]; rfl),List.append_nil]
  ·dsimp only;omega
 ·(refine aO (Le.frzD (d := 4) (i := 1) rfl rfl) ?_; refine aC rfl ?_)
  refine ⟨?_,(by (exact bD _ _))⟩
  have hie : i = stk.length := by omega
  simp only [aM,sl]
  have hd : (stk.drop (k + 1)).take (stk.length - (k + 1)) = stk.drop (k + 1) := List.take_of_length_le (by rw [List.length_drop]; exact Nat.le_refl _)
  rw [hn,hxs,hie,hd]
  rfl
theorem H8 (m:List Cl) (hm:OkM m):PC Tryz.prog 162 [sl bO m] (fun r => r = sl bO m):=by
 have hml := hm.l
 refine aB Tryz.func162 Tryz.ntmps162 ?_
 repeat' (first|refine aE ?_|fail)
 refine aH (σ := Nat × List Cl) [0] [] (fun k => [(4,iv (k.1 : Int)),(3,.own 0 0 k.1 4)]) (fun k => [(0,some (flat bO k.2))]) (fun k => k.1 ≤ m.length ∧ k.2 = m.take k.1) (fun k => m.length - k.1) (0,[]) ⟨by omega,rfl⟩ ?_
 rintro ⟨i,xs⟩ ⟨hi,hxs⟩
 dsimp only at hi hxs ⊢
 have hln : xs.length = i := by rw [hxs,List.length_take]; exact Nat.min_eq_left hi
 have hst : i < m.length → m[i]!.stk.length ≤ 200 := fun h => (((cQ m).1 hm).2 i h).l.2
 repeat' (first|(apply aF;(with_reducible apply aZ (d := 21)))|refine aE ?_|(refine aK ?_ ?_ <;> intro hc hq <;> try (exfalso;omega))|fail)
 ·refine bY (cX ?_ (Le.frzD (d := 20) (i := 3) rfl rfl))
  rw [Nat.zero_add m[i]!.stk.length]
  repeat' (first|(apply aF;first|(apply bZ;rfl;rfl;rfl;rfl;rfl;(rw [aI]; omega);(rfl);omega;omega;(exact I8 (by (omega)));rfl;rfl)|(apply aJ (t := _);rfl;rfl;rfl;(exact (rfl:_=some [_,_,_,_]));rfl;rfl))|refine aE ?_|fail)
  (refine bB (i + 1,_) (Le.renA [(0,5)]) ?_ ?_)
  ·exact ⟨by dsimp only;omega,by dsimp only;rw [hxs,bG m i (by omega)]⟩
  ·dsimp only;omega
 ·(refine aO (Le.frzD (d := 2) (i := 0) rfl rfl) ?_; refine aC rfl ?_)
  refine ⟨?_,(by (exact bD _ _))⟩
  have hie : i = m.length := by omega
  simp only [aM,sl]
  rw [hxs,hie,List.take_length]
theorem Eu {m:List Cl}{x:Pt}{wr:Bool}(h:x.cell < 0 ∨ (m.length:Int) ≤ x.cell):a8 m x wr = 4:=by
 unfold a8;rw [if_pos (by omega)]
theorem Ko {m:List Cl}{x:Pt}{wr:Bool}(h:0 ≤ x.cell) (h2:x.cell < m.length) (h3:m[x.cell.toNat]!.alive = false):a8 m x wr = 1:=by
 unfold a8;rw [if_neg (by omega),if_pos h3]
theorem Lf {m:List Cl}{x:Pt}{wr:Bool}(h:0 ≤ x.cell) (h2:x.cell < m.length) (h3:m[x.cell.toNat]!.alive = true) (h4:cA m[x.cell.toNat]!.stk x.tag < 0):a8 m x wr = 2:=by
 unfold a8;rw [if_neg (by omega),if_neg (by rw [h3]; decide),if_pos h4]
theorem tA {m:List Cl}{x:Pt}(h:0 ≤ x.cell) (h2:x.cell < m.length) (h3:m[x.cell.toNat]!.alive = true) (h4:0 ≤ cA m[x.cell.toNat]!.stk x.tag):a8 m x false = 0:=by
 unfold a8;rw [if_neg (by omega),if_neg (by rw [h3]; decide),if_neg (by omega),if_neg (by intro q;exact absurd q.1 (by decide))]
theorem AI {m:List Cl}{x:Pt}:a8 m x true = if a8 m x false = 0 then (if m[x.cell.toNat]!.stk[(cA m[x.cell.toNat]!.stk x.tag).toNat]!.uq = false then 3 else 0) else a8 m x false:=by
 unfold a8
 split
 ·rw [if_neg (by decide)]
 ·split
  ·rw [if_neg (by decide)]
  ·split
   ·rw [if_neg (by decide)]
   ·rw [if_neg (c := false = true ∧ _) (by intro q; exact absurd q.1 (by decide)), if_pos rfl]
    simp only [true_and]
theorem dM {m:List Cl}{x:Pt}{wr:Bool}(h:a8 m x wr = 0):0 ≤ x.cell ∧ x.cell < m.length ∧ m[x.cell.toNat]!.alive = true ∧ 0 ≤ cA m[x.cell.toNat]!.stk x.tag ∧ (wr = true → m[x.cell.toNat]!.stk[(cA m[x.cell.toNat]!.stk x.tag).toNat]!.uq = true):=by
 unfold a8 at h
 split at h
 ·omega
 ·split at h
  ·omega
  ·split at h
   ·omega
   ·split at h
    ·omega
    ·rename_i a b c d
     refine ⟨by omega,by omega,by simpa using b,by omega,fun hw => ?_⟩
     by_cases q : m[x.cell.toNat]!.stk[(cA m[x.cell.toNat]!.stk x.tag).toNat]!.uq = false
     ·exact absurd ⟨hw,q⟩ d
     ·simpa using q
theorem fD {m:List Cl}{x0:Operand}(ha0:ev (lk tsl) x0 = some (sl bO m)) (hmc:MC Tryz.prog 162 [sl bO m] [] 0 (fun _:Unit => True) (fun _ => .own 0 0 m.length 4) (fun _ => [(0,some (flat bO m))])) (hM:Nat.ble (nidl + 1) a6 = true) (hN:Nat.blt d N = true){md':Md}[hmd:MdA md (fF [x0] ++ []) (List.map Sum.inr (List.map Prod.fst ([(nidl,some (flat bO m))]:List (Nat × Option (List AV)))) ++ [.inl d]) md'] (kk:RW Tryz.prog N all Q md' rest ⟨(d,.own nidl 0 m.length 4) :: tsl,gD hsl [(nidl,some (flat bO m))],nidl + 1,z0⟩):RW Tryz.prog N all Q md (⟨some d,.call ⟨.value (.func 162),#[x0],tys⟩,ty,pos,af,none⟩ :: rest) ⟨tsl,hsl,nidl,z0⟩:=by
 exact aX (l := [x0]) [] 1 [(nidl,some (flat bO m))] hmc (avs := [sl bO m]) (by simp only [evL,ha0]) rfl hM hN (md' := md') (hmd := hmd) kk
theorem fW (m:List Cl) (hm:OkM m):MC Tryz.prog 162 [sl bO m] [] 0 (fun _:Unit => True) (fun _ => .own 0 0 m.length 4) (fun _ => [(0,some (flat bO m))]):=by
 have hml := hm.l
 refine aU Tryz.func162 Tryz.ntmps162 ?_
 repeat' (first|refine aE ?_|fail)
 refine aH (σ := Nat × List Cl) [0] [] (fun k => [(4,iv (k.1 : Int)),(3,.own 0 0 k.1 4)]) (fun k => [(0,some (flat bO k.2))]) (fun k => k.1 ≤ m.length ∧ k.2 = m.take k.1) (fun k => m.length - k.1) (0,[]) ⟨by omega,rfl⟩ ?_
 rintro ⟨i,xs⟩ ⟨hi,hxs⟩
 dsimp only at hi hxs ⊢
 have hln : xs.length = i := by rw [hxs,List.length_take]; exact Nat.min_eq_left hi
 have hst : i < m.length → m[i]!.stk.length ≤ 200 := fun h => (((cQ m).1 hm).2 i h).l.2
 repeat' (first|(apply aF;(with_reducible apply aZ (d := 21)))|refine aE ?_|(refine aK ?_ ?_ <;> intro hc hq <;> try (exfalso;omega))|fail)
 ·refine bY (cX ?_ (Le.frzD (d := 20) (i := 3) rfl rfl))
  rw [Nat.zero_add m[i]!.stk.length]
  repeat' (first|(apply aF;first|(apply bZ;rfl;rfl;rfl;rfl;rfl;(rw [aI]; omega);(rfl);omega;omega;(exact I8 (by (omega)));rfl;rfl)|(apply aJ (t := _);rfl;rfl;rfl;(exact (rfl:_=some [_,_,_,_]));rfl;rfl))|refine aE ?_|fail)
  (refine bB (i + 1,_) (Le.renA [(0,5)]) ?_ ?_)
  ·exact ⟨by dsimp only;omega,by dsimp only;rw [hxs,bG m i (by omega)]⟩
  ·dsimp only;omega
 ·have hie : i = m.length := by omega
  (refine aC rfl ?_; refine aP () trivial ?_ ⟨sE ?_,trivial⟩)
  ·rw [hie]; rfl
  ·rw [hxs,hie,List.take_length]
theorem lA (m:List Cl) (hm:OkM m) (x:Pt):PC Tryz.prog 165 [sl bO m,nS x] (fun r => r = .tup [iv (if a8 m x false = 0 then cA m[x.cell.toNat]!.stk x.tag else 0),iv (a8 m x false)]):=by
 have hml := hm.l
 have hcv := oI m (by omega)
 rw [decide_eq_true hm] at hcv
 have hst : 0 ≤ x.cell → x.cell < m.length → m[x.cell.toNat]!.stk.length ≤ 1048576 := fun h1 h2 => Nat.le_trans (((cQ m).1 hm).2 x.cell.toNat (by omega)).l.2 (by decide)
 refine aB Tryz.func165 Tryz.ntmps165 ?_
 repeat' (first|(apply aF;first|(apply aA (k := 161);rfl;exact hcv;exact Pur.pf;rfl)|(apply aA (k := 186);rfl;exact E1 m[x.cell.toNat]!.stk x.tag (hst (by assumption) (by assumption));exact Pur.pf;rfl))|refine aE ?_|(refine aK ?_ ?_ <;> intro hc hq <;> try (exfalso;omega))|(refine bK ?_ ?_ <;> intro hg hq <;> try (exfalso;omega))|refine bH ?_|fail)
 all_goals (refine aC rfl ⟨?_,rfl⟩; simp only [aM])
 ·rw [Eu (by omega)]; rfl
 ·rw [Ko (by assumption) (by assumption) (by assumption)]; rfl
 ·rw [Lf (by assumption) (by assumption) (by assumption) (by assumption)]; rfl
 ·rw [tA (by assumption) (by assumption) (by assumption) (by assumption)]; rfl
 ·rw [Eu (by omega)]; rfl
theorem Dt {xs:List Cl}{k:Nat}{s:List Tg}(hk:k < xs.length):gW (flat bO xs) (0 + k * 4 + 3) [sl cD s] = flat bO (xs.set k { xs[k]! with stk := s }) := eI hk (by simp) rfl
theorem OG {xs:List Cl}{k:Nat}{v:Int}(hk:k < xs.length):gW (flat bO xs) (0 + k * 4 + 0) [iv v] = flat bO (xs.set k { xs[k]! with val := v }) := eI hk (by simp) rfl
theorem OP {xs:List Cl}{k:Nat}{b:Bool}(hk:k < xs.length):gW (flat bO xs) (0 + k * 4 + 1) [.v (.bool b)] = flat bO (xs.set k { xs[k]! with alive := b }) := eI hk (by simp) rfl
theorem eW {α:Type}{f:α → List AV}{xs:List α}{n:Nat}(h:n = xs.length):AV.imm n (flat f xs) = sl f xs := by subst h;rfl
theorem sJ (m:List Cl) (hm:OkM m) (x:Pt):PC Tryz.prog 134 [sl bO m,nS x] (fun r => r = .tup [sl bO (dQ m x false),iv (pC m x),iv (a8 m x false)]):=by
 have hml := hm.l
 have hst : 0 ≤ x.cell → x.cell < m.length → m[x.cell.toNat]!.stk.length ≤ 1048576 := fun h1 h2 => Nat.le_trans (((cQ m).1 hm).2 x.cell.toNat (by omega)).l.2 (by decide)
 by_cases hk : a8 m x false = 0
 ·have hpl := lA m hm x
  rw [if_pos hk,hk] at hpl
  obtain ⟨h1,h2,h3,h4,_⟩ := dM hk
  have hbd := eX m[x.cell.toNat]!.stk x.tag
  have hrd := I9 m[x.cell.toNat]!.stk (cA m[x.cell.toNat]!.stk x.tag).toNat (by omega) (hst h1 h2)
  rw [Int.toNat_of_nonneg h4] at hrd
  refine aB Tryz.func134 Tryz.ntmps134 ?_
  repeat' (first|(apply aF;first|(apply fD;rfl;exact fW m hm;rfl;rfl)|(apply aA (k := 165);rfl;exact hpl;exact Pur.pf;rfl)|(apply aA (k := 166);rfl;exact hrd;exact Pur.pf;rfl)|(apply bC;rfl;rfl;rfl;rfl;rfl;(rw [aI]; simp only [gB] <;> omega);(exact Dt (by (omega)))))|refine aE ?_|refine bH ?_|fail)
  (refine aO (Le.frzD (d := 4) (i := 1) rfl rfl) ?_; refine aC rfl ?_)
  refine ⟨?_,by exact Pur.pf⟩
  simp only [aM]
  rw [eW (by rw [List.length_set]),hk]
  unfold dQ pC;rw [if_pos hk,if_pos hk]; rfl
 ·have hpl := lA m hm x
  rw [if_neg hk] at hpl
  refine aB Tryz.func134 Tryz.ntmps134 ?_
  repeat' (first|(apply aF;first|(apply fD;rfl;exact fW m hm;rfl;rfl)|(apply aA (k := 165);rfl;exact hpl;exact Pur.pf;rfl))|refine aE ?_|(refine aK ?_ ?_ <;> intro hc hq <;> try (exfalso;omega))|fail)
  (refine aO (Le.frzD (d := 4) (i := 1) rfl rfl) ?_; refine aC rfl ?_)
  refine ⟨?_,by exact Pur.pf⟩
  simp only [aM]
  unfold dQ pC;rw [if_neg hk,if_neg hk]
end Go.Proofs.YteidfaaldcedpaaGreatDoor
