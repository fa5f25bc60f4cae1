/-
 A part of the proofs over this program: rules and contracts of its functions (the contracts).
-/
import Derived.Test.YtahdccneecdmmaaGreatQ6B03
set_option linter.unusedVariables false
set_option linter.unusedSimpArgs false
set_option maxHeartbeats 8000000
set_option maxRecDepth 4000
attribute [local irreducible] Go.AL.RW Go.AL.AW Go.AL.Stop
namespace Go.Proofs.YtahdccneecdmmaaGreat
open Go.AL Go.RowKit
variable {N : Nat} {Q : Exit → AS → Prop} {all : Array Oper} {rest : List Oper} {tsl : List (Nat × AV)} {hsl : List (Nat × Option (List AV))} {nidl : Nat} {z0 : Lo} {md : Md} {d : Nat} {ty : TypeId} {pos : String} {af : Array Edge} {tys : Array TypeId}
class NumS (cs : List AV) (xs : outParam (List ByteArray)) : Prop where h : cs = flat Er xs
instance NumS.nil : NumS [] []:=⟨rfl⟩
instance NumS.cons {n : ByteArray} {cs : List AV} {xs : List ByteArray} [h : NumS cs xs] : NumS (.v (.string n) :: cs) (n :: xs):=⟨by rw [h.h]; rfl⟩
theorem JG {cs:List AV}{xs:List ByteArray}{m:Nat}(h:NumS cs xs) (hm:m = xs.length) (hs:xs.all (fun s => decide (s.size ≤ 600)) = true):∃ ys:List ByteArray,AV.imm m cs = sl Er ys ∧ ys.length = m ∧ ∀ i:Nat,(ys[i]!).size ≤ 600:=by
 refine ⟨xs,by rw [h.h,hm],hm.symm,fun i => ?_⟩
 by_cases hi : i < xs.length
 ·rw [List.all_eq_true] at hs
  rw [aZ _ _ hi]
  simpa using hs _ (List.getElem_mem hi)
 ·rw [getElem!_neg xs i hi]; decide
theorem Hz:PC Tryz.prog 165 [] (fun r => ∃ ys:List ByteArray,r = sl Er ys ∧ ys.length = 25 ∧ ∀ i:Nat,(ys[i]!).size ≤ 600):=by
 refine aB Tryz.func165 Tryz.ntmps165 ?_
 repeat' (first|(apply aF;(apply aJ (t := _);rfl;rfl;rfl;exact (rfl:_=some [_,_,_,_,_,_,_,_,_,_,_,_,_,_,_,_,_,_,_,_,_,_,_,_,_]);rfl;rfl))|refine aE ?_|fail)
 refine uO (l := [.imm 25 [_,_,_,_,_,_,_,_,_,_,_,_,_,_,_,_,_,_,_,_,_,_,_,_,_]]) ?_ rfl ?_
 ·rintro _ ⟨ys,rfl,_⟩; exact bF _ _
 ·exact JG inferInstance rfl (by decide)
theorem vK {P:Program}{N:Nat}{Q:Exit → AS → Prop}{all:Array Oper}{rest:List Oper}{ts:List (Nat × AV)}{hs:List (Nat × Option (List AV))}{n:Nat}{z0:Lo}{ty:TypeId}{pos:String}{af:Array Edge}{d:Nat}{args:Array Operand}{tys:Array TypeId}
  {k : FuncId} {pv : List AV} {p0 : Prg × Nat → Prop} {i p : Nat} {bs : List UInt8} (h : MC P k (.optr 0 0 :: pv) [(0,some (eY bs p))] 1 p0 (fun x => bK x.1) (fun x => [(0,some (eY bs x.2))])) [hc : CaT P k] (ha : evL (lk ts) args.toList = some (.optr i 0 :: pv)) (hpv : bR pv = true)
  (hH : aV hs i = some (eY bs p)) (hM : Nat.ble (n + 0) a6 = true) (hN : Nat.blt d N = true) (kk : ∀ x,p0 x → RW P N all Q .txt rest ⟨(d,bK x.1) :: ts,(i,some (eY bs x.2)) :: hs,n + 0,z0⟩) :
  RW P N all Q .txt (⟨some d,.call ⟨.value (.func k),args,tys⟩,ty,pos,af,none⟩ :: rest) ⟨ts,hs,n,z0⟩ :=
 Kr (σ := Prg × Nat) [i] 1 (fun x : Prg × Nat => [(i, some (eY bs x.2))]) h ha rfl ⟨⟨_, _, rfl, hH, RnL.purI inferInstance⟩, trivial⟩ rfl (RnL.cons (RnV.optr rfl) (RnL.pur hpv)) (by simpa using hM)
  (fun x _ => RnV.purI inferInstance) (fun x _ => by simp [vA]) (fun x _ => ⟨⟨0,_,rfl,rfl,RnL.purI inferInstance⟩,trivial⟩) hN kk
theorem Px (bs:List UInt8) (p:Nat) (xs:List Int) (lo hi:Int) (h0:0 < xs.length) (h:xs.all (fun x => decide (lo ≤ x) && decide (x ≤ hi)) = true):lo ≤ jH bs p xs ∧ jH bs p xs ≤ hi:=by
 have h1 := dS bs p (xs.length : Int)
 rw [kL] at h
 have := h (bH bs p (xs.length : Int)).toNat (by omega)
 simp only [Bool.and_eq_true,decide_eq_true_eq] at this
 exact this
theorem Py (bs:List UInt8) (p:Nat) (hb:bs.length ≤ 2000) (hp:p ≤ 1000):MC Tryz.prog 94 [.optr 0 0] [(0,some (eY bs p))] 1 (fun x:Prg × Nat => aT x.1.body ≤ 620 ∧ x.1.types.length ≤ 620 ∧ x.2 ≤ 2000) (fun x => bK x.1) (fun x => [(0,some (eY bs x.2))]):=by
 have h0 := dS bs p 25
 have hn := Px bs (p + 1 + 1) [5,4,7,3,8] 0 8 (by decide) (by decide)
 refine aW Tryz.func94 Tryz.ntmps94 ?_
 repeat' (first|(apply aF;first|(apply jM (k := 165);rfl;exact Hz;(rfl);rfl;(rintro _ ⟨ys,rfl,hyl,hsz⟩ _);(have hpk := dS bs p (ys.length : Int)))|(apply jM (k := 166);rfl;exact vB _ (Nat.le_trans (hsz _) (by decide));(rfl);rfl;(rintro _ ⟨q,b,rfl,hqc,hqt⟩ _))|(apply yS (ts := [1,2,2,3,4,4]);rfl;rfl;rfl;rfl;rfl;(apply Ll <;> (first|assumption|omega));rfl;rfl)|(apply aJ (t := _);rfl;rfl;rfl;(exact (rfl:_=some [_,_,_,_,_,_]));rfl;rfl)|(first|(apply lW;rfl;rfl;(rfl);(apply oV <;> (first|assumption|omega));rfl;rfl)|(apply FO;rfl;rfl;rfl;rfl;infer_instance;rfl;(rfl);assumption;omega;(decide);(decide);rfl;rfl)))|refine aE ?_|(refine aK ?_ ?_ <;> intro hc hq <;> try (exfalso;omega))|(refine bQ ?_ ?_ <;> intro hg hq <;> try (exfalso;omega))|refine bS ?_|fail)
 ·have h9 := hsz (bH bs p (ys.length : Int)).toNat
  refine aC rfl ?_
  exact aS (q,p + 1 + 1) ⟨by dsimp only;omega,by dsimp only;omega,by dsimp only;omega⟩ rfl ⟨.inr rfl,trivial⟩
 ·have h9 := Of bs (d := 2) (by omega) (jH bs (p + 1 + 1) [5, 4, 7, 3, 8]) (p + 1 + 1 + 1)
  have h10 := Ak bs (d := 2) (by omega) (jH bs (p + 1 + 1) [5,4,7,3,8]) (p + 1 + 1 + 1)
  refine aC rfl ?_
  exact aS ((⟨[1,2,2,3,4,4],(dN bs 2 (jH bs (p + 1 + 1) [5,4,7,3,8]) (p + 1 + 1 + 1)).1⟩ : Prg),(dN bs 2 (jH bs (p + 1 + 1) [5,4,7,3,8]) (p + 1 + 1 + 1)).2) ⟨by dsimp only;omega,by show 6 ≤ 620;decide,by dsimp only;omega⟩ rfl ⟨.inr rfl,trivial⟩
 ·have h9 := hsz (bH bs p (ys.length : Int)).toNat
  refine aC rfl ?_
  exact aS (q,p + 1 + 1) ⟨by dsimp only;omega,by dsimp only;omega,by dsimp only;omega⟩ rfl ⟨.inr rfl,trivial⟩
theorem DI {bs:List UInt8}{x0:Operand}(ha0:ev (lk tsl) x0 = some (sl cU bs)) (hmc:MC Tryz.prog 51 [sl cU bs] [] 0 (fun _:Unit => True) (fun _ => .optr 0 0) (fun _ => [(0,some (eY (bs.take 2000) 0))])) (hM:Nat.ble (nidl + 1) a6 = true) (hN:Nat.blt d N = true){md':Md}[hmd:MdA md (fI [x0] ++ []) (List.map Sum.inr (List.map Prod.fst ([(nidl,some (eY (bs.take 2000) 0))]:List (Nat × Option (List AV)))) ++ [.inl d]) md'] (kk:RW Tryz.prog N all Q md' rest ⟨(d,.optr nidl 0) :: tsl,gE hsl [(nidl,some (eY (bs.take 2000) 0))],nidl + 1,z0⟩):RW Tryz.prog N all Q md (⟨some d,.call ⟨.value (.func 51),#[x0],tys⟩,ty,pos,af,none⟩ :: rest) ⟨tsl,hsl,nidl,z0⟩:=by
 exact aX (l := [x0]) [] 1 [(nidl,some (eY (bs.take 2000) 0))] hmc (avs := [sl cU bs]) (by simp only [evL,ha0]) rfl hM hN (md' := md') (hmd := hmd) kk
theorem HP (bs:List UInt8) (hb:bs.length ≤ 1048576):MC Tryz.prog 51 [sl cU bs] [] 0 (fun _:Unit => True) (fun _ => .optr 0 0) (fun _ => [(0,some (eY (bs.take 2000) 0))]) := PH bs hb
theorem yN (p:Prg) (hv:bB p = false) (hl:p.types.length ≤ 1000000) (hs:aT p.body ≤ 1000000):PC Tryz.prog 70 [bK p] (fun r => r = sl gB []):=by
 refine aB Tryz.func70 Tryz.ntmps70 ?_
 repeat' (first|(apply aF;(apply aA (k := 72);rfl;(exact (by have := dM p hl hs;rw [if_neg (by simp [hv])] at this;exact this));exact Pur.pf;rfl))|refine aE ?_|fail)
 (refine aR (Le.nilImm (d := 2) rfl) ?_; refine aC rfl ?_)
 exact ⟨rfl,rfl⟩
theorem yG (p:Prg) (hv:bB p = false) (hl:p.types.length ≤ 1000000) (hs:aT p.body ≤ 1000000):PC Tryz.prog 98 [bK p] (fun r => r = sl gB []):=by
 have hval := j6 p hl (by omega)
 rw [hv] at hval
 refine aB Tryz.func98 Tryz.ntmps98 ?_
 repeat' (first|(apply aF;first|(apply aA (k := 61);rfl;exact hval;exact Pur.pf;rfl)|(apply aJ (t := _);rfl;rfl;rfl;(rfl);rfl;rfl))|refine aE ?_|fail)
 exact aC rfl ⟨rfl,rfl⟩
theorem Dv (p:Prg) (hl:p.types.length ≤ 1000000) (hs:aT p.body ≤ 1000000):∃ L:List Iss,PC Tryz.prog 70 [bK p] (fun r => r = sl gB L) ∧ PC Tryz.prog 98 [bK p] (fun r => r = sl gB L) ∧ (bB p = false → L = []) ∧
  (∀ k,k < L.length → IsOk p.types.length (if bB p = true then aD p else []).length L[k]!) ∧ (∀ k,k + 1 < L.length → L[k]!.point ≤ L[k + 1]!.point) ∧ L.length ≤ 1000000 := by
 cases hv : bB p
 ·exact ⟨[],yN p hv hl hs,yG p hv hl hs,fun _ => rfl,fun k h => by simp at h,fun k h => by simp at h,by simp⟩
 ·have w := WG.of_valid hv
  obtain ⟨f⟩ := Flows.ex w
  obtain ⟨h1,h2⟩ := Iw w f
  have e : EC p f = f.iss := if_pos hv
  refine ⟨f.iss,?_,?_,fun h => Bool.noConfusion h,?_,h2,?_⟩
  ·rw [← e]; exact Bt p f hl hs
  ·rw [← e]; exact B7 p f hl hs
  ·exact h1
  ·exact Nat.le_trans (iX w f) (by decide)
theorem sW (p:Prg) (L:List Iss) (hl:p.types.length ≤ 1000000) (hs:aT p.body ≤ 1000000) (hC:PC Tryz.prog 70 [bK p] (fun r => r = sl gB L)):PC Tryz.prog 20 [bK p] (fun r => r = bv (bB p && L.isEmpty)):=by
 refine aB Tryz.func20 Tryz.ntmps20 ?_
 repeat' (first|(apply aF;first|(apply aA (k := 70);rfl;exact hC;exact Pur.pf;rfl)|(apply aA (k := 39);rfl;(apply CC <;> (first|assumption|omega));exact Pur.pf;rfl))|refine aE ?_|(refine bQ ?_ ?_ <;> intro hg hq <;> try (exfalso;omega))|fail)
 all_goals refine aC rfl ⟨?_,rfl⟩
 all_goals simp only [aO]
 ·rw [show bB p = true by assumption]
  cases L with
  | nil => rfl
  | cons a b => simp;omega
 ·rw [show bB p = false by assumption]; rfl
instance : Eq3 Tryz.prog 55 where
 g := Tryz.eqGuardType55
 e := fun a b c a' b' c' w => by
  have u3 := Tryz.underlying3
  have a3 := Tryz.isAgg3
  have z3 := Tryz.sizeOf3
  have hS : Tryz.prog.underlying 55 = some (.struct (Tryz.prog.fieldsOf 55)) := by kernel_rfl
  have hp : Tryz.prog.stoodInHeld 55 = false := by kernel_rfl
  rw [show (10000 : Nat) = 9999 + 1 from rfl,run_equalIn_agg w 9999 55 _ _ hS hp]
  simp only [Program.fieldsOf,Tryz.underlying55]
  go_simp
  by_cases h1 : a = a' <;> by_cases h2 : b = b' <;> by_cases h3 : c = c' <;> simp [h1,h2,h3]
theorem sQ (p:Prg) (hl:p.types.length ≤ 1000000) (hs:aT p.body ≤ 1000000):PC Tryz.prog 151 [bK p] (fun r => r = sl cE (if bB p = true then aD p else [])):=by
 have hval := j6 p hl (by omega)
 have h2 := dE p hs
 refine aB Tryz.func151 Tryz.ntmps151 ?_
 repeat' (first|(apply aF;first|(apply aA (k := 61);rfl;exact hval;exact Pur.pf;rfl)|(apply aA (k := 132);rfl;exact h2;exact Pur.pf;rfl)|(apply aJ (t := _);rfl;rfl;rfl;(rfl);rfl;rfl))|refine aE ?_|(refine aK ?_ ?_ <;> intro hc hq <;> try (exfalso;omega))|fail)
 ·refine aC rfl ⟨?_, (by (rfl))⟩
  rw [if_neg (by simp [hq])]; rfl
 ·refine aC rfl ⟨?_, (by (exact bF _ _))⟩
  rw [if_pos hq]; rfl
theorem PJ {xs:List Int}{m:Nat}{x0:Operand}{i0:Nat}(ha0:ev (lk tsl) x0 = some (.own i0 0 m 1)) (hH0:aV hsl i0 = some (flat cI xs)) (hmc:MC Tryz.prog 160 [.own 0 0 m 1] [(0,some (flat cI xs))] 1 (fun _:Unit => True) (fun _ => .tup []) (fun _ => [(0,some (flat cI xs.reverse))])) (hM:Nat.ble (nidl + 0) a6 = true) (hN:Nat.blt d N = true){md':Md}[hmd:MdA md (fI [x0] ++ [.inr i0]) (List.map Sum.inr (List.map Prod.fst ([(i0,some (flat cI xs.reverse))]:List (Nat × Option (List AV)))) ++ [.inl d]) md'] (kk:RW Tryz.prog N all Q md' rest ⟨(d,.tup []) :: tsl,gE hsl [(i0,some (flat cI xs.reverse))],nidl + 0,z0⟩):RW Tryz.prog N all Q md (⟨some d,.call ⟨.value (.func 160),#[x0],tys⟩,ty,pos,af,none⟩ :: rest) ⟨tsl,hsl,nidl,z0⟩:=by
 exact aX (l := [x0]) [i0] 1 [(i0,some (flat cI xs.reverse))] hmc (avs := [.own i0 0 m 1]) (by simp only [evL,ha0]) rfl hM hN (md' := md') (hmd := hmd) kk
theorem Rl (xs:List Int) (m:Nat) (hm:m = xs.length) (hl:xs.length ≤ 1000000):MC Tryz.prog 160 [.own 0 0 m 1] [(0,some (flat cI xs))] 1 (fun _:Unit => True) (fun _ => .tup []) (fun _ => [(0,some (flat cI xs.reverse))]):=by
 subst hm
 refine aW Tryz.func160 Tryz.ntmps160 ?_
 repeat' (first|refine aE ?_|fail)
 refine aH (σ := Nat × List Int × Int) [0] [] (fun k => [(2,iv (k.1 : Int)),(3,iv k.2.2)]) (fun k => [(0,some (flat cI k.2.1))]) (fun k => 2 * k.1 ≤ xs.length ∧ k.2.1.length = xs.length ∧ (∀ l,l < xs.length → k.2.1[l]! = if l < k.1 ∨ xs.length ≤ l + k.1 then xs[xs.length - 1 - l]! else xs[l]!) ∧ k.2.2 = (xs.length : Int) - 1 - (k.1 : Int)) (fun k => xs.length - k.1) (0,xs,(xs.length : Int) - 1) ⟨by omega,rfl,fun l hl => by rw [if_neg (by omega)],by simp⟩ ?_
 rintro ⟨k,u,z⟩ ⟨hk,hul,hu,hz⟩
 dsimp only at hk hul hu hz
 try dsimp only
 repeat' (first|refine aE ?_|(refine aK ?_ ?_ <;> intro hc hq <;> try (exfalso;omega))|refine bS ?_|fail)
 ·(refine bC (k + 1, _, _) (Le.renA []) ?_ ?_)
  ·dsimp only
   refine ⟨by omega,by rw [List.length_set,List.length_set]; exact hul,fun l hl => ?_,by omega⟩
   have h1 := hu l hl
   have h2 := hu k (by omega)
   have h3 := hu z.toNat (by omega)
   have e1 : xs.length - 1 - k = z.toNat := by omega
   have e2 : xs.length - 1 - z.toNat = k := by omega
   rw [if_neg (by omega)] at h2 h3
   rw [aP,aP,List.length_set]
   by_cases q1 : z.toNat = l
   ·rw [if_pos ⟨q1,by omega⟩,if_pos (by omega),h2,← q1,e2]
   ·rw [if_neg (by omega)]
    by_cases q2 : k = l
    ·rw [if_pos ⟨q2,by omega⟩,if_pos (by omega),h3,← q2,e1]
    ·rw [if_neg (by omega), h1]
     by_cases q3 : l < k ∨ xs.length ≤ l + k
     ·rw [if_pos q3,if_pos (by omega)]
     ·rw [if_neg q3,if_neg (by omega)]
  ·dsimp only;omega
 ·refine AE (l := []) rfl ?_
  refine aS () trivial rfl ⟨sE ?_,trivial⟩
  have e : u = xs.reverse := bU (by rw [List.length_reverse, hul]) fun l hl => by
   rw [hul] at hl
   rw [hu l hl,aZ xs.reverse l (by simpa using hl),List.getElem_reverse,← aZ]
   split
   ·rfl
   ·congr 1;omega
  rw [e]
theorem Oj {m:Nat}{x0 x1:Operand}(ha0:ev (lk tsl) x0 = some (.v (.slice none 0 0))) (ha1:ev (lk tsl) x1 = some (iv (m:Int))) (hmc:MC Tryz.prog 161 [.v (.slice none 0 0),iv (m:Int)] [] 0 (fun _:Unit => True) (fun _ => .own 0 0 0 1) (fun _ => [(0,some (flat cI ([]:List Int)))])) (hM:Nat.ble (nidl + 1) a6 = true) (hN:Nat.blt d N = true){md':Md}[hmd:MdA md (fI [x0,x1] ++ []) (List.map Sum.inr (List.map Prod.fst ([(nidl,some (flat cI ([]:List Int)))]:List (Nat × Option (List AV)))) ++ [.inl d]) md'] (kk:RW Tryz.prog N all Q md' rest ⟨(d,.own nidl 0 0 1) :: tsl,gE hsl [(nidl,some (flat cI ([]:List Int)))],nidl + 1,z0⟩):RW Tryz.prog N all Q md (⟨some d,.call ⟨.value (.func 161),#[x0,x1],tys⟩,ty,pos,af,none⟩ :: rest) ⟨tsl,hsl,nidl,z0⟩:=by
 exact aX (l := [x0,x1]) [] 1 [(nidl,some (flat cI ([] : List Int)))] hmc (avs := [.v (.slice none 0 0),iv (m : Int)]) (by simp only [evL,ha0,ha1]) rfl hM hN (md' := md') (hmd := hmd) kk
theorem Ps (m:Nat) (hm:m ≤ 1000000):MC Tryz.prog 161 [.v (.slice none 0 0),iv (m:Int)] [] 0 (fun _:Unit => True) (fun _ => .own 0 0 0 1) (fun _ => [(0,some (flat cI ([]:List Int)))]):=by
 refine aW Tryz.func161 Tryz.ntmps161 ?_
 repeat' (first|(apply aF;first|(apply GX;rfl;rfl)|(apply I6 (m := m) (k' := .i64);kernel_rfl;rfl;rfl;omega;rfl;rfl;omega;omega;omega;rfl;rfl)|(apply wA (h := 0);rfl;rfl;(rfl);omega;rfl)|(apply Bz;rfl;rfl;rfl))|refine aE ?_|(refine aK ?_ ?_ <;> intro hc hq <;> try (exfalso;omega))|fail)
 ·
  refine aR (Le.cut (i := 0) 0 rfl) ?_
  refine aC rfl ?_
  refine aS () trivial ?_ ⟨sE ?_,trivial⟩
  all_goals first|rfl|exact congrArg some (List.take_zero)
 ·refine aR (Le.nilOwn (d := 4) 1 ?_ ?_) ?_
  ·rfl
  ·decide
  refine aC rfl ?_
  refine aS () trivial ?_ ⟨sE ?_,trivial⟩
  all_goals rfl
theorem Ik (Ls:List (List Int)) (hn:Ls.length ≤ 1000) (hl:Ls.flatten.length ≤ 1000000):PC Tryz.prog 90 [sl Sq Ls] (fun r => r = sl cI Ls.flatten):=by
 have hpre : ∀ k, (Ls.take k).flatten.length ≤ 1000000 := fun k => by
  have : Ls.flatten = (Ls.take k).flatten ++ (Ls.drop k).flatten := by rw [← List.flatten_append,List.take_append_drop]
  rw [this,List.length_append] at hl;omega
 have hst : ∀ k,k < Ls.length → (Ls.take (k + 1)).flatten = (Ls.take k).flatten ++ Ls[k]! := fun k hk => by rw [bE _ _ hk]; simp
 refine aB Tryz.func90 Tryz.ntmps90 ?_
 repeat' (first|refine aE ?_|fail)
 refine aH (σ := Nat × Int) [0,9,10] [] (fun k => [(11,iv (k.1 : Int)),(3,iv k.2)]) (fun k => []) (fun k => k.1 ≤ Ls.length ∧ k.2 = ((Ls.take k.1).flatten.length : Int)) (fun k => Ls.length - k.1) (0,0) ⟨by omega,rfl⟩ ?_
 rintro ⟨k,z⟩ ⟨hk,hz⟩
 dsimp only at hk hz
 try dsimp only
 have hz2 := hpre k
 by_cases hkn : k < Ls.length
 ·have h1 := hst k hkn
  have h2 := hpre (k + 1)
  rw [h1,List.length_append] at h2
  repeat' (first|refine aE ?_|(refine aK ?_ ?_ <;> intro hc hq <;> try (exfalso;omega))|fail)
  (refine bC (k + 1,_) (Le.renA []) ?_ ?_)
  ·exact ⟨by dsimp only;omega,by dsimp only;rw [h1,List.length_append]; omega⟩
  ·dsimp only;omega
 ·obtain ⟨z', rfl⟩ : ∃ z' : Nat, z = (z' : Int) := ⟨_, hz⟩
  repeat' (first|(apply aF;(apply Oj;rfl;rfl;(apply Ps <;> (omega));rfl;rfl))|refine aE ?_|(refine aK ?_ ?_ <;> intro hc hq <;> try (exfalso;omega))|fail)
  refine aH (σ := Nat × List Int × Nat) [25,26] [] (fun k => [(27,iv (k.1 : Int)),(6,.own 0 0 k.2.2 1)]) (fun k => [(0,some (flat cI k.2.1))]) (fun k => k.1 ≤ Ls.length ∧ k.2.1 = (Ls.take k.1).flatten ∧ k.2.2 = k.2.1.length) (fun k => Ls.length - k.1) (0,[],0) ⟨by omega,rfl,rfl⟩ ?_
  rintro ⟨k,u,m⟩ ⟨hk,hu,hm⟩
  dsimp only at hk hu hm
  try dsimp only
  have hu2 := hpre k
  rw [← hu] at hu2
  by_cases hkn : k < Ls.length
  ·have h1 := hst k hkn
   have h2 := hpre (k + 1)
   rw [h1,List.length_append,← hu] at h2
   repeat' (first|(apply aF;(apply bZ;rfl;rfl;rfl;rfl;rfl;(rw [aI]; omega);(exact uU (by (rfl)));omega;omega;(exact pX (by (assumption)));rfl;rfl))|refine aE ?_|(refine aK ?_ ?_ <;> intro hc hq <;> try (exfalso;omega))|fail)
   (refine bC (k + 1,_,_) (Le.renA [(0,1)]) ?_ ?_)
   ·exact ⟨by dsimp only;omega,by dsimp only;rw [h1,hu],by dsimp only;rw [List.length_append]; omega⟩
   ·dsimp only;omega
  ·repeat' (first | refine aE ?_ | (refine aK ?_ ?_ <;> intro hc hq <;> try (exfalso; omega))|fail)
   refine aR (Le.frzD (d := 2) (i := 0) rfl rfl) ?_
   refine aC rfl ⟨?_,(by (exact bF _ _))⟩
   have e : u = Ls.flatten := by rw [hu,show k = Ls.length by omega,List.take_length]
   rw [← e]
   simp only [aO,sl,hm]
theorem NJ (A l:Nat):decide (((A >>> l &&& 1:Nat):Int) = 1) = A.testBit l:=by
 rw [Nat.testBit,Nat.and_comm]
 by_cases h : 1 &&& A >>> l = 1
 ·rw [h]; rfl
 ·have := Nat.and_le_left (n := 1) (m := A >>> l)
  have h0 : 1 &&& A >>> l = 0 := by omega
  rw [h0]; rfl
theorem QT {Af:List Nat}{n i v:Nat}(hA:Af.length = n * 6) (hi:i < n) (hv:v < 6):(List.drop (v * 1) (flat cW (Af.drop (i * 6))))[0]? = some (.v (.int .u64 ((dA Af i)[v]!:Nat))):=by
 rw [fH hA hi hv,Nat.mul_one]
 have e : flat cW (Af.drop (i * 6)) = (Af.drop (i * 6)).map (fun (x : Nat) => AV.v (.int .u64 (x : Int))) := by
  generalize Af.drop (i * 6) = l
  induction l with
  | nil => rfl
  | cons a l ih => rw [List.map_cons,← ih]; rfl
 rw [e,List.getElem?_drop,List.getElem?_map,List.getElem?_drop,Nat.add_zero,List.getElem?_eq_getElem (by omega),aZ Af _ (by omega)]; rfl
theorem Da (v:Int) (n:Nat) (Af:List Nat) (i loan:Int) (hA:Af.length = n * 6) (hv:0 ≤ v ∧ v < 6) (hi:0 ≤ i ∧ i < n) (hl:0 ≤ loan ∧ loan < 62) (hs:∀ z:Nat,Sm (dA Af i.toNat)[z]!) :
  PC Tryz.prog 159 [iv v,.iptr [.imm n (flat cW Af)],.iptr [iv i],.iptr [iv loan]] (fun r => r = bv ((dA Af i.toNat)[v.toNat]!.testBit loan.toNat)) := by
 have hsv := hs v.toNat
 refine aB Tryz.func159 Tryz.ntmps159 ?_
 repeat' (first|(apply aF;(apply CF;rfl;rfl;exact QT hA (by omega) (by omega);rfl))|refine aE ?_|refine bS ?_|fail)
 refine aC rfl ⟨?_,rfl⟩
 exact congrArg bv (NJ _ _)
def Rm (U : Int → Bool) (xs : List Int) : Int := match xs.findIdx? U with | some i => i | none => -1
def u1 (Af : List Nat) (i loan : Int) (v : Int) : Bool := (dA Af i.toNat)[v.toNat]!.testBit loan.toNat
theorem Qz (xs:List Int) (n:Nat) (Af:List Nat) (i loan:Int) (hxl:xs.length ≤ 1000) (hx:∀ v ∈ xs,0 ≤ v ∧ v < 6) (hA:Af.length = n * 6) (hi:0 ≤ i ∧ i < n) (hl:0 ≤ loan ∧ loan < 62) (hs:∀ z:Nat,Sm (dA Af i.toNat)[z]!) :
  PC Tryz.prog 216 [sl cI xs,.clos (.func 159) [] [.iptr [.imm n (flat cW Af)],.iptr [iv i],.iptr [iv loan]]] (fun r => r = iv (Rm (u1 Af i loan) xs)) := by
 refine aB Tryz.func216 Tryz.ntmps216 ?_
 repeat' (first|refine aE ?_|fail)
 refine aH (σ := Nat) [0,1,7] [] (fun k => [(8,iv (k : Int))]) (fun k => []) (fun k => k ≤ xs.length ∧ ∀ j,j < k → u1 Af i loan xs[j]! = false) (fun k => xs.length - k) (0) ⟨by omega,by omega⟩ ?_
 intro k ⟨hk,hall⟩
 by_cases hkn : k < xs.length
 ·have hv := hx _ (aU xs k hkn)
  have hcl := Da xs[k]! n Af i loan hA hv hi hl hs
  have hu : (dA Af i.toNat)[(xs[k]!).toNat]!.testBit loan.toNat = u1 Af i loan xs[k]! := rfl
  rw [hu] at hcl
  cases hb : u1 Af i loan xs[k]!
  ·rw [hb] at hcl
   repeat' (first|(apply aF;(apply gG;rfl;rfl;infer_instance;rfl;(apply hcl);exact Pur.pf;rfl))|refine aE ?_|(refine aK ?_ ?_ <;> intro hc hq <;> try (exfalso;omega))|fail)
   (refine bC (k + 1) (Le.renA []) ?_ ?_)
   ·refine ⟨by omega, fun j hj => ?_⟩
    by_cases e : j = k
    ·subst e;exact hb
    ·exact hall j (by omega)
   ·omega
  ·rw [hb] at hcl
   repeat' (first|(apply aF;(apply gG;rfl;rfl;infer_instance;rfl;(apply hcl);exact Pur.pf;rfl))|refine aE ?_|(refine aK ?_ ?_ <;> intro hc hq <;> try (exfalso;omega))|fail)
   refine aC rfl ⟨?_,rfl⟩
   have : xs.findIdx? (u1 Af i loan) = some k := by
    rw [List.findIdx?_eq_some_iff_getElem]
    refine ⟨hkn,by rw [← aZ xs k hkn]; exact hb,fun j hj => ?_⟩
    have := hall j hj;rw [aZ xs j (by omega)] at this;rw [this]; decide
   simp only [Rm,this]; rfl
 ·repeat' (first | refine aE ?_ | (refine aK ?_ ?_ <;> intro hc hq <;> try (exfalso; omega))|fail)
  refine aC rfl ⟨?_,rfl⟩
  have : xs.findIdx? (u1 Af i loan) = none := by
   rw [List.findIdx?_eq_none_iff]
   intro x hx
   obtain ⟨j,hj,rfl⟩ := List.getElem_of_mem hx
   have := hall j (by omega);rw [aZ xs j hj] at this;exact this
  simp only [Rm,this]; rfl
theorem Qw (U:Int → Bool) (xs:List Int):decide (0 ≤ Rm U xs) = xs.any U:=by
 unfold Rm
 split
 ·rename_i i h
  obtain ⟨h1,h2,_⟩ := List.findIdx?_eq_some_iff_getElem.1 h
  rw [List.any_eq_true.2 ⟨xs[i],List.getElem_mem h1,h2⟩]; simp
 ·rename_i h
  rw [List.findIdx?_eq_none_iff] at h
  have : xs.any U = false := by rw [List.any_eq_false]; intro x hx;rw [h x hx]; decide
  rw [this]; rfl
theorem MP (xs:List Int) (n:Nat) (Af:List Nat) (i loan:Int) (hxl:xs.length ≤ 1000) (hx:∀ v ∈ xs,0 ≤ v ∧ v < 6) (hA:Af.length = n * 6) (hi:0 ≤ i ∧ i < n) (hl:0 ≤ loan ∧ loan < 62) (hs:∀ z:Nat,Sm (dA Af i.toNat)[z]!) :
  PC Tryz.prog 157 [sl cI xs,.clos (.func 159) [] [.iptr [.imm n (flat cW Af)],.iptr [iv i],.iptr [iv loan]]] (fun r => r = bv (xs.any (u1 Af i loan))) := by
 have hix := Qz xs n Af i loan hxl hx hA hi hl hs
 refine aB Tryz.func157 Tryz.ntmps157 ?_
 repeat' (first|(apply aF;(apply aA (k := 216);rfl;exact hix;exact Pur.pf;rfl))|refine aE ?_|fail)
 refine aC rfl ⟨?_,rfl⟩
 exact congrArg bv (Qw _ _)
theorem Oo (n:Nat):flat cN (List.replicate n 0) = flat cI (List.replicate n (0:Int)):=by
 induction n with
 | zero => rfl
 | succ n ih => rw [List.replicate_succ,List.replicate_succ]; show cN 0 ++ flat cN _ = cI 0 ++ flat cI _; rw [ih]; rfl
theorem iA (ts:List Int) (bd:List AL.Stmt) (pts:List Pnt) (f t:Nat) (w:WG ts pts) (hf:f < pts.length) (ht:t < pts.length) :
  PC Tryz.prog 89 [aG ts bd pts,iv (f : Int),iv (t : Int)] (fun r => r = .tup [sl cI (eV (eJ pts f t)),bv (decide (0 ≤ iP (nN pts f) t))]) := by
 have hpl := w.pl
 have hbe : ∀ h,BI pts f (kE pts f h) := oL w.nx hf
 refine aB Tryz.func89 Tryz.ntmps89 ?_
 repeat' (first|refine aE ?_|fail)
 rw [Oo]
 refine aH (σ := Nat × List Int) [0,1,2,8,23] [] (fun k => [(24,iv (k.1 : Int))]) (fun k => [(0,some (flat cI k.2))]) (fun k => k.1 ≤ pts.length ∧ k.2.length = pts.length ∧ (∀ l,l < k.1 → k.2[l]! = -1)) (fun k => pts.length - k.1) (0,List.replicate pts.length 0) ⟨by omega,by simp,by omega⟩ ?_
 rintro ⟨k,u⟩ ⟨hk,hul,hu⟩
 dsimp only at hk hul hu
 try dsimp only
 by_cases hkn : k < pts.length
 ·repeat' (first | refine aE ?_ | (refine aK ?_ ?_ <;> intro hc hq <;> try (exfalso; omega))|fail)
  (refine bC (k + 1,_) (Le.renA [(0,0)]) ?_ ?_)
  ·refine ⟨by omega, by dsimp only; rw [List.length_set]; exact hul, fun l hl => ?_⟩
   dsimp only at hl ⊢
   rw [aP]
   by_cases e : k = l
   ·rw [if_pos ⟨e,by omega⟩]
   ·rw [if_neg (by omega)]; exact hu l (by omega)
  ·dsimp only;omega
 ·repeat' (first | refine aE ?_ | (refine aK ?_ ?_ <;> intro hc hq <;> try (exfalso; omega))|fail)
  have hbk0 : u = xB pts.length [] := bU (by rw [gP,hul]) fun l hl => by rw [hu l (by omega),iH (by omega)]; rfl
  subst hbk0
  refine aH (σ := Nat × List (Nat × Nat) × List Int × Nat) [0,1,2,8] [] (fun s => [(10,.own 1 0 s.2.2.2 1)]) (fun s => [(0,some (flat cI (xB pts.length s.2.1))),(1,some (flat cI s.2.2.1))]) (fun s => s.2.1 = kE pts f s.1 ∧ s.2.2.1 = fV f s.2.1 s.1 ∧ s.2.2.2 = s.2.2.1.length ∧ s.1 ≤ s.2.1.length + 1 ∧ (0 ≤ iP s.2.1 t → 0 < s.2.2.2)) (fun s => pts.length + 1 - s.1) (0,[],[(f : Int)],1) ⟨rfl,rfl,rfl,by dsimp only;omega,fun h => by dsimp only;omega⟩ ?_
  rintro ⟨h,E,T,m⟩ ⟨hE,hT,hm,hh,hmt⟩
  dsimp only at hE hT hm hh hmt
  try dsimp only
  have I := hbe h
  rw [← hE] at I
  have hle := I.le w.nx
  have hbt : (xB pts.length E)[t]! = iP E t := iH ht
  have hbl := gP pts.length E
  by_cases hlk : iP E t < 0
  by_cases hgo : 0 < T.length
  ·have hlt : h < (lE f E).length := by
    have := oF f E h;rw [gO]; rw [← hT] at this;omega
   have hcons := wQ hlt
   have hqo := Ek hlt
   obtain ⟨a,ha⟩ : ∃ a,a = (lE f E)[h]! := ⟨_,rfl⟩
   rw [← ha] at hcons hqo
   have hal : a < pts.length := by
    rcases hqo with e|e
    ·rw [e]; exact hf
    ·obtain ⟨x,hx,e⟩ := List.mem_map.1 e;rw [← e]; exact (hle.2 x hx).1
   rw [hcons] at hT
   subst hT
   simp only [List.length_cons] at hm
   repeat' (first|(apply aF;first|(with_reducible apply aY (d := 10))|(apply l6;rfl;rfl;omega;rfl))|refine aE ?_|(refine aK ?_ ?_ <;> intro hc hq <;> try (exfalso;omega))|(refine bQ ?_ ?_ <;> intro hg hq <;> try (exfalso;omega))|fail)
   refine bY (c5 ?_ (Le.mvO (d := 47) (i := 1) rfl rfl (by simp [aI]) (by decide)))
   have hnl := w.nl a hal
   have hpop : fV f E (h + 1) = fV f (jZ E a (pts[a]!.next.take 0)) (h + 1) := rfl
   have hnk := w.nx a hal
   have hek : ∀ k,BI pts f (jZ E a (pts[a]!.next.take k)) := fun k => AX _ _ I hqo (fun z hz => ⟨hal,by have := hnk z (List.mem_of_mem_take hz);rw [Int.toNat_of_nonneg this.1]; exact List.mem_of_mem_take hz⟩)
   repeat' (first|refine aE ?_|fail)
   refine aH (σ := Nat × List (Nat × Nat) × List Int × Nat) [0,1,2,8,55,56] [] (fun s => [(57,iv (s.1 : Int)),(11,iv (a : Int)),(10,.own 2 0 s.2.2.2 1)]) (fun s => [(0,some (flat cI (xB pts.length s.2.1))),(2,some (flat cI s.2.2.1))]) (fun s => s.1 ≤ pts[a]!.next.length ∧ s.2.1 = jZ E a (pts[a]!.next.take s.1) ∧ s.2.2.1 = fV f s.2.1 (h + 1) ∧ s.2.2.2 = s.2.2.1.length) (fun s => pts[a]!.next.length - s.1) (0,E,fV f E (h + 1),m - 1) ⟨by omega,rfl,hpop,by dsimp only;omega⟩ ?_
   rintro ⟨k,E2,T2,m2⟩ ⟨hk,hE2,hT2,hm2⟩
   dsimp only at hk hE2 hT2 hm2
   try dsimp only
   have I2 := hek k
   rw [← hE2] at I2
   have hle2 := I2.le w.nx
   have hbl2 := gP pts.length E2
   have htl2 := oF f E2 (h + 1)
   rw [← hT2] at htl2
   by_cases hkn : k < pts[a]!.next.length
   ·have hz := hnk _ (aU _ _ hkn)
    have hbz : (xB pts.length E2)[(pts[a]!.next[k]!).toNat]! = iP E2 (pts[a]!.next[k]!).toNat := iH (by omega)
    have hsu := xV E a pts[a]!.next k hkn
    rw [← hE2] at hsu
    have hql : h + 1 ≤ (lE f E2).length := by
     have h1 := iO a (pts[a]!.next.take k) E
     rw [← hE2] at h1
     have := h1.length_le
     rw [gO] at hlt ⊢; omega
    by_cases hlz : iP E2 (pts[a]!.next[k]!).toNat < 0
    ·repeat' (first | (apply aF; (apply aJ (t := _);rfl;rfl;rfl;exact (rfl:_=some [_]);rfl;rfl)) | refine aE ?_ | (refine aK ?_ ?_ <;> intro hc hq <;> try (exfalso; omega))|fail)
     rw [AB hlz (by omega)]
     (refine bC (k + 1,_,_,_) (Le.renA [(0,0),(2,4)]) ?_ ?_)
     ·refine ⟨by dsimp only;omega,by dsimp only;rw [hsu,zW hlz],by dsimp only;rw [yK hql,hT2,Int.toNat_of_nonneg hz.1],by dsimp only;rw [List.length_append]; simp;omega⟩
     ·dsimp only;omega
    ·repeat' (first | refine aE ?_ | (refine aK ?_ ?_ <;> intro hc hq <;> try (exfalso; omega))|fail)
     (refine bC (k + 1,E2,T2,m2) (Le.renA [(0,0),(2,2)]) ?_ ?_)
     ·refine ⟨by dsimp only;omega,by dsimp only;rw [hsu,EV (by omega)],hT2,hm2⟩
     ·dsimp only;omega
   ·repeat' (first | refine aE ?_ | (refine aK ?_ ?_ <;> intro hc hq <;> try (exfalso; omega))|fail)
    have hkl : k = pts[a]!.next.length := by omega
    rw [hkl,List.take_length] at hE2
    have hpre : E <+: E2 := by rw [hE2]; exact iO _ _ _
    have hple := hpre.length_le
    rw [gO] at hlt
    (refine bC (h + 1,E2,T2,m2) (Le.renA [(0,0),(1,2)]) ?_ ?_)
    ·refine ⟨?_, hT2, hm2, by dsimp only; omega, fun hl => ?_⟩
     ·dsimp only;rw [hE2,kE,← hE,if_pos (by rw [gO]; exact hlt),← ha]
     ·dsimp only at hl ⊢
      have : E.length ≠ E2.length := fun e => by
       have := hpre.eq_of_length e
       rw [this] at hlk;omega
      omega
    ·dsimp only;omega
  ·have hT0 : T = [] := List.eq_nil_of_length_eq_zero (by omega)
   have hee : E = nN pts f := by
    rw [hE]; exact Ft w.nx hf (by rw [← hE]; rw [hT] at hT0;exact x5.1 hT0)
   have hm0 : m = 0 := by omega
   repeat' (first|refine aE ?_|(refine aK ?_ ?_ <;> intro hc hq <;> try (exfalso;omega))|(refine bQ ?_ ?_ <;> intro hg hq <;> try (exfalso;omega))|fail)
   (refine aR (Le.nilImm (d := 6) rfl) ?_; refine aC rfl ?_)
   refine ⟨?_,(by (rfl))⟩
   have e1 : eJ pts f t = [] := by unfold eJ;rw [← hee,if_neg (by omega)]
   rw [e1,← hee,decide_eq_false (by omega)]
   rfl
  ·have hm1 := hmt (by omega)
   repeat' (first|refine aE ?_|(refine aK ?_ ?_ <;> intro hc hq <;> try (exfalso;omega))|(refine bQ ?_ ?_ <;> intro hg hq <;> try (exfalso;omega))|fail)
   have hwt : pts.length ≤ 61 := hpl
   have hlk0 : 0 ≤ iP E t := by omega
   have hpre : E <+: nN pts f := by rw [hE]; exact EL (h := h) (by omega)
   obtain ⟨_,a0,R0,hx0,hcs0⟩ := CS.start w.nx hf hpre hlk0
   have hen : iP (nN pts f) t = iP E t := (Bd (f := f) hpre (hbe _).nd (fE.1 hlk0)).2
   have hbt0 : (xB pts.length E)[t]! = (a0 : Int) := by rw [hbt,hx0]
   rw [hbt0]
   refine aH (σ := Nat × List (Nat × Nat) × List Int × Nat) [1,8] [0] (fun s => [(15,iv (s.1 : Int)),(14,.own 2 0 s.2.2.2 1)]) (fun s => [(2,some (flat cI s.2.2.1))]) (fun s => CS pts f t E s.1 s.2.1 s.2.2.1.reverse ∧ s.2.2.2 = s.2.2.1.length) (fun s => s.2.1.length) (a0,R0,[(t : Int)],1) ⟨hcs0,rfl⟩ ?_
   rintro ⟨x,R,u,m3⟩ ⟨hcs,hm3⟩
   dsimp only at hcs hm3
   try dsimp only
   have hcl := hcs.len
   rw [List.length_reverse] at hcl
   have hxl := hcs.xl
   have hbx : (xB pts.length E)[x]! = iP E x := iH hxl
   by_cases hxf : x = f
   ·have hcs2 := hcs
    rw [hxf] at hcs2
    have hfin := hcs2.fin
    repeat' (first|(apply aF;first|(apply aJ (t := _);rfl;rfl;rfl;exact (rfl:_=some [_]);rfl;rfl)|(apply PJ;rfl;(rfl);(apply Rl <;> (simp only [gA] <;> omega));rfl;rfl))|refine aE ?_|(refine aK ?_ ?_ <;> intro hc hq <;> try (exfalso;omega))|fail)
    refine aR (Le.frzD (d := 6) (i := 4) rfl rfl) ?_
    refine aC rfl ⟨?_,(by exact Pur.pf)⟩
    rw [hfin,hen,decide_eq_true hlk0,List.reverse_append,hxf,hm3]
    simp [aO,sl]
   ·obtain ⟨a, R', h1, h2, h3⟩ := hcs.step w.nx hf I hxf
    rw [h1] at hbx
    repeat' (first|(apply aF;(apply aJ (t := _);rfl;rfl;rfl;exact (rfl:_=some [_]);rfl;rfl))|refine aE ?_|(refine aK ?_ ?_ <;> intro hc hq <;> try (exfalso;omega))|fail)
    rw [hbx]
    (refine bC (a,R',_,_) (Le.renA [(0,0),(2,4)]) ?_ ?_)
    ·exact ⟨by dsimp only;rw [List.reverse_append]; exact h2,by dsimp only;rw [List.length_append,hm3]; rfl⟩
    ·dsimp only;omega
theorem pA (ts:List Int) (bd:List AL.Stmt) (pts:List Pnt) (f:Flows ts pts) (w:WG ts pts) (a l:Nat) (ha:a < pts.length) (hl:l < pts.length) :
  PC Tryz.prog 88 [aG ts bd pts,iv (a : Int),iv (l : Int)] (fun r => r = .tup [iv (kW (eJ pts a) (eT ts pts f.Af l) pts.length).1,bv (decide (0 ≤ (kW (eJ pts a) (eT ts pts f.Af l) pts.length).1))]) := by
 have hpl := w.pl
 have htl := w.tl
 have b := f.bnd w
 have hli := yL ts bd pts f.Af w f.gf
 refine aB Tryz.func88 Tryz.ntmps88 ?_
 repeat' (first|(apply aF;(apply aA (k := 104);rfl;exact hli;exact Pur.pf;rfl))|refine aE ?_|fail)
 refine AW.le ?_ (Le.frzP (d := 5) (i := 0) rfl rfl)
 refine AW.le ?_ (Le.frzP (d := 8) (i := 1) rfl rfl)
 refine aH (σ := Nat × Int × Nat) [0,1,5,8,21,22] [] (fun s => [(23,iv (s.1 : Int)),(9,iv s.2.1),(10,iv (s.2.2 : Int))]) (fun s => []) (fun s => s.1 ≤ pts.length ∧ s.2.1 = (kW (eJ pts a) (eT ts pts f.Af l) s.1).1 ∧ s.2.2 = (kW (eJ pts a) (eT ts pts f.Af l) s.1).2.length) (fun s => pts.length - s.1) (0,-1,0) ⟨by omega,rfl,rfl⟩ ?_
 rintro ⟨i,bi,li⟩ ⟨hi,hbi,hli2⟩
 dsimp only at hi hbi hli2
 try dsimp only
 by_cases hin : i < pts.length
 ·have hus := gJ ts bd pts pts[i]! htl
  have hsm : Sm (wS ts pts[i]! [1,2,3]) := b9 (by omega)
  have hmem : ∀ v ∈ a8 (wS ts pts[i]! [1, 2, 3]), 0 ≤ v ∧ v < 6 := fun v hv => by
   obtain ⟨v',h3,h4,rfl⟩ := cK.1 hv
   rw [cD,Bool.and_eq_true,decide_eq_true_eq] at h4
   omega
  have hco := MP (a8 (wS ts pts[i]! [1,2,3])) pts.length f.Af (i : Int) (l : Int) (by unfold a8;rw [List.length_map]; exact Nat.le_trans (List.length_filter_le _ _) (by simp)) hmem f.gf.1 (by omega) (by omega) (b.rs i hin)
  have hU : (a8 (wS ts pts[i]! [1,2,3])).any (u1 f.Af (i : Int) (l : Int)) = eT ts pts f.Af l i := Js ts pts f.Af l i htl
  rw [hU] at hco
  have hsw := iA ts bd pts a i w ha hin
  have hwl := iE (x := i) w.nx ha
  rw [← c6] at hwl
  repeat' (first|(apply aF;first|((apply fP 11);(case hx|hH|hc|hN => rfl))|(apply aA (k := 157);rfl;exact hco;exact Pur.pf;rfl)|(apply aA (k := 89);rfl;exact hsw;exact Pur.pf;rfl)|(first|(apply aA (k := 120);rfl;(apply gM <;> (assumption));(rfl);rfl)|(apply aA (k := 158);rfl;(apply gJ <;> (assumption));exact Pur.pf;rfl)))|refine aE ?_|(refine aK ?_ ?_ <;> intro hc hq <;> try (exfalso;omega))|(refine bQ ?_ ?_ <;> intro hg hq <;> try (exfalso;omega))|fail)
  ·have hb := zF (W := eJ pts a) (U := eT ts pts f.Af l) (i := i) (.inl (by assumption))
   (refine bC (i + 1,bi,li) (Le.renA []) ?_ ?_)
   ·exact ⟨by dsimp only;omega,by dsimp only;rw [hb,hbi],by dsimp only;rw [hb,hli2]⟩
   ·dsimp only;omega
  ·have hu : eT ts pts f.Af l i = true := by assumption
   have hW := Fi w.nx ha (by assumption : 0 ≤ iP (nN pts a) i)
   have hb := uB (W := eJ pts a) (U := eT ts pts f.Af l) hu hW (by rw [c6] at *; omega)
   (refine bC (i + 1,_,_) (Le.renA []) ?_ ?_)
   ·exact ⟨by dsimp only;omega,by dsimp only;rw [hb],by dsimp only;rw [hb,c6]⟩
   ·dsimp only;omega
  ·have hb := E7 (W := eJ pts a) (U := eT ts pts f.Af l) (i := i) (by omega) (by rw [c6] at *; omega)
   (refine bC (i + 1,bi,li) (Le.renA []) ?_ ?_)
   ·exact ⟨by dsimp only;omega,by dsimp only;rw [hb,hbi],by dsimp only;rw [hb,hli2]⟩
   ·dsimp only;omega
  ·have hu : eT ts pts f.Af l i = true := by assumption
   have hW := Fi w.nx ha (by assumption : 0 ≤ iP (nN pts a) i)
   have hb := uB (W := eJ pts a) (U := eT ts pts f.Af l) hu hW (by rw [c6] at *; omega)
   (refine bC (i + 1,_,_) (Le.renA []) ?_ ?_)
   ·exact ⟨by dsimp only;omega,by dsimp only;rw [hb],by dsimp only;rw [hb,c6]⟩
   ·dsimp only;omega
  ·have hb := zF (W := eJ pts a) (U := eT ts pts f.Af l) (i := i) (.inr (F8 (by assumption)))
   (refine bC (i + 1,bi,li) (Le.renA []) ?_ ?_)
   ·exact ⟨by dsimp only;omega,by dsimp only;rw [hb,hbi],by dsimp only;rw [hb,hli2]⟩
   ·dsimp only;omega
 ·repeat' (first | refine aE ?_ | (refine aK ?_ ?_ <;> intro hc hq <;> try (exfalso; omega))|fail)
  refine aC rfl ⟨?_,rfl⟩
  rw [show pts.length = i by omega,← hbi]; rfl
theorem Gp (ts:List Int) (pts:List Pnt) (f t:Nat) (E:List (Nat × Nat)) (w:WG ts pts) (hf:f < pts.length) (ht:t < pts.length) (hE:E <+: nN pts f) (hlk:0 ≤ iP E t) :
  PC Tryz.prog 209 [sl cI (xB pts.length E),iv (f : Int),iv (t : Int)] (fun r => r = sl cI (eV (eJ pts f t))) := by
 have hpl := w.pl
 have hbl := gP pts.length E
 have hbt : (xB pts.length E)[t]! = iP E t := iH ht
 obtain ⟨I,a0,R0,hx0,hcs0⟩ := CS.start w.nx hf hE hlk
 have hle := I.le w.nx
 rw [hx0] at hbt
 refine aB Tryz.func209 Tryz.ntmps209 ?_
 repeat' (first|refine aE ?_|fail)
 rw [hbt]
 refine aH (σ := Nat × List (Nat × Nat) × List Int × Nat) [0,1] [] (fun s => [(8,iv (s.1 : Int)),(7,.own 0 0 s.2.2.2 1)]) (fun s => [(0,some (flat cI s.2.2.1))]) (fun s => CS pts f t E s.1 s.2.1 s.2.2.1 ∧ s.2.2.2 = s.2.2.1.length) (fun s => s.2.1.length) (a0,R0,[(t : Int)],1) ⟨hcs0,rfl⟩ ?_
 rintro ⟨x,R,u,m⟩ ⟨hcs,hm⟩
 dsimp only at hcs hm
 try dsimp only
 have hcl := hcs.len
 have hxl := hcs.xl
 have hbx : (xB pts.length E)[x]! = iP E x := iH hxl
 by_cases hxf : x = f
 ·have hcs2 := hcs
  rw [hxf] at hcs2
  have hfin := hcs2.fin
  repeat' (first|(apply aF;(apply bZ;rfl;rfl;rfl;rfl;rfl;exact Nat.le_refl _;exact IS rfl hm;omega;omega;exact (rfl:_=flat cI (_ :: u));rfl;rfl))|refine aE ?_|(refine aK ?_ ?_ <;> intro hc hq <;> try (exfalso;omega))|fail)
  refine aR (Le.frzD (d := 6) (i := 2) rfl rfl) ?_
  refine aC rfl ⟨?_,(by (exact bF _ _))⟩
  rw [hfin,hm,Nat.add_comm]
  rfl
 ·obtain ⟨a, R', h1, h2, h3⟩ := hcs.step w.nx hf I hxf
  rw [h1] at hbx
  repeat' (first|(apply aF;(apply bZ;rfl;rfl;rfl;rfl;rfl;exact Nat.le_refl _;exact IS rfl hm;omega;omega;exact (rfl:_=flat cI (_ :: u));rfl;rfl))|refine aE ?_|(refine aK ?_ ?_ <;> intro hc hq <;> try (exfalso;omega))|fail)
  rw [hbx]
  (refine bC (a,R',_,_) (Le.renA [(0,2)]) ?_ ?_)
  ·exact ⟨h2,by dsimp only;rw [List.length_cons]; omega⟩
  ·dsimp only;omega
theorem lF (ts:List Int) (pts:List Pnt) (f t:Nat) (w:WG ts pts) (hf:f < pts.length) (ht:t < pts.length) :
  PC Tryz.prog 148 [sl cE pts,iv (f : Int),iv (t : Int)] (fun r => r = .tup [sl cI (eV (eJ pts f t)),bv (decide (0 ≤ iP (nN pts f) t))]) := by
 have hpl := w.pl
 have hbe : ∀ h,BI pts f (kE pts f h) := oL w.nx hf
 refine aB Tryz.func148 Tryz.ntmps148 ?_
 repeat' (first|refine aE ?_|fail)
 rw [Oo]
 refine aH (σ := Nat × List Int) [0,1,2,8] [] (fun k => [(9,iv (k.1 : Int))]) (fun k => [(0,some (flat cI k.2))]) (fun k => k.1 ≤ pts.length ∧ k.2.length = pts.length ∧ (∀ l,l < k.1 → k.2[l]! = -1)) (fun k => pts.length - k.1) (0,List.replicate pts.length 0) ⟨by omega,by simp,by omega⟩ ?_
 rintro ⟨k,u⟩ ⟨hk,hul,hu⟩
 dsimp only at hk hul hu
 try dsimp only
 by_cases hkn : k < pts.length
 ·repeat' (first | refine aE ?_ | (refine aK ?_ ?_ <;> intro hc hq <;> try (exfalso; omega))|fail)
  (refine bC (k + 1,_) (Le.renA [(0,0)]) ?_ ?_)
  ·refine ⟨by omega, by dsimp only; rw [List.length_set]; exact hul, fun l hl => ?_⟩
   dsimp only at hl ⊢
   rw [aP]
   by_cases e : k = l
   ·rw [if_pos ⟨e,by omega⟩]
   ·rw [if_neg (by omega)]; exact hu l (by omega)
  ·dsimp only;omega
 ·repeat' (first | refine aE ?_ | (refine aK ?_ ?_ <;> intro hc hq <;> try (exfalso; omega))|fail)
  have hbk0 : u = xB pts.length [] := bU (by rw [gP,hul]) fun l hl => by rw [hu l (by omega),iH (by omega)]; rfl
  subst hbk0
  refine aH (σ := Nat × List (Nat × Nat) × List Int × Nat) [0,1,2,8] [] (fun s => [(10,.own 1 0 s.2.2.2 1)]) (fun s => [(0,some (flat cI (xB pts.length s.2.1))),(1,some (flat cI s.2.2.1))]) (fun s => s.2.1 = kE pts f s.1 ∧ s.2.2.1 = fV f s.2.1 s.1 ∧ s.2.2.2 = s.2.2.1.length ∧ s.1 ≤ s.2.1.length + 1 ∧ iP s.2.1 t < 0) (fun s => pts.length + 1 - s.1) (0,[],[(f : Int)],1) ⟨rfl,rfl,rfl,by dsimp only;omega,(by show (-1 : Int) < 0;decide)⟩ ?_
  rintro ⟨h,E,T,m⟩ ⟨hE,hT,hm,hh,hlk⟩
  dsimp only at hE hT hm hh hlk
  try dsimp only
  have I := hbe h
  rw [← hE] at I
  have hle := I.le w.nx
  have hbl := gP pts.length E
  by_cases hgo : 0 < T.length
  ·have hlt : h < (lE f E).length := by
    have := oF f E h;rw [gO]; rw [← hT] at this;omega
   have hcons := wQ hlt
   have hqo := Ek hlt
   obtain ⟨a,ha⟩ : ∃ a,a = (lE f E)[h]! := ⟨_,rfl⟩
   rw [← ha] at hcons hqo
   have hal : a < pts.length := by
    rcases hqo with e|e
    ·rw [e]; exact hf
    ·obtain ⟨x,hx,e⟩ := List.mem_map.1 e;rw [← e]; exact (hle.2 x hx).1
   have hbs : kE pts f (h + 1) = jZ E a pts[a]!.next := by rw [hE] at hlt ha ⊢; exact Jz hlt ha
   rw [hcons] at hT
   subst hT
   simp only [List.length_cons] at hm
   repeat' (first|(apply aF;first|(with_reducible apply aY (d := 10))|(apply l6;rfl;rfl;omega;rfl))|refine aE ?_|(refine aK ?_ ?_ <;> intro hc hq <;> try (exfalso;omega))|fail)
   refine bY (c5 ?_ (Le.mvO (d := 35) (i := 1) rfl rfl (by simp [aI]) (by decide)))
   have hnl := w.nl a hal
   have hpop : fV f E (h + 1) = fV f (jZ E a (pts[a]!.next.take 0)) (h + 1) := rfl
   have hnk := w.nx a hal
   have hek : ∀ k,BI pts f (jZ E a (pts[a]!.next.take k)) := fun k => AX _ _ I hqo (fun z hz => ⟨hal,by have := hnk z (List.mem_of_mem_take hz);rw [Int.toNat_of_nonneg this.1]; exact List.mem_of_mem_take hz⟩)
   repeat' (first|refine aE ?_|fail)
   refine aH (σ := Nat × List (Nat × Nat) × List Int × Nat) [0,1,2,8] [] (fun s => [(12,iv (s.1 : Int)),(11,iv (a : Int)),(10,.own 2 0 s.2.2.2 1)]) (fun s => [(0,some (flat cI (xB pts.length s.2.1))),(2,some (flat cI s.2.2.1))]) (fun s => s.1 ≤ pts[a]!.next.length ∧ s.2.1 = jZ E a (pts[a]!.next.take s.1) ∧ s.2.2.1 = fV f s.2.1 (h + 1) ∧ s.2.2.2 = s.2.2.1.length ∧ iP s.2.1 t < 0) (fun s => pts[a]!.next.length - s.1) (0,E,fV f E (h + 1),m - 1) ⟨by omega,rfl,hpop,by dsimp only;omega,hlk⟩ ?_
   rintro ⟨k,E2,T2,m2⟩ ⟨hk,hE2,hT2,hm2,hlk2⟩
   dsimp only at hk hE2 hT2 hm2 hlk2
   try dsimp only
   have I2 := hek k
   rw [← hE2] at I2
   have hle2 := I2.le w.nx
   have hbl2 := gP pts.length E2
   have htl2 := oF f E2 (h + 1)
   rw [← hT2] at htl2
   by_cases hkn : k < pts[a]!.next.length
   ·have hz := hnk _ (aU _ _ hkn)
    have hbz : (xB pts.length E2)[(pts[a]!.next[k]!).toNat]! = iP E2 (pts[a]!.next[k]!).toNat := iH (by omega)
    have hsu := xV E a pts[a]!.next k hkn
    rw [← hE2] at hsu
    have hql : h + 1 ≤ (lE f E2).length := by
     have h1 := iO a (pts[a]!.next.take k) E
     rw [← hE2] at h1
     have := h1.length_le
     rw [gO] at hlt ⊢; omega
    by_cases hlz : iP E2 (pts[a]!.next[k]!).toNat < 0
    ·have hnew := zW (a := a) hlz
     by_cases hzt : pts[a]!.next[k]! = (t : Int)
     ·have hE3 : E2 ++ [((pts[a]!.next[k]!).toNat, a)] <+: nN pts f := by
       rw [← hnew,← hsu]
       exact (Hp _ _ _ _).trans (by rw [← hbs]; exact EL (h := h + 1) (by have := gO f E;omega))
      have hl3 : 0 ≤ iP (E2 ++ [((pts[a]!.next[k]!).toNat, a)]) t := by
       rw [zB hlz,if_pos (by omega)]; omega
      have hbk := Gp ts pts f t _ w hf ht hE3 hl3
      have hl4 : 0 ≤ iP (nN pts f) t := by rw [(Bd (f := f) hE3 (hbe _).nd (fE.1 hl3)).2]; exact hl3
      rw [← AB hlz (by omega),show sl cI ((xB pts.length E2).set (pts[a]!.next[k]!).toNat (a : Int)) = AV.imm pts.length (flat cI ((xB pts.length E2).set (pts[a]!.next[k]!).toNat (a : Int))) from by unfold sl;rw [List.length_set,gP]] at hbk
      repeat' (first|(apply aF;(with_reducible apply aY (d := 66)))|refine aE ?_|(refine aK ?_ ?_ <;> intro hc hq <;> try (exfalso;omega))|fail)
      refine bY (c5 ?_ (Le.frzD (d := 8) (i := 0) rfl rfl))
      repeat' (first|(apply aF;(apply aA (k := 209);rfl;exact hbk;exact Pur.pf;rfl))|refine aE ?_|fail)
      refine aC rfl ⟨?_,(by exact Pur.pf)⟩
      rw [decide_eq_true hl4]
      rfl
     ·repeat' (first | (apply aF; (apply aJ (t := _);rfl;rfl;rfl;exact (rfl:_=some [_]);rfl;rfl)) | refine aE ?_ | (refine aK ?_ ?_ <;> intro hc hq <;> try (exfalso; omega))|fail)
      rw [AB hlz (by omega)]
      (refine bC (k + 1,_,_,_) (Le.renA [(0,0),(2,4)]) ?_ ?_)
      ·refine ⟨by dsimp only; omega, by dsimp only; rw [hsu, zW hlz], by dsimp only; rw [yK hql, hT2, Int.toNat_of_nonneg hz.1], by dsimp only; rw [List.length_append]; simp; omega, ?_⟩
       dsimp only;rw [zB hlz,if_neg (by omega)]; exact hlk2
      ·dsimp only;omega
    ·repeat' (first | refine aE ?_ | (refine aK ?_ ?_ <;> intro hc hq <;> try (exfalso; omega))|fail)
     (refine bC (k + 1,E2,T2,m2) (Le.renA [(0,0),(2,2)]) ?_ ?_)
     ·refine ⟨by dsimp only;omega,by dsimp only;rw [hsu,EV (by omega)],hT2,hm2,hlk2⟩
     ·dsimp only;omega
   ·repeat' (first | refine aE ?_ | (refine aK ?_ ?_ <;> intro hc hq <;> try (exfalso; omega))|fail)
    have hkl : k = pts[a]!.next.length := by omega
    rw [hkl,List.take_length] at hE2
    have hpre : E <+: E2 := by rw [hE2]; exact iO _ _ _
    have hple := hpre.length_le
    rw [gO] at hlt
    (refine bC (h + 1,E2,T2,m2) (Le.renA [(0,0),(1,2)]) ?_ ?_)
    ·exact ⟨by dsimp only;rw [hbs,hE2],hT2,hm2,by dsimp only;omega,hlk2⟩
    ·dsimp only;omega
  ·have hT0 : T = [] := List.eq_nil_of_length_eq_zero (by omega)
   have hee : E = nN pts f := by
    rw [hE]; exact Ft w.nx hf (by rw [← hE]; rw [hT] at hT0;exact x5.1 hT0)
   have hm0 : m = 0 := by omega
   repeat' (first|(apply aF;(apply aJ (t := _);rfl;rfl;rfl;(rfl);rfl;rfl))|refine aE ?_|(refine aK ?_ ?_ <;> intro hc hq <;> try (exfalso;omega))|fail)
   refine aC rfl ⟨?_,(by (rfl))⟩
   rw [F8 (by rw [← hee]; exact hlk),← hee,decide_eq_false (by omega)]
   rfl
theorem J0 (ts:List Int) (pts:List Pnt) (a:Nat) (F0:List Bool) (w:WG ts pts) (ha:a < pts.length) (hF0:GoodR pts a F0):PC Tryz.prog 210 [sl cE pts,iv (a:Int)] (fun r => r = sl cB F0):=by
 have hpl := w.pl
 have hnl := w.nl a ha
 have hst := RI.start w.nx ha
 have hmu := GK hpl hnl
 refine aB Tryz.func210 Tryz.ntmps210 ?_
 repeat' (first|refine aE ?_|fail)
 refine aH (σ := List Bool × List Int × Nat) [0,5] [] (fun s => [(6,.own 2 0 s.2.2 1)]) (fun s => [(0,some (flat cB s.1)),(2,some (flat cI s.2.1))]) (fun s => RI pts a s.1 s.2.1 ∧ DY s.1 s.2.1 ≤ 200 ∧ s.2.2 = s.2.1.length) (fun s => DY s.1 s.2.1) (List.replicate pts.length false,pts[a]!.next,0 + pts[a]!.next.length) ⟨hst,hmu,Nat.zero_add _⟩ ?_
 rintro ⟨F,T,m⟩ ⟨I,hm,hml⟩
 dsimp only at I hm hml
 try dsimp only
 have hFl := I.len
 have hTl := Mu F T
 by_cases hT : 0 < m
 ·repeat' (first | (apply aF; first | (with_reducible apply aY (d := 6)) | (apply wA (h := m - 1);rfl;rfl;omega;omega;rfl)) | refine aE ?_ | (refine aK ?_ ?_ <;> intro hc hq <;> try (exfalso; omega))|fail)
  rw [show ((m : Int) - 1).toNat = m - 1 by omega]
  refine bY (c5 ?_ (Le.cut (i := 2) (m - 1) rfl))
  rw [KB]
  obtain ⟨hkm,hks⟩ := JY hml hT
  obtain ⟨k,hkk⟩ : ∃ k,k = T[m - 1]! := ⟨_,rfl⟩
  rw [← hkk] at hkm hks ⊢
  have hk := I.tw k hkm
  have hnk := w.nl k.toNat (by omega)
  have hk1 : 0 ≤ k ∧ k < pts.length := ⟨hk.1,hk.2.1⟩
  have htk : (T.take (m - 1)).length = m - 1 := by rw [List.length_take]; omega
  have htl : ∀ G,DY G (T.take (m - 1)) + 1 = DY G T := fun G => by unfold DY;rw [htk]; omega
  have htF := htl F
  by_cases hv : F[k.toNat]! = true
  ·repeat' (first | (apply aF; (apply bZ;rfl;rfl;rfl;rfl;rfl;(rw [aI]; omega);(exact uU (by (rfl)));omega;omega;(exact pX (by (omega)));rfl;rfl)) | refine aE ?_ | (refine aK ?_ ?_ <;> intro hc hq <;> try (exfalso; omega))|fail)
   all_goals try exact absurd (hv.symm.trans (by assumption : F[k.toNat]! = false)) (by decide)
   (refine bC (F,_,_) (Le.renA [(0,0),(2,2)]) ?_ ?_)
   ·exact ⟨I.vis hks (fun x hx => List.mem_of_mem_take hx) hv,by dsimp only;omega,by dsimp only;omega⟩
   ·dsimp only;omega
  ·rw [Bool.not_eq_true] at hv
   have hms := Oh (F := F) (k := k.toNat) (by omega) hv (T.take (m - 1))
   have hma := LU (F.set k.toNat true) (T.take (m - 1)) pts[k.toNat]!.next
   repeat' (first|(apply aF;(apply bZ;rfl;rfl;rfl;rfl;rfl;(rw [aI]; omega);(exact uU (by (rfl)));omega;omega;(exact pX (by (omega)));rfl;rfl))|refine aE ?_|(refine aK ?_ ?_ <;> intro hc hq <;> try (exfalso;omega))|fail)
   all_goals try exact absurd (hv.symm.trans (by assumption : F[k.toNat]! = true)) (by decide)
   (refine bC (F.set k.toNat true,_,_) (Le.renA [(0,0),(2,3)]) ?_ ?_)
   ·exact ⟨I.new w.nx hkm (fun x hx => by
     rcases hks x hx with h|h
     ·exact .inl h
     ·exact .inr (List.mem_append_left _ h)) (fun x hx => List.mem_append_right _ hx) (fun x hx => by
     rcases List.mem_append.1 hx with h|h
     ·exact .inl (List.mem_of_mem_take h)
     ·exact .inr h),by dsimp only;omega,by dsimp only;rw [List.length_append]; omega⟩
   ·dsimp only;omega
 ·have hT0 : T = [] := List.eq_nil_of_length_eq_zero (by omega)
  rw [hT0] at I
  repeat' (first|refine aE ?_|(refine aK ?_ ?_ <;> intro hc hq <;> try (exfalso;omega))|fail)
  refine aR (Le.frzD (d := 4) (i := 0) rfl rfl) ?_
  refine aC rfl ⟨?_,(by (exact bF _ _))⟩
  have e := I.fin hF0 w.nx
  rw [← e]
  simp only [aO,sl,hFl]
def HY (ts : List Int) (x : Pnt) (fr : List (List Bool)) (loan v : Nat) : Bool := fr[v]![loan]! && decide (aQ ts x v ≠ 0)
theorem HA (ts:List Int) (x:Pnt) (fr:List (List Bool)) (pl:List Bool) (loan:Nat) (hn:ts.length ≤ 6) (h1:fr.length = ts.length) (h2:∀ v,v < ts.length → loan < fr[v]!.length) :
  PC Tryz.prog 211 [sl cI ts,dP x,.agg [sl iD fr,sl cB pl],iv (loan : Int)] (fun r => r = bv ((List.range ts.length).any (HY ts x fr loan))) := by
 refine aB Tryz.func211 Tryz.ntmps211 ?_
 repeat' (first|refine aE ?_|fail)
 refine aH (σ := Nat) [0,3,5,6] [0,1] (fun k => [(9,iv (k : Int))]) (fun k => []) (fun k => k ≤ ts.length ∧ ∀ v,v < k → HY ts x fr loan v = false) (fun k => ts.length - k) (0) ⟨by omega,by omega⟩ ?_
 rintro k ⟨hk,hall⟩
 try dsimp only
 by_cases hkn : k < ts.length
 ·have hlo := h2 k hkn
  have hnx : HY ts x fr loan k = false → ∀ v, v < k + 1 → HY ts x fr loan v = false := fun h v hv => by
   by_cases e : v = k
   ·rw [e]; exact h
   ·exact hall v (by omega)
  have hyes : HY ts x fr loan k = true → (List.range ts.length).any (HY ts x fr loan) = true := fun h => List.any_eq_true.2 ⟨k,List.mem_range.2 hkn,h⟩
  have hus : HY ts x fr loan k = (fr[k]![loan]! && decide (aQ ts x k ≠ 0)) := rfl
  repeat' (first|(apply aF;(apply aA (k := 173);rfl;(apply lX <;> (omega));exact Pur.pf;rfl))|refine aE ?_|(refine aK ?_ ?_ <;> intro hc hq <;> try (exfalso;omega))|(refine bQ ?_ ?_ <;> intro hg hq <;> try (exfalso;omega))|fail)
  ·refine aC rfl ⟨?_, rfl⟩
   rw [hyes (by rw [hus,(by assumption : fr[k]![loan]! = true),decide_eq_true (by assumption)]; rfl)]; rfl
  ·(refine bC (k + 1) (Le.renA [(0, 0), (1, 1)]) ?_ ?_)
   ·exact ⟨by omega,hnx (by rw [hus,decide_eq_false (fun h => h (by assumption)),Bool.and_false])⟩
   ·omega
  ·(refine bC (k + 1) (Le.renA [(0, 0), (1, 1)]) ?_ ?_)
   ·exact ⟨by omega,hnx (by rw [hus,(by assumption : fr[k]![loan]! = false),Bool.false_and])⟩
   ·omega
 ·repeat' (first | refine aE ?_ | (refine aK ?_ ?_ <;> intro hc hq <;> try (exfalso; omega))|fail)
  refine aC rfl ⟨?_,rfl⟩
  have : (List.range ts.length).any (HY ts x fr loan) = false := by
   rw [List.any_eq_false]; intro v hv;rw [hall v (by rw [List.mem_range] at hv;omega)]; decide
  rw [this]; rfl
theorem M1 (ts:List Int) (pts:List Pnt) (Af Ap:List Nat) (loan i:Nat) (hA:Af.length = pts.length * 6) (hn:ts.length ≤ 6) (hi:i < pts.length) (hl:loan < pts.length):(List.range ts.length).any (HY ts pts[i]! (jC ts.length pts.length Af Ap i).1 loan) = eT ts pts Af loan i:=by
 unfold eT
 rw [Bool.eq_iff_iff,List.any_eq_true,List.any_eq_true]
 have key : ∀ v, v < ts.length → HY ts pts[i]! (jC ts.length pts.length Af Ap i).1 loan v = (decide (aQ ts pts[i]! v ≠ 0) && (dA Af i)[v]!.testBit loan) := fun v hv => by
  unfold HY jC
  dsimp only
  rw [bO _ _ _ hv,bO _ _ _ hl,fH hA hi (by omega),Bool.and_comm]
 constructor
 ·rintro ⟨v,hv,h⟩; exact ⟨v,hv,by rw [← key v (List.mem_range.1 hv)]; exact h⟩
 ·rintro ⟨v,hv,h⟩; exact ⟨v,hv,by rw [key v (List.mem_range.1 hv)]; exact h⟩
theorem lK (p:Prg) (a l:Nat) (f:Flows p.types (aD p)) (F0:List Bool) (hl:p.types.length ≤ 1000000) (hs:aT p.body ≤ 1000000) (hv:bB p = true) (ha:a < (aD p).length) (hll:l < (aD p).length) (hF0:GoodR (aD p) a F0) :
  PC Tryz.prog 149 [bK p,iv (a : Int),iv (l : Int)] (fun r => r = if 0 ≤ (kW (eJ (aD p) a) (eT p.types (aD p) f.Af l) (aD p).length).1 then .tup [iv (kW (eJ (aD p) a) (eT p.types (aD p) f.Af l) (aD p).length).1,bv true] else .tup [iv 0,bv false]) := by
 have w := WG.of_valid hv
 have hpl := w.pl
 have htl := w.tl
 have hPP := sQ p hl hs
 rw [if_pos hv] at hPP
 have hfl := Bu p f.Af f.Ap hs w f.gf f.gp
 have hfll : ((List.range (aD p).length).map (jC p.types.length (aD p).length f.Af f.Ap)).length = (aD p).length := by simp
 have hfi : ∀ i,i < (aD p).length → ((List.range (aD p).length).map (jC p.types.length (aD p).length f.Af f.Ap))[i]! = jC p.types.length (aD p).length f.Af f.Ap i := fun i hi => bO _ _ _ hi
 have hf1 : ∀ i,(jC p.types.length (aD p).length f.Af f.Ap i).1.length = p.types.length := fun i => by simp [jC]
 have hf2 : ∀ i v, v < p.types.length → l < (jC p.types.length (aD p).length f.Af f.Ap i).1[v]!.length := fun i v hv => by
  unfold jC;dsimp only;rw [bO _ _ _ hv]; simpa using hll
 have hus := fun (i : Nat) (hi : i < (aD p).length) => HA p.types (aD p)[i]! ((List.range (aD p).length).map (jC p.types.length (aD p).length f.Af f.Ap))[i]!.1 ((List.range (aD p).length).map (jC p.types.length (aD p).length f.Af f.Ap))[i]!.2 l htl (by rw [hfi i hi]; exact hf1 i) (by rw [hfi i hi]; exact hf2 i)
 have hU : ∀ i,i < (aD p).length → (List.range p.types.length).any (HY p.types (aD p)[i]! ((List.range (aD p).length).map (jC p.types.length (aD p).length f.Af f.Ap))[i]!.1 l) = eT p.types (aD p) f.Af l i := fun i hi => by rw [hfi i hi]; exact M1 _ _ _ _ _ _ f.gf.1 htl hi hll
 clear hfi hf1 hf2
 generalize (List.range (aD p).length).map (jC p.types.length (aD p).length f.Af f.Ap) = FL at hfl hfll hus hU
 have hfr := J0 p.types (aD p) a F0 w ha hF0
 have hF0l := hF0.l
 have hUt := p.types.length
 refine aB Tryz.func149 Tryz.ntmps149 ?_
 repeat' (first|(apply aF;first|(apply aA (k := 151);rfl;exact hPP;exact Pur.pf;rfl)|(apply aA (k := 171);rfl;exact hfl;exact Pur.pf;rfl)|(apply aA (k := 210);rfl;exact hfr;exact Pur.pf;rfl)|(apply aJ (t := _);rfl;rfl;rfl;(rfl);rfl;rfl))|refine aE ?_|(refine aK ?_ ?_ <;> intro hc hq <;> try (exfalso;omega))|(refine bQ ?_ ?_ <;> intro hg hq <;> try (exfalso;omega))|fail)
 refine aH (σ := Nat × List Int) [1,2,3,8,9,10] [0] (fun s => [(12,iv (s.1 : Int)),(11,sl cI s.2)]) (fun s => []) (fun s => s.1 ≤ (aD p).length ∧ s.2 = eV (kW (eJ (aD p) a) (eT p.types (aD p) f.Af l) s.1).2) (fun s => (aD p).length - s.1) (0,[]) ⟨by omega,rfl⟩ ?_
 rintro ⟨i,bl⟩ ⟨hi,hbl⟩
 dsimp only at hi hbl
 try dsimp only
 have hbp := Ns (W := eJ (aD p) a) (U := eT p.types (aD p) f.Af l) (i := i)
 have hbln := Mj (W := eJ (aD p) a) (U := eT p.types (aD p) f.Af l) (fun j => iE (x := j) w.nx ha) i
 have hbll : bl.length = (kW (eJ (aD p) a) (eT p.types (aD p) f.Af l) i).2.length := by rw [hbl,c6]
 by_cases hin : i < (aD p).length
 ·have hu := hus i hin
  rw [hU i hin] at hu
  have hw := lF p.types (aD p) a i w ha hin
  have hwl := iE (x := i) w.nx ha
  rw [← c6] at hwl
  repeat' (first|(apply aF;first|(apply aA (k := 211);rfl;exact hu;exact Pur.pf;rfl)|(apply aA (k := 148);rfl;exact hw;exact Pur.pf;rfl))|refine aE ?_|(refine aK ?_ ?_ <;> intro hc hq <;> try (exfalso;omega))|(refine bQ ?_ ?_ <;> intro hg hq <;> try (exfalso;omega))|refine bS ?_|fail)
  ·have hb := zF (W := eJ (aD p) a) (U := eT p.types (aD p) f.Af l) (i := i) (.inl (by assumption))
   (refine bC (i + 1,bl) (Le.renA [(0,0)]) ?_ ?_)
   ·exact ⟨by dsimp only;omega,by dsimp only;rw [hb,hbl]⟩
   ·dsimp only;omega
  ·have hu2 : eT p.types (aD p) f.Af l i = true := by assumption
   have hW := (jX w.nx ha).2 ((hF0.g i hin).1 (by assumption))
   have hb := uB (W := eJ (aD p) a) (U := eT p.types (aD p) f.Af l) hu2 hW (by rw [c6] at *; omega)
   (refine bC (i + 1,_) (Le.renA [(0,0)]) ?_ ?_)
   ·exact ⟨by dsimp only;omega,by dsimp only;rw [hb]; rfl⟩
   ·dsimp only;omega
  ·have hb := E7 (W := eJ (aD p) a) (U := eT p.types (aD p) f.Af l) (i := i) (by omega) (by rw [c6] at *; omega)
   (refine bC (i + 1,bl) (Le.renA [(0,0)]) ?_ ?_)
   ·exact ⟨by dsimp only;omega,by dsimp only;rw [hb,hbl]⟩
   ·dsimp only;omega
  ·have hu2 : eT p.types (aD p) f.Af l i = true := by assumption
   have hW := (jX w.nx ha).2 ((hF0.g i hin).1 (by assumption))
   have hb := uB (W := eJ (aD p) a) (U := eT p.types (aD p) f.Af l) hu2 hW (by rw [c6] at *; omega)
   (refine bC (i + 1,_) (Le.renA [(0,0)]) ?_ ?_)
   ·exact ⟨by dsimp only;omega,by dsimp only;rw [hb]; rfl⟩
   ·dsimp only;omega
  ·have hb := zF (W := eJ (aD p) a) (U := eT p.types (aD p) f.Af l) (i := i) (.inr (Classical.byContradiction fun h => by have h2 := (hF0.g i hin).2 ((jX w.nx ha).1 h); rw [(by assumption : F0[i]! = false)] at h2; cases h2))
   (refine bC (i + 1,bl) (Le.renA [(0,0)]) ?_ ?_)
   ·exact ⟨by dsimp only;omega,by dsimp only;rw [hb,hbl]⟩
   ·dsimp only;omega
 ·have hin2 : (aD p).length = i := by omega
  repeat' (first|refine aE ?_|(refine aK ?_ ?_ <;> intro hc hq <;> try (exfalso;omega))|fail)
  ·exact aC rfl ⟨by rw [hin2,if_neg (by omega)]; rfl,rfl⟩
  ·have hla := Ib w.nx ha hbl (by omega)
   refine aC rfl ⟨?_,rfl⟩
   rw [hla.1,hin2,if_pos hla.2]; rfl
theorem Gu (bs:List UInt8) (hb:bs.length ≤ 1048576):PC Tryz.prog 81 [sl cU bs] (fun r => ∃ (q:Prg) (x:Iss),r = .tup [bK q,fS x] ∧ aT q.body ≤ 20000 ∧ q.types.length ≤ 1000):=by
 have hb2 : (bs.take 2000).length ≤ 2000 := by rw [List.length_take]; omega
 refine aB Tryz.func81 Tryz.ntmps81 ?_
 repeat' (first|(apply aF;first|(apply vK (k := 94);exact Py (bs.take 2000) 0 hb2 (by decide);rfl;rfl;rfl;rfl;rfl;(rintro ⟨q,p1⟩ ⟨hq1,hq2,hq3⟩);(dsimp only at hq1 hq2 hq3))|(apply vK (k := 93);exact Lr (bs.take 2000) p1 q hb2 (by omega) (by omega) (by omega);rfl;exact Pur.pf;rfl;rfl;rfl;(rintro ⟨q2,p2⟩ ⟨hr1,hr2,hr3⟩);(dsimp only at hr1 hr2 hr3))|(with_reducible apply aY (d := 14))|(apply DI;rfl;(apply HP <;> (assumption));rfl;rfl))|refine aE ?_|fail)
 refine bY ?_
 obtain ⟨L,_,hC,_,_,_,hLl⟩ := Dv q2 (by omega) (by omega)
 have h1 := dS (bs.take 2000) (q2,p2).2 5
 have h2 := dS (bs.take 2000) ((q2,p2).2 + 1) 3
 have h3 := dS (bs.take 2000) ((q2,p2).2 + 1 + 1) 3
 have h4 := dS (bs.take 2000) ((q2,p2).2 + 1 + 1 + 1 + 1) L.length
 repeat' (first|(apply aF;first|(apply bD;rfl;rfl;rfl;rfl;rfl;(case hl => (simp;done));exact (rfl:_=[_,_,_]))|(apply aA (k := 98);rfl;exact hC;exact Pur.pf;rfl)|(apply lW;rfl;rfl;(rfl);(apply oV <;> (first|assumption|omega));rfl;rfl))|refine aE ?_|(refine aK ?_ ?_ <;> intro hc hq <;> try (exfalso;omega))|(refine bQ ?_ ?_ <;> intro hg hq <;> try (exfalso;omega))|refine bS ?_|fail)
 all_goals exact aC (l := [bK q2,fS ⟨_,_,_⟩]) rfl ⟨⟨q2,_,rfl,by omega,by omega⟩,Pur.pf⟩
def KM (x : Iss) (L : List Iss) : Int := match L.findIdx? (JZ x) with | some i => i | none => -1
theorem QV (L:List Iss) (x:Iss) (hl:L.length ≤ 1000000):PC Tryz.prog 155 [sl gB L,fS x] (fun r => r = iv (KM x L)):=by
 refine aB Tryz.func155 Tryz.ntmps155 ?_
 repeat' (first|refine aE ?_|fail)
 refine aH (σ := Nat) [0,3,7] [0] (fun k => [(8,iv (k : Int))]) (fun k => []) (fun k => k ≤ L.length ∧ ∀ j,j < k → JZ x L[j]! = false) (fun k => L.length - k) (0) ⟨by omega,by omega⟩ ?_
 intro k ⟨hk,hall⟩
 have heq : (x.point == L[k]!.point && (x.kind == L[k]!.kind && x.with_ == L[k]!.with_)) = JZ x L[k]! := rfl
 by_cases hkn : k < L.length
 ·cases hb : JZ x L[k]!
  ·rw [hb] at heq
   repeat' (first|(apply aF;(apply Aw;rfl;rfl;(rw [heq]; rfl);rfl))|refine aE ?_|(refine aK ?_ ?_ <;> intro hc hq <;> try (exfalso;omega))|refine bS ?_|fail)
   (refine bC (k + 1) (Le.renA [(0,0)]) ?_ ?_)
   ·refine ⟨by omega, fun j hj => ?_⟩
    by_cases e : j = k
    ·subst e;exact hb
    ·exact hall j (by omega)
   ·omega
  ·rw [hb] at heq
   repeat' (first|(apply aF;(apply Aw;rfl;rfl;(rw [heq]; rfl);rfl))|refine aE ?_|(refine aK ?_ ?_ <;> intro hc hq <;> try (exfalso;omega))|refine bS ?_|fail)
   refine aC rfl ⟨?_,rfl⟩
   have : L.findIdx? (JZ x) = some k := by
    rw [List.findIdx?_eq_some_iff_getElem]
    refine ⟨hkn,by rw [← aZ L k hkn]; exact hb,fun j hj => ?_⟩
    have := hall j hj;rw [aZ L j (by omega)] at this;rw [this]; decide
   simp only [KM,this]; rfl
 ·repeat' (first | refine aE ?_ | (refine aK ?_ ?_ <;> intro hc hq <;> try (exfalso; omega))|fail)
  refine aC rfl ⟨?_,rfl⟩
  have : L.findIdx? (JZ x) = none := by
   rw [List.findIdx?_eq_none_iff]
   intro y hy
   obtain ⟨j,hj,rfl⟩ := List.getElem_of_mem hy
   have := hall j (by omega);rw [aZ L j hj] at this;exact this
  simp only [KM,this]; rfl
theorem LY (x:Iss) (L:List Iss):decide (0 ≤ KM x L) = decide (x ∈ L):=by
 unfold KM
 split
 ·rename_i i h
  obtain ⟨h1,h2,_⟩ := List.findIdx?_eq_some_iff_getElem.1 h
  rw [decide_eq_true (by rw [(tT _ _).1 h2]; exact List.getElem_mem h1 : x ∈ L)]; simp
 ·rename_i h
  rw [List.findIdx?_eq_none_iff] at h
  have : ¬ x ∈ L := fun hx => by have := h x hx;rw [(tT x x).2 rfl] at this;cases this
  rw [decide_eq_false this]; rfl
theorem qE (L:List Iss) (x:Iss) (hl:L.length ≤ 1000000):PC Tryz.prog 85 [sl gB L,fS x] (fun r => r = bv (decide (x ∈ L))):=by
 have hi := QV L x hl
 refine aB Tryz.func85 Tryz.ntmps85 ?_
 repeat' (first|(apply aF;(apply aA (k := 155);rfl;exact hi;exact Pur.pf;rfl))|refine aE ?_|fail)
 refine aC rfl ⟨?_,rfl⟩
 exact congrArg bv (LY x L)
theorem nE (p:Prg) (L:List Iss) (x:Iss) (hC:PC Tryz.prog 98 [bK p] (fun r => r = sl gB L)) (hl:L.length ≤ 1000000):PC Tryz.prog 146 [bK p,fS x] (fun r => r = bv (decide (x ∈ L))):=by
 refine aB Tryz.func146 Tryz.ntmps146 ?_
 repeat' (first|(apply aF;(apply aA (k := 98);rfl;exact hC;exact Pur.pf;rfl))|refine aE ?_|fail)
 refine aH (σ := Nat) [3,5] [0,1] (fun k => [(6,iv (k : Int))]) (fun k => []) (fun k => k ≤ L.length ∧ ∀ j,j < k → JZ L[j]! x = false) (fun k => L.length - k) (0) ⟨by omega,by omega⟩ ?_
 intro k ⟨hk,hall⟩
 have heq : (L[k]!.point == x.point && (L[k]!.kind == x.kind && L[k]!.with_ == x.with_)) = JZ L[k]! x := rfl
 by_cases hkn : k < L.length
 ·cases hb : JZ L[k]! x
  ·rw [hb] at heq
   repeat' (first|(apply aF;(apply Aw;rfl;rfl;(rw [heq]; rfl);rfl))|refine aE ?_|(refine aK ?_ ?_ <;> intro hc hq <;> try (exfalso;omega))|refine bS ?_|fail)
   (refine bC (k + 1) (Le.renA [(0,0),(1,1)]) ?_ ?_)
   ·refine ⟨by omega, fun j hj => ?_⟩
    by_cases e : j = k
    ·subst e;exact hb
    ·exact hall j (by omega)
   ·omega
  ·rw [hb] at heq
   repeat' (first|(apply aF;(apply Aw;rfl;rfl;(rw [heq]; rfl);rfl))|refine aE ?_|(refine aK ?_ ?_ <;> intro hc hq <;> try (exfalso;omega))|refine bS ?_|fail)
   refine aC rfl ⟨?_,rfl⟩
   rw [decide_eq_true (by have := aU L k hkn;rw [(tT _ _).1 hb] at this;exact this : x ∈ L)]; rfl
 ·repeat' (first | refine aE ?_ | (refine aK ?_ ?_ <;> intro hc hq <;> try (exfalso; omega))|fail)
  refine aC rfl ⟨?_,rfl⟩
  rw [decide_eq_false (fun h => by
   obtain ⟨j,hj,e⟩ := List.getElem_of_mem h
   have := hall j (by omega)
   rw [aZ L j hj,e,(tT x x).2 rfl] at this;cases this)]; rfl
theorem Ag (ts:List Int) (bd:List AL.Stmt) (pts:List Pnt) (t:Nat) (w:WG ts pts) (hr:Rch pts) (ht:t < pts.length):PC Tryz.prog 87 [aG ts bd pts,iv (t:Int)] (fun r => r = .tup [sl cI (eV (y0 pts t)),bv true]):=by
 have h0 := w.p0
 by_cases hz : t = 0
 ·subst hz
  refine aB Tryz.func87 Tryz.ntmps87 ?_
  repeat' (first|(apply aF;(apply aJ (t := _);rfl;rfl;rfl;exact (rfl:_=some [_]);rfl;rfl))|refine aE ?_|fail)
  all_goals first|exact aC rfl ⟨rfl,(by (rfl))⟩|exact absurd trivial (by assumption : ¬ True)
 ·have hsw := iA ts bd pts 0 t w h0 ht
  rw [decide_eq_true ((gI w.nx h0 t).2 (hr.wy t t (Nat.le_refl _) (by omega) ht))] at hsw
  have e : y0 pts t = eJ pts 0 t := if_neg hz
  rw [← e] at hsw
  refine aB Tryz.func87 Tryz.ntmps87 ?_
  repeat' (first|(apply aF;(apply aA (k := 89);rfl;exact hsw;exact Pur.pf;rfl))|refine aE ?_|(refine aK ?_ ?_ <;> intro hc hq <;> try (exfalso;omega))|fail)
  exact aC rfl ⟨rfl,(by exact Pur.pf)⟩
theorem tU (ts:List Int) (pts:List Pnt) (t:Nat) (w:WG ts pts) (ht:t < pts.length):PC Tryz.prog 147 [sl cE pts,iv (t:Int)] (fun r => r = sl cI (eV (y0 pts t))):=by
 have h0 := w.p0
 by_cases hz : t = 0
 ·subst hz
  refine aB Tryz.func147 Tryz.ntmps147 ?_
  repeat' (first|(apply aF;(apply aJ (t := _);rfl;rfl;rfl;exact (rfl:_=some [_]);rfl;rfl))|refine aE ?_|fail)
  all_goals first|exact aC rfl ⟨rfl,(by (rfl))⟩|exact absurd trivial (by assumption : ¬ True)
 ·have hsw := lF ts pts 0 t w h0 ht
  have e : y0 pts t = eJ pts 0 t := if_neg hz
  rw [← e] at hsw
  refine aB Tryz.func147 Tryz.ntmps147 ?_
  repeat' (first|(apply aF;(apply aA (k := 148);rfl;exact hsw;exact Pur.pf;rfl))|refine aE ?_|(refine aK ?_ ?_ <;> intro hc hq <;> try (exfalso;omega))|fail)
  exact aC rfl ⟨rfl,(by (exact bF _ _))⟩
theorem y3 (a b:List Int) (ha:a.length ≤ 1000) (hb:b.length ≤ 1000) (h1:0 < b.length):PC Tryz.prog 150 [sl cI a,sl cI b] (fun r => r = sl cI (a ++ b.drop 1)):=by
 have htl : (List.take (b.length - Int.toNat 1) (List.drop (Int.toNat 1) b)).length = b.length - 1 := by
  show (List.take (b.length - 1) (List.drop 1 b)).length = _
  rw [List.length_take,List.length_drop]; omega
 refine aB Tryz.func150 Tryz.ntmps150 ?_
 repeat' (first|(apply aF;(apply bZ;rfl;rfl;rfl;rfl;rfl;(case hl => first|(rw [aI]; omega)|(simp [aI]; done));(exact uU (by (rfl)));omega;omega;(exact pX (by (omega)));rfl;rfl))|refine aE ?_|refine bS ?_|fail)
 refine aR (Le.frzD (d := 4) (i := 2) rfl rfl) ?_
 refine aC rfl ⟨?_,(by (exact bF _ _))⟩
 have e : List.take (b.length - Int.toNat 1) (List.drop (Int.toNat 1) b) = b.drop 1 := by
  show List.take (b.length - 1) (List.drop 1 b) = _
  exact List.take_of_length_le (by rw [List.length_drop]; omega)
 rw [e]
 simp only [aO,sl,List.length_append,Nat.zero_add]
theorem MN (p:Prg) (x:Iss) (hv:bB p = false) (hl:p.types.length ≤ 1000000) (hs:aT p.body ≤ 1000000):PC Tryz.prog 33 [bK p,fS x] (fun r => r = .tup [sl cI [],bv false]):=by
 have hg := dM p hl hs
 rw [if_neg (by simp [hv])] at hg
 refine aB Tryz.func33 Tryz.ntmps33 ?_
 repeat' (first|(apply aF;(apply aA (k := 72);rfl;exact hg;exact Pur.pf;rfl))|refine aE ?_|refine bS ?_|fail)
 (refine aR (Le.nilImm (d := 4) rfl) ?_; refine aC rfl ?_)
 exact ⟨rfl,rfl⟩
theorem NO (p:Prg) (f:Flows p.types (aD p)) (x:Iss) (hv:bB p = true) (hx:x ∉ f.iss) (hl:p.types.length ≤ 1000000) (hs:aT p.body ≤ 1000000):PC Tryz.prog 33 [bK p,fS x] (fun r => r = .tup [sl cI [],bv false]):=by
 have w := WG.of_valid hv
 have hg := dM p hl hs
 rw [if_pos hv] at hg
 have hi := jR p.types p.body (aD p) w f
 have hc := qE f.iss x (Nat.le_trans (iX w f) (by decide))
 rw [decide_eq_false hx] at hc
 refine aB Tryz.func33 Tryz.ntmps33 ?_
 repeat' (first|(apply aF;first|(apply aA (k := 72);rfl;exact hg;exact Pur.pf;rfl)|(apply aA (k := 86);rfl;exact hi;exact Pur.pf;rfl)|(apply aA (k := 85);rfl;exact hc;exact Pur.pf;rfl))|refine aE ?_|refine bS ?_|fail)
 (refine aR (Le.nilImm (d := 4) rfl) ?_; refine aC rfl ?_)
 exact ⟨rfl,rfl⟩
theorem MO (p:Prg) (f:Flows p.types (aD p)) (a:Nat) (k wi:Int) (hk:k = 1) (ha:a < (aD p).length) (hv:bB p = true) (hx:(⟨(a:Int),k,wi⟩:Iss) ∈ f.iss) (hl:p.types.length ≤ 1000000) (hs:aT p.body ≤ 1000000) :
  PC Tryz.prog 33 [bK p,fS ⟨(a : Int),k,wi⟩] (fun r => r = .tup [sl cI (eV (y0 (aD p) a)),bv true]) := by
 have w := WG.of_valid hv
 have hg := dM p hl hs
 rw [if_pos hv] at hg
 have hi := jR p.types p.body (aD p) w f
 have hc := qE f.iss ⟨(a : Int),k,wi⟩ (Nat.le_trans (iX w f) (by decide))
 rw [decide_eq_true hx] at hc
 have hb := Ag p.types p.body (aD p) a w (Rch.of p) ha
 subst hk
 refine aB Tryz.func33 Tryz.ntmps33 ?_
 repeat' (first|(apply aF;first|(apply aA (k := 72);rfl;exact hg;exact Pur.pf;rfl)|(apply aA (k := 86);rfl;exact hi;exact Pur.pf;rfl)|(apply aA (k := 85);rfl;exact hc;exact Pur.pf;rfl)|(apply aA (k := 87);rfl;exact hb;exact Pur.pf;rfl))|refine aE ?_|refine bS ?_|fail)
 all_goals first|exact aC rfl ⟨rfl,(by exact Pur.pf)⟩
theorem NF (p:Prg) (f:Flows p.types (aD p)) (a l:Nat) (k:Int) (hk:k ≠ 1) (ha:a < (aD p).length) (hll:l < (aD p).length) (hv:bB p = true) (hx:(⟨(a:Int),k,(l:Int)⟩:Iss) ∈ f.iss) (hl:p.types.length ≤ 1000000) (hs:aT p.body ≤ 1000000) (u:Nat)
  (hu : (kW (eJ (aD p) a) (eT p.types (aD p) f.Af l) (aD p).length).1 = (u : Int)) (hun : u < (aD p).length) (h2 : eJ (aD p) l a ≠ []) (h3 : eJ (aD p) a u ≠ []) :
  PC Tryz.prog 33 [bK p,fS ⟨(a : Int),k,(l : Int)⟩] (fun r => r = .tup [sl cI (eV (y0 (aD p) l) ++ (eV (eJ (aD p) l a)).drop 1 ++ (eV (eJ (aD p) a u)).drop 1),bv true]) := by
 have w := WG.of_valid hv
 have hg := dM p hl hs
 rw [if_pos hv] at hg
 have hi := jR p.types p.body (aD p) w f
 have hc := qE f.iss ⟨(a : Int),k,(l : Int)⟩ (Nat.le_trans (iX w f) (by decide))
 rw [decide_eq_true hx] at hc
 have hua := pA p.types p.body (aD p) f w a l ha hll
 rw [hu,decide_eq_true (by omega)] at hua
 have hb := Ag p.types p.body (aD p) l w (Rch.of p) hll
 have hs1 := iA p.types p.body (aD p) l a w hll ha
 rw [decide_eq_true ((gI w.nx hll a).2 ((jX w.nx hll).1 h2))] at hs1
 have hs2 := iA p.types p.body (aD p) a u w ha hun
 rw [decide_eq_true ((gI w.nx ha u).2 ((jX w.nx ha).1 h3))] at hs2
 have hl1 := iE (x := a) w.nx hll
 have hl2 := iE (x := u) w.nx ha
 have hl0 := uG w.nx w.p0 l
 have hpl := w.pl
 rw [← c6] at hl0 hl1 hl2
 have hp1 : 0 < (eV (eJ (aD p) l a)).length := by rw [c6]; exact List.length_pos_iff.2 h2
 have hp2 : 0 < (eV (eJ (aD p) a u)).length := by rw [c6]; exact List.length_pos_iff.2 h3
 generalize eV (y0 (aD p) l) = A at *
 generalize eV (eJ (aD p) l a) = B at *
 generalize eV (eJ (aD p) a u) = D at *
 have hco := Ik [A,List.take (B.length - Int.toNat 1) (List.drop (Int.toNat 1) B),List.take (D.length - Int.toNat 1) (List.drop (Int.toNat 1) D)] (by simp) (by simp;omega)
 refine aB Tryz.func33 Tryz.ntmps33 ?_
 repeat' (first|(apply aF;first|(apply wY (t := 185);rfl;rfl;rfl;exact (rfl:_=some [_,_,_]);rfl;rfl)|(apply aA (k := 72);rfl;exact hg;exact Pur.pf;rfl)|(apply aA (k := 86);rfl;exact hi;exact Pur.pf;rfl)|(apply aA (k := 85);rfl;exact hc;exact Pur.pf;rfl)|(apply aA (k := 88);rfl;exact hua;exact Pur.pf;rfl)|(apply aA (k := 87);rfl;exact hb;exact Pur.pf;rfl)|(apply aA (k := 89);rfl;exact hs1;exact Pur.pf;rfl)|(apply aA (k := 89);rfl;exact hs2;exact Pur.pf;rfl)|(apply aA (k := 90);rfl;exact hco;exact Pur.pf;rfl))|refine aE ?_|(refine aK ?_ ?_ <;> intro hc hq <;> try (exfalso;omega))|refine bS ?_|fail)
 refine aC rfl ⟨?_,(by exact Pur.pf)⟩
 have eB : List.take (B.length - Int.toNat 1) (List.drop (Int.toNat 1) B) = B.drop 1 := by
  show List.take (B.length - 1) (List.drop 1 B) = _
  exact List.take_of_length_le (by rw [List.length_drop]; omega)
 have eD : List.take (D.length - Int.toNat 1) (List.drop (Int.toNat 1) D) = D.drop 1 := by
  show List.take (D.length - 1) (List.drop 1 D) = _
  exact List.take_of_length_le (by rw [List.length_drop]; omega)
 rw [eB,eD]
 simp [aO]
theorem NG (p:Prg) (f:Flows p.types (aD p)) (a l:Nat) (k:Int) (hk:k ≠ 1) (ha:a < (aD p).length) (hll:l < (aD p).length) (hv:bB p = true) (hx:(⟨(a:Int),k,(l:Int)⟩:Iss) ∈ f.iss) (hl:p.types.length ≤ 1000000) (hs:aT p.body ≤ 1000000)
  (hu : (kW (eJ (aD p) a) (eT p.types (aD p) f.Af l) (aD p).length).1 < 0) :
  PC Tryz.prog 33 [bK p,fS ⟨(a : Int),k,(l : Int)⟩] (fun r => r = .tup [sl cI [],bv false]) := by
 have w := WG.of_valid hv
 have hg := dM p hl hs
 rw [if_pos hv] at hg
 have hi := jR p.types p.body (aD p) w f
 have hc := qE f.iss ⟨(a : Int),k,(l : Int)⟩ (Nat.le_trans (iX w f) (by decide))
 rw [decide_eq_true hx] at hc
 have hua := pA p.types p.body (aD p) f w a l ha hll
 rw [decide_eq_false (by omega : ¬ 0 ≤ (kW (eJ (aD p) a) (eT p.types (aD p) f.Af l) (aD p).length).1)] at hua
 refine aB Tryz.func33 Tryz.ntmps33 ?_
 repeat' (first|(apply aF;first|(apply aA (k := 72);rfl;exact hg;exact Pur.pf;rfl)|(apply aA (k := 86);rfl;exact hi;exact Pur.pf;rfl)|(apply aA (k := 85);rfl;exact hc;exact Pur.pf;rfl)|(apply aA (k := 88);rfl;exact hua;exact Pur.pf;rfl))|refine aE ?_|(refine aK ?_ ?_ <;> intro hc hq <;> try (exfalso;omega))|refine bS ?_|fail)
 (refine aR (Le.nilImm (d := 4) rfl) ?_; refine aC rfl ?_)
 exact ⟨rfl,rfl⟩
theorem Ol (p:Prg) (f:Flows p.types (aD p)) (a l:Nat) (k:Int) (hk:k ≠ 1) (ha:a < (aD p).length) (hll:l < (aD p).length) (hv:bB p = true) (hx:(⟨(a:Int),k,(l:Int)⟩:Iss) ∈ f.iss) (hl:p.types.length ≤ 1000000) (hs:aT p.body ≤ 1000000) (u:Nat)
  (hu : (kW (eJ (aD p) a) (eT p.types (aD p) f.Af l) (aD p).length).1 = (u : Int)) (hun : u < (aD p).length) (h2 : ¬ Wy (aD p) l a) :
  PC Tryz.prog 33 [bK p,fS ⟨(a : Int),k,(l : Int)⟩] (fun r => r = .tup [sl cI [],bv false]) := by
 have w := WG.of_valid hv
 have hg := dM p hl hs
 rw [if_pos hv] at hg
 have hi := jR p.types p.body (aD p) w f
 have hc := qE f.iss ⟨(a : Int),k,(l : Int)⟩ (Nat.le_trans (iX w f) (by decide))
 rw [decide_eq_true hx] at hc
 have hua := pA p.types p.body (aD p) f w a l ha hll
 rw [hu,decide_eq_true (by omega)] at hua
 have hb := Ag p.types p.body (aD p) l w (Rch.of p) hll
 have hs1 := iA p.types p.body (aD p) l a w hll ha
 rw [decide_eq_false (fun h => h2 ((gI w.nx hll a).1 h))] at hs1
 have hs2 := iA p.types p.body (aD p) a u w ha hun
 refine aB Tryz.func33 Tryz.ntmps33 ?_
 repeat' (first|(apply aF;first|(apply aA (k := 72);rfl;exact hg;exact Pur.pf;rfl)|(apply aA (k := 86);rfl;exact hi;exact Pur.pf;rfl)|(apply aA (k := 85);rfl;exact hc;exact Pur.pf;rfl)|(apply aA (k := 88);rfl;exact hua;exact Pur.pf;rfl)|(apply aA (k := 87);rfl;exact hb;exact Pur.pf;rfl)|(apply aA (k := 89);rfl;exact hs1;exact Pur.pf;rfl)|(apply aA (k := 89);rfl;exact hs2;exact Pur.pf;rfl))|refine aE ?_|(refine aK ?_ ?_ <;> intro hc hq <;> try (exfalso;omega))|refine bS ?_|fail)
 (refine aR (Le.nilImm (d := 4) rfl) ?_; refine aC rfl ?_)
 exact ⟨rfl,rfl⟩
theorem EM (p:Prg) (L:List Iss) (x:Iss) (hC:PC Tryz.prog 98 [bK p] (fun r => r = sl gB L)) (hLl:L.length ≤ 1000000) (hx:x ∉ L):PC Tryz.prog 82 [bK p,fS x] (fun r => r = .tup [sl cI [],bv false]):=by
 have hh := nE p L x hC hLl
 rw [decide_eq_false hx] at hh
 refine aB Tryz.func82 Tryz.ntmps82 ?_
 repeat' (first|(apply aF;first|(apply aA (k := 146);rfl;exact hh;exact Pur.pf;rfl)|(apply aJ (t := _);rfl;rfl;rfl;(rfl);rfl;rfl))|refine aE ?_|fail)
 exact aC rfl ⟨rfl,(by (rfl))⟩
theorem NM (p:Prg) (L:List Iss) (a:Nat) (k wi:Int) (hC:PC Tryz.prog 98 [bK p] (fun r => r = sl gB L)) (hLl:L.length ≤ 1000000) (hk:k = 1) (ha:a < (aD p).length) (hv:bB p = true) (hx:(⟨(a:Int),k,wi⟩:Iss) ∈ L) (hs:aT p.body ≤ 1000000) :
  PC Tryz.prog 82 [bK p,fS ⟨(a : Int),k,wi⟩] (fun r => r = .tup [sl cI (eV (y0 (aD p) a)),bv true]) := by
 have w := WG.of_valid hv
 have hh := nE p L ⟨(a : Int),k,wi⟩ hC hLl
 rw [decide_eq_true hx] at hh
 have hp := dE p hs
 have hb := tU p.types (aD p) a w ha
 subst hk
 refine aB Tryz.func82 Tryz.ntmps82 ?_
 repeat' (first|(apply aF;first|(apply aA (k := 146);rfl;exact hh;exact Pur.pf;rfl)|(apply aA (k := 132);rfl;exact hp;exact Pur.pf;rfl)|(apply aA (k := 147);rfl;exact hb;exact Pur.pf;rfl))|refine aE ?_|fail)
 all_goals first|exact aC rfl ⟨rfl,(by exact Pur.pf)⟩
theorem Nh (p:Prg) (f:Flows p.types (aD p)) (L:List Iss) (a l:Nat) (k:Int) (hC:PC Tryz.prog 98 [bK p] (fun r => r = sl gB L)) (hLl:L.length ≤ 1000000) (hk:k ≠ 1) (ha:a < (aD p).length) (hll:l < (aD p).length) (hv:bB p = true) (hx:(⟨(a:Int),k,(l:Int)⟩:Iss) ∈ L) (hl:p.types.length ≤ 1000000) (hs:aT p.body ≤ 1000000) (u:Nat)
  (hu : (kW (eJ (aD p) a) (eT p.types (aD p) f.Af l) (aD p).length).1 = (u : Int)) (hun : u < (aD p).length) (h2 : eJ (aD p) l a ≠ []) (h3 : eJ (aD p) a u ≠ []) :
  PC Tryz.prog 82 [bK p,fS ⟨(a : Int),k,(l : Int)⟩] (fun r => r = .tup [sl cI (eV (y0 (aD p) l) ++ (eV (eJ (aD p) l a)).drop 1 ++ (eV (eJ (aD p) a u)).drop 1),bv true]) := by
 have w := WG.of_valid hv
 have hh := nE p L ⟨(a : Int),k,(l : Int)⟩ hC hLl
 rw [decide_eq_true hx] at hh
 have hp := dE p hs
 have hb := tU p.types (aD p) l w hll
 obtain ⟨F0,hF0⟩ := GoodR.exist (aD p) a
 have hua := lK p a l f F0 hl hs hv ha hll hF0
 rw [hu,if_pos (by omega)] at hua
 have hs1 := lF p.types (aD p) l a w hll ha
 rw [decide_eq_true ((gI w.nx hll a).2 ((jX w.nx hll).1 h2))] at hs1
 have hs2 := lF p.types (aD p) a u w ha hun
 have hl1 := iE (x := a) w.nx hll
 have hl2 := iE (x := u) w.nx ha
 have hl0 := uG w.nx w.p0 l
 have hpl := w.pl
 rw [← c6] at hl0 hl1 hl2
 have hp1 : 0 < (eV (eJ (aD p) l a)).length := by rw [c6]; exact List.length_pos_iff.2 h2
 have hp2 : 0 < (eV (eJ (aD p) a u)).length := by rw [c6]; exact List.length_pos_iff.2 h3
 generalize eV (y0 (aD p) l) = A at *
 generalize eV (eJ (aD p) l a) = B at *
 generalize eV (eJ (aD p) a u) = D at *
 have hj1 := y3 A B (by omega) (by omega) hp1
 have hj2 := y3 (A ++ B.drop 1) D (by rw [List.length_append,List.length_drop]; omega) (by omega) hp2
 refine aB Tryz.func82 Tryz.ntmps82 ?_
 repeat' (first|(apply aF;first|(apply aA (k := 146);rfl;exact hh;exact Pur.pf;rfl)|(apply aA (k := 132);rfl;exact hp;exact Pur.pf;rfl)|(apply aA (k := 147);rfl;exact hb;exact Pur.pf;rfl)|(apply aA (k := 149);rfl;exact hua;exact Pur.pf;rfl)|(apply aA (k := 148);rfl;exact hs1;exact Pur.pf;rfl)|(apply aA (k := 148);rfl;exact hs2;exact Pur.pf;rfl)|(apply aA (k := 150);rfl;exact hj1;exact Pur.pf;rfl)|(apply aA (k := 150);rfl;exact hj2;exact Pur.pf;rfl))|refine aE ?_|(refine aK ?_ ?_ <;> intro hc hq <;> try (exfalso;omega))|fail)
 all_goals first|exact aC rfl ⟨rfl,(by exact Pur.pf)⟩
theorem Ma (p:Prg) (f:Flows p.types (aD p)) (L:List Iss) (a l:Nat) (k:Int) (hC:PC Tryz.prog 98 [bK p] (fun r => r = sl gB L)) (hLl:L.length ≤ 1000000) (hk:k ≠ 1) (ha:a < (aD p).length) (hll:l < (aD p).length) (hv:bB p = true) (hx:(⟨(a:Int),k,(l:Int)⟩:Iss) ∈ L) (hl:p.types.length ≤ 1000000) (hs:aT p.body ≤ 1000000)
  (hu : (kW (eJ (aD p) a) (eT p.types (aD p) f.Af l) (aD p).length).1 < 0) :
  PC Tryz.prog 82 [bK p,fS ⟨(a : Int),k,(l : Int)⟩] (fun r => r = .tup [sl cI [],bv false]) := by
 have w := WG.of_valid hv
 have hh := nE p L ⟨(a : Int),k,(l : Int)⟩ hC hLl
 rw [decide_eq_true hx] at hh
 have hp := dE p hs
 have hb := tU p.types (aD p) l w hll
 obtain ⟨F0,hF0⟩ := GoodR.exist (aD p) a
 have hua := lK p a l f F0 hl hs hv ha hll hF0
 rw [if_neg (by omega)] at hua
 have hs1 := lF p.types (aD p) l a w hll ha
 refine aB Tryz.func82 Tryz.ntmps82 ?_
 repeat' (first|(apply aF;first|(apply aA (k := 146);rfl;exact hh;exact Pur.pf;rfl)|(apply aA (k := 132);rfl;exact hp;exact Pur.pf;rfl)|(apply aA (k := 147);rfl;exact hb;exact Pur.pf;rfl)|(apply aA (k := 149);rfl;exact hua;exact Pur.pf;rfl)|(apply aA (k := 148);rfl;exact hs1;exact Pur.pf;rfl)|(apply aJ (t := _);rfl;rfl;rfl;(rfl);rfl;rfl))|refine aE ?_|(refine aK ?_ ?_ <;> intro hc hq <;> try (exfalso;omega))|(refine bQ ?_ ?_ <;> intro hg hq <;> try (exfalso;omega))|fail)
 all_goals first|exact aC rfl ⟨rfl,(by (rfl))⟩
theorem Oa (p:Prg) (f:Flows p.types (aD p)) (L:List Iss) (a l:Nat) (k:Int) (hC:PC Tryz.prog 98 [bK p] (fun r => r = sl gB L)) (hLl:L.length ≤ 1000000) (hk:k ≠ 1) (ha:a < (aD p).length) (hll:l < (aD p).length) (hv:bB p = true) (hx:(⟨(a:Int),k,(l:Int)⟩:Iss) ∈ L) (hl:p.types.length ≤ 1000000) (hs:aT p.body ≤ 1000000) (u:Nat)
  (hu : (kW (eJ (aD p) a) (eT p.types (aD p) f.Af l) (aD p).length).1 = (u : Int)) (h2 : ¬ Wy (aD p) l a) :
  PC Tryz.prog 82 [bK p,fS ⟨(a : Int),k,(l : Int)⟩] (fun r => r = .tup [sl cI [],bv false]) := by
 have w := WG.of_valid hv
 have hh := nE p L ⟨(a : Int),k,(l : Int)⟩ hC hLl
 rw [decide_eq_true hx] at hh
 have hp := dE p hs
 have hb := tU p.types (aD p) l w hll
 obtain ⟨F0,hF0⟩ := GoodR.exist (aD p) a
 have hua := lK p a l f F0 hl hs hv ha hll hF0
 rw [hu,if_pos (by omega)] at hua
 have hs1 := lF p.types (aD p) l a w hll ha
 rw [decide_eq_false (fun h => h2 ((gI w.nx hll a).1 h))] at hs1
 refine aB Tryz.func82 Tryz.ntmps82 ?_
 repeat' (first|(apply aF;first|(apply aA (k := 146);rfl;exact hh;exact Pur.pf;rfl)|(apply aA (k := 132);rfl;exact hp;exact Pur.pf;rfl)|(apply aA (k := 147);rfl;exact hb;exact Pur.pf;rfl)|(apply aA (k := 149);rfl;exact hua;exact Pur.pf;rfl)|(apply aA (k := 148);rfl;exact hs1;exact Pur.pf;rfl)|(apply aJ (t := _);rfl;rfl;rfl;(rfl);rfl;rfl))|refine aE ?_|(refine aK ?_ ?_ <;> intro hc hq <;> try (exfalso;omega))|fail)
 all_goals first|exact aC rfl ⟨rfl,(by (rfl))⟩
theorem wK {stk:List Tg}{id:Int}(h:0 ≤ b8 stk id):∀ k < (b8 stk id).toNat,stk[k]!.id ≠ id:=by
 unfold b8 at h ⊢
 split
 ·rename_i k hk
  obtain ⟨h1,h2,h3⟩ := List.findIdx?_eq_some_iff_getElem.1 hk
  rw [Int.toNat_natCast]
  intro j hj he
  have := h3 j hj
  rw [aZ _ _ (by omega)] at he
  simp [he] at this
 ·rename_i hk;rw [hk] at h;dsimp only at h;omega
theorem AP {stk:List Tg}{id:Int}{i:Nat}(hi:i < stk.length) (h:stk[i]!.id = id) (hn:∀ k < i,stk[k]!.id ≠ id):b8 stk id = (i:Int):=by
 have hb := dY stk id
 by_cases hneg : b8 stk id < 0
 ·have := nU.1 hneg stk[i]! (by rw [aZ _ _ hi]; exact List.getElem_mem hi)
  exact absurd h this
 ·have ha := EP (stk := stk) (id := id) (by omega)
  have hf := wK (stk := stk) (id := id) (by omega)
  rcases Nat.lt_trichotomy (b8 stk id).toNat i with h1|h1|h1
  ·exact absurd ha (hn _ h1)
  ·omega
  ·exact absurd h (hf _ h1)
theorem EZ (stk:List Tg) (id:Int) (hl:stk.length ≤ 1000000):PC Tryz.prog 284 [sl cG stk,iv id] (fun r => r = iv (b8 stk id)):=by
 refine aB Tryz.func284 Tryz.ntmps284 ?_
 repeat' (first|refine aE ?_|fail)
 refine aH (σ := Nat) [0,1] [] (fun i => [(5,iv (i : Int))]) (fun i => []) (fun i => i ≤ stk.length ∧ (∀ k < i,stk[k]!.id ≠ id)) (fun i => stk.length - i) (0) ⟨Nat.zero_le _,fun k hk => absurd hk (by omega)⟩ ?_
 rintro i ⟨hi,hn⟩
 try dsimp only at hi hn
 repeat' (first|refine aE ?_|(refine aK ?_ ?_ <;> intro hc hq <;> try (exfalso;omega))|fail)
 ·refine aC rfl ⟨?_, rfl⟩
  simp only [aO]; rw [AP (i := i) (by omega) (by assumption) hn]
 ·(refine bC (i + 1) (Le.renA []) ?_ ?_)
  ·refine ⟨by omega, fun k hk => ?_⟩
   rcases Nat.lt_or_ge k i with h|h
   ·exact hn k h
   ·rw [show k = i by omega]; assumption
  ·show stk.length - (i + 1) < stk.length - i;omega
 ·refine aC rfl ⟨?_, rfl⟩
  have := nU (stk := stk) (id := id)
  have hb := dY stk id
  have : b8 stk id < 0 := this.2 (fun t ht => by obtain ⟨k,hk,rfl⟩ := List.getElem_of_mem ht;have := hn k (by omega);rwa [aZ _ _ hk] at this)
  simp only [aO]; rw [show b8 stk id = -1 by omega]
theorem qT (c:Cl):OkC c ↔ (0 ≤ c.val ∧ c.val ≤ 9) ∧ (1 ≤ c.next ∧ c.next ≤ 1000) ∧ (1 ≤ c.stk.length ∧ c.stk.length ≤ 200) ∧ c.stk[0]!.uq = true ∧ (∀ k < c.stk.length,0 ≤ c.stk[k]!.id ∧ c.stk[k]!.id < c.next ∧ b8 c.stk c.stk[k]!.id = (k:Int)):=by
 constructor
 ·intro h
  refine ⟨h.v,h.n,h.l,h.u,fun k hk => ?_⟩
  have h1 := h.i c.stk[k]! (by rw [aZ _ _ hk]; exact List.getElem_mem hk)
  refine ⟨h1.1,h1.2,AP hk rfl (fun j hj he => ?_)⟩
  have hd := List.nodup_iff_pairwise_ne.1 h.d |> List.pairwise_iff_getElem.1
  have := hd j k (by rw [List.length_map]; omega) (by rw [List.length_map]; omega) hj
  simp only [List.getElem_map] at this
  rw [aZ _ _ (by omega),aZ _ _ hk] at he
  exact this he
 ·rintro ⟨h1, h2, h3, h4, h5⟩
  refine ⟨h1,h2,h3,h4,fun t ht => ?_,?_⟩
  ·obtain ⟨k, hk, rfl⟩ := List.getElem_of_mem ht
   have := h5 k hk;rw [aZ _ _ hk] at this
   exact ⟨this.1,this.2.1⟩
  ·rw [List.nodup_iff_pairwise_ne, List.pairwise_iff_getElem]
   intro i j hi hj hij he
   rw [List.length_map] at hi hj
   simp only [List.getElem_map] at he
   have a := (h5 i hi).2.2
   have b := (h5 j hj).2.2
   rw [aZ _ _ hi] at a;rw [aZ _ _ hj,← he,a] at b
   omega
instance (c : Cl) : Decidable (OkC c) := decidable_of_iff _ (qT c).symm
theorem cX (m:List Cl):OkM m ↔ m.length ≤ 200 ∧ ∀ k < m.length,OkC m[k]!:=by
 constructor
 ·exact fun h => ⟨h.l,fun k hk => h.c _ (by rw [aZ _ _ hk]; exact List.getElem_mem hk)⟩
 ·exact fun h => ⟨h.1,fun c hc => by obtain ⟨k,hk,rfl⟩ := List.getElem_of_mem hc;have := h.2 k hk;rwa [aZ _ _ hk] at this⟩
instance (m : List Cl) : Decidable (OkM m) := decidable_of_iff _ (cX m).symm
theorem IM (c:Cl):PC Tryz.prog 282 [SO c] (fun r => r = bv (decide (OkC c))):=by
 refine aB Tryz.func282 Tryz.ntmps282 ?_
 repeat' (first|refine aE ?_|(refine aK ?_ ?_ <;> intro hc hq <;> try (exfalso;omega))|(refine bQ ?_ ?_ <;> intro hg hq <;> try (exfalso;omega))|fail)
 all_goals try (refine aC rfl ⟨?_, rfl⟩; simp only [aO]; rw [show decide (OkC c) = false from decide_eq_false (fun h => by
  obtain ⟨h1,h2,h3,h4,h5⟩ := (qT c).1 h
  first|omega|exact absurd (by assumption : c.stk[Int.toNat 0]!.uq = false) (by rw [show Int.toNat 0 = 0 from rfl,h4]; decide))]; done)
 have hu : c.stk[0]!.uq = true := by assumption
 refine aH (σ := Nat) [1] [0] (fun i => [(3,iv (i : Int))]) (fun i => []) (fun i => i ≤ c.stk.length ∧ (∀ k < i,0 ≤ c.stk[k]!.id ∧ c.stk[k]!.id < c.next ∧ b8 c.stk c.stk[k]!.id = (k : Int))) (fun i => c.stk.length - i) (0) ⟨Nat.zero_le _,fun k hk => absurd hk (by omega)⟩ ?_
 rintro i ⟨hi,hn⟩
 try dsimp only at hi hn
 repeat' (first|(apply aF;(apply aA (k := 284);rfl;exact EZ c.stk c.stk[i]!.id (by omega);exact Pur.pf;rfl))|refine aE ?_|(refine aK ?_ ?_ <;> intro hc hq <;> try (exfalso;omega))|(refine bQ ?_ ?_ <;> intro hg hq <;> try (exfalso;omega))|refine bS ?_|fail)
 all_goals try (refine aC rfl ⟨?_, rfl⟩; simp only [aO]; rw [show decide (OkC c) = false from decide_eq_false (fun h => by
  obtain ⟨h1,h2,h3,h4,h5⟩ := (qT c).1 h
  exact absurd (h5 i (by omega)) (by omega))]; done)
 ·(refine bC (i + 1) (Le.renA [(0, 0)]) ?_ ?_)
  ·refine ⟨by omega, fun k hk => ?_⟩
   rcases Nat.lt_or_ge k i with h|h
   ·exact hn k h
   ·rw [show k = i by omega]; exact ⟨by assumption,by assumption,by assumption⟩
  ·show c.stk.length - (i + 1) < c.stk.length - i;omega
 ·refine aC rfl ⟨?_, rfl⟩
  simp only [aO]
  rw [show decide (OkC c) = true from decide_eq_true ((qT c).2 ⟨by omega,by omega,by omega,hu,fun k hk => hn k (by omega)⟩)]
theorem oN (m:List Cl) (hl:m.length ≤ 1000000):PC Tryz.prog 272 [sl bJ m] (fun r => r = bv (decide (OkM m))):=by
 refine aB Tryz.func272 Tryz.ntmps272 ?_
 repeat' (first|refine aE ?_|fail)
 refine aH (σ := Nat) [0] [] (fun i => [(3,iv (i : Int))]) (fun i => []) (fun i => i ≤ m.length ∧ i ≤ 201 ∧ (∀ k < i,OkC m[k]!)) (fun i => m.length - i) (0) ⟨Nat.zero_le _,by omega,fun k hk => absurd hk (by omega)⟩ ?_
 rintro i ⟨hi,hi2,hn⟩
 try dsimp only at hi hi2 hn
 repeat' (first|(apply aF;(apply aA (k := 282);rfl;exact IM m[i]!;exact Pur.pf;rfl))|refine aE ?_|(refine aK ?_ ?_ <;> intro hc hq <;> try (exfalso;omega))|(refine bQ ?_ ?_ <;> intro hg hq <;> try (exfalso;omega))|fail)
 ·refine aC rfl ⟨?_, rfl⟩
  simp only [aO]; rw [show decide (OkM m) = false from decide_eq_false (fun h => by
   have h1 := ((cX m).1 h).2 i (by omega)
   have h2 : ¬ OkC m[i]! := by assumption
   exact h2 h1)]
 ·(refine bC (i + 1) (Le.renA []) ?_ ?_)
  ·refine ⟨by omega, by omega, fun k hk => ?_⟩
   rcases Nat.lt_or_ge k i with h|h
   ·exact hn k h
   ·rw [show k = i by omega]; assumption
  ·show m.length - (i + 1) < m.length - i;omega
 ·refine aC rfl ⟨?_, rfl⟩
  simp only [aO]
  rw [show decide ((m.length : Int) ≤ 200) = false from decide_eq_false (by omega),show decide (OkM m) = false from decide_eq_false (fun h => by have := h.l;omega)]
 ·refine aC rfl ⟨?_, rfl⟩
  simp only [aO]
  rw [show decide ((m.length : Int) ≤ 200) = decide (OkM m) from decide_eq_decide.2 ⟨fun h => (cX m).2 ⟨by omega,fun k hk => hn k (by omega)⟩,fun h => by have := h.l;omega⟩]
theorem k7 (k:Int):PC Tryz.prog 246 [iv k] (fun r => r = iv (if k = 1 then 3 else if k = 0 then 0 else 4)):=by
 refine aB Tryz.func246 Tryz.ntmps246 ?_
 repeat' (first|refine aE ?_|(refine aK ?_ ?_ <;> intro hc hq <;> try (exfalso;omega))|refine cZ ?_|fail)
 all_goals (refine ⟨?_,rfl⟩; simp only [aO,AV.v.injEq,Value.bool.injEq,Value.int.injEq,true_and])
 all_goals grind
theorem tN (k:Int):PC Tryz.prog 201 [iv k] (fun r => r = iv (eG k)):=by
 refine aB Tryz.func201 Tryz.ntmps201 ?_
 repeat' (first|refine aE ?_|(refine aK ?_ ?_ <;> intro hc hq <;> try (exfalso;omega))|refine cZ ?_|fail)
 all_goals (refine ⟨?_,rfl⟩; simp only [aO,AV.v.injEq,Value.bool.injEq,Value.int.injEq,true_and])
 all_goals grind [eG]
theorem wX {xs:List Tg}{m:Nat}{a:Int}{b:Bool}(hm:m = xs.length):((flat cG xs).drop 0).take (m * 2) ++ [iv a,bv b] = flat cG (xs ++ [⟨a,b⟩]) := fO hm rfl
theorem KW {xs:List Cl}{m:Nat}{a c:Int}{b:Bool}{s:List Tg}(hm:m = xs.length):((flat bJ xs).drop 0).take (m * 4) ++ [iv a,bv b,iv c,sl cG s] = flat bJ (xs ++ [⟨a,b,c,s⟩]) := fO hm rfl
theorem kI {α:Type}[Inhabited α] (l:List α){k i:Nat}(h:k ≤ i) (hi:i < l.length):(l.drop k).take (i + 1 - k) = (l.drop k).take (i - k) ++ [l[i]!]:=by
 have hl : i - k < (l.drop k).length := by rw [List.length_drop]; omega
 have h1 := bE (l.drop k) (i - k) hl
 rw [show i + 1 - k = i - k + 1 by omega,h1]
 congr 2
 rw [aZ (l.drop k) (i - k) hl,List.getElem_drop,aZ l i hi]
 congr 1;omega
theorem rI {α}{p:α → Bool}{a:α}(h:p a = true):[a].filter p = [a] := by simp [h]
theorem nT {α}{p:α → Bool}{a:α}(h:p a = false):[a].filter p = [] := by simp [h]
theorem Jx (stk:List Tg) (k:Nat) (hk:k < stk.length) (hl:stk.length ≤ 1000000):PC Tryz.prog 277 [sl cG stk,iv (k:Int)] (fun r => r = sl cG (eZ stk k false)):=by
 have e1 : List.take (((k : Int) + 1).toNat - 0) (List.drop 0 stk) = stk.take (k + 1) := by rw [List.drop_zero]; congr 1
 have e2 : (stk.take (k + 1)).length = k + 1 := by rw [List.length_take]; omega
 refine aB Tryz.func277 Tryz.ntmps277 ?_
 repeat' (first|(apply aF;(with_reducible apply aY (d := 12)))|refine aE ?_|fail)
 refine bY ?_
 rw [e1]
 repeat' (first|refine aE ?_|fail)
 refine aH (σ := Nat × List Tg × Nat) [0] [] (fun s => [(6,iv (s.1 : Int)),(5,.own 1 0 s.2.2 2)]) (fun s => [(1,some (flat cG s.2.1))]) (fun s => k + 1 ≤ s.1 ∧ s.1 ≤ stk.length ∧ s.2.1 = stk.take (k + 1) ++ ((stk.drop (k + 1)).take (s.1 - (k + 1))).filter (fun t => !t.uq) ∧ s.2.2 = s.2.1.length ∧ s.2.2 ≤ s.1) (fun s => stk.length - s.1) (k + 1,stk.take (k + 1),0 + (stk.take (k + 1)).length) ⟨Nat.le_refl _,by dsimp only;omega,by simp,by dsimp only;omega,by dsimp only;omega⟩ ?_
 rintro ⟨i,xs,n⟩ ⟨hki,hi,hxs,hn,hni⟩
 dsimp only at hki hi hxs hn hni ⊢
 repeat' (first|(apply aF;first|(apply bZ;rfl;rfl;rfl;rfl;rfl;(rw [aI]; omega);(rfl);omega;omega;(exact wX (by (assumption)));rfl;rfl)|(apply aJ (t := _);rfl;rfl;rfl;(exact (rfl:_=some [_,_]));rfl;rfl))|refine aE ?_|(refine aK ?_ ?_ <;> intro hc hq <;> try (exfalso;omega))|fail)
 ·(refine bC (i + 1, _, _) (Le.renA [(1, 3)]) ?_ ?_)
  ·refine ⟨by dsimp only; omega, by dsimp only; omega, ?_, by dsimp only; rw [List.length_append, hn]; rfl, by dsimp only; omega⟩
   dsimp only
   rw [hxs,kI stk hki (by omega),List.filter_append,List.append_assoc]
   congr 2
   have hu : stk[i]!.uq = false := by assumption
   rw [rI (by rw [hu]; rfl)]
  ·dsimp only;omega
 ·(refine bC (i + 1, xs, n) (Le.renA [(1, 1)]) ?_ ?_)
  ·refine ⟨by dsimp only; omega, by dsimp only; omega, ?_, hn, by dsimp only; omega⟩
   dsimp only
   have hu : stk[i]!.uq = true := by assumption
   rw [hxs,kI stk hki (by omega),List.filter_append,nT (by rw [hu]; rfl),List.append_nil]
  ·dsimp only;omega
 ·(refine aR (Le.frzD (d := 4) (i := 1) rfl rfl) ?_; refine aC rfl ?_)
  refine ⟨?_,(by (exact bF _ _))⟩
  have hie : i = stk.length := by omega
  simp only [aO,sl]
  have hd : (stk.drop (k + 1)).take (stk.length - (k + 1)) = stk.drop (k + 1) := List.take_of_length_le (by rw [List.length_drop]; exact Nat.le_refl _)
  rw [hn,hxs,hie,hd]
  rfl
theorem KN (m:List Cl) (hm:OkM m):PC Tryz.prog 273 [sl bJ m] (fun r => r = sl bJ m):=by
 have hml := hm.l
 refine aB Tryz.func273 Tryz.ntmps273 ?_
 repeat' (first|refine aE ?_|fail)
 refine aH (σ := Nat × List Cl) [0] [] (fun k => [(4,iv (k.1 : Int)),(3,.own 0 0 k.1 4)]) (fun k => [(0,some (flat bJ k.2))]) (fun k => k.1 ≤ m.length ∧ k.2 = m.take k.1) (fun k => m.length - k.1) (0,[]) ⟨by omega,rfl⟩ ?_
 rintro ⟨i,xs⟩ ⟨hi,hxs⟩
 dsimp only at hi hxs ⊢
 have hln : xs.length = i := by rw [hxs,List.length_take]; exact Nat.min_eq_left hi
 have hst : i < m.length → m[i]!.stk.length ≤ 200 := fun h => (((cX m).1 hm).2 i h).l.2
 repeat' (first|(apply aF;(with_reducible apply aY (d := 21)))|refine aE ?_|(refine aK ?_ ?_ <;> intro hc hq <;> try (exfalso;omega))|fail)
 ·refine bY (c5 ?_ (Le.frzD (d := 20) (i := 3) rfl rfl))
  rw [Nat.zero_add m[i]!.stk.length]
  repeat' (first|(apply aF;first|(apply bZ;rfl;rfl;rfl;rfl;rfl;(rw [aI]; omega);(rfl);omega;omega;(exact KW (by (omega)));rfl;rfl)|(apply aJ (t := _);rfl;rfl;rfl;(exact (rfl:_=some [_,_,_,_]));rfl;rfl))|refine aE ?_|fail)
  (refine bC (i + 1,_) (Le.renA [(0,5)]) ?_ ?_)
  ·exact ⟨by dsimp only;omega,by dsimp only;rw [hxs,bE m i (by omega)]⟩
  ·dsimp only;omega
 ·(refine aR (Le.frzD (d := 2) (i := 0) rfl rfl) ?_; refine aC rfl ?_)
  refine ⟨?_,(by (exact bF _ _))⟩
  have hie : i = m.length := by omega
  simp only [aO,sl]
  rw [hxs,hie,List.take_length]
theorem Dr {m:List Cl}{x:Pt}{wr:Bool}(h:x.cell < 0 ∨ (m.length:Int) ≤ x.cell):a7 m x wr = 4:=by
 unfold a7;rw [if_pos (by omega)]
theorem Kb {m:List Cl}{x:Pt}{wr:Bool}(h:0 ≤ x.cell) (h2:x.cell < m.length) (h3:m[x.cell.toNat]!.alive = false):a7 m x wr = 1:=by
 unfold a7;rw [if_neg (by omega),if_pos h3]
theorem KT {m:List Cl}{x:Pt}{wr:Bool}(h:0 ≤ x.cell) (h2:x.cell < m.length) (h3:m[x.cell.toNat]!.alive = true) (h4:b8 m[x.cell.toNat]!.stk x.tag < 0):a7 m x wr = 2:=by
 unfold a7;rw [if_neg (by omega),if_neg (by rw [h3]; decide),if_pos h4]
theorem tG {m:List Cl}{x:Pt}(h:0 ≤ x.cell) (h2:x.cell < m.length) (h3:m[x.cell.toNat]!.alive = true) (h4:0 ≤ b8 m[x.cell.toNat]!.stk x.tag):a7 m x false = 0:=by
 unfold a7;rw [if_neg (by omega),if_neg (by rw [h3]; decide),if_neg (by omega),if_neg (by intro q;exact absurd q.1 (by decide))]
theorem zC {m:List Cl}{x:Pt}:a7 m x true = if a7 m x false = 0 then (if m[x.cell.toNat]!.stk[(b8 m[x.cell.toNat]!.stk x.tag).toNat]!.uq = false then 3 else 0) else a7 m x false:=by
 unfold a7
 split
 ·rw [if_neg (by decide)]
 ·split
  ·rw [if_neg (by decide)]
  ·split
   ·rw [if_neg (by decide)]
   ·rw [if_neg (c := false = true ∧ _) (by intro q; exact absurd q.1 (by decide)), if_pos rfl]
    simp only [true_and]
theorem dQ {m:List Cl}{x:Pt}{wr:Bool}(h:a7 m x wr = 0):0 ≤ x.cell ∧ x.cell < m.length ∧ m[x.cell.toNat]!.alive = true ∧ 0 ≤ b8 m[x.cell.toNat]!.stk x.tag ∧ (wr = true → m[x.cell.toNat]!.stk[(b8 m[x.cell.toNat]!.stk x.tag).toNat]!.uq = true):=by
 unfold a7 at h
 split at h
 ·omega
 ·split at h
  ·omega
  ·split at h
   ·omega
   ·split at h
    ·omega
    ·rename_i a b c d
     refine ⟨by omega,by omega,by simpa using b,by omega,fun hw => ?_⟩
     by_cases q : m[x.cell.toNat]!.stk[(b8 m[x.cell.toNat]!.stk x.tag).toNat]!.uq = false
     ·exact absurd ⟨hw,q⟩ d
     ·simpa using q
theorem fD {m:List Cl}{x0:Operand}(ha0:ev (lk tsl) x0 = some (sl bJ m)) (hmc:MC Tryz.prog 273 [sl bJ m] [] 0 (fun _:Unit => True) (fun _ => .own 0 0 m.length 4) (fun _ => [(0,some (flat bJ m))])) (hM:Nat.ble (nidl + 1) a6 = true) (hN:Nat.blt d N = true){md':Md}[hmd:MdA md (fI [x0] ++ []) (List.map Sum.inr (List.map Prod.fst ([(nidl,some (flat bJ m))]:List (Nat × Option (List AV)))) ++ [.inl d]) md'] (kk:RW Tryz.prog N all Q md' rest ⟨(d,.own nidl 0 m.length 4) :: tsl,gE hsl [(nidl,some (flat bJ m))],nidl + 1,z0⟩):RW Tryz.prog N all Q md (⟨some d,.call ⟨.value (.func 273),#[x0],tys⟩,ty,pos,af,none⟩ :: rest) ⟨tsl,hsl,nidl,z0⟩:=by
 exact aX (l := [x0]) [] 1 [(nidl,some (flat bJ m))] hmc (avs := [sl bJ m]) (by simp only [evL,ha0]) rfl hM hN (md' := md') (hmd := hmd) kk
theorem fZ (m:List Cl) (hm:OkM m):MC Tryz.prog 273 [sl bJ m] [] 0 (fun _:Unit => True) (fun _ => .own 0 0 m.length 4) (fun _ => [(0,some (flat bJ m))]):=by
 have hml := hm.l
 refine aW Tryz.func273 Tryz.ntmps273 ?_
 repeat' (first|refine aE ?_|fail)
 refine aH (σ := Nat × List Cl) [0] [] (fun k => [(4,iv (k.1 : Int)),(3,.own 0 0 k.1 4)]) (fun k => [(0,some (flat bJ k.2))]) (fun k => k.1 ≤ m.length ∧ k.2 = m.take k.1) (fun k => m.length - k.1) (0,[]) ⟨by omega,rfl⟩ ?_
 rintro ⟨i,xs⟩ ⟨hi,hxs⟩
 dsimp only at hi hxs ⊢
 have hln : xs.length = i := by rw [hxs,List.length_take]; exact Nat.min_eq_left hi
 have hst : i < m.length → m[i]!.stk.length ≤ 200 := fun h => (((cX m).1 hm).2 i h).l.2
 repeat' (first|(apply aF;(with_reducible apply aY (d := 21)))|refine aE ?_|(refine aK ?_ ?_ <;> intro hc hq <;> try (exfalso;omega))|fail)
 ·refine bY (c5 ?_ (Le.frzD (d := 20) (i := 3) rfl rfl))
  rw [Nat.zero_add m[i]!.stk.length]
  repeat' (first|(apply aF;first|(apply bZ;rfl;rfl;rfl;rfl;rfl;(rw [aI]; omega);(rfl);omega;omega;(exact KW (by (omega)));rfl;rfl)|(apply aJ (t := _);rfl;rfl;rfl;(exact (rfl:_=some [_,_,_,_]));rfl;rfl))|refine aE ?_|fail)
  (refine bC (i + 1,_) (Le.renA [(0,5)]) ?_ ?_)
  ·exact ⟨by dsimp only;omega,by dsimp only;rw [hxs,bE m i (by omega)]⟩
  ·dsimp only;omega
 ·have hie : i = m.length := by omega
  (refine aC rfl ?_; refine aS () trivial ?_ ⟨sE ?_,trivial⟩)
  ·rw [hie]; rfl
  ·rw [hxs,hie,List.take_length]
theorem lH (m:List Cl) (hm:OkM m) (x:Pt):PC Tryz.prog 276 [sl bJ m,n6 x] (fun r => r = .tup [iv (if a7 m x false = 0 then b8 m[x.cell.toNat]!.stk x.tag else 0),iv (a7 m x false)]):=by
 have hml := hm.l
 have hcv := oN m (by omega)
 rw [decide_eq_true hm] at hcv
 have hst : 0 ≤ x.cell → x.cell < m.length → m[x.cell.toNat]!.stk.length ≤ 1000000 := fun h1 h2 => Nat.le_trans (((cX m).1 hm).2 x.cell.toNat (by omega)).l.2 (by decide)
 refine aB Tryz.func276 Tryz.ntmps276 ?_
 repeat' (first|(apply aF;first|(apply aA (k := 272);rfl;exact hcv;exact Pur.pf;rfl)|(apply aA (k := 284);rfl;exact EZ m[x.cell.toNat]!.stk x.tag (hst (by assumption) (by assumption));exact Pur.pf;rfl))|refine aE ?_|(refine aK ?_ ?_ <;> intro hc hq <;> try (exfalso;omega))|(refine bQ ?_ ?_ <;> intro hg hq <;> try (exfalso;omega))|refine bS ?_|fail)
 all_goals (refine aC rfl ⟨?_,rfl⟩; simp only [aO])
 ·rw [Dr (by omega)]; rfl
 ·rw [Kb (by assumption) (by assumption) (by assumption)]; rfl
 ·rw [KT (by assumption) (by assumption) (by assumption) (by assumption)]; rfl
 ·rw [tG (by assumption) (by assumption) (by assumption) (by assumption)]; rfl
 ·rw [Dr (by omega)]; rfl
theorem Dt {xs:List Cl}{k:Nat}{s:List Tg}(hk:k < xs.length):g6 (flat bJ xs) (0 + k * 4 + 3) [sl cG s] = flat bJ (xs.set k { xs[k]! with stk := s }) := eR hk (by simp) rfl
theorem P1 {xs:List Cl}{k:Nat}{v:Int}(hk:k < xs.length):g6 (flat bJ xs) (0 + k * 4 + 0) [iv v] = flat bJ (xs.set k { xs[k]! with val := v }) := eR hk (by simp) rfl
theorem OZ {xs:List Cl}{k:Nat}{b:Bool}(hk:k < xs.length):g6 (flat bJ xs) (0 + k * 4 + 1) [.v (.bool b)] = flat bJ (xs.set k { xs[k]! with alive := b }) := eR hk (by simp) rfl
theorem e5 {α:Type}{f:α → List AV}{xs:List α}{n:Nat}(h:n = xs.length):AV.imm n (flat f xs) = sl f xs := by subst h;rfl
theorem sO (m:List Cl) (hm:OkM m) (x:Pt):PC Tryz.prog 252 [sl bJ m,n6 x] (fun r => r = .tup [sl bJ (cO m x false),iv (oQ m x),iv (a7 m x false)]):=by
 have hml := hm.l
 have hst : 0 ≤ x.cell → x.cell < m.length → m[x.cell.toNat]!.stk.length ≤ 1000000 := fun h1 h2 => Nat.le_trans (((cX m).1 hm).2 x.cell.toNat (by omega)).l.2 (by decide)
 by_cases hk : a7 m x false = 0
 ·have hpl := lH m hm x
  rw [if_pos hk,hk] at hpl
  obtain ⟨h1,h2,h3,h4,_⟩ := dQ hk
  have hbd := dY m[x.cell.toNat]!.stk x.tag
  have hrd := Jx m[x.cell.toNat]!.stk (b8 m[x.cell.toNat]!.stk x.tag).toNat (by omega) (hst h1 h2)
  rw [Int.toNat_of_nonneg h4] at hrd
  refine aB Tryz.func252 Tryz.ntmps252 ?_
  repeat' (first|(apply aF;first|(apply fD;rfl;exact fZ m hm;rfl;rfl)|(apply aA (k := 276);rfl;exact hpl;exact Pur.pf;rfl)|(apply aA (k := 277);rfl;exact hrd;exact Pur.pf;rfl)|(apply bD;rfl;rfl;rfl;rfl;rfl;(rw [aI]; simp only [gA] <;> omega);(exact Dt (by (omega)))))|refine aE ?_|refine bS ?_|fail)
  (refine aR (Le.frzD (d := 4) (i := 1) rfl rfl) ?_; refine aC rfl ?_)
  refine ⟨?_,by exact Pur.pf⟩
  simp only [aO]
  rw [e5 (by rw [List.length_set]),hk]
  unfold cO oQ;rw [if_pos hk,if_pos hk]; rfl
 ·have hpl := lH m hm x
  rw [if_neg hk] at hpl
  refine aB Tryz.func252 Tryz.ntmps252 ?_
  repeat' (first|(apply aF;first|(apply fD;rfl;exact fZ m hm;rfl;rfl)|(apply aA (k := 276);rfl;exact hpl;exact Pur.pf;rfl))|refine aE ?_|(refine aK ?_ ?_ <;> intro hc hq <;> try (exfalso;omega))|fail)
  (refine aR (Le.frzD (d := 4) (i := 1) rfl rfl) ?_; refine aC rfl ?_)
  refine ⟨?_,by exact Pur.pf⟩
  simp only [aO]
  unfold cO oQ;rw [if_neg hk,if_neg hk]
end Go.Proofs.YtahdccneecdmmaaGreat
