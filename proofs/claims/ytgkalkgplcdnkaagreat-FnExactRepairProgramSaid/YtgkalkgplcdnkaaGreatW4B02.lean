/-
 A part of the proofs over this program: rules and contracts of its functions (the contracts).
-/
import Derived.Test.YtgkalkgplcdnkaaGreatW4B01
set_option linter.unusedVariables false
set_option linter.unusedSimpArgs false
set_option maxHeartbeats 8000000
set_option maxRecDepth 4000
attribute [local irreducible] Go.AL.RW Go.AL.AW Go.AL.Stop
namespace Go.Proofs.YtgkalkgplcdnkaaGreat
open Go.AL Go.RowKit
variable {N : Nat} {Q : Exit → AS → Prop} {all : Array Oper} {rest : List Oper} {tsl : List (Nat × AV)} {hsl : List (Nat × Option (List AV))} {nidl : Nat} {z0 : Lo} {md : Md} {d : Nat} {ty : TypeId} {pos : String} {af : Array Edge} {tys : Array TypeId}
theorem CB (n:Nat) (A:List Nat) (i:Int) (hA:A.length = n * 6) (hi:0 ≤ i ∧ i < n):PC Tryz.prog 114 [iv i,.iptr [.imm n (flat cW A)]] (fun r => r = .agg (flat cW (dW A i.toNat))):=by
 have h6 : ((A.drop (i.toNat * 6)).take 6).length = 6 := fA hA (by omega)
 refine aD Tryz.func114 Tryz.ntmps114 ?_
 repeat' (first|refine aB ?_|fail)
 refine aP (l3 (z := 6) rfl rfl h6 (by decide)) ⟨rfl,(by (exact bD _ _))⟩
theorem Hp (ts:List Int) (bd:List AL.Stmt) (pts:List Pnt) (Aa Am Al Af Ap:List Nat) (n:Nat) (w:WG ts pts) (ga:oS ts pts Aa) (gm:oQ ts pts Am) (gl:oU ts pts Al) (gf:oM ts pts Af) (gp:oH ts pts Ap) (hn:n = pts.length) :
  PC Tryz.prog 112 [aG ts bd pts,.imm n (flat cN Al),.clos (.func 114) [] [.iptr [.imm n (flat cW Af)]]] (fun r => r = sl jD (m8 ts pts Aa Am Al Af Ap pts.length)) := by
 subst hn
 have hpl := w.pl
 have htl := w.tl
 have hla := ga.1
 have hlm := gm.1
 have hll := gl.1
 have hlf := gf.1
 have hlp := gp.1
 refine aD Tryz.func112 Tryz.ntmps112 ?_
 repeat' (first|(apply aH;first|(apply cP (d := 10) (e := 3);rfl;rfl)|(first|(apply aA (k := 149);rfl;(apply Gq <;> (assumption));exact Pur.pf;rfl)|(apply aA (k := 101);rfl;(apply Dp <;> (assumption));exact Pur.pf;rfl)|(apply aA (k := 150);rfl;(apply Ez <;> (assumption));exact Pur.pf;rfl)))|refine aB ?_|fail)
 refine aL (σ := Nat × List Iss × Nat) [0,1,2,7,8,9,27,28] [] (fun k => [(29,iv (k.1 : Int)),(10,.own 0 0 k.2.2 3)]) (fun k => [(0,some (flat jD k.2.1))]) (fun k => k.1 ≤ pts.length ∧ k.2.1 = m8 ts pts Aa Am Al Af Ap k.1 ∧ k.2.2 = k.2.1.length ∧ k.2.2 ≤ k.1 * 124) (fun k => pts.length - k.1) (0,[],0) ⟨by omega,rfl,rfl,Nat.le_refl _⟩ ?_
 rintro ⟨i,u,m⟩ ⟨hk,hu,hm,hmk⟩
 dsimp only at hk hu hm hmk ⊢
 by_cases hin : i < pts.length
 ·have hst := w.set i hin
  have hsU : Sm (wS ts pts[i]! [1,2,3]) := dV (by omega)
  have bl : ∀ {A : Nat} {n : Nat}, n ≤ 62 → (∀ v, A.testBit v = true → v < n) → A < 2 ^ n := fun _ hv => Nat.lt_pow_two_of_testBit _ fun v h => by
   cases hq : Nat.testBit _ v with
   | false => rfl
   | true => have := hv v hq;omega
  have hAa : Sm Aa[i]! := ⟨bl (n := 62) (by omega) fun v hv => by have := ((ga.2 i hin v).1 hv).1;omega⟩
  have hAm : Sm Am[i]! := ⟨bl (n := 62) (by omega) fun v hv => by have := FQ w ((gm.2 i hin v).1 hv);dsimp only at this;omega⟩
  have hAl : Al[i]! < 2 ^ ts.length := bl (by omega) fun v hv => by obtain ⟨k,_,h⟩ := (gl.2 i hin v).1 hv;exact rF w h
  have hAl2 : Sm Al[i]! := ⟨Nat.lt_of_lt_of_le hAl (Nat.pow_le_pow_right (by decide) (by omega))⟩
  have hAp : Ap[i]! < 2 ^ pts.length := bl (by omega) fun v hv => (qF ((gp.2 i hin v).1 hv)).1
  have hAp2 : Sm Ap[i]! := ⟨Nat.lt_of_lt_of_le hAp (Nat.pow_le_pow_right (by decide) (by omega))⟩
  have hrl := fA hlf hin
  have hrs : ∀ z : Nat, Sm (dW Af i)[z]! := by
   intro z
   by_cases hz : z < 6
   ·rw [fO hlf hin hz]
    exact ⟨bl (n := 62) (by omega) fun v hv => by have := (Bl w ((gf.2 i z hin hz v).1 hv)).2.2;dsimp only at this;omega⟩
   ·rw [getElem!_neg _ z (by rw [hrl]; exact hz)]; exact ⟨by decide⟩
  have hkp : vL ts pts[(i : Int).toNat]! Al[i]! (dW Af (i : Int).toNat) < 2 ^ pts.length := by
   refine bl (by omega) fun v hv => ?_
   unfold vL at hv
   rw [iM] at hv
   rcases hv with hv | ⟨z,hz,hv⟩
   ·simp at hv
   ·obtain ⟨q, h1, h2, rfl⟩ := eY.1 hz
    rw [cQ,Bool.and_eq_true] at h2
    have h3 := cK hAl h2.1
    have h4 : q < 6 := by omega
    have h5 : (dW Af i)[q]!.testBit v = true := hv
    rw [fO hlf hin h4] at h5
    exact (Bl w ((gf.2 i q hin h4 v).1 h5)).2.2
  have hkp2 : Sm (vL ts pts[(i : Int).toNat]! Al[i]! (dW Af (i : Int).toNat)) := ⟨Nat.lt_of_lt_of_le hkp (Nat.pow_le_pow_right (by decide) (by omega))⟩
  have hlo : vL ts pts[(i : Int).toNat]! Al[i]! (dW Af (i : Int).toNat) &&& Ap[i]! < 2 ^ pts.length := Nat.and_lt_two_pow _ hAp
  have hcf := zP w (Am := Am) (Al := Al) (Af := Af) (i := i) hAp
  have hcf2 : Sm (Ej ts pts Am Al Af Ap i) := ⟨Nat.lt_of_lt_of_le hcf (Nat.pow_le_pow_right (by decide) (by omega))⟩
  have hcf3 : Sm (F7 pts (vL ts pts[(i : Int).toNat]! Al[i]! (dW Af (i : Int).toNat) &&& Ap[i]!) (gK ts pts[(i : Int).toNat]! (Am[i]!.testBit (aU pts[(i : Int).toNat]!).toNat)) 0) := hcf2
  have hb1 := jA (lP (wS ts pts[i]! [1,2,3]) Aa[i]!)
  have hb2 := jA (Ej ts pts Am Al Af Ap i)
  repeat' (first|(apply aH;(first|(apply aA (k := 100);rfl;(apply AB <;> (infer_instance));(rfl);rfl)|(apply aA (k := 116);rfl;(apply DQ <;> (assumption));exact Pur.pf;rfl)))|refine aB ?_|(refine aV ?_ ?_ <;> intro hc hq <;> try (exfalso;omega))|refine dH ?_|fail)
  have hb1b : ∀ j,j < (bF (lP (wS ts pts[i]! [1,2,3]) Aa[i]!)).length → 0 ≤ (bF (lP (wS ts pts[i]! [1,2,3]) Aa[i]!))[j]! := fun j h => (kI (inferInstance : Sm (lP (wS ts pts[i]! [1,2,3]) Aa[i]!)).pf h).1
  refine aL (σ := Nat × List Iss × Nat) [0,1,2,7,8,9,11,27,28,29,42,43] [] (fun j => [(44,iv (j.1 : Int)),(10,.own 0 0 j.2.2 3)]) (fun j => [(0,some (flat jD j.2.1))]) (fun j => j.1 ≤ (bF (lP (wS ts pts[i]! [1,2,3]) Aa[i]!)).length ∧ j.2.1 = u ++ BR i ((bF (lP (wS ts pts[i]! [1,2,3]) Aa[i]!)).take j.1) ∧ j.2.2 = j.2.1.length ∧ j.2.2 ≤ i * 124 + j.1) (fun j => (bF (lP (wS ts pts[i]! [1,2,3]) Aa[i]!)).length - j.1) (0,u,m) ⟨by omega,by simp [BR],hm,by omega⟩ ?_
  rintro ⟨j,u2,m2⟩ ⟨hj,hu2,hm2,hmk2⟩
  dsimp only at hj hu2 hm2 hmk2 ⊢
  by_cases hjn : j < (bF (lP (wS ts pts[i]! [1,2,3]) Aa[i]!)).length
  ·repeat' (first | (apply aH; (apply aW (t := _);rfl;rfl;rfl;(exact (rfl:_=some [_, _, _]));rfl;rfl)) | refine aB ?_ | (refine aV ?_ ?_ <;> intro hc hq <;> try (exfalso; omega))|fail)
   (refine bT (j + 1,_,_) (Le.renA [(0,3)]) ?_ ?_)
   ·dsimp only
    refine ⟨by omega,?_,by simp;omega,by omega⟩
    rw [hu2]; unfold BR;rw [iP _ _ _ hjn,List.append_assoc]
   ·dsimp only;omega
  ·have hu3 : u2 = u ++ BR i (bF (lP (wS ts pts[i]! [1, 2, 3]) Aa[i]!)) := by rw [hu2, List.take_of_length_le (by omega)]
   repeat' (first|(apply aH;first|(first|(apply aA (k := 151);rfl;(apply pZ <;> (assumption));(rfl);rfl)|(apply aA (k := 152);rfl;(apply BP <;> (first|assumption|omega));exact Pur.pf;rfl)|(apply aA (k := 153);rfl;(apply H7 <;> (first|assumption|omega));exact Pur.pf;rfl))|(apply m6;rfl;rfl;infer_instance;rfl;(apply CB <;> (first|assumption|omega));exact Pur.pf;rfl))|refine aB ?_|(refine aV ?_ ?_ <;> intro hc hq <;> try (exfalso;omega))|refine dH ?_|fail)
   generalize hL : bF (F7 pts (vL ts pts[(i : Int).toNat]! Al[i]! (dW Af (i : Int).toNat) &&& Ap[i]!) (gK ts pts[(i : Int).toNat]! (Am[i]!.testBit (aU pts[(i : Int).toNat]!).toNat)) 0) = L2
   have hL2 : bF (Ej ts pts Am Al Af Ap i) = L2 := hL
   have hbd : ∀ j,j < L2.length → 0 ≤ L2[j]! ∧ L2[j]! < pts.length := fun j h => by rw [← hL2] at h ⊢; exact kI hcf h
   rw [hL2] at hb2
   refine aL (σ := Nat × List Iss × Nat) [0,1,2,7,8,9,11,27,28,29,77,78] [] (fun l => [(79,iv (l.1 : Int)),(10,.own 0 0 l.2.2 3)]) (fun l => [(0,some (flat jD l.2.1))]) (fun l => l.1 ≤ L2.length ∧ l.2.1 = u2 ++ Ck pts i (L2.take l.1) ∧ l.2.2 = l.2.1.length ∧ l.2.2 ≤ i * 124 + 62 + l.1) (fun l => L2.length - l.1) (0,u2,m2) ⟨by omega,by simp [Ck],hm2,Nat.le_trans hmk2 (by omega)⟩ ?_
   rintro ⟨l,u4,m4⟩ ⟨hl,hu4,hm4,hmk4⟩
   dsimp only at hl hu4 hm4 hmk4 ⊢
   by_cases hln : l < L2.length
   ·have hbl := hbd l hln
    repeat' (first|(apply aH;(apply aW (t := _);rfl;rfl;rfl;(exact (rfl:_=some [_,_,_]));rfl;rfl))|refine aB ?_|(refine aV ?_ ?_ <;> intro hc hq <;> try (exfalso;omega))|fail)
    ·(refine bT (l + 1, _, _) (Le.renA [(0, 3)]) ?_ ?_)
     ·dsimp only
      refine ⟨by omega,?_,by simp;omega,by omega⟩
      rw [hu4]; unfold Ck;rw [iP _ _ _ hln,List.append_assoc,if_pos hq]
     ·dsimp only;omega
    ·(refine bT (l + 1, _, _) (Le.renA [(0, 3)]) ?_ ?_)
     ·dsimp only
      refine ⟨by omega,?_,by simp;omega,by omega⟩
      rw [hu4]; unfold Ck;rw [iP _ _ _ hln,List.append_assoc,if_neg hq]
     ·dsimp only;omega
   ·repeat' (first | refine aB ?_ | (refine aV ?_ ?_ <;> intro hc hq <;> try (exfalso; omega))|fail)
    (refine bT (i + 1,u4,m4) (Le.renA [(0,0)]) ?_ ?_)
    ·dsimp only
     refine ⟨by omega,?_,hm4,by omega⟩
     rw [k4,hu4,List.take_of_length_le (by omega),hu3,← hL2,hu,List.append_assoc]; rfl
    ·dsimp only;omega
 ·repeat' (first | refine aB ?_ | (refine aV ?_ ?_ <;> intro hc hq <;> try (exfalso; omega))|fail)
  (refine bK (Le.frzD (d := 6) (i := 0) rfl rfl) ?_; refine aP rfl ?_)
  refine ⟨?_,(by (exact bD _ _))⟩
  simp only [aR,sl]
  rw [hm,hu,show i = pts.length by omega]
theorem CX (ts:List Int) (bd:List AL.Stmt) (pts:List Pnt) (w:WG ts pts) (f:Flows ts pts):PC Tryz.prog 68 [aG ts bd pts] (fun r => r = sl jD f.iss):=by
 have hpl := w.pl
 refine aD Tryz.func68 Tryz.ntmps68 ?_
 repeat' (first|(apply aH;first|(apply qD;rfl;rfl;rfl)|(apply aA (k := 111);rfl;exact CY ts bd pts f.Af w f.gf;exact Pur.pf;rfl)|(apply aA (k := 113);rfl;exact xY ts bd pts f.An f.Al w f.gn f.gl;exact Pur.pf;rfl)|(apply aA (k := 112);rfl;exact Hp ts bd pts f.Aa f.Am f.Al f.Af f.Ap _ w f.ga f.gm f.gl f.gf f.gp rfl;exact Pur.pf;rfl))|refine aB ?_|fail)
 refine aP rfl ⟨rfl,(by (exact bD _ _))⟩
theorem sC (p:Prg) (hl:p.types.length ≤ 1048576) (hs:aJ p.body ≤ 1048576):PC Tryz.prog 66 [bW p,.v (.slice none 0 0)] (fun r => r = if bZ p = true then .tup [aG p.types p.body (aE p),bv true] else .tup [.v (.pointer none),bv false]):=by
 have hpl := nD p
 have hnl := iT p.body
 refine aD Tryz.func66 Tryz.ntmps66 ?_
 repeat' (first|(apply aH;(first|(apply aA (k := 45);rfl;(apply kN <;> (first|assumption|omega));exact Pur.pf;rfl)|(apply aA (k := 109);rfl;(apply DM <;> (assumption));exact Pur.pf;rfl)))|refine aB ?_|(refine aV ?_ ?_ <;> intro hc hq <;> try (exfalso;omega))|refine dH ?_|fail)
 ·refine aP rfl ⟨?_, (by (rfl))⟩
  rw [if_neg (by simp [hq])]; rfl
 ·refine aL (σ := Unit) [6, 17, 18] [1] (fun _u => [(19, iv 0)]) (fun _u => []) (fun _u => True) (fun _u => 0) () trivial ?_
  intro _ _
  repeat' (first|refine aB ?_|fail)
  refine bK (Le.frzP (d := 4) (i := 1) rfl rfl) ?_
  refine aP rfl ⟨?_,(by show (AV.tup [aG p.types p.body (aE p),bv true]).pur = true;exact PurV.pf)⟩
  rw [if_pos hq]; rfl
def Dv (p : Prg) (f : Flows p.types (aE p)) : List Iss := if bZ p = true then f.iss else []
theorem Ds (p:Prg) (f:Flows p.types (aE p)) (hl:p.types.length ≤ 1048576) (hs:aJ p.body ≤ 1048576):PC Tryz.prog 93 [bW p] (fun r => r = sl jD (Dv p f)):=by
 unfold Dv
 cases hv : bZ p
 ·refine aD Tryz.func93 Tryz.ntmps93 ?_
  repeat' (first|(apply aH;(apply aA (k := 66);rfl;(exact (by have := sC p hl hs;rw [if_neg (by simp [hv])] at this;exact this));exact Pur.pf;rfl))|refine aB ?_|fail)
  (refine bK (Le.nilImm (d := 2) rfl) ?_; refine aP rfl ?_)
  exact ⟨rfl,rfl⟩
 ·have w := WG.of_valid hv
  refine aD Tryz.func93 Tryz.ntmps93 ?_
  repeat' (first|(apply aH;first|(apply aA (k := 66);rfl;(exact (by have := sC p hl hs;rw [if_pos hv] at this;exact this));exact Pur.pf;rfl)|(apply aA (k := 68);rfl;exact CX p.types p.body (aE p) w f;exact Pur.pf;rfl))|refine aB ?_|fail)
  exact aP rfl ⟨rfl,(by (exact bD _ _))⟩
def Hb (l : List Iss) : Iss × Bool := match l with | [] => (⟨0,0,0⟩,false) | x :: _ => (x,true)
instance : BoT Tryz.prog 4:=⟨by kernel_rfl⟩
theorem mR (x:Pnt):PC Tryz.prog 140 [oB x] (fun r => r = iv (aU x)):=by
 refine aD Tryz.func140 Tryz.ntmps140 ?_
 repeat' (first|refine aB ?_|(refine aV ?_ ?_ <;> intro hc hq <;> try (exfalso;omega))|(refine dB ?_ ?_ <;> intro hg hq <;> try (exfalso;omega))|refine dG ?_|fail)
 all_goals (refine ⟨?_,rfl⟩; simp only [aR,AV.v.injEq,Value.bool.injEq,Value.int.injEq,true_and])
 all_goals grind [aU]
theorem k7 (ts:List Int) (x:Pnt) (v:Int) (h:0 ≤ v ∧ v < ts.length):PC Tryz.prog 139 [sl cI ts,oB x,iv v] (fun r => r = iv (bB ts x v)):=by
 refine aD Tryz.func139 Tryz.ntmps139 ?_
 repeat' (first|refine aB ?_|(refine aV ?_ ?_ <;> intro hc hq <;> try (exfalso;omega))|(refine dB ?_ ?_ <;> intro hg hq <;> try (exfalso;omega))|refine dG ?_|fail)
 all_goals (refine ⟨?_,rfl⟩; simp only [aR,AV.v.injEq,Value.bool.injEq,Value.int.injEq,true_and])
 all_goals grind [bB]
theorem sZ (a b:List Bool) (hab:a.length = b.length) (hl:a.length ≤ 1048576):PC Tryz.prog 98 [sl cB a,sl cB b] (fun r => r = bv (decide (a = b))):=by
 refine aD Tryz.func98 Tryz.ntmps98 ?_
 repeat' (first|refine aB ?_|fail)
 refine aL (σ := Nat) [0,1] [] (fun k => [(5,iv (k : Int))]) (fun k => []) (fun k => k ≤ a.length ∧ ∀ i,i < k → a[i]! = b[i]!) (fun k => a.length - k) (0) ⟨by omega,by omega⟩ ?_
 intro k ⟨hk,hall⟩
 repeat' (first|refine aB ?_|(refine aV ?_ ?_ <;> intro hc hq <;> try (exfalso;omega))|refine dH ?_|refine dG ?_|fail)
 ·refine ⟨?_, (by (rfl))⟩
  simp only [aR]
  have : a ≠ b := fun e => by subst e;exact absurd rfl ‹¬_›
  rw [decide_eq_false this]
 ·(refine bT (k + 1) (Le.renA []) ?_ ?_)
  ·refine ⟨by omega, fun i hi => ?_⟩
   by_cases h : i = k
   ·subst h;assumption
   ·exact hall i (by omega)
  ·try dsimp only
   omega
 ·refine ⟨?_, (by (rfl))⟩
  simp only [aR]
  have : a = b := bJ hab fun i hi => hall i (by omega)
  rw [decide_eq_true this,decide_eq_true (by omega)]
theorem Cn (ts:List Int) (x:Pnt) (b:List Bool) (hb:b.length = ts.length) (hl:ts.length ≤ 6) (hs:aU x < ts.length):PC Tryz.prog 96 [sl cI ts,oB x,sl cB b] (fun r => r = sl cB (iR ts x b)):=by
 refine aD Tryz.func96 Tryz.ntmps96 ?_
 repeat' (first|refine aB ?_|fail)
 refine aL (σ := Nat × List Bool) [0,4,7] [0] (fun k => [(8,iv (k.1 : Int))]) (fun k => [(2,some (flat cB k.2))]) (fun k => k.1 ≤ b.length ∧ k.2.length = b.length ∧ (∀ i,i < b.length → k.2[i]! = if i < k.1 ∧ bB ts x i = 2 then false else b[i]!)) (fun k => b.length - k.1) (0,b) ⟨by omega,rfl,by intro i hi;rw [if_neg (by omega)]⟩ ?_
 rintro ⟨k,u⟩ ⟨hk,hul,hu⟩
 dsimp only at hk hul hu
 try dsimp only
 repeat' (first|(apply aH;(first|(apply aA (k := 139);rfl;(apply k7 <;> (omega));exact Pur.pf;rfl)|(apply aA (k := 140);rfl;(apply mR);exact Pur.pf;rfl)))|refine aB ?_|(refine aV ?_ ?_ <;> intro hc hq <;> try (exfalso;omega))|fail)
 ·(refine bT (k + 1, _) (Le.renA [(2, 2), (0, 0)]) ?_ ?_)
  ·refine ⟨(by show k + 1 ≤ b.length; omega), (by show (u.set k false).length = b.length; simp; omega), fun i hi => ?_⟩
   show (u.set k false)[i]! = if i < k + 1 ∧ _ then _ else _
   rw [aX,hu i hi]; grind
  ·show b.length - (k + 1) < b.length - k;omega
 ·(refine bT (k + 1, _) (Le.renA [(2, 2), (0, 0)]) ?_ ?_)
  ·refine ⟨(by show k + 1 ≤ b.length; omega), hul, fun i hi => ?_⟩
   show u[i]! = if i < k + 1 ∧ _ then _ else _
   rw [hu i hi]; grind
  ·show b.length - (k + 1) < b.length - k;omega
 ·refine bK (Le.frzD (d := 6) (i := 2) rfl rfl) ?_
  refine aP rfl ⟨?_,(by (exact bD _ _))⟩
  have e : u.set (aU x).toNat true = iR ts x b := bJ (by rw [kK]; simp; omega) fun i hi => by
   rw [gW _ _ _ _ (by simp at hi;omega),aX,hu i (by simp at hi;omega)]
   grind
  simp only [aR,e,Nat.zero_add,sl,kK]
 ·refine bK (Le.frzD (d := 6) (i := 2) rfl rfl) ?_
  refine aP rfl ⟨?_,(by (exact bD _ _))⟩
  have e : u = iR ts x b := bJ (by rw [kK]; omega) fun i hi => by
   rw [gW _ _ _ _ (by omega),hu i (by omega)]
   grind
  rw [e]
  simp only [aR,Nat.zero_add,sl,kK]
theorem wP (o a:List Bool) (all:Bool) (ho:o.length = 0 ∨ o.length = a.length) (hl:a.length ≤ 1048576):PC Tryz.prog 97 [sl cB o,sl cB a,bv all] (fun r => r = sl cB (sV o a all)):=by
 refine aD Tryz.func97 Tryz.ntmps97 ?_
 cases all
 ·repeat' (first | refine aB ?_|fail)
  refine aL (σ := Nat × List Bool) [0,1,2,7] [] (fun k => [(8,iv (k.1 : Int))]) (fun k => [(1,some (flat cB k.2))]) (fun k => k.1 ≤ o.length ∧ k.2.length = a.length ∧ (∀ i,i < a.length → k.2[i]! = if i < k.1 then o[i]! || a[i]! else a[i]!)) (fun k => o.length - k.1) (0,a) ⟨by omega,rfl,by intro i hi;rw [if_neg (by omega)]⟩ ?_
  rintro ⟨k,u⟩ ⟨hk,hul,hu⟩
  dsimp only at hk hul hu
  try dsimp only
  repeat' (first|refine aB ?_|(refine aV ?_ ?_ <;> intro hc hq <;> try (exfalso;omega))|(refine dB ?_ ?_ <;> intro hg hq <;> try (exfalso;omega))|fail)
  ·(refine bT (k + 1, _) (Le.renA [(1, 1)]) ?_ ?_)
   ·refine ⟨(by show k + 1 ≤ o.length; omega), (by show (u.set k a[k]!).length = a.length; simp; omega), fun i hi => ?_⟩
    show (u.set k a[k]!)[i]! = if i < k + 1 then _ else _
    rw [aX,hu i hi]; grind
   ·show o.length - (k + 1) < o.length - k;omega
  ·(refine bT (k + 1, _) (Le.renA [(1, 1)]) ?_ ?_)
   ·refine ⟨(by show k + 1 ≤ o.length; omega), (by show (u.set k true).length = a.length; simp; omega), fun i hi => ?_⟩
    show (u.set k true)[i]! = if i < k + 1 then _ else _
    rw [aX,hu i hi]; grind
   ·show o.length - (k + 1) < o.length - k;omega
  ·refine bK (Le.frzD (d := 6) (i := 1) rfl rfl) ?_
   refine aP rfl ⟨?_,(by (exact bD _ _))⟩
   have e : u = sV o a false := bJ (by rw [k9]; omega) fun i hi => by
    rw [uZ _ _ _ _ (by omega),hu i (by omega)]
    grind
   rw [e]
   simp only [aR,Nat.zero_add,sl,k9]
 ·repeat' (first | refine aB ?_|fail)
  refine aL (σ := Nat × List Bool) [0,1,2,7] [] (fun k => [(8,iv (k.1 : Int))]) (fun k => [(1,some (flat cB k.2))]) (fun k => k.1 ≤ o.length ∧ k.2.length = a.length ∧ (∀ i,i < a.length → k.2[i]! = if i < k.1 then o[i]! && a[i]! else a[i]!)) (fun k => o.length - k.1) (0,a) ⟨by omega,rfl,by intro i hi;rw [if_neg (by omega)]⟩ ?_
  rintro ⟨k,u⟩ ⟨hk,hul,hu⟩
  dsimp only at hk hul hu
  try dsimp only
  repeat' (first|refine aB ?_|(refine aV ?_ ?_ <;> intro hc hq <;> try (exfalso;omega))|(refine dB ?_ ?_ <;> intro hg hq <;> try (exfalso;omega))|fail)
  ·(refine bT (k + 1, _) (Le.renA [(1, 1)]) ?_ ?_)
   ·refine ⟨(by show k + 1 ≤ o.length; omega), (by show (u.set k a[k]!).length = a.length; simp; omega), fun i hi => ?_⟩
    show (u.set k a[k]!)[i]! = if i < k + 1 then _ else _
    rw [aX,hu i hi]; grind
   ·show o.length - (k + 1) < o.length - k;omega
  ·(refine bT (k + 1, _) (Le.renA [(1, 1)]) ?_ ?_)
   ·refine ⟨(by show k + 1 ≤ o.length; omega), (by show (u.set k false).length = a.length; simp; omega), fun i hi => ?_⟩
    show (u.set k false)[i]! = if i < k + 1 then _ else _
    rw [aX,hu i hi]; grind
   ·show o.length - (k + 1) < o.length - k;omega
  ·refine bK (Le.frzD (d := 6) (i := 1) rfl rfl) ?_
   refine aP rfl ⟨?_,(by (exact bD _ _))⟩
   have e : u = sV o a true := bJ (by rw [k9]; omega) fun i hi => by
    rw [uZ _ _ _ _ (by omega),hu i (by omega)]
    grind
   rw [e]
   simp only [aR,Nat.zero_add,sl,k9]
theorem oF (p:Prg) (all:Bool) (A:List Nat) (hs:aJ p.body ≤ 1048576) (w:WG p.types (aE p)) (hr:Rch (aE p)) (hA:pL p.types (aE p) all A):PC Tryz.prog 53 [bW p,bv all] (fun r => r = sl fW (dI p.types.length (aE p).length A)):=by
 have hpl := w.pl
 have hp0 := w.p0
 have htl := w.tl
 have hini := HS w all
 refine aD Tryz.func53 Tryz.ntmps53 ?_
 repeat' (first|(apply aH;first|(apply aA (k := 27);rfl;exact jJ p hs;exact Pur.pf;rfl)|(with_reducible apply dX (d := 22)))|refine aB ?_|fail)
 refine iK (gF ?_ (Le.nilRows (i := 0 + 1) rfl))
 repeat' (first|(apply aH;(apply IB (d := 26);rfl;rfl;omega;omega;rfl;rfl))|refine aB ?_|fail)
 refine aL (σ := Fw × Nat) [1,2,5,6,7] [0] (fun s => [(8,.own 4 0 s.2 1)]) (fun s => [(1,some (flat fW s.1.out)),(2,some (flat cB s.1.seen)),(4,some (flat cI s.1.work))]) (fun s => FI p.types (aE p) all s.1 ∧ FC p.types (aE p) all (fun _ => False) s.1 ∧ s.2 = s.1.work.length ∧ kX all p.types.length (aE p).length s.1 ≤ 10000) (fun s => kX all p.types.length (aE p).length s.1) (⟨(List.replicate (aE p).length []).set 0 (List.replicate p.types.length false),(List.replicate (aE p).length false).set 0 true,[0]⟩,1) ⟨hini.1,hini.2,rfl,by have := He all p.types.length (aE p).length ⟨(List.replicate (aE p).length []).set 0 (List.replicate p.types.length false),(List.replicate (aE p).length false).set 0 true,[0]⟩ htl hpl;simp only [List.length_singleton] at this;show kX all p.types.length (aE p).length ⟨(List.replicate (aE p).length []).set 0 (List.replicate p.types.length false),(List.replicate (aE p).length false).set 0 true,[0]⟩ ≤ 10000;omega⟩ ?_
 rintro ⟨⟨out,seen,work⟩,m⟩ ⟨hI,hC,hm,hmb⟩
 dsimp only at hI hC hm hmb
 have hlo := hI.lo
 have hls := hI.ls
 dsimp only at hlo hls
 cases work with
 | nil =>
  simp only [List.length_nil] at hm
  subst hm
  try dsimp only
  repeat' (first|refine aB ?_|fail)
  refine bK (Le.frzD (d := 4) (i := 1) rfl rfl) ?_
  refine aP rfl ⟨?_,(by (exact bD _ _))⟩
  have e : out = dI p.types.length (aE p).length A := El w hr hA hI hC rfl
  rw [e]
  simp only [aR,Nat.zero_add,sl,fM]
 | cons a q =>
  simp only [List.length_cons] at hm
  try dsimp only
  have hwa := hI.w a (List.mem_cons_self)
  have hon := hI.a a.toNat (by omega) hwa.2.2
  dsimp only at hwa hon
  have hset := (w.set a.toNat (by omega)).1
  repeat' (first|(apply aH;first|(with_reducible apply dX (d := 8))|(apply yU;rfl;rfl;omega;rfl))|refine aB ?_|(refine aV ?_ ?_ <;> intro hc hq <;> try (exfalso;omega))|fail)
  refine iK (gF ?_ (Le.mvO (d := 38) (i := 4) rfl rfl (by simp [aI]) (by decide)))
  have hmw := BC all p.types.length (aE p).length ⟨out,seen,a :: q⟩
  simp only [List.length_cons] at hmw
  have hpop := Ir hI hC
  have hT := J1 hI hwa.2.2
  dsimp only at hT
  have hal : (iR p.types (aE p)[a.toNat]! out[a.toNat]!).length = p.types.length := by rw [kK]; exact hon
  repeat' (first|(apply aH;(apply aA (k := 96);rfl;(apply Cn <;> (assumption));exact Pur.pf;rfl))|refine aB ?_|refine dH ?_|fail)
  refine aL (σ := Nat × Fw × Nat) [1,2,5,6,7,9,10] [0] (fun k => [(11,iv (k.1 : Int)),(8,.own 5 0 k.2.2 1)]) (fun k => [(1,some (flat fW k.2.1.out)),(2,some (flat cB k.2.1.seen)),(5,some (flat cI k.2.1.work))]) (fun k => k.1 ≤ (aE p)[a.toNat]!.next.length ∧ FIn p.types (aE p) all a.toNat (iR p.types (aE p)[a.toNat]! out[a.toNat]!) (kX all p.types.length (aE p).length ⟨out,seen,a :: q⟩ - 1) k.1 k.2.1 ∧ k.2.2 = k.2.1.work.length) (fun k => (aE p)[a.toNat]!.next.length - k.1) (0,⟨out,seen,q⟩,m - 1) ⟨by omega,hpop,by show m - 1 = q.length;omega⟩ ?_
  rintro ⟨k,⟨o2,s2,w2⟩,m2⟩ ⟨hk,hF,hm2⟩
  dsimp only at hk hF hm2
  try dsimp only
  have hnl := w.nl a.toNat (by omega)
  have hlo2 := hF.I.lo
  have hls2 := hF.I.ls
  have hmu2 := hF.mu
  have hmw2 := BC all p.types.length (aE p).length ⟨o2,s2,w2⟩
  dsimp only at hlo2 hls2 hmw2
  by_cases hkn : k < (aE p)[a.toNat]!.next.length
  ·have hz := w.nx a.toNat (by omega) _ (bU _ _ hkn)
   have hst := hF.step w (by omega) hkn hal hT
   by_cases hsn : s2[((aE p)[a.toNat]!.next[k]!).toNat]! = true
   ·have hol := hF.I.a _ (by omega) hsn
    dsimp only at hol
    have hab : (o2[((aE p)[a.toNat]!.next[k]!).toNat]!).length = (sV o2[((aE p)[a.toNat]!.next[k]!).toNat]! (iR p.types (aE p)[a.toNat]! out[a.toNat]!) all).length := by rw [k9]; omega
    have ho : (o2[((aE p)[a.toNat]!.next[k]!).toNat]!).length = 0 ∨ (o2[((aE p)[a.toNat]!.next[k]!).toNat]!).length = (iR p.types (aE p)[a.toNat]! out[a.toNat]!).length := .inr (by omega)
    repeat' (first|(apply aH;first|(apply aW (t := _);rfl;rfl;rfl;exact (rfl:_=some [_]);rfl;rfl)|(first|(apply aA (k := 97);rfl;(apply wP <;> (first|assumption|omega));exact Pur.pf;rfl)|(apply aA (k := 98);rfl;(apply sZ <;> (first|assumption|omega));exact Pur.pf;rfl)))|refine aB ?_|(refine aV ?_ ?_ <;> intro hc hq <;> try (exfalso;omega))|(refine dB ?_ ?_ <;> intro hg hq <;> try (exfalso;omega))|fail)
    all_goals try exact absurd (hsn.symm.trans (by assumption : s2[((aE p)[a.toNat]!.next[k]!).toNat]! = false)) (by decide)
    ·have e9 : F6 all (iR p.types (aE p)[a.toNat]! out[a.toNat]!) ⟨o2, s2, w2⟩ ((aE p)[a.toNat]!.next[k]!).toNat = ⟨o2.set ((aE p)[a.toNat]!.next[k]!).toNat (sV o2[((aE p)[a.toNat]!.next[k]!).toNat]! (iR p.types (aE p)[a.toNat]! out[a.toNat]!) all), s2.set ((aE p)[a.toNat]!.next[k]!).toNat true, w2 ++ [((aE p)[a.toNat]!.next[k]!)]⟩ := by
      unfold F6
      rw [if_neg (fun h => absurd h.2 ‹_›),Int.toNat_of_nonneg hz.1]
     rw [e9] at hst
     (refine bT (k + 1,⟨_,_,_⟩,_) (Le.renA [(0,0),(1,1),(2,2),(5,7)]) ?_ ?_)
     ·exact ⟨(by show k + 1 ≤ (aE p)[a.toNat]!.next.length;omega),hst,(by show m2 + 1 = (w2 ++ [((aE p)[a.toNat]!.next[k]!)]).length;rw [List.length_append,List.length_singleton]; omega)⟩
     ·show (aE p)[a.toNat]!.next.length - (k + 1) < (aE p)[a.toNat]!.next.length - k;omega
    ·have e9 : F6 all (iR p.types (aE p)[a.toNat]! out[a.toNat]!) ⟨o2, s2, w2⟩ ((aE p)[a.toNat]!.next[k]!).toNat = ⟨o2, s2, w2⟩ := by
      unfold F6
      rw [if_pos ⟨hsn,‹_›⟩]
     rw [e9] at hst
     (refine bT (k + 1,⟨o2,s2,w2⟩,m2) (Le.renA [(0,0),(1,1),(2,2),(5,5)]) ?_ ?_)
     ·exact ⟨(by show k + 1 ≤ (aE p)[a.toNat]!.next.length;omega),hst,hm2⟩
     ·show (aE p)[a.toNat]!.next.length - (k + 1) < (aE p)[a.toNat]!.next.length - k;omega
   ·rw [Bool.not_eq_true] at hsn
    have hol := hF.I.b _ (by omega) hsn
    dsimp only at hol
    have ho : (o2[((aE p)[a.toNat]!.next[k]!).toNat]!).length = 0 ∨ (o2[((aE p)[a.toNat]!.next[k]!).toNat]!).length = (iR p.types (aE p)[a.toNat]! out[a.toNat]!).length := .inl (by rw [hol]; rfl)
    repeat' (first|(apply aH;first|(apply aW (t := _);rfl;rfl;rfl;exact (rfl:_=some [_]);rfl;rfl)|(first|(apply aA (k := 97);rfl;(apply wP <;> (first|assumption|omega));exact Pur.pf;rfl)|(apply aA (k := 98);rfl;(apply sZ <;> (first|omega|grind));exact Pur.pf;rfl)))|refine aB ?_|(refine aV ?_ ?_ <;> intro hc hq <;> try (exfalso;omega))|(refine dB ?_ ?_ <;> intro hg hq <;> try (exfalso;omega))|fail)
    all_goals try exact absurd (hsn.symm.trans (by assumption : s2[((aE p)[a.toNat]!.next[k]!).toNat]! = true)) (by decide)
    ·have e9 : F6 all (iR p.types (aE p)[a.toNat]! out[a.toNat]!) ⟨o2, s2, w2⟩ ((aE p)[a.toNat]!.next[k]!).toNat = ⟨o2.set ((aE p)[a.toNat]!.next[k]!).toNat (sV o2[((aE p)[a.toNat]!.next[k]!).toNat]! (iR p.types (aE p)[a.toNat]! out[a.toNat]!) all), s2.set ((aE p)[a.toNat]!.next[k]!).toNat true, w2 ++ [((aE p)[a.toNat]!.next[k]!)]⟩ := by
      unfold F6
      rw [if_neg (fun h => by rw [hsn] at h;cases h.1),Int.toNat_of_nonneg hz.1]
     rw [e9] at hst
     (refine bT (k + 1,⟨_,_,_⟩,_) (Le.renA [(0,0),(1,1),(2,2),(5,7)]) ?_ ?_)
     ·exact ⟨(by show k + 1 ≤ (aE p)[a.toNat]!.next.length;omega),hst,(by show m2 + 1 = (w2 ++ [((aE p)[a.toNat]!.next[k]!)]).length;rw [List.length_append,List.length_singleton]; omega)⟩
     ·show (aE p)[a.toNat]!.next.length - (k + 1) < (aE p)[a.toNat]!.next.length - k;omega
  ·repeat' (first | refine aB ?_ | (refine aV ?_ ?_ <;> intro hc hq <;> try (exfalso; omega))|fail)
   (refine bT (⟨o2,s2,w2⟩,m2) (Le.renA [(0,0),(1,1),(2,2),(4,5)]) ?_ ?_)
   ·exact ⟨hF.I,hF.out (by omega),hm2,(by show kX all p.types.length (aE p).length ⟨o2,s2,w2⟩ ≤ 10000;omega)⟩
   ·show kX all p.types.length (aE p).length ⟨o2,s2,w2⟩ < kX all p.types.length (aE p).length ⟨out,seen,a :: q⟩; omega
theorem uS (ts:List Int) (x:Pnt) (mb:List Bool) (htl:ts.length ≤ 6) (hmb:mb.length = ts.length) (hst:aU x < ts.length) (hy:0 ≤ x.y ∧ (3 ≤ x.op → x.op ≤ 7 → x.y < ts.length)):PC Tryz.prog 171 [sl cI ts,oB x,sl cB mb] (fun r => r = sl B0 (gK ts x mb[(aU x).toNat]!)):=by
 have hu : x.op = 3 → (bB ts x x.y = 2 ↔ IV ts[x.y.toNat]! = true) := by
  intro h
  unfold bB IV;rw [if_pos h,if_pos rfl]; grind
 refine aD Tryz.func171 Tryz.ntmps171 ?_
 repeat' (first|(apply aH;(first|(apply aA (k := 139);rfl;(apply k7 <;> (omega));exact Pur.pf;rfl)|(apply aA (k := 140);rfl;(apply mR);exact Pur.pf;rfl)))|refine aB ?_|(refine aV ?_ ?_ <;> intro hc hq <;> try (exfalso;omega))|(refine dB ?_ ?_ <;> intro hg hq <;> try (exfalso;omega))|fail)
 all_goals first|refine bK (Le.frzD (d := 6) (i := 1) rfl rfl) ?_|refine bK (Le.frzD (d := 6) (i := 3) rfl rfl) ?_|refine bK (Le.frzD (d := 6) (i := 5) rfl rfl) ?_
 all_goals refine aP rfl ⟨?_,(by (rfl))⟩
 all_goals simp only [aR,gK]
 all_goals (repeat' split)
 all_goals first|rfl|(exfalso;grind)
theorem rI (pts:List Pnt) (acs:List Acc) (fr:List (List Bool)) (pl lv:List Bool) (hpl:pts.length ≤ 61) (hac:acs.length ≤ 6) (h1:pl.length = pts.length) (h2:lv.length = pts.length):PC Tryz.prog 172 [sl b9 pts,sl B0 acs,.agg [sl fW fr,sl cB pl],sl cB lv] (fun r => r = sl cB (Jq pts acs pl lv)):=by
 refine aD Tryz.func172 Tryz.ntmps172 ?_
 repeat' (first|refine aB ?_|fail)
 refine aL (σ := Nat × List Bool) [0,1,3,6,9] [0] (fun k => [(10,iv (k.1 : Int))]) (fun k => [(1,some (flat cB k.2))]) (fun k => k.1 ≤ pts.length ∧ k.2.length = pts.length ∧ (∀ l,l < pts.length → k.2[l]! = if l < k.1 then acs.any (F9 pts pl lv l) else false)) (fun k => pts.length - k.1) (0,List.replicate pts.length false) ⟨by omega,by simp,fun l hl => by rw [if_neg (by omega),dA _ _ _ hl]⟩ ?_
 rintro ⟨i,u⟩ ⟨hi,hul,hu⟩
 dsimp only at hi hul hu
 try dsimp only
 repeat' (first|refine aB ?_|(refine aV ?_ ?_ <;> intro hc hq <;> try (exfalso;omega))|fail)
 ·have hin : i < pts.length := by omega
  refine aL (σ := Nat × List Bool) [0,1,3,6,9,10] [0] (fun k => [(11,iv (k.1 : Int))]) (fun k => [(1,some (flat cB k.2))]) (fun k => k.1 ≤ acs.length ∧ k.2.length = pts.length ∧ (∀ l,l < pts.length → k.2[l]! = if l < i then acs.any (F9 pts pl lv l) else if l = i then (acs.take k.1).any (F9 pts pl lv l) else false)) (fun k => acs.length - k.1) (0,u) ⟨by omega,hul,fun l hl => by rw [hu l hl]; simp⟩ ?_
  rintro ⟨j,s⟩ ⟨hj,hsl,hs⟩
  dsimp only at hj hsl hs
  try dsimp only
  have hsi : s[i]! = (acs.take j).any (F9 pts pl lv i) := by rw [hs i hin]; simp
  have hst := fun h : j < acs.length => EM (F9 pts pl lv i) acs j h
  have hcg : F9 pts pl lv i acs[j]! = (lv[i]! && pl[i]! && decide (pts[i]!.y = acs[j]!.var) && (acs[j]!.write || decide (pts[i]!.op = 5))) := rfl
  repeat' (first|refine aB ?_|(refine aV ?_ ?_ <;> intro hc hq <;> try (exfalso;omega))|(refine dB ?_ ?_ <;> intro hg hq <;> try (exfalso;omega))|refine dH ?_|fail)
  ·(refine bT (j + 1, _) (Le.renA [(0, 0), (1, 1)]) ?_ ?_)
   ·refine ⟨(by show j + 1 ≤ acs.length; omega), (by show (s.set i _).length = pts.length; rw [List.length_set]; exact hsl), fun l hl => ?_⟩
    show (s.set i _)[l]! = if l < i then _ else if l = i then (acs.take (j + 1)).any _ else false
    by_cases e : l = i
    ·rw [e, hst (by omega), hcg, aX, if_pos ⟨rfl, by omega⟩, if_neg (Nat.lt_irrefl _), if_pos rfl, ← hsi]
     clear hs hu hst hsi hcg
     grind
    ·rw [aX,if_neg (fun h => e h.1.symm),hs l hl,if_neg e,if_neg e]
   ·show acs.length - (j + 1) < acs.length - j;omega
  ·(refine bT (j + 1, _) (Le.renA [(0, 0), (1, 1)]) ?_ ?_)
   ·refine ⟨(by show j + 1 ≤ acs.length; omega), (by show (s.set i _).length = pts.length; rw [List.length_set]; exact hsl), fun l hl => ?_⟩
    show (s.set i _)[l]! = if l < i then _ else if l = i then (acs.take (j + 1)).any _ else false
    by_cases e : l = i
    ·rw [e, hst (by omega), hcg, aX, if_pos ⟨rfl, by omega⟩, if_neg (Nat.lt_irrefl _), if_pos rfl, ← hsi]
     clear hs hu hst hsi hcg
     grind
    ·rw [aX,if_neg (fun h => e h.1.symm),hs l hl,if_neg e,if_neg e]
   ·show acs.length - (j + 1) < acs.length - j;omega
  ·(refine bT (j + 1, _) (Le.renA [(0, 0), (1, 1)]) ?_ ?_)
   ·refine ⟨(by show j + 1 ≤ acs.length; omega), (by show (s.set i _).length = pts.length; rw [List.length_set]; exact hsl), fun l hl => ?_⟩
    show (s.set i _)[l]! = if l < i then _ else if l = i then (acs.take (j + 1)).any _ else false
    by_cases e : l = i
    ·rw [e, hst (by omega), hcg, aX, if_pos ⟨rfl, by omega⟩, if_neg (Nat.lt_irrefl _), if_pos rfl, ← hsi]
     clear hs hu hst hsi hcg
     grind
    ·rw [aX,if_neg (fun h => e h.1.symm),hs l hl,if_neg e,if_neg e]
   ·show acs.length - (j + 1) < acs.length - j;omega
  ·(refine bT (j + 1, _) (Le.renA [(0, 0), (1, 1)]) ?_ ?_)
   ·refine ⟨(by show j + 1 ≤ acs.length; omega), (by show (s.set i _).length = pts.length; rw [List.length_set]; exact hsl), fun l hl => ?_⟩
    show (s.set i _)[l]! = if l < i then _ else if l = i then (acs.take (j + 1)).any _ else false
    by_cases e : l = i
    ·rw [e, hst (by omega), hcg, aX, if_pos ⟨rfl, by omega⟩, if_neg (Nat.lt_irrefl _), if_pos rfl, ← hsi]
     clear hs hu hst hsi hcg
     grind
    ·rw [aX,if_neg (fun h => e h.1.symm),hs l hl,if_neg e,if_neg e]
   ·show acs.length - (j + 1) < acs.length - j;omega
  ·(refine bT (j + 1, _) (Le.renA [(0, 0), (1, 1)]) ?_ ?_)
   ·refine ⟨(by show j + 1 ≤ acs.length; omega), (by show (s.set i _).length = pts.length; rw [List.length_set]; exact hsl), fun l hl => ?_⟩
    show (s.set i _)[l]! = if l < i then _ else if l = i then (acs.take (j + 1)).any _ else false
    by_cases e : l = i
    ·rw [e, hst (by omega), hcg, aX, if_pos ⟨rfl, by omega⟩, if_neg (Nat.lt_irrefl _), if_pos rfl, ← hsi]
     clear hs hu hst hsi hcg
     grind
    ·rw [aX,if_neg (fun h => e h.1.symm),hs l hl,if_neg e,if_neg e]
   ·show acs.length - (j + 1) < acs.length - j;omega
  ·(refine bT (j + 1, _) (Le.renA [(0, 0), (1, 1)]) ?_ ?_)
   ·refine ⟨(by show j + 1 ≤ acs.length; omega), (by show (s.set i _).length = pts.length; rw [List.length_set]; exact hsl), fun l hl => ?_⟩
    show (s.set i _)[l]! = if l < i then _ else if l = i then (acs.take (j + 1)).any _ else false
    by_cases e : l = i
    ·rw [e, hst (by omega), hcg, aX, if_pos ⟨rfl, by omega⟩, if_neg (Nat.lt_irrefl _), if_pos rfl, ← hsi]
     clear hs hu hst hsi hcg
     grind
    ·rw [aX,if_neg (fun h => e h.1.symm),hs l hl,if_neg e,if_neg e]
   ·show acs.length - (j + 1) < acs.length - j;omega
  ·(refine bT (j + 1, _) (Le.renA [(0, 0), (1, 1)]) ?_ ?_)
   ·refine ⟨(by show j + 1 ≤ acs.length; omega), (by show (s.set i _).length = pts.length; rw [List.length_set]; exact hsl), fun l hl => ?_⟩
    show (s.set i _)[l]! = if l < i then _ else if l = i then (acs.take (j + 1)).any _ else false
    by_cases e : l = i
    ·rw [e, hst (by omega), hcg, aX, if_pos ⟨rfl, by omega⟩, if_neg (Nat.lt_irrefl _), if_pos rfl, ← hsi]
     clear hs hu hst hsi hcg
     grind
    ·rw [aX,if_neg (fun h => e h.1.symm),hs l hl,if_neg e,if_neg e]
   ·show acs.length - (j + 1) < acs.length - j;omega
  ·(refine bT (j + 1, _) (Le.renA [(0, 0), (1, 1)]) ?_ ?_)
   ·refine ⟨(by show j + 1 ≤ acs.length; omega), (by show (s.set i _).length = pts.length; rw [List.length_set]; exact hsl), fun l hl => ?_⟩
    show (s.set i _)[l]! = if l < i then _ else if l = i then (acs.take (j + 1)).any _ else false
    by_cases e : l = i
    ·rw [e, hst (by omega), hcg, aX, if_pos ⟨rfl, by omega⟩, if_neg (Nat.lt_irrefl _), if_pos rfl, ← hsi]
     clear hs hu hst hsi hcg
     grind
    ·rw [aX,if_neg (fun h => e h.1.symm),hs l hl,if_neg e,if_neg e]
   ·show acs.length - (j + 1) < acs.length - j;omega
  ·(refine bT (i + 1, s) (Le.renA [(0, 0), (1, 1)]) ?_ ?_)
   ·refine ⟨(by show i + 1 ≤ pts.length; omega), hsl, fun l hl => ?_⟩
    show s[l]! = if l < i + 1 then _ else _
    rw [hs l hl,List.take_of_length_le (by omega)]
    clear hs hu
    grind
   ·show pts.length - (i + 1) < pts.length - i;omega
 ·refine bK (Le.frzD (d := 8) (i := 1) rfl rfl) ?_
  refine aP rfl ⟨?_,(by (exact bD _ _))⟩
  have e : u = Jq pts acs pl lv := bJ (by rw [tE, hul]) fun l hl => by
   rw [A8 _ _ _ _ _ (by omega),hu l (by omega),if_pos (by omega)]
  rw [e]
  simp only [aR,Nat.zero_add,sl,tE]
theorem xB {a b:List Bool}{m:Nat}{x0 x1:Operand}{i0:Nat}(ha0:ev (lk tsl) x0 = some (.own i0 0 m 1)) (ha1:ev (lk tsl) x1 = some (sl cB b)) (hH0:aQ hsl i0 = some (flat cB a)) (hmc:MC Tryz.prog 147 [.own 0 0 m 1,sl cB b] [(0,some (flat cB a))] 1 (fun _:Unit => True) (fun _ => .tup []) (fun _ => [(0,some (flat cB (fL a b)))])) (hM:Nat.ble (nidl + 0) aY = true) (hN:Nat.blt d N = true){md':Md}[hmd:MdA md (jH [x0,x1] ++ [.inr i0]) (List.map Sum.inr (List.map Prod.fst ([(i0,some (flat cB (fL a b)))]:List (Nat × Option (List AV)))) ++ [.inl d]) md'] (kk:RW Tryz.prog N all Q md' rest ⟨(d,.tup []) :: tsl,mI hsl [(i0,some (flat cB (fL a b)))],nidl + 0,z0⟩):RW Tryz.prog N all Q md (⟨some d,.call ⟨.value (.func 147),#[x0,x1],tys⟩,ty,pos,af,none⟩ :: rest) ⟨tsl,hsl,nidl,z0⟩:=by
 exact cF (l := [x0,x1]) [i0] 1 [(i0,some (flat cB (fL a b)))] hmc (avs := [.own i0 0 m 1,sl cB b]) (by simp only [evL,ha0,ha1]) rfl hM hN (md' := md') (hmd := hmd) kk
theorem Bm (a b:List Bool) (m:Nat) (hm:m = a.length) (hab:b.length ≤ a.length) (hl:a.length ≤ 1048576):MC Tryz.prog 147 [.own 0 0 m 1,sl cB b] [(0,some (flat cB a))] 1 (fun _:Unit => True) (fun _ => .tup []) (fun _ => [(0,some (flat cB (fL a b)))]):=by
 subst hm
 refine cR Tryz.func147 Tryz.ntmps147 ?_
 repeat' (first|refine aB ?_|fail)
 refine aL (σ := Nat × List Bool) [0,1] [] (fun k => [(4,iv (k.1 : Int))]) (fun k => [(0,some (flat cB k.2))]) (fun k => k.1 ≤ b.length ∧ k.2.length = a.length ∧ (∀ l,l < a.length → k.2[l]! = (a[l]! || (decide (l < k.1) && b[l]!)))) (fun k => b.length - k.1) (0,a) ⟨by omega,rfl,fun l hl => by simp⟩ ?_
 rintro ⟨k,u⟩ ⟨hk,hul,hu⟩
 dsimp only at hk hul hu
 try dsimp only
 repeat' (first|refine aB ?_|(refine aV ?_ ?_ <;> intro hc hq <;> try (exfalso;omega))|(refine dB ?_ ?_ <;> intro hg hq <;> try (exfalso;omega))|fail)
 ·(refine bT (k + 1, _) (Le.renA []) ?_ ?_)
  ·refine ⟨(by show k + 1 ≤ b.length; omega), (by show (u.set k _).length = a.length; rw [List.length_set]; exact hul), fun l hl => ?_⟩
   show (u.set k _)[l]! = (a[l]! || (decide (l < k + 1) && b[l]!))
   have h1 := hu l hl
   have h2 := hu k (by omega)
   rw [aX]
   clear hu
   grind
  ·show b.length - (k + 1) < b.length - k;omega
 ·(refine bT (k + 1, _) (Le.renA []) ?_ ?_)
  ·refine ⟨(by show k + 1 ≤ b.length; omega), (by show (u.set k _).length = a.length; rw [List.length_set]; exact hul), fun l hl => ?_⟩
   show (u.set k _)[l]! = (a[l]! || (decide (l < k + 1) && b[l]!))
   have h1 := hu l hl
   have h2 := hu k (by omega)
   rw [aX]
   clear hu
   grind
  ·show b.length - (k + 1) < b.length - k;omega
 ·refine Ai (l := []) rfl ?_
  refine eP () trivial rfl ⟨sE ?_,trivial⟩
  have e : u = fL a b := bJ (by rw [fF, hul]) fun l hl => by
   rw [eG _ _ _ (by omega),hu l (by omega)]
   clear hu
   grind
  rw [e]
theorem Eg (ts:List Int) (x:Pnt) (fr:List (List Bool)) (pl lv:List Bool) (htl:ts.length ≤ 6) (hpl:pl.length ≤ 61) (h1:lv.length = ts.length) (h2:fr.length = ts.length) (h3:∀ v,v < ts.length → fr[v]!.length = pl.length):PC Tryz.prog 173 [sl cI ts,oB x,.agg [sl fW fr,sl cB pl],sl cB lv] (fun r => r = sl cB (BS ts x fr lv pl.length)):=by
 refine aD Tryz.func173 Tryz.ntmps173 ?_
 repeat' (first|refine aB ?_|fail)
 refine aL (σ := Nat × List Bool) [0,3,5,6,9] [0,1] (fun k => [(10,iv (k.1 : Int))]) (fun k => [(2,some (flat cB k.2))]) (fun k => k.1 ≤ lv.length ∧ k.2.length = pl.length ∧ (∀ l,l < pl.length → k.2[l]! = (List.range k.1).any (Bx ts x fr lv l))) (fun k => lv.length - k.1) (0,List.replicate pl.length false) ⟨by omega,by simp,fun l hl => by rw [dA _ _ _ hl]; rfl⟩ ?_
 rintro ⟨k,u⟩ ⟨hk,hul,hu⟩
 dsimp only at hk hul hu
 try dsimp only
 by_cases hkn : k < lv.length
 ·have hrow := h3 k (by omega)
  have hst : ∀ l,(List.range (k + 1)).any (Bx ts x fr lv l) = ((List.range k).any (Bx ts x fr lv l) || Bx ts x fr lv l k) := fun l => by rw [List.range_succ,List.any_append]; simp
  repeat' (first|(apply aH;(first|(apply aA (k := 139);rfl;(apply k7 <;> (omega));exact Pur.pf;rfl)|(apply aA (k := 140);rfl;(apply mR);exact Pur.pf;rfl)|(apply xB;rfl;rfl;(rfl);(apply Bm <;> (omega));rfl;rfl)))|refine aB ?_|(refine aV ?_ ?_ <;> intro hc hq <;> try (exfalso;omega))|(refine dB ?_ ?_ <;> intro hg hq <;> try (exfalso;omega))|fail)
  ·(refine bT (k + 1, _) (Le.renA [(0, 0), (1, 1), (2, 2)]) ?_ ?_)
   ·refine ⟨(by show k + 1 ≤ lv.length; omega), (by show (fL u fr[k]!).length = pl.length; rw [fF]; exact hul), fun l hl => ?_⟩
    show (fL u fr[k]!)[l]! = (List.range (k + 1)).any _
    rw [hst l,eG _ _ _ (by omega),hu l hl,decide_eq_true (by omega : l < fr[k]!.length)]
    clear hu hst h3
    unfold Bx
    grind
   ·show lv.length - (k + 1) < lv.length - k;omega
  ·(refine bT (k + 1, u) (Le.renA [(0, 0), (1, 1), (2, 2)]) ?_ ?_)
   ·refine ⟨(by show k + 1 ≤ lv.length; omega), hul, fun l hl => ?_⟩
    show u[l]! = (List.range (k + 1)).any _
    rw [hst l,hu l hl]
    clear hu hst h3
    have e : Bx ts x fr lv l k = false := by unfold Bx;grind
    rw [e,Bool.or_false]
   ·show lv.length - (k + 1) < lv.length - k;omega
  ·(refine bT (k + 1, u) (Le.renA [(0, 0), (1, 1), (2, 2)]) ?_ ?_)
   ·refine ⟨(by show k + 1 ≤ lv.length; omega), hul, fun l hl => ?_⟩
    show u[l]! = (List.range (k + 1)).any _
    rw [hst l,hu l hl]
    clear hu hst h3
    have e : Bx ts x fr lv l k = false := by unfold Bx;grind
    rw [e,Bool.or_false]
   ·show lv.length - (k + 1) < lv.length - k;omega
  ·(refine bT (k + 1, u) (Le.renA [(0, 0), (1, 1), (2, 2)]) ?_ ?_)
   ·refine ⟨(by show k + 1 ≤ lv.length; omega), hul, fun l hl => ?_⟩
    show u[l]! = (List.range (k + 1)).any _
    rw [hst l,hu l hl]
    clear hu hst h3
    have e : Bx ts x fr lv l k = false := by unfold Bx;grind
    rw [e,Bool.or_false]
   ·show lv.length - (k + 1) < lv.length - k;omega
 ·repeat' (first | refine aB ?_ | (refine aV ?_ ?_ <;> intro hc hq <;> try (exfalso; omega))|fail)
  refine bK (Le.frzD (d := 8) (i := 2) rfl rfl) ?_
  refine aP rfl ⟨?_,(by (exact bD _ _))⟩
  have hkl : k = lv.length := by omega
  have e : u = BS ts x fr lv pl.length := bJ (by unfold BS; simp; omega) fun l hl => by
   unfold BS
   rw [bH _ _ _ (by omega),hu l (by omega),hkl]
  have el : (BS ts x fr lv pl.length).length = pl.length := by unfold BS;simp
  rw [e]
  simp only [aR,Nat.zero_add,sl,el]
theorem gU {f:Nat → Bool}{n k:Nat}(h:k < n) (hf:f k = false):(List.range n).all f = false:=by
 rw [Bool.eq_false_iff]; intro hc
 rw [List.all_eq_true] at hc
 have := hc k (List.mem_range.2 h)
 rw [hf] at this;cases this
theorem gP {f:Nat → Bool}{k:Nat}:(List.range (k + 1)).all f = ((List.range k).all f && f k):=by
 rw [List.range_succ,List.all_append]; simp
theorem AA (fa fb:List (List Bool)) (pa pb:List Bool) (hpl:pa.length ≤ 61) (hfl:fa.length ≤ 6) (h1:pb.length = pa.length) (h2:fb.length = fa.length) (h3:∀ v,v < fa.length → fa[v]!.length = pa.length) (h4:∀ v,v < fa.length → fb[v]!.length = pa.length):PC Tryz.prog 146 [.agg [sl fW fa,sl cB pa],.agg [sl fW fb,sl cB pb]] (fun r => r = bv (C6 fa fb pa pb)):=by
 refine aD Tryz.func146 Tryz.ntmps146 ?_
 repeat' (first|refine aB ?_|fail)
 refine aL (σ := Nat) [2,3] [0,1] (fun k => [(5,iv (k : Int))]) (fun k => []) (fun k => k ≤ pa.length ∧ (List.range k).all (Cr fa fb pa pb) = true) (fun k => pa.length - k) (0) ⟨by omega,rfl⟩ ?_
 rintro i ⟨hi,hall⟩
 try dsimp only
 repeat' (first|refine aB ?_|(refine aV ?_ ?_ <;> intro hc hq <;> try (exfalso;omega))|(refine dB ?_ ?_ <;> intro hg hq <;> try (exfalso;omega))|fail)
 ·refine aP rfl ⟨?_, (by (rfl))⟩
  have e2 : Cr fa fb pa pb i = false := by unfold Cr;grind
  have e3 : C6 fa fb pa pb = false := gU (by omega : i < pa.length) e2
  simp only [aR]
  rw [e3]
 ·have hin : i < pa.length := by omega
  have hpp : (!pa[i]! || pb[i]!) = true := by grind
  refine aL (σ := Nat) [2,3,5] [0,1] (fun j => [(6,iv (j : Int))]) (fun j => []) (fun j => j ≤ fa.length ∧ (List.range j).all (Dj fa fb i) = true) (fun j => fa.length - j) (0) ⟨by omega,rfl⟩ ?_
  rintro j ⟨hj,hj2⟩
  try dsimp only
  by_cases hjn : j < fa.length
  ·have r1 := h3 j hjn
   have r2 := h4 j hjn
   repeat' (first|refine aB ?_|(refine aV ?_ ?_ <;> intro hc hq <;> try (exfalso;omega))|(refine dB ?_ ?_ <;> intro hg hq <;> try (exfalso;omega))|fail)
   ·refine aP rfl ⟨?_, (by (rfl))⟩
    have e1 : Dj fa fb i j = false := by unfold Dj;grind
    have e2 : Cr fa fb pa pb i = false := by unfold Cr;rw [gU hjn e1,Bool.and_false]
    have e3 : C6 fa fb pa pb = false := gU hin e2
    simp only [aR]
    rw [e3]
   ·(refine bT (j + 1) (Le.renA [(0, 0), (1, 1)]) ?_ ?_)
    ·refine ⟨by omega, ?_⟩
     rw [gP,hj2]; unfold Dj;grind
    ·omega
   ·(refine bT (j + 1) (Le.renA [(0, 0), (1, 1)]) ?_ ?_)
    ·refine ⟨by omega, ?_⟩
     rw [gP,hj2]; unfold Dj;grind
    ·omega
  ·have hje : j = fa.length := by omega
   have e2 : Cr fa fb pa pb i = true := by unfold Cr;rw [hpp,← hje,hj2]; rfl
   repeat' (first|refine aB ?_|(refine aV ?_ ?_ <;> intro hc hq <;> try (exfalso;omega))|fail)
   (refine bT (i + 1) (Le.renA [(0,0),(1,1)]) ?_ ?_)
   ·refine ⟨by omega, ?_⟩
    rw [gP,hall,e2]; rfl
   ·omega
 ·have hin : i < pa.length := by omega
  have hpp : (!pa[i]! || pb[i]!) = true := by grind
  refine aL (σ := Nat) [2,3,5] [0,1] (fun j => [(6,iv (j : Int))]) (fun j => []) (fun j => j ≤ fa.length ∧ (List.range j).all (Dj fa fb i) = true) (fun j => fa.length - j) (0) ⟨by omega,rfl⟩ ?_
  rintro j ⟨hj,hj2⟩
  try dsimp only
  by_cases hjn : j < fa.length
  ·have r1 := h3 j hjn
   have r2 := h4 j hjn
   repeat' (first|refine aB ?_|(refine aV ?_ ?_ <;> intro hc hq <;> try (exfalso;omega))|(refine dB ?_ ?_ <;> intro hg hq <;> try (exfalso;omega))|fail)
   ·refine aP rfl ⟨?_, (by (rfl))⟩
    have e1 : Dj fa fb i j = false := by unfold Dj;grind
    have e2 : Cr fa fb pa pb i = false := by unfold Cr;rw [gU hjn e1,Bool.and_false]
    have e3 : C6 fa fb pa pb = false := gU hin e2
    simp only [aR]
    rw [e3]
   ·(refine bT (j + 1) (Le.renA [(0, 0), (1, 1)]) ?_ ?_)
    ·refine ⟨by omega, ?_⟩
     rw [gP,hj2]; unfold Dj;grind
    ·omega
   ·(refine bT (j + 1) (Le.renA [(0, 0), (1, 1)]) ?_ ?_)
    ·refine ⟨by omega, ?_⟩
     rw [gP,hj2]; unfold Dj;grind
    ·omega
  ·have hje : j = fa.length := by omega
   have e2 : Cr fa fb pa pb i = true := by unfold Cr;rw [hpp,← hje,hj2]; rfl
   repeat' (first|refine aB ?_|(refine aV ?_ ?_ <;> intro hc hq <;> try (exfalso;omega))|fail)
   (refine bT (i + 1) (Le.renA [(0,0),(1,1)]) ?_ ?_)
   ·refine ⟨by omega, ?_⟩
    rw [gP,hall,e2]; rfl
   ·omega
 ·refine aP rfl ⟨?_, (by (rfl))⟩
  have hie : i = pa.length := by omega
  have e3 : C6 fa fb pa pb = true := by unfold C6;rw [← hie]; exact hall
  simp only [aR]
  rw [e3]
theorem BD {m:List (Nat × Nat)}{l0 k K b w:Nat}(h0:l0 ≤ aY) (hK:K = k):RnL (iD m ⟨l0,aY + K⟩ (some b)) (flat (vK 0 w) (List.range (k + 1))) (((flat (vK 0 w) (List.range k)).drop 0).take (k * 1) ++ [.own b 0 w 1]):=by
 rw [hK]
 have e : ((flat (vK 0 w) (List.range k)).drop 0).take (k * 1) = flat (vK 0 w) (List.range k) := List.take_of_length_le (by rw [List.drop_zero,aI (vK 0 w) (e := 1)]; simp)
 rw [e,List.range_succ,← bS,kS]
 refine (cU (by show aY + (0 + k) ≤ aY + k;omega)).app (.cons (.own ?_) .nil)
 unfold iD
 rw [if_neg (by show ¬ 0 + k + aY < l0;omega),if_pos (by omega),if_neg (by show ¬ 0 + k + aY < aY + k;omega),if_pos (by show 0 + k + aY = aY + k;omega)]
theorem Fl (p:Prg) (A:List Nat) (hs:aJ p.body ≤ 1048576) (w:WG p.types (aE p)) (hA:oU p.types (aE p) A):PC Tryz.prog 136 [bW p] (fun r => r = sl fW (dI p.types.length (aE p).length A)):=by
 have hpl := w.pl
 have hp0 := w.p0
 have htl := w.tl
 refine aD Tryz.func136 Tryz.ntmps136 ?_
 repeat' (first|(apply aH;(apply aA (k := 27);rfl;exact jJ p hs;exact Pur.pf;rfl))|refine aB ?_|fail)
 refine dR (σ := Nat) (fun k => List.replicate k (List.replicate p.types.length false)) [1,3] [0] (fun k => [(5,iv (k : Int)),(4,.own 1 0 k 1)]) (fun k => [(1,some (flat (vK 0 p.types.length) (List.range k)))]) (fun k => k ≤ (aE p).length) (fun k => (aE p).length - k) (0) (Nat.zero_le _) ?_
 intro k hk
 try dsimp only
 repeat' (first|(apply aH;first|(with_reducible apply dX (d := 6))|(apply dU;rfl;rfl;rfl;rfl;rfl;(case hl => (simp [aI]; done));(rfl);omega;omega;(rfl);rfl;rfl))|refine aB ?_|(refine aV ?_ ?_ <;> intro hc hq <;> try (exfalso;omega))|fail)
 ·(apply bT (k + 1); focus (refine Le.renF1 [(0, 0), (1, 4)] 2 (R := ?qA1) (r := ?qB1) (hF := ?qF1) (hz := ?qz1) (hm := ?qm1) (hn := ?qn1) (hlb := ?qlb1) (hb := ?qb1) (hr := ?qr1) (hR := ?qR1) (h1 := ?q11) (h2 := ?q21); (case qF1 => (repeat' (first | exact FamR.here | (apply FamR.cons; focus rfl)))); (case qz1 => (rfl)); (case qm1 => rfl); (case qn1 => decide); (case qlb1 => decide); (case qb1 => decide); (case qr1 => rfl); (case qR1 => (exact List.replicate_succ')); all_goals (repeat' (first | exact trivial | refine And.intro ⟨_, rfl, ?_⟩ ?_ | refine And.intro ⟨_, _, rfl, rfl, ?_⟩ ?_ | exact RnL.purI inferInstance | exact RnV.purI inferInstance | exact RnV.own rfl | exact RnV.optr rfl | exact BD (by decide) (by simp)))))
  ·show k + 1 ≤ (aE p).length;omega
  ·show (aE p).length - (k + 1) < (aE p).length - k;omega
 ·have hkN : k = (aE p).length := by omega
  subst hkN
  refine iK (gF ?_ (Le.frzD (d := 4) (i := 1) rfl rfl))
  repeat' (first|refine aB ?_|fail)
  refine dR (σ := List (List Bool) × Bool) (fun s => s.1) [1,3,4] [0] (fun s => [(6,bv s.2)]) (fun s => []) (fun s => LH p.types (aE p) s.1 s.2) (fun s => J6 p.types.length (aE p).length s.1 s.2) (List.replicate (aE p).length (List.replicate p.types.length false),true) (LH.init _ _) ?_
  rintro ⟨R,c⟩ hLH
  try dsimp only at hLH
  try dsimp only
  have hRl := hLH.lo
  have hRr := hLH.ro
  cases c with
  | false =>
   repeat' (first|refine aB ?_|fail)
   have hfin := hLH.final w hA
   refine bK (Le.frzAll (d := 2) (D := (List.range R.length).map fun k => 0 + k + aY) rfl (.imm (LdL.rows (b := 0) (R := R) (by (repeat' (first|exact FamR.here|(apply FamR.cons;focus rfl)))) (fun k hk => List.mem_map.2 ⟨k,by rw [List.mem_range]; omega,rfl⟩) (by omega) (fun k hk => by rw [Nat.zero_add]; exact hRr k hk)))) ?_
   refine aP rfl ⟨?_,(by (exact bD _ _))⟩
   simp only [aR]
   rw [List.drop_zero,List.take_of_length_le (by omega),hfin]
   simp only [sl,fM]
  | true =>
   have hst := hLH.start
   repeat' (first|refine aB ?_|fail)
   refine dR (σ := Int × List (List Bool) × Bool) (fun s => s.2.1) [1,3,4] [0] (fun s => [(6,bv s.2.2),(7,iv s.1)]) (fun s => []) (fun s => -1 ≤ s.1 ∧ s.1 < (aE p).length ∧ LS p.types (aE p) R s.2.1 s.2.2 (DL s.1 0 0)) (fun s => (s.1 + 1).toNat) (((aE p).length : Int) - 1,R,false) ⟨(by show -1 ≤ ((aE p).length : Int) - 1;omega),(by show ((aE p).length : Int) - 1 < _; omega),hst⟩ ?_
   rintro ⟨z,R1,c1⟩ ⟨hz1,hz2,hL1⟩
   dsimp only at hz1 hz2 hL1
   have hl1 := hL1.lo
   try dsimp only
   repeat' (first|refine aB ?_|(refine aV ?_ ?_ <;> intro hc hq <;> try (exfalso;omega))|fail)
   ·have hnl := w.nl z.toNat (by omega)
    refine dR (σ := Nat × List (List Bool) × Bool) (fun s => s.2.1) [1,3,4,7] [0] (fun s => [(6,bv s.2.2),(8,iv (s.1 : Int))]) (fun s => []) (fun s => s.1 ≤ (aE p)[z.toNat]!.next.length ∧ LS p.types (aE p) R s.2.1 s.2.2 (DL z s.1 0)) (fun s => (aE p)[z.toNat]!.next.length - s.1) (0,R1,c1) ⟨Nat.zero_le _,hL1⟩ ?_
    rintro ⟨kk,R2,c2⟩ ⟨hk,hL2⟩
    dsimp only at hk hL2
    have hl2 := hL2.lo
    try dsimp only
    by_cases hkn : kk < (aE p)[z.toNat]!.next.length
    ·have hnx := w.nx z.toNat (by omega) _ (bU _ _ hkn)
     repeat' (first|refine aB ?_|(refine aV ?_ ?_ <;> intro hc hq <;> try (exfalso;omega))|fail)
     refine dR (σ := Nat × List (List Bool) × Bool) (fun s => s.2.1) [1,3,4,7,8,9] [0] (fun s => [(6,bv s.2.2),(10,iv (s.1 : Int))]) (fun s => []) (fun s => s.1 ≤ p.types.length ∧ LS p.types (aE p) R s.2.1 s.2.2 (DL z kk s.1)) (fun s => p.types.length - s.1) (0,R2,c2) ⟨Nat.zero_le _,hL2⟩ ?_
     rintro ⟨v,R3,c3⟩ ⟨hv,hL3⟩
     dsimp only at hv hL3
     try dsimp only
     have hl3 := hL3.lo
     have hr3 := hL3.ro z.toNat (by omega)
     have hr3n := hL3.ro ((aE p)[z.toNat]!.next[kk]!).toNat (by omega)
     by_cases hvn : v < p.types.length
     ·repeat' (first | (apply aH; first | (apply FU;rfl;(case hF => (repeat' (first | exact FamR.here | (apply FamR.cons; focus rfl))));(omega);(simp only [jY] <;> omega);rfl) | (apply iJ;rfl;rfl;(first | assumption | omega);rfl;infer_instance;infer_instance;rfl) | (apply CO;rfl;rfl;(case hF => (repeat' (first | exact FamR.here | (apply FamR.cons; focus rfl))));(omega);(simp only [jY] <;> omega)) | (first | (apply aA (k := 139);rfl;(apply k7 <;> (omega));exact Pur.pf;rfl) | (apply aA (k := 140);rfl;(apply mR);exact Pur.pf;rfl))) | refine aB ?_ | (refine aV ?_ ?_ <;> intro hc hq <;> try (exfalso; omega)) | (refine dB ?_ ?_ <;> intro hg hq <;> try (exfalso; omega)) | refine dH ?_|fail)
      ·(apply bT (v + 1, _, _); focus (refine Le.renF0 [(0, 0)] (R := ?qA2) (hF := ?qF2) (hz := ?qz2) (hm := ?qm2) (hn := ?qn2) (h1 := ?q12) (h2 := ?q22); (case qF2 => (repeat' (first | exact FamR.here | (apply FamR.cons; focus rfl)))); (case qz2 => (simp only [List.length_set])); (case qm2 => rfl); (case qn2 => decide); all_goals (repeat' (first | exact trivial | refine And.intro ⟨_, rfl, ?_⟩ ?_ | refine And.intro ⟨_, _, rfl, rfl, ?_⟩ ?_ | exact RnL.purI inferInstance | exact RnV.purI inferInstance | exact RnV.optr rfl | exact RnV.imm (cU (by (simp only [List.length_replicate, List.length_set, List.length_append, List.length_singleton] at * <;> omega)))))))
       ·refine ⟨(by show v + 1 ≤ p.types.length; omega), ?_⟩
        have hf : R3[z.toNat]![v]! = false := by simp only [Nat.zero_add] at *; assumption
        have hn : gE p.types (aE p) R3 ((aE p)[z.toNat]!.next[kk]!).toNat v = true := by simp only [Nat.zero_add] at *; clear hL1 hL2 hL3 hLH hst;grind [gE]
        have hh := hL3.hit w (DL z kk (v + 1)) (by omega) hkn hvn hn hf
        simpa only [Nat.zero_add] using hh
       ·show p.types.length - (v + 1) < p.types.length - v;omega
      ·(apply bT (v + 1, R3, c3); focus (refine Le.renF0 [(0, 0)] (R := ?qA3) (hF := ?qF3) (hz := ?qz3) (hm := ?qm3) (hn := ?qn3) (h1 := ?q13) (h2 := ?q23); (case qF3 => (repeat' (first | exact FamR.here | (apply FamR.cons; focus rfl)))); (case qz3 => (rfl)); (case qm3 => rfl); (case qn3 => decide); all_goals (repeat' (first | exact trivial | refine And.intro ⟨_, rfl, ?_⟩ ?_ | refine And.intro ⟨_, _, rfl, rfl, ?_⟩ ?_ | exact RnL.purI inferInstance | exact RnV.purI inferInstance | exact RnV.optr rfl | exact RnV.imm (cU (by (simp only [List.length_replicate, List.length_set, List.length_append, List.length_singleton] at * <;> omega)))))))
       ·refine ⟨(by show v + 1 ≤ p.types.length; omega), ?_⟩
        refine hL3.skip (i := z.toNat) (k := kk) (v := v) (fun hn => ?_) (fun i' k' v' _ _ _ hd => by unfold DL at hd ⊢; omega)
        simp only [Nat.zero_add] at *
        first
        | assumption
        | (exfalso;clear hL1 hL2 hL3 hLH hst;grind [gE])
       ·show p.types.length - (v + 1) < p.types.length - v;omega
      ·(apply bT (v + 1, R3, c3); focus (refine Le.renF0 [(0, 0)] (R := ?qA4) (hF := ?qF4) (hz := ?qz4) (hm := ?qm4) (hn := ?qn4) (h1 := ?q14) (h2 := ?q24); (case qF4 => (repeat' (first | exact FamR.here | (apply FamR.cons; focus rfl)))); (case qz4 => (rfl)); (case qm4 => rfl); (case qn4 => decide); all_goals (repeat' (first | exact trivial | refine And.intro ⟨_, rfl, ?_⟩ ?_ | refine And.intro ⟨_, _, rfl, rfl, ?_⟩ ?_ | exact RnL.purI inferInstance | exact RnV.purI inferInstance | exact RnV.optr rfl | exact RnV.imm (cU (by (simp only [List.length_replicate, List.length_set, List.length_append, List.length_singleton] at * <;> omega)))))))
       ·refine ⟨(by show v + 1 ≤ p.types.length; omega), ?_⟩
        refine hL3.skip (i := z.toNat) (k := kk) (v := v) (fun hn => ?_) (fun i' k' v' _ _ _ hd => by unfold DL at hd ⊢; omega)
        simp only [Nat.zero_add] at *
        first
        | assumption
        | (exfalso;clear hL1 hL2 hL3 hLH hst;grind [gE])
       ·show p.types.length - (v + 1) < p.types.length - v;omega
      ·(apply bT (v + 1, R3, c3); focus (refine Le.renF0 [(0, 0)] (R := ?qA5) (hF := ?qF5) (hz := ?qz5) (hm := ?qm5) (hn := ?qn5) (h1 := ?q15) (h2 := ?q25); (case qF5 => (repeat' (first | exact FamR.here | (apply FamR.cons; focus rfl)))); (case qz5 => (rfl)); (case qm5 => rfl); (case qn5 => decide); all_goals (repeat' (first | exact trivial | refine And.intro ⟨_, rfl, ?_⟩ ?_ | refine And.intro ⟨_, _, rfl, rfl, ?_⟩ ?_ | exact RnL.purI inferInstance | exact RnV.purI inferInstance | exact RnV.optr rfl | exact RnV.imm (cU (by (simp only [List.length_replicate, List.length_set, List.length_append, List.length_singleton] at * <;> omega)))))))
       ·refine ⟨(by show v + 1 ≤ p.types.length; omega), ?_⟩
        refine hL3.skip (i := z.toNat) (k := kk) (v := v) (fun hn => ?_) (fun i' k' v' _ _ _ hd => by unfold DL at hd ⊢; omega)
        simp only [Nat.zero_add] at *
        first
        | assumption
        | (exfalso;clear hL1 hL2 hL3 hLH hst;grind [gE])
       ·show p.types.length - (v + 1) < p.types.length - v;omega
      ·(apply bT (v + 1, _, _); focus (refine Le.renF0 [(0, 0)] (R := ?qA6) (hF := ?qF6) (hz := ?qz6) (hm := ?qm6) (hn := ?qn6) (h1 := ?q16) (h2 := ?q26); (case qF6 => (repeat' (first | exact FamR.here | (apply FamR.cons; focus rfl)))); (case qz6 => (simp only [List.length_set])); (case qm6 => rfl); (case qn6 => decide); all_goals (repeat' (first | exact trivial | refine And.intro ⟨_, rfl, ?_⟩ ?_ | refine And.intro ⟨_, _, rfl, rfl, ?_⟩ ?_ | exact RnL.purI inferInstance | exact RnV.purI inferInstance | exact RnV.optr rfl | exact RnV.imm (cU (by (simp only [List.length_replicate, List.length_set, List.length_append, List.length_singleton] at * <;> omega)))))))
       ·refine ⟨(by show v + 1 ≤ p.types.length; omega), ?_⟩
        have hf : R3[z.toNat]![v]! = false := by simp only [Nat.zero_add] at *; assumption
        have hn : gE p.types (aE p) R3 ((aE p)[z.toNat]!.next[kk]!).toNat v = true := by simp only [Nat.zero_add] at *; clear hL1 hL2 hL3 hLH hst;grind [gE]
        have hh := hL3.hit w (DL z kk (v + 1)) (by omega) hkn hvn hn hf
        simpa only [Nat.zero_add] using hh
       ·show p.types.length - (v + 1) < p.types.length - v;omega
      ·(apply bT (v + 1, R3, c3); focus (refine Le.renF0 [(0, 0)] (R := ?qA7) (hF := ?qF7) (hz := ?qz7) (hm := ?qm7) (hn := ?qn7) (h1 := ?q17) (h2 := ?q27); (case qF7 => (repeat' (first | exact FamR.here | (apply FamR.cons; focus rfl)))); (case qz7 => (rfl)); (case qm7 => rfl); (case qn7 => decide); all_goals (repeat' (first | exact trivial | refine And.intro ⟨_, rfl, ?_⟩ ?_ | refine And.intro ⟨_, _, rfl, rfl, ?_⟩ ?_ | exact RnL.purI inferInstance | exact RnV.purI inferInstance | exact RnV.optr rfl | exact RnV.imm (cU (by (simp only [List.length_replicate, List.length_set, List.length_append, List.length_singleton] at * <;> omega)))))))
       ·refine ⟨(by show v + 1 ≤ p.types.length; omega), ?_⟩
        refine hL3.skip (i := z.toNat) (k := kk) (v := v) (fun hn => ?_) (fun i' k' v' _ _ _ hd => by unfold DL at hd ⊢; omega)
        simp only [Nat.zero_add] at *
        first
        | assumption
        | (exfalso;clear hL1 hL2 hL3 hLH hst;grind [gE])
       ·show p.types.length - (v + 1) < p.types.length - v;omega
     ·repeat' (first | refine aB ?_ | (refine aV ?_ ?_ <;> intro hc hq <;> try (exfalso; omega))|fail)
      ·(apply bT (kk + 1, R3, c3); focus (refine Le.renF0 [(0, 0)] (R := ?qA8) (hF := ?qF8) (hz := ?qz8) (hm := ?qm8) (hn := ?qn8) (h1 := ?q18) (h2 := ?q28); (case qF8 => (repeat' (first | exact FamR.here | (apply FamR.cons; focus rfl)))); (case qz8 => (rfl)); (case qm8 => rfl); (case qn8 => decide); all_goals (repeat' (first | exact trivial | refine And.intro ⟨_, rfl, ?_⟩ ?_ | refine And.intro ⟨_, _, rfl, rfl, ?_⟩ ?_ | exact RnL.purI inferInstance | exact RnV.purI inferInstance | exact RnV.optr rfl | exact RnV.imm (cU (by (simp only [List.length_replicate, List.length_set, List.length_append, List.length_singleton] at * <;> omega)))))))
       ·refine ⟨(by show kk + 1 ≤ (aE p)[z.toNat]!.next.length; omega), ?_⟩
        exact hL3.mono fun i' k' v' _ _ _ hd => by unfold DL at hd ⊢; omega
       ·show (aE p)[z.toNat]!.next.length - (kk + 1) < (aE p)[z.toNat]!.next.length - kk;omega
    ·repeat' (first | refine aB ?_ | (refine aV ?_ ?_ <;> intro hc hq <;> try (exfalso; omega))|fail)
     ·(apply bT (z - 1, R2, c2); focus (refine Le.renF0 [(0, 0)] (R := ?qA9) (hF := ?qF9) (hz := ?qz9) (hm := ?qm9) (hn := ?qn9) (h1 := ?q19) (h2 := ?q29); (case qF9 => (repeat' (first | exact FamR.here | (apply FamR.cons; focus rfl)))); (case qz9 => (rfl)); (case qm9 => rfl); (case qn9 => decide); all_goals (repeat' (first | exact trivial | refine And.intro ⟨_, rfl, ?_⟩ ?_ | refine And.intro ⟨_, _, rfl, rfl, ?_⟩ ?_ | exact RnL.purI inferInstance | exact RnV.purI inferInstance | exact RnV.optr rfl | exact RnV.imm (cU (by (simp only [List.length_replicate, List.length_set, List.length_append, List.length_singleton] at * <;> omega)))))))
      ·refine ⟨(by show -1 ≤ z - 1; omega), (by show z - 1 < ((aE p).length : Int); omega), ?_⟩
       refine hL2.mono fun i' k' v' _ hk' _ hd => ?_
       unfold DL at hd ⊢
       by_cases e : (i' : Int) = z
       ·have e2 : i' = z.toNat := by omega
        rw [e2] at hk'; omega
       ·omega
      ·show (z - 1 + 1).toNat < (z + 1).toNat;omega
   ·(apply bT (R1, c1); focus (refine Le.renF0 [(0, 0)] (R := ?qA10) (hF := ?qF10) (hz := ?qz10) (hm := ?qm10) (hn := ?qn10) (h1 := ?q110) (h2 := ?q210); (case qF10 => (repeat' (first | exact FamR.here | (apply FamR.cons; focus rfl)))); (case qz10 => (rfl)); (case qm10 => rfl); (case qn10 => decide); all_goals (repeat' (first | exact trivial | refine And.intro ⟨_, rfl, ?_⟩ ?_ | refine And.intro ⟨_, _, rfl, rfl, ?_⟩ ?_ | exact RnL.purI inferInstance | exact RnV.purI inferInstance | exact RnV.optr rfl | exact RnV.imm (cU (by (simp only [List.length_replicate, List.length_set, List.length_append, List.length_singleton] at * <;> omega)))))))
    ·exact (hL1.fin (by omega)).1
    ·exact (hL1.fin (by omega)).2
abbrev Jd (b nv N : Nat) : AV := .agg [.imm nv (flat (vK b N) (List.range nv)),.own (b + nv + aY) 0 N 1]
theorem Et {m:List (Nat × Nat)}{l0 K b j:Nat}(h0:l0 ≤ aY) (hj:j = K):iD m ⟨l0,aY + K⟩ (some b) (j + aY) = some b:=by
 subst hj
 unfold iD
 rw [if_neg (by show ¬ j + aY < l0;omega),if_pos (by omega),if_neg (by show ¬ j + aY < aY + j;omega),if_pos (by show j + aY = aY + j;omega)]
theorem CJ (nv N:Nat) (hnv:nv ≤ 6) (hN:N ≤ 61):Kb Tryz.prog 144 [iv (nv:Int),iv (N:Int)] (Jd 0 nv N) (List.replicate (nv + 1) (List.replicate N false)):=by
 refine Ex Tryz.func144 Tryz.ntmps144 ?_
 repeat' (first|(apply aH;first|(apply c8 (d := 9);rfl;exact (rfl:_=some [_,_]);rfl)|(with_reducible apply dX (d := 6)))|refine aB ?_|fail)
 refine iK (gF ?_ (Le.nilCell (i := 2) 1 [] rfl (by decide) (by decide)))
 repeat' (first|refine aB ?_|fail)
 refine dR (σ := Nat) (fun k => List.replicate k (List.replicate N false)) [0,1,4,5] [1,0] (fun k => [(6,iv (k : Int))]) (fun k => [(2,some [.own 3 0 k 1,.own 1 0 N 1]),(3,some (flat (vK 0 N) (List.range k)))]) (fun k => k ≤ nv) (fun k => nv - k) (0) (Nat.zero_le _) ?_
 intro k hk
 try dsimp only
 repeat' (first|(apply aH;first|(apply dU;rfl;rfl;rfl;rfl;rfl;(case hl => (simp [aI]; done));(rfl);omega;omega;(rfl);rfl;rfl)|(apply cO;rfl;rfl;rfl;rfl;rfl;(case hl => (simp;done));(exact (rfl:_=[_,_]))))|refine aB ?_|(refine aV ?_ ?_ <;> intro hc hq <;> try (exfalso;omega))|refine dH ?_|fail)
 ·(apply bT (k + 1); focus (refine Le.renF1 [(0, 0), (1, 1), (2, 2), (3, 6)] 4 (R := ?qA1) (r := ?qB1) (hF := ?qF1) (hz := ?qz1) (hm := ?qm1) (hn := ?qn1) (hlb := ?qlb1) (hb := ?qb1) (hr := ?qr1) (hR := ?qR1) (h1 := ?q11) (h2 := ?q21); (case qF1 => (repeat' (first | exact FamR.here | (apply FamR.cons; focus rfl)))); (case qz1 => (rfl)); (case qm1 => rfl); (case qn1 => decide); (case qlb1 => decide); (case qb1 => decide); (case qr1 => rfl); (case qR1 => (exact List.replicate_succ')); all_goals (repeat' (first | exact trivial | refine And.intro ⟨_, rfl, ?_⟩ ?_ | refine And.intro ⟨_, _, rfl, rfl, ?_⟩ ?_ | exact RnL.purI inferInstance | exact RnV.purI inferInstance | exact RnV.own rfl | exact RnV.optr rfl | exact RnL.nil | refine RnL.cons ?_ ?_ | exact BD (by decide) (by simp)))))
  ·show k + 1 ≤ nv;omega
  ·show nv - (k + 1) < nv - k;omega
 ·have e : k = nv := by omega
  subst e
  refine bK (Le.renF1 [(0, 0), (3, 3)] 1 (ts' := [(4, .optr 0 0)]) (lits := [(0, some [.own 3 0 k 1, .own (0 + k + aY) 0 N 1]), (3, some (flat (vK 0 N) (List.range k)))]) (n' := 4) (R := List.replicate k (List.replicate N false)) (r := List.replicate N false) (R' := List.replicate (k + 1) (List.replicate N false)) (by (repeat' (first | exact FamR.here | (apply FamR.cons; focus rfl)))) rfl rfl (by decide) (by decide) (by decide) rfl List.replicate_succ' ⟨⟨_, rfl, .optr rfl⟩, trivial⟩
   ⟨⟨0,_,rfl,rfl,.cons (.own rfl) (.cons (.own (Et (by decide) (by simp))) .nil)⟩,⟨3,_,rfl,rfl,cU (by simp)⟩,trivial⟩) ?_
  refine bK (Le.frzC (j := 0) (i := 3) [] rfl rfl (by decide)) ?_
  refine aP (l := [.agg [_,_]]) rfl ?_
  exact IY rfl (by (repeat' (first|exact FamR.here|(apply FamR.cons;focus rfl))))
theorem I5 {R0:List (List Bool)}{k N:Nat}(hk:k < R0.length) (hN:R0[k]!.length = N):flat fW (R0.take (k + 1)) = ((flat fW (R0.take k)).drop 0).take (k * 1) ++ [.imm (0 + N) (flat cB R0[0 + k]!)]:=by
 have e : ((flat fW (R0.take k)).drop 0).take (k * 1) = flat fW (R0.take k) := List.take_of_length_le (by rw [List.drop_zero,aI fW (e := 1)]; simp;omega)
 rw [e,bY _ _ hk,← bS,kS,Nat.zero_add,Nat.zero_add,← hN]; rfl
theorem J2 {ρ:Nat → Option Nat}{a b:List AV}[h:Pur a] (e:a = b):RnL ρ a b := by subst e;exact .pur h.pf
theorem Dy (nv N:Nat) (R0:List (List Bool)) (hnv:nv ≤ 6) (hN:N ≤ 61) (hl:R0.length = nv + 1) (hr:∀ k,k < nv + 1 → R0[k]!.length = N):Jy Tryz.prog 180 [Jd 0 nv N] R0 (.agg [.own 0 0 nv 1,.own 1 0 N 1]) [(0,some (flat fW (R0.take nv))),(1,some (flat cB R0[nv]!))]:=by
 have hrn := hr nv (by omega)
 refine v8 Tryz.func180 Tryz.ntmps180 ?_
 repeat' (first|(apply aH;first|(apply c8 (d := 9);rfl;exact (rfl:_=some [_,_]);rfl)|(with_reducible apply dX (d := 4))|(apply dU;rfl;rfl;rfl;rfl;rfl;(case hl => (simp [aI]; done));(case hs' => (apply Es;(focus (repeat' (first|exact FamR.here|(apply FamR.cons;focus rfl))));(focus (omega));(simp only [jY] <;> omega)));omega;omega;(exact qI (by (omega)));rfl;rfl)|(apply cO;rfl;rfl;rfl;rfl;rfl;(case hl => (simp;done));(exact (rfl:_=[_,_]))))|refine aB ?_|fail)
 refine iK (gF ?_ (Le.nilCell (i := 4) 1 [] rfl (by decide) (by decide)))
 repeat' (first|refine aB ?_|fail)
 refine dR (σ := Nat) (fun k => R0) [1,2,3] [3,1,0] (fun k => [(4,iv (k : Int))]) (fun k => [(4,some [.own 5 0 k 1,.own 3 0 (0 + N) 1]),(5,some (flat fW (R0.take k)))]) (fun k => k ≤ nv) (fun k => nv - k) (0) (Nat.zero_le _) ?_
 intro k hk
 try dsimp only
 have hrk : k < nv → R0[k]!.length = N := fun h => hr k (by omega)
 repeat' (first|(apply aH;first|(apply l8;rfl;rfl;(omega);rfl;infer_instance;infer_instance;rfl)|(apply dU;rfl;rfl;rfl;rfl;rfl;(case hl => first|(rw [aI]; simp only [jY] <;> omega)|(simp [aI]; done));(case hs' => first|(apply Es;(focus (repeat' (first|exact FamR.here|(apply FamR.cons;focus rfl))));(focus (omega));(simp only [jY] <;> omega))|rfl);omega;omega;(first|exact qI (by (omega))|rfl);rfl;rfl)|(apply cO;rfl;rfl;rfl;rfl;rfl;(case hl => (simp;done));(exact (rfl:_=[_,_]))))|refine aB ?_|(refine aV ?_ ?_ <;> intro hc hq <;> try (exfalso;omega))|refine dH ?_|fail)
 ·(apply bT (k + 1); focus (refine Le.trans (Le.frzC (j := 9) (i := 7) (((flat fW (R0.take k)).drop 0).take (k * 1)) rfl rfl (by decide)) ?_; refine Le.renF0 [(0, 0), (1, 1), (3, 3), (4, 4), (5, 9)] (R := ?qA1) (hF := ?qF1) (hz := ?qz1) (hm := ?qm1) (hn := ?qn1) (h1 := ?q11) (h2 := ?q21); (case qF1 => (repeat' (first | exact FamR.here | (apply FamR.cons; focus rfl)))); (case qz1 => (rfl)); (case qm1 => rfl); (case qn1 => decide); all_goals (repeat' (first | exact trivial | refine And.intro ⟨_, rfl, ?_⟩ ?_ | refine And.intro ⟨_, _, rfl, rfl, ?_⟩ ?_ | exact RnL.purI inferInstance | exact RnV.purI inferInstance | exact RnV.own rfl | exact RnV.optr rfl | exact RnL.nil | refine RnL.cons ?_ ?_ | exact RnV.imm (cU (by (simp only [List.length_replicate, List.length_set, List.length_append, List.length_singleton] at * <;> omega))) | exact RnV.own (fU (by omega) (by show _ < aY + _; (omega))) | exact J2 (I5 (by omega) (hrk (by omega)))))))
  ·show k + 1 ≤ nv;omega
  ·show nv - (k + 1) < nv - k;omega
 ·have e : k = nv := by omega
  subst e
  refine bK (Le.renF0 [(0, 5), (1, 3), (2, 1)] (ts' := [(2, .optr 2 0)]) (lits := [(2, some [.own 0 0 k 1, .own 1 0 (0 + N) 1]), (0, some (flat fW (R0.take k))), (1, some (flat cB R0[0 + k]!))]) (n' := 3) (R := R0) (by (repeat' (first | exact FamR.here | (apply FamR.cons; focus rfl)))) rfl rfl (by decide) ⟨⟨_, rfl, .optr rfl⟩, trivial⟩
   ⟨⟨1,_,rfl,rfl,.cons (.own rfl) (.cons (.own rfl) .nil)⟩,⟨5,_,rfl,rfl,RnL.purI inferInstance⟩,⟨3,_,rfl,rfl,RnL.purI inferInstance⟩,trivial⟩) ?_
  refine aP (l := [.agg [_,_]]) rfl ?_
  simp only [Nat.zero_add]
  exact nQ rfl ⟨.inr rfl,.inr rfl,trivial⟩ (by (repeat' (first|exact FamR.here|(apply FamR.cons;focus rfl))))
theorem sD {fr:List (List Bool)}{pl:List Bool}{pts:List Pnt}{v:Int}{nv M:Nat}{x0 x1 x2:Operand}{i0 i1:Nat}(ha0:ev (lk tsl) x0 = some (.agg [.own i0 0 nv 1,.own i1 0 M 1])) (ha1:ev (lk tsl) x1 = some (sl b9 pts)) (ha2:ev (lk tsl) x2 = some (iv v)) (hH0:aQ hsl i0 = some (flat fW fr)) (hH1:aQ hsl i1 = some (flat cB pl)) (hdd:Go.AL.distinct [i0,i1] = true) (hmc:MC Tryz.prog 182 [.agg [.own 0 0 nv 1,.own 1 0 M 1],sl b9 pts,iv v] [(0,some (flat fW fr)),(1,some (flat cB pl))] 2 (fun _:Unit => True) (fun _ => .tup []) (fun _ => [(0,some (flat fW fr)),(1,some (flat cB (p7 pts v pl)))])) (hM:Nat.ble (nidl + 0) aY = true) (hN:Nat.blt d N = true){md':Md}[hmd:MdA md (jH [x0,x1,x2] ++ [.inr i0,.inr i1]) (List.map Sum.inr (List.map Prod.fst ([(i0,some (flat fW fr)),(i1,some (flat cB (p7 pts v pl)))]:List (Nat × Option (List AV)))) ++ [.inl d]) md'] (kk:RW Tryz.prog N all Q md' rest ⟨(d,.tup []) :: tsl,mI hsl [(i0,some (flat fW fr)),(i1,some (flat cB (p7 pts v pl)))],nidl + 0,z0⟩):RW Tryz.prog N all Q md (⟨some d,.call ⟨.value (.func 182),#[x0,x1,x2],tys⟩,ty,pos,af,none⟩ :: rest) ⟨tsl,hsl,nidl,z0⟩:=by
 exact cF (l := [x0,x1,x2]) [i0,i1] 2 [(i0,some (flat fW fr)),(i1,some (flat cB (p7 pts v pl)))] hmc (avs := [.agg [.own i0 0 nv 1,.own i1 0 M 1],sl b9 pts,iv v]) (by simp only [evL,ha0,ha1,ha2]) hdd hM hN (md' := md') (hmd := hmd) kk
theorem wE (fr:List (List Bool)) (pl:List Bool) (pts:List Pnt) (v:Int) (nv M:Nat) (hN:M = pl.length) (hl:pts.length = pl.length) (hpl:pts.length ≤ 61):MC Tryz.prog 182 [.agg [.own 0 0 nv 1,.own 1 0 M 1],sl b9 pts,iv v] [(0,some (flat fW fr)),(1,some (flat cB pl))] 2 (fun _:Unit => True) (fun _ => .tup []) (fun _ => [(0,some (flat fW fr)),(1,some (flat cB (p7 pts v pl)))]):=by
 refine cR Tryz.func182 Tryz.ntmps182 ?_
 repeat' (first|refine aB ?_|fail)
 refine aL (σ := Nat × List Bool) [1,2,3] [0,2] (fun k => [(6,iv (k.1 : Int))]) (fun k => [(1,some (flat cB k.2))]) (fun k => k.1 ≤ pts.length ∧ k.2.length = pl.length ∧ (∀ l,l < pl.length → k.2[l]! = if l < k.1 then (p7 pts v pl)[l]! else pl[l]!)) (fun k => pts.length - k.1) (0,pl) ⟨by omega,rfl,fun l hl => by rw [if_neg (by omega)]⟩ ?_
 rintro ⟨k,u⟩ ⟨hk,hul,hu⟩
 dsimp only at hk hul hu
 try dsimp only
 have hstep : ∀ l,l < pl.length → (p7 pts v pl)[l]! = (pl[l]! && !((decide (pts[l]!.op = 4) || decide (pts[l]!.op = 5)) && decide (pts[l]!.y = v))) := fun l hl => vI pts v pl l hl
 repeat' (first|refine aB ?_|(refine aV ?_ ?_ <;> intro hc hq <;> try (exfalso;omega))|(refine dB ?_ ?_ <;> intro hg hq <;> try (exfalso;omega))|fail)
 ·(refine bT (k + 1, _) (Le.renA [(2, 2)]) ?_ ?_)
  ·refine ⟨(by show k + 1 ≤ pts.length; omega), (by show (u.set k false).length = pl.length; rw [List.length_set]; exact hul), fun l hl => ?_⟩
   show (u.set k false)[l]! = if l < k + 1 then (p7 pts v pl)[l]! else pl[l]!
   have hs := hstep l hl
   rw [aX,hu l hl]
   clear hu hstep
   grind
  ·show pts.length - (k + 1) < pts.length - k;omega
 ·(refine bT (k + 1, u) (Le.renA [(2, 2)]) ?_ ?_)
  ·refine ⟨(by show k + 1 ≤ pts.length; omega), hul, fun l hl => ?_⟩
   show u[l]! = if l < k + 1 then (p7 pts v pl)[l]! else pl[l]!
   have hs := hstep l hl
   rw [hu l hl]
   clear hu hstep
   grind
  ·show pts.length - (k + 1) < pts.length - k;omega
 ·(refine bT (k + 1, u) (Le.renA [(2, 2)]) ?_ ?_)
  ·refine ⟨(by show k + 1 ≤ pts.length; omega), hul, fun l hl => ?_⟩
   show u[l]! = if l < k + 1 then (p7 pts v pl)[l]! else pl[l]!
   have hs := hstep l hl
   rw [hu l hl]
   clear hu hstep
   grind
  ·show pts.length - (k + 1) < pts.length - k;omega
 ·(refine bT (k + 1, _) (Le.renA [(2, 2)]) ?_ ?_)
  ·refine ⟨(by show k + 1 ≤ pts.length; omega), (by show (u.set k false).length = pl.length; rw [List.length_set]; exact hul), fun l hl => ?_⟩
   show (u.set k false)[l]! = if l < k + 1 then (p7 pts v pl)[l]! else pl[l]!
   have hs := hstep l hl
   rw [aX,hu l hl]
   clear hu hstep
   grind
  ·show pts.length - (k + 1) < pts.length - k;omega
 ·(refine bT (k + 1, u) (Le.renA [(2, 2)]) ?_ ?_)
  ·refine ⟨(by show k + 1 ≤ pts.length; omega), hul, fun l hl => ?_⟩
   show u[l]! = if l < k + 1 then (p7 pts v pl)[l]! else pl[l]!
   have hs := hstep l hl
   rw [hu l hl]
   clear hu hstep
   grind
  ·show pts.length - (k + 1) < pts.length - k;omega
 ·refine Ai (l := []) rfl ?_
  refine eP () trivial rfl ⟨.inr rfl,sE ?_,trivial⟩
  have e : u = p7 pts v pl := bJ (by rw [tZ, hul]) fun l hl => by
   rw [hu l (by omega),if_pos (by omega)]
  rw [e]
theorem CF {a b:List Bool}{m m2:Nat}{x0 x1:Operand}{i0 i1:Nat}(ha0:ev (lk tsl) x0 = some (.own i0 0 m 1)) (ha1:ev (lk tsl) x1 = some (.own i1 0 m2 1)) (hH0:aQ hsl i0 = some (flat cB a)) (hH1:aQ hsl i1 = some (flat cB b)) (hdd:Go.AL.distinct [i0,i1] = true) (hmc:MC Tryz.prog 147 [.own 0 0 m 1,.own 1 0 m2 1] [(0,some (flat cB a)),(1,some (flat cB b))] 2 (fun _:Unit => True) (fun _ => .tup []) (fun _ => [(0,some (flat cB (fL a b))),(1,some (flat cB b))])) (hM:Nat.ble (nidl + 0) aY = true) (hN:Nat.blt d N = true){md':Md}[hmd:MdA md (jH [x0,x1] ++ [.inr i0,.inr i1]) (List.map Sum.inr (List.map Prod.fst ([(i0,some (flat cB (fL a b))),(i1,some (flat cB b))]:List (Nat × Option (List AV)))) ++ [.inl d]) md'] (kk:RW Tryz.prog N all Q md' rest ⟨(d,.tup []) :: tsl,mI hsl [(i0,some (flat cB (fL a b))),(i1,some (flat cB b))],nidl + 0,z0⟩):RW Tryz.prog N all Q md (⟨some d,.call ⟨.value (.func 147),#[x0,x1],tys⟩,ty,pos,af,none⟩ :: rest) ⟨tsl,hsl,nidl,z0⟩:=by
 exact cF (l := [x0,x1]) [i0,i1] 2 [(i0,some (flat cB (fL a b))),(i1,some (flat cB b))] hmc (avs := [.own i0 0 m 1,.own i1 0 m2 1]) (by simp only [evL,ha0,ha1]) hdd hM hN (md' := md') (hmd := hmd) kk
theorem FP (a b:List Bool) (m m2:Nat) (hm:m = a.length) (hm':m2 = b.length) (hab:b.length ≤ a.length) (hl:a.length ≤ 1048576):MC Tryz.prog 147 [.own 0 0 m 1,.own 1 0 m2 1] [(0,some (flat cB a)),(1,some (flat cB b))] 2 (fun _:Unit => True) (fun _ => .tup []) (fun _ => [(0,some (flat cB (fL a b))),(1,some (flat cB b))]):=by
 subst hm hm'
 refine cR Tryz.func147 Tryz.ntmps147 ?_
 repeat' (first|refine aB ?_|fail)
 refine aL (σ := Nat × List Bool) [0,1] [1] (fun k => [(4,iv (k.1 : Int))]) (fun k => [(0,some (flat cB k.2))]) (fun k => k.1 ≤ b.length ∧ k.2.length = a.length ∧ (∀ l,l < a.length → k.2[l]! = (a[l]! || (decide (l < k.1) && b[l]!)))) (fun k => b.length - k.1) (0,a) ⟨by omega,rfl,fun l hl => by simp⟩ ?_
 rintro ⟨k,u⟩ ⟨hk,hul,hu⟩
 dsimp only at hk hul hu
 try dsimp only
 repeat' (first|refine aB ?_|(refine aV ?_ ?_ <;> intro hc hq <;> try (exfalso;omega))|(refine dB ?_ ?_ <;> intro hg hq <;> try (exfalso;omega))|fail)
 ·(refine bT (k + 1, _) (Le.renA []) ?_ ?_)
  ·refine ⟨(by show k + 1 ≤ b.length; omega), (by show (u.set k _).length = a.length; rw [List.length_set]; exact hul), fun l hl => ?_⟩
   show (u.set k _)[l]! = (a[l]! || (decide (l < k + 1) && b[l]!))
   have h1 := hu l hl
   have h2 := hu k (by omega)
   rw [aX]
   clear hu
   grind
  ·show b.length - (k + 1) < b.length - k;omega
 ·(refine bT (k + 1, _) (Le.renA []) ?_ ?_)
  ·refine ⟨(by show k + 1 ≤ b.length; omega), (by show (u.set k _).length = a.length; rw [List.length_set]; exact hul), fun l hl => ?_⟩
   show (u.set k _)[l]! = (a[l]! || (decide (l < k + 1) && b[l]!))
   have h1 := hu l hl
   have h2 := hu k (by omega)
   rw [aX]
   clear hu
   grind
  ·show b.length - (k + 1) < b.length - k;omega
 ·refine Ai (l := []) rfl ?_
  refine eP () trivial rfl ⟨sE ?_,.inr rfl,trivial⟩
  have e : u = fL a b := bJ (by rw [fF, hul]) fun l hl => by
   rw [eG _ _ _ (by omega),hu l (by omega)]
   clear hu
   grind
  rw [e]
theorem yW {a:List Bool}{R:List (List Bool)}{k m m2:Nat}{x0 x1:Operand}{i0:Nat}(ha0:ev (lk tsl) x0 = some (.own i0 0 m 1)) (ha1:ev (lk tsl) x1 = some (.own (k + aY) 0 m2 1))
  (hH0 : aQ hsl i0 = some (flat cB a)) (hF : FamR R R hsl hsl) (hk : k < R.length) (hi : Nat.blt i0 aY = true) (hm : m = a.length) (hm2 : m2 = R[k]!.length) (hab : R[k]!.length ≤ a.length) (hl : a.length ≤ 1048576) (hM : Nat.ble (nidl + 0) aY = true) (hN : Nat.blt d N = true)
  (kk : RW Tryz.prog N all Q .txt rest ⟨(d,.tup []) :: tsl,(i0,some (flat cB (fL a R[k]!))) :: hsl,nidl + 0,z0⟩) : RW Tryz.prog N all Q .txt (⟨some d,.call ⟨.value (.func 147),#[x0,x1],tys⟩,ty,pos,af,none⟩ :: rest) ⟨tsl,hsl,nidl,z0⟩ :=
 CF (a := a) (b := R[k]!) (i0 := i0) (i1 := k + aY) ha0 ha1 hH0 (hF.get hk) (JK hi) (FP a R[k]! m m2 hm hm2 hab hl) hM hN (md' := .txt) (gF kk (Le.fdrop (FamR.cons hi hF) hk))
theorem CW (ts:List Int) (pts:List Pnt) (w:WG ts pts) (i:Nat) (hi:i < pts.length) (R0:List (List Bool)) (hl:R0.length = ts.length + 1) (hr:∀ k,k < ts.length + 1 → R0[k]!.length = pts.length):Jy Tryz.prog 145 [sl cI ts,sl b9 pts,iv (i:Int),Jd 0 ts.length pts.length] R0 (.agg [sl fW (nM ts pts i (R0.take ts.length)),sl cB (nN ts pts i R0[ts.length]!)]) []:=by
 have hrn := hr ts.length (by omega)
 have htl := w.tl
 have hpl := w.pl
 have hy := w.y i hi
 have hset := w.set i hi
 refine v8 Tryz.func145 Tryz.ntmps145 ?_
 repeat' (first|(apply aH;first|(with_reducible apply dX (d := 19))|(apply cO;rfl;rfl;rfl;rfl;rfl;(case hl => (simp;done));(exact (rfl:_=[_,_,_,_,_]))))|refine aB ?_|fail)
 refine iK ?_
 refine wG (R := R0) (R0 := R0) (avs := [Jd 0 ts.length pts.length]) (b := 0) (n1 := 2) (D := (List.range R0.length).map fun k => 0 + k + aY) (ws := [(3,some (flat fW (R0.take ts.length))),(4,some (flat cB R0[ts.length]!))]) (rr' := .agg [.own 3 0 ts.length 1,.own 4 0 pts.length 1]) (md' := .txt) rfl (Dy ts.length pts.length R0 htl hpl hl hr) (by (repeat' (first|exact FamR.here|(apply FamR.cons;focus rfl)))) (by omega) (fun k hk => by rw [Nat.zero_add]) (fun k hk => List.mem_map.2 ⟨k,by rw [List.mem_range]; exact hk,rfl⟩) ?_ rfl ?_ ?_ rfl rfl ?_
 ·refine .cons (.agg (.cons (.imm (rn_rows fun k hk => ?_)) (.cons (.own ?_) .nil))) .nil
  ·rw [Nat.zero_add,lI (by omega),Nat.zero_add]
  ·rw [Nat.zero_add,lI (by omega),Nat.zero_add]
 ·exact .agg (.cons (.own (pB (j := 0) (by decide) (by decide))) (.cons (.own (pB (j := 1) (by decide) (by decide))) .nil))
 ·exact ⟨⟨0,_,pB (j := 0) (by decide) (by decide),rfl,RnL.purI inferInstance⟩,⟨1,_,pB (j := 1) (by decide) (by decide),rfl,RnL.purI inferInstance⟩,trivial⟩
 have hfr : ∀ v,v < ts.length → (R0.take ts.length)[v]! = R0[v]! := fun v hv => by rw [bG _ _ (by rw [List.length_take]; omega),bG _ _ (by omega),List.getElem_take]
 have hY : ∀ l, l < pts.length → pts[i]!.op = 3 ∨ pts[i]!.op = 4 ∨ pts[i]!.op = 5 → (R0.take ts.length)[pts[i]!.y.toNat]![l]! = R0[0 + pts[i]!.y.toNat]![l]! ∧ R0[0 + pts[i]!.y.toNat]!.length = pts.length := fun l hl h => by
  rw [Nat.zero_add]; exact ⟨by rw [hfr _ (by omega)],hr _ (by omega)⟩
 have eA : pts[i]!.op = 3 → fL (List.replicate pts.length false) R0[0 + pts[i]!.y.toNat]! = qX ts pts i (R0.take ts.length) := fun h => bJ (by rw [fF, gZ]; simp) fun l hl => by
  rw [fF,List.length_replicate] at hl
  have h1 := hY l hl (.inl h)
  rw [eG _ _ _ (by simpa using hl),hG _ _ _ _ _ hl,if_pos h,dA _ _ _ hl,h1.1,decide_eq_true (by omega)]; rfl
 have eB : pts[i]!.op = 4 ∨ pts[i]!.op = 5 → iI ts[pts[i]!.y.toNat]! = true → fL ((List.replicate pts.length false).set i true) R0[0 + pts[i]!.y.toNat]! = qX ts pts i (R0.take ts.length) := fun h h' => bJ (by rw [fF, gZ]; simp) fun l hl => by
  rw [fF,List.length_set,List.length_replicate] at hl
  have h1 := hY l hl (.inr h)
  have h2 : b7 pts[i]! = true := by unfold b7;rcases h with h|h <;> rw [h] <;> rfl
  rw [eG _ _ _ (by simpa using hl),hG _ _ _ _ _ hl,if_neg (by omega),h1.1,h2,h',aX,dA _ _ _ hl,decide_eq_true (by omega)]
  by_cases e : l = i
  ·subst e;simp [hl]
  ·rw [if_neg (fun q => e q.1.symm),decide_eq_false e]; simp
 have eC : pts[i]!.op = 4 ∨ pts[i]!.op = 5 → iI ts[pts[i]!.y.toNat]! = false → (List.replicate pts.length false).set i true = qX ts pts i (R0.take ts.length) := fun h h' => bJ (by rw [gZ]; simp) fun l hl => by
  rw [List.length_set,List.length_replicate] at hl
  have h2 : b7 pts[i]! = true := by unfold b7;rcases h with h|h <;> rw [h] <;> rfl
  rw [hG _ _ _ _ _ hl,if_neg (by omega),h2,h',aX,dA _ _ _ hl]
  by_cases e : l = i
  ·subst e;simp [hl]
  ·rw [if_neg (fun q => e q.1.symm),decide_eq_false e]; simp
 have eD : ¬ pts[i]!.op = 3 → ¬ pts[i]!.op = 4 → ¬ pts[i]!.op = 5 → List.replicate pts.length false = qX ts pts i (R0.take ts.length) := fun h3 h4 h5 => bJ (by rw [gZ]; simp) fun l hl => by
  rw [List.length_replicate] at hl
  have h2 : b7 pts[i]! = false := by unfold b7;rw [decide_eq_false h4,decide_eq_false h5]; rfl
  rw [hG _ _ _ _ _ hl,if_neg h3,h2,dA _ _ _ hl]; rfl
 have hvl := gZ ts pts i (R0.take ts.length)
 have hneg : aU pts[i]! < 0 → ¬ pts[i]!.op = 4 ∧ ¬ pts[i]!.op = 5 := fun h => by
  have h1 := w.x i hi
  unfold aU at h
  split at h
  ·omega
  ·omega
 have hQ0 : ∀ (v : Nat) (q : List Bool), ts.length ≤ v → (∀ l, l < pts.length → q[l]! = (R0[ts.length]![l]! && !(b7 pts[l]! && (decide (pts[l]!.y < v) && decide (bB ts pts[i]! pts[l]!.y = 2))))) → ∀ l, l < pts.length → q[l]! = (R0[ts.length]![l]! && !(b7 pts[l]! && decide (bB ts pts[i]! pts[l]!.y = 2))) := fun v q hv h l hl => by
  rw [h l hl]
  cases hln : b7 pts[l]! with
  | false => rfl
  | true => have := nT w hl hln;rw [decide_eq_true (by omega : pts[l]!.y < (v : Int))]; rfl
 apply cut
 case' main =>
  intro key
  repeat' (first|(apply aH;first|(apply yW;rfl;rfl;rfl;(case hF => (repeat' (first|exact FamR.here|(apply FamR.cons;focus rfl))));(simp only [Nat.zero_add] <;> omega);rfl;(case hm => (simp;done));(simp only [Nat.zero_add]; symm;exact hr _ (by omega));(simp only [Nat.zero_add]; rw [hr _ (by omega)]; simp);(simp;omega);rfl;rfl)|(apply iJ;rfl;rfl;(omega);rfl;infer_instance;infer_instance;rfl)|(apply cO;rfl;rfl;rfl;rfl;rfl;(case hl => (first|(rw [aI]; simp only [jY] <;> omega)|(simp;done)));(first|exact uP (by (simp only [jY] <;> omega))|exact (rfl:_=[_,_])))|(apply aA (k := 181);rfl;(apply D2);(rfl);rfl))|refine aB ?_|(refine aV ?_ ?_ <;> intro hc hq <;> try (exfalso;omega))|fail)
  all_goals first
   | rw [eA (by assumption)]
   | rw [eB (.inl (by assumption)) (by assumption)]
   | rw [eB (.inr (by assumption)) (by assumption)]
   | rw [eC (.inl (by assumption)) (by assumption)]
   | rw [eC (.inr (by assumption)) (by assumption)]
   | rw [eD (by assumption) (by assumption) (by assumption)]
  all_goals refine yO (σ := Nat × List (List Bool) × List Bool) 0 (fun s => R0) [0, 1, 2, 8, 9, 10, 11] [(0, _), (1, _), (2, _), (8, _), (9, _), (10, _), (11, _)] [6, 5, 2, 1, 0] [(6, some _), (5, some _), (2, some _), (1, some _), (0, some _)] (fun s => [(12, iv (s.1 : Int))]) (fun s => [(3, some (flat fW s.2.1)), (4, some (flat cB s.2.2))]) (fun s => s.1 ≤ ts.length ∧ s.2.1.length = ts.length ∧ (∀ v, v < ts.length → s.2.1[v]! = if v < s.1 ∧ bB ts pts[i]! v = 2 then List.replicate pts.length false else R0[v]!) ∧ s.2.2.length = pts.length ∧ (∀ l, l < pts.length → s.2.2[l]! = (R0[ts.length]![l]! && !(b7 pts[l]! && (decide (pts[l]!.y < s.1) && decide (bB ts pts[i]! pts[l]!.y = 2)))))) (fun s => ts.length - s.1) (0, R0.take ts.length, R0[ts.length]!) ⟨by omega, (by show (R0.take ts.length).length = _; rw [List.length_take]; omega), fun v hv => (by show (R0.take ts.length)[v]! = _; rw [hfr v hv, if_neg (by omega)]), hrn, fun l hl => (by
    show R0[ts.length]![l]! = _
    cases hln : b7 pts[l]! with
    | false => simp
    | true => have := nT w hl hln;rw [decide_eq_false (by omega : ¬ pts[l]!.y < ((0 : Nat) : Int))]; simp)⟩ rfl rfl (by repeat' (first|exact trivial|refine And.intro rfl ?_)) (by repeat' (first|exact trivial|refine And.intro (.inr rfl) ?_)) (by (repeat' (first|exact FamR.here|(apply FamR.cons;focus rfl)))) (by (rfl)) key.pf
 rintro ⟨v,u,q⟩ ⟨hv,hul,hu,hql,hq'⟩
 dsimp only at hv hul hu hql hq'
 try dsimp only
 repeat' (first|(apply aH;first|(with_reducible apply dX (d := 73))|(with_reducible apply dX (d := 86))|(apply cO;rfl;rfl;rfl;rfl;rfl;(case hl => (first|(rw [aI]; simp only [jY] <;> omega)|(simp;done)));(first|exact (rfl:_=[_,_])|rfl))|(first|(apply aA (k := 139);rfl;(apply k7 <;> (omega));exact Pur.pf;rfl)|(apply aA (k := 140);rfl;(apply mR);exact Pur.pf;rfl)))|refine aB ?_|(refine aV ?_ ?_ <;> intro hc hq <;> try (exfalso;omega))|(refine dB ?_ ?_ <;> intro hg hq <;> try (exfalso;omega))|refine dH ?_|fail)
 ·refine iK (gF ?_ (Le.frzRow (j := 3) (q := 7) (v := v) (u := u) (r := List.replicate pts.length false) rfl rfl (by simp) (by omega) (by decide)))
  repeat' (first|(apply aH;(apply sD;rfl;rfl;rfl;(rfl);(rfl);rfl;(apply wE <;> (first|assumption|omega));rfl;rfl))|refine aB ?_|fail)
  (apply bT (v + 1,u.set v (List.replicate pts.length false),p7 pts v q);focus (refine Le.renF0 [(0,0),(1,1),(2,2),(3,3),(4,4),(5,5),(6,6)] (R := ?qA3) (hF := ?qF3) (hz := ?qz3) (hm := ?qm3) (hn := ?qn3) (h1 := ?q13) (h2 := ?q23);(case qF3 => (repeat' (first|exact FamR.here|(apply FamR.cons;focus rfl))));(case qz3 => (rfl));(case qm3 => rfl);(case qn3 => decide);all_goals (repeat' (first|exact trivial|refine And.intro ⟨_,rfl,?_⟩ ?_|refine And.intro ⟨_,_,rfl,rfl,?_⟩ ?_|exact RnL.purI inferInstance|exact RnV.purI inferInstance|exact RnV.own rfl|exact RnV.optr rfl|exact RnL.nil|refine RnL.cons ?_ ?_|exact RnV.imm (cU (by (simp only [List.length_replicate,List.length_set,List.length_append,List.length_singleton] at * <;> omega)))|exact RnV.own (fU (by omega) (by show _ < aY + _; (omega)))))))
  ·refine ⟨(by show v + 1 ≤ ts.length; omega), (by show (u.set v _).length = ts.length; rw [List.length_set]; exact hul), fun v' hv' => ?_, (by show (p7 pts v q).length = pts.length; rw [tZ]; exact hql), fun l hl => ?_⟩
   ·show (u.set v (List.replicate pts.length false))[v']! = if v' < v + 1 ∧ bB ts pts[i]! v' = 2 then _ else _
    rw [aX,hu v' hv']
    by_cases e : v = v'
    ·subst e;rw [if_pos ⟨rfl,by omega⟩,if_pos ⟨by omega,by assumption⟩]
    ·rw [if_neg (fun h => e h.1)]
     by_cases e2 : v' < v ∧ bB ts pts[i]! v' = 2
     ·rw [if_pos e2,if_pos ⟨by omega,e2.2⟩]
     ·rw [if_neg e2,if_neg (fun h => e2 ⟨by omega,h.2⟩)]
   ·show (p7 pts v q)[l]! = _
    have hu2 : bB ts pts[i]! v = 2 := by assumption
    rw [vI _ _ _ _ (by omega),hq' l hl]
    clear hu hq'
    by_cases hln : b7 pts[l]! = true
    ·rw [hln]
     by_cases e : pts[l]!.y = v
     ·rw [e,hu2,decide_eq_true (by omega : (v : Int) < ((v + 1 : Nat) : Int))]; simp
     ·rw [decide_eq_false e]
      have e3 : decide (pts[l]!.y < ((v + 1 : Nat) : Int)) = decide (pts[l]!.y < (v : Int)) := by
       have : (pts[l]!.y < ((v + 1 : Nat) : Int)) ↔ (pts[l]!.y < (v : Int)) := by omega
       simp only [this]
      rw [e3]; simp
    ·rw [Bool.not_eq_true] at hln;rw [hln]; simp
  ·show ts.length - (v + 1) < ts.length - v;omega
 ·(apply bT (v + 1, u, q); focus (refine Le.renF0 [(0, 0), (1, 1), (2, 2), (3, 3), (4, 4), (5, 5), (6, 6)] (R := ?qA4) (hF := ?qF4) (hz := ?qz4) (hm := ?qm4) (hn := ?qn4) (h1 := ?q14) (h2 := ?q24); (case qF4 => (repeat' (first | exact FamR.here | (apply FamR.cons; focus rfl)))); (case qz4 => (rfl)); (case qm4 => rfl); (case qn4 => decide); all_goals (repeat' (first | exact trivial | refine And.intro ⟨_, rfl, ?_⟩ ?_ | refine And.intro ⟨_, _, rfl, rfl, ?_⟩ ?_ | exact RnL.purI inferInstance | exact RnV.purI inferInstance | exact RnV.own rfl | exact RnV.optr rfl | exact RnL.nil | refine RnL.cons ?_ ?_ | exact RnV.imm (cU (by (simp only [List.length_replicate, List.length_set, List.length_append, List.length_singleton] at * <;> omega))) | exact RnV.own (fU (by omega) (by show _ < aY + _; (omega)))))))
  ·refine ⟨(by show v + 1 ≤ ts.length; omega), hul, fun v' hv' => ?_, hql, fun l hl => ?_⟩
   ·show u[v']! = if v' < v + 1 ∧ bB ts pts[i]! v' = 2 then _ else _
    rw [hu v' hv']
    have hu2 : ¬ bB ts pts[i]! v = 2 := by assumption
    by_cases e2 : v' < v ∧ bB ts pts[i]! v' = 2
    ·rw [if_pos e2,if_pos ⟨by omega,e2.2⟩]
    ·rw [if_neg e2, if_neg (fun h => (by
      by_cases e : v = v'
      ·subst e;exact hu2 h.2
      ·exact e2 ⟨by omega,h.2⟩))]
   ·show q[l]! = _
    have hu2 : ¬ bB ts pts[i]! v = 2 := by assumption
    rw [hq' l hl]
    clear hu hq'
    by_cases e : pts[l]!.y = v
    ·rw [e,decide_eq_false hu2]; simp
    ·have e3 : decide (pts[l]!.y < ((v + 1 : Nat) : Int)) = decide (pts[l]!.y < (v : Int)) := by
      have : (pts[l]!.y < ((v + 1 : Nat) : Int)) ↔ (pts[l]!.y < (v : Int)) := by omega
      simp only [this]
     rw [e3]
  ·show ts.length - (v + 1) < ts.length - v;omega
 ·refine iK (gF ?_ (Le.frzRow (j := 3) (q := 6) (v := (aU pts[i]!).toNat) (u := u) (r := qX ts pts i (R0.take ts.length)) rfl rfl (by omega) (by omega) (by decide)))
  have hlo : (p7 pts (aU pts[i]!) q).length = pts.length := by rw [tZ]; exact hql
  have hQ := fun l hl => hQ0 v q (by omega) hq' l hl
  have eU : u.set (aU pts[i]!).toNat (qX ts pts i (R0.take ts.length)) = nM ts pts i (R0.take ts.length) := bJ (by rw [dO]; simp; omega) fun v' hv' => by
   rw [List.length_set] at hv'
   rw [aX,jO _ _ _ _ _ (by omega),hu v' (by omega),hfr v' (by omega)]
   by_cases e : aU pts[i]! = v'
   ·rw [if_pos ⟨by omega,hv'⟩,if_pos e]
   ·rw [if_neg (fun h => e (by omega)), if_neg e]
    by_cases e2 : bB ts pts[i]! v' = 2
    ·rw [if_pos ⟨by omega,e2⟩,if_pos e2]
    ·rw [if_neg (fun h => e2 h.2),if_neg e2]
  have eL : ∀ l, l < pts.length → (p7 pts (aU pts[i]!) q)[l]! = (R0[ts.length]![l]! && !(b7 pts[l]! && (decide (bB ts pts[i]! pts[l]!.y = 2) || decide (aU pts[i]! = pts[l]!.y)))) := fun l hl => by
   rw [vI _ _ _ _ (by omega),hQ l hl]
   have : decide (pts[l]!.y = aU pts[i]!) = decide (aU pts[i]! = pts[l]!.y) := by simp only [eq_comm]
   rw [this]
   cases R0[ts.length]![l]! <;> cases b7 pts[l]! <;> cases decide (bB ts pts[i]! pts[l]!.y = 2) <;> cases decide (aU pts[i]! = pts[l]!.y) <;> rfl
  have eQ1 : b7 pts[i]! = true → (p7 pts (aU pts[i]!) q).set i true = nN ts pts i R0[ts.length]! := fun h => bJ (by rw [cH, List.length_set, hlo]) fun l hl => by
   rw [List.length_set,hlo] at hl
   rw [aX,lK _ _ _ _ _ hl,eL l hl,h,hlo]
   by_cases e : l = i
   ·subst e;rw [if_pos ⟨rfl,hl⟩,decide_eq_true rfl]; rfl
   ·rw [if_neg (fun q => e q.1.symm),decide_eq_false e]; rfl
  have eQ0 : b7 pts[i]! = false → p7 pts (aU pts[i]!) q = nN ts pts i R0[ts.length]! := fun h => bJ (by rw [cH, hlo]) fun l hl => by
   rw [hlo] at hl
   rw [lK _ _ _ _ _ hl,eL l hl,h]; rfl
  repeat' (first|(apply aH;first|(apply cO;rfl;rfl;rfl;rfl;rfl;(case hl => (first|(rw [aI]; simp only [jY] <;> omega)|(simp;done)));(first|exact uP (by (omega))|exact (rfl:_=[_,_])))|(apply sD;rfl;rfl;rfl;(rfl);(rfl);rfl;(apply wE <;> (first|assumption|omega));rfl;rfl))|refine aB ?_|(refine aV ?_ ?_ <;> intro hc hq <;> try (exfalso;omega))|(refine dB ?_ ?_ <;> intro hg hq <;> try (exfalso;omega))|fail)
  ·refine bK ((Le.frzC (j := 1) (i := 3) [] rfl rfl (by decide)).trans (Le.frzC (j := 1) (i := 4) [_] rfl rfl (by decide))) ?_
   refine aP (l := [.agg [_,_]]) rfl ?_
   refine nQ ?_ trivial (by (repeat' (first|exact FamR.here|(apply FamR.cons;focus rfl))))
   simp only [aR]
   rw [eU,eQ1 (by unfold b7;rw [decide_eq_true ‹pts[i]!.op = 5›]; simp)]
   simp only [sl,dO,cH]
  ·refine bK ((Le.frzC (j := 1) (i := 3) [] rfl rfl (by decide)).trans (Le.frzC (j := 1) (i := 4) [_] rfl rfl (by decide))) ?_
   refine aP (l := [.agg [_,_]]) rfl ?_
   refine nQ ?_ trivial (by (repeat' (first|exact FamR.here|(apply FamR.cons;focus rfl))))
   simp only [aR]
   rw [eU,eQ0 (by unfold b7;rw [decide_eq_false ‹¬ pts[i]!.op = 4›,decide_eq_false ‹¬ pts[i]!.op = 5›]; rfl)]
   simp only [sl,dO,cH]
  ·refine bK ((Le.frzC (j := 1) (i := 3) [] rfl rfl (by decide)).trans (Le.frzC (j := 1) (i := 4) [_] rfl rfl (by decide))) ?_
   refine aP (l := [.agg [_,_]]) rfl ?_
   refine nQ ?_ trivial (by (repeat' (first|exact FamR.here|(apply FamR.cons;focus rfl))))
   simp only [aR]
   rw [eU,eQ1 (by unfold b7;rw [decide_eq_true ‹pts[i]!.op = 4›]; rfl)]
   simp only [sl,dO,cH]
 ·have hQ := fun l hl => hQ0 v q (by omega) hq' l hl
  have eU : u = nM ts pts i (R0.take ts.length) := bJ (by rw [dO]; omega) fun v' hv' => by
   rw [jO _ _ _ _ _ (by omega),hu v' (by omega),hfr v' (by omega),if_neg (by omega : ¬ aU pts[i]! = (v' : Int))]
   by_cases e2 : bB ts pts[i]! v' = 2
   ·rw [if_pos ⟨by omega,e2⟩,if_pos e2]
   ·rw [if_neg (fun h => e2 h.2),if_neg e2]
  have eQ0 : b7 pts[i]! = false → q = nN ts pts i R0[ts.length]! := fun h => bJ (by rw [cH, hql]) fun l hl => by
   rw [hql] at hl
   rw [lK _ _ _ _ _ hl,hQ l hl,h]
   cases hln : b7 pts[l]! with
   | false => simp
   | true => have := nT w hl hln;rw [decide_eq_false (by omega : ¬ aU pts[i]! = pts[l]!.y)]; simp
  refine bK ((Le.frzC (j := 1) (i := 3) [] rfl rfl (by decide)).trans (Le.frzC (j := 1) (i := 4) [_] rfl rfl (by decide))) ?_
  refine aP (l := [.agg [_,_]]) rfl ?_
  refine nQ ?_ trivial (by (repeat' (first|exact FamR.here|(apply FamR.cons;focus rfl))))
  simp only [aR]
  rw [eU,eQ0 (by unfold b7;rw [decide_eq_false ‹¬ pts[i]!.op = 4›,decide_eq_false ‹¬ pts[i]!.op = 5›]; rfl)]
  simp only [sl,dO,cH]
end Go.Proofs.YtgkalkgplcdnkaaGreat
