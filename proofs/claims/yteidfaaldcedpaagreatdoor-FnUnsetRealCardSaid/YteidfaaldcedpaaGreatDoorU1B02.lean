/-
 A part of the proofs over this program: rules and contracts of its functions (the contracts).
-/
import Derived.Test.YteidfaaldcedpaaGreatDoorU1B01
set_option linter.unusedVariables false
set_option linter.unusedSimpArgs false
set_option maxHeartbeats 8000000
set_option maxRecDepth 4000
attribute [local irreducible] Go.AL.RW Go.AL.AW Go.AL.Stop
namespace Go.Proofs.YteidfaaldcedpaaGreatDoor
open Go.AL Go.RowKit
variable {N : Nat} {Q : Exit → AS → Prop} {all : Array Oper} {rest : List Oper} {tsl : List (Nat × AV)} {hsl : List (Nat × Option (List AV))} {nidl : Nat} {z0 : Lo} {md : Md} {d : Nat} {ty : TypeId} {pos : String} {af : Array Edge} {tys : Array TypeId}
theorem F8 (n:Nat) (A:List Nat) (i:Int) (hA:A.length = n * 6) (hi:0 ≤ i ∧ i < n):PC Tryz.prog 52 [iv i,.iptr [.imm n (flat cW A)]] (fun r => r = .agg (flat cW (dG A i.toNat))):=by
 have h6 : ((A.drop (i.toNat * 6)).take 6).length = 6 := gE hA (by omega)
 refine aB Tryz.func52 Tryz.ntmps52 ?_
 repeat' (first|refine aE ?_|fail)
 refine aC (oN (z := 6) rfl rfl h6 (by decide)) ⟨rfl,(by (exact bD _ _))⟩
theorem Mi (ts:List Int) (bd:List AL.Stmt) (pts:List Pnt) (Aa Am Al Af Ap:List Nat) (n:Nat) (w:WG ts pts) (ga:sC ts pts Aa) (gm:r8 ts pts Am) (gl:sG ts pts Al) (gf:sQ ts pts Af) (gp:sR ts pts Ap) (hn:n = pts.length) :
  PC Tryz.prog 50 [aG ts bd pts,.imm n (flat cN Al),.clos (.func 52) [] [.iptr [.imm n (flat cW Af)]]] (fun r => r = sl iW (pZ ts pts Aa Am Al Af Ap pts.length)) := by
 subst hn
 have hpl := w.pl
 have htl := w.tl
 have hla := ga.1
 have hlm := gm.1
 have hll := gl.1
 have hlf := gf.1
 have hlp := gp.1
 refine aB Tryz.func50 Tryz.ntmps50 ?_
 repeat' (first|(apply aF;first|(apply l6 (d := 10) (e := 3);rfl;rfl)|(first|(apply aA (k := 22);rfl;(apply FN <;> (assumption));exact Pur.pf;rfl)|(apply aA (k := 87);rfl;(apply Ix <;> (assumption));exact Pur.pf;rfl)|(apply aA (k := 88);rfl;(apply Jr <;> (assumption));exact Pur.pf;rfl)))|refine aE ?_|fail)
 refine aH (σ := Nat × List Iss × Nat) [0,1,2,7,8,9,27,28] [] (fun k => [(29,iv (k.1 : Int)),(10,.own 0 0 k.2.2 3)]) (fun k => [(0,some (flat iW k.2.1))]) (fun k => k.1 ≤ pts.length ∧ k.2.1 = pZ ts pts Aa Am Al Af Ap k.1 ∧ k.2.2 = k.2.1.length ∧ k.2.2 ≤ k.1 * 124) (fun k => pts.length - k.1) (0,[],0) ⟨by omega,rfl,rfl,Nat.le_refl _⟩ ?_
 rintro ⟨i,u,m⟩ ⟨hk,hu,hm,hmk⟩
 dsimp only at hk hu hm hmk ⊢
 by_cases hin : i < pts.length
 ·have hst := w.set i hin
  have hsU : Sm (wS ts pts[i]! [1,2,3]) := b0 (by omega)
  have bl : ∀ {A : Nat} {n : Nat}, n ≤ 62 → (∀ v, A.testBit v = true → v < n) → A < 2 ^ n := fun _ hv => Nat.lt_pow_two_of_testBit _ fun v h => by
   cases hq : Nat.testBit _ v with
   | false => rfl
   | true => have := hv v hq;omega
  have hAa : Sm Aa[i]! := ⟨bl (n := 62) (by omega) fun v hv => by have := ((ga.2 i hin v).1 hv).1;omega⟩
  have hAm : Sm Am[i]! := ⟨bl (n := 62) (by omega) fun v hv => by have := K9 w ((gm.2 i hin v).1 hv);dsimp only at this;omega⟩
  have hAl : Al[i]! < 2 ^ ts.length := bl (by omega) fun v hv => by obtain ⟨k,_,h⟩ := (gl.2 i hin v).1 hv;exact uO w h
  have hAl2 : Sm Al[i]! := ⟨Nat.lt_of_lt_of_le hAl (Nat.pow_le_pow_right (by decide) (by omega))⟩
  have hAp : Ap[i]! < 2 ^ pts.length := bl (by omega) fun v hv => (v7 ((gp.2 i hin v).1 hv)).1
  have hAp2 : Sm Ap[i]! := ⟨Nat.lt_of_lt_of_le hAp (Nat.pow_le_pow_right (by decide) (by omega))⟩
  have hrl := gE hlf hin
  have hrs : ∀ z : Nat, Sm (dG Af i)[z]! := by
   intro z
   by_cases hz : z < 6
   ·rw [fM hlf hin hz]
    exact ⟨bl (n := 62) (by omega) fun v hv => by have := (FD w ((gf.2 i z hin hz v).1 hv)).2.2;dsimp only at this;omega⟩
   ·rw [getElem!_neg _ z (by rw [hrl]; exact hz)]; exact ⟨by decide⟩
  have hkp : Be ts pts[(i : Int).toNat]! Al[i]! (dG Af (i : Int).toNat) < 2 ^ pts.length := by
   refine bl (by omega) fun v hv => ?_
   unfold Be at hv
   rw [kP] at hv
   rcases hv with hv | ⟨z,hz,hv⟩
   ·simp at hv
   ·obtain ⟨q, h1, h2, rfl⟩ := cJ.1 hz
    rw [c8,Bool.and_eq_true] at h2
    have h3 := cT hAl h2.1
    have h4 : q < 6 := by omega
    have h5 : (dG Af i)[q]!.testBit v = true := hv
    rw [fM hlf hin h4] at h5
    exact (FD w ((gf.2 i q hin h4 v).1 h5)).2.2
  have hkp2 : Sm (Be ts pts[(i : Int).toNat]! Al[i]! (dG Af (i : Int).toNat)) := ⟨Nat.lt_of_lt_of_le hkp (Nat.pow_le_pow_right (by decide) (by omega))⟩
  have hlo : Be ts pts[(i : Int).toNat]! Al[i]! (dG Af (i : Int).toNat) &&& Ap[i]! < 2 ^ pts.length := Nat.and_lt_two_pow _ hAp
  have hcf := DQ w (Am := Am) (Al := Al) (Af := Af) (i := i) hAp
  have hcf2 : Sm (Mq ts pts Am Al Af Ap i) := ⟨Nat.lt_of_lt_of_le hcf (Nat.pow_le_pow_right (by decide) (by omega))⟩
  have hcf3 : Sm (Ll pts (Be ts pts[(i : Int).toNat]! Al[i]! (dG Af (i : Int).toNat) &&& Ap[i]!) (kC ts pts[(i : Int).toNat]! (Am[i]!.testBit (aQ pts[(i : Int).toNat]!).toNat)) 0) := hcf2
  have hb1 := cK (oJ (wS ts pts[i]! [1,2,3]) Aa[i]!)
  have hb2 := cK (Mq ts pts Am Al Af Ap i)
  repeat' (first|(apply aF;(first|(apply aA (k := 21);rfl;(apply fR <;> (infer_instance));(rfl);rfl)|(apply aA (k := 67);rfl;(apply gK <;> (assumption));exact Pur.pf;rfl)))|refine aE ?_|(refine aK ?_ ?_ <;> intro hc hq <;> try (exfalso;omega))|refine bH ?_|fail)
  have hb1b : ∀ j,j < (a7 (oJ (wS ts pts[i]! [1,2,3]) Aa[i]!)).length → 0 ≤ (a7 (oJ (wS ts pts[i]! [1,2,3]) Aa[i]!))[j]! := fun j h => (nF (inferInstance : Sm (oJ (wS ts pts[i]! [1,2,3]) Aa[i]!)).pf h).1
  refine aH (σ := Nat × List Iss × Nat) [0,1,2,7,8,9,11,27,28,29,42,43] [] (fun j => [(44,iv (j.1 : Int)),(10,.own 0 0 j.2.2 3)]) (fun j => [(0,some (flat iW j.2.1))]) (fun j => j.1 ≤ (a7 (oJ (wS ts pts[i]! [1,2,3]) Aa[i]!)).length ∧ j.2.1 = u ++ Hk i ((a7 (oJ (wS ts pts[i]! [1,2,3]) Aa[i]!)).take j.1) ∧ j.2.2 = j.2.1.length ∧ j.2.2 ≤ i * 124 + j.1) (fun j => (a7 (oJ (wS ts pts[i]! [1,2,3]) Aa[i]!)).length - j.1) (0,u,m) ⟨by omega,by simp [Hk],hm,by omega⟩ ?_
  rintro ⟨j,u2,m2⟩ ⟨hj,hu2,hm2,hmk2⟩
  dsimp only at hj hu2 hm2 hmk2 ⊢
  by_cases hjn : j < (a7 (oJ (wS ts pts[i]! [1,2,3]) Aa[i]!)).length
  ·repeat' (first | (apply aF; (apply aJ (t := _);rfl;rfl;rfl;(exact (rfl:_=some [_, _, _]));rfl;rfl)) | refine aE ?_ | (refine aK ?_ ?_ <;> intro hc hq <;> try (exfalso; omega))|fail)
   (refine bB (j + 1,_,_) (Le.renA [(0,3)]) ?_ ?_)
   ·dsimp only
    refine ⟨by omega,?_,by simp;omega,by omega⟩
    rw [hu2]; unfold Hk;rw [kW _ _ _ hjn,List.append_assoc]
   ·dsimp only;omega
  ·have hu3 : u2 = u ++ Hk i (a7 (oJ (wS ts pts[i]! [1, 2, 3]) Aa[i]!)) := by rw [hu2, List.take_of_length_le (by omega)]
   repeat' (first|(apply aF;first|(first|(apply aA (k := 89);rfl;(apply uK <;> (assumption));(rfl);rfl)|(apply aA (k := 90);rfl;(apply Gl <;> (first|assumption|omega));exact Pur.pf;rfl)|(apply aA (k := 91);rfl;(apply Qt <;> (first|assumption|omega));exact Pur.pf;rfl))|(apply gQ;rfl;rfl;infer_instance;rfl;(apply F8 <;> (first|assumption|omega));exact Pur.pf;rfl))|refine aE ?_|(refine aK ?_ ?_ <;> intro hc hq <;> try (exfalso;omega))|refine bH ?_|fail)
   generalize hL : a7 (Ll pts (Be ts pts[(i : Int).toNat]! Al[i]! (dG Af (i : Int).toNat) &&& Ap[i]!) (kC ts pts[(i : Int).toNat]! (Am[i]!.testBit (aQ pts[(i : Int).toNat]!).toNat)) 0) = L2
   have hL2 : a7 (Mq ts pts Am Al Af Ap i) = L2 := hL
   have hbd : ∀ j,j < L2.length → 0 ≤ L2[j]! ∧ L2[j]! < pts.length := fun j h => by rw [← hL2] at h ⊢; exact nF hcf h
   rw [hL2] at hb2
   refine aH (σ := Nat × List Iss × Nat) [0,1,2,7,8,9,11,27,28,29,77,78] [] (fun l => [(79,iv (l.1 : Int)),(10,.own 0 0 l.2.2 3)]) (fun l => [(0,some (flat iW l.2.1))]) (fun l => l.1 ≤ L2.length ∧ l.2.1 = u2 ++ Ha pts i (L2.take l.1) ∧ l.2.2 = l.2.1.length ∧ l.2.2 ≤ i * 124 + 62 + l.1) (fun l => L2.length - l.1) (0,u2,m2) ⟨by omega,by simp [Ha],hm2,Nat.le_trans hmk2 (by omega)⟩ ?_
   rintro ⟨l,u4,m4⟩ ⟨hl,hu4,hm4,hmk4⟩
   dsimp only at hl hu4 hm4 hmk4 ⊢
   by_cases hln : l < L2.length
   ·have hbl := hbd l hln
    repeat' (first|(apply aF;(apply aJ (t := _);rfl;rfl;rfl;(exact (rfl:_=some [_,_,_]));rfl;rfl))|refine aE ?_|(refine aK ?_ ?_ <;> intro hc hq <;> try (exfalso;omega))|fail)
    ·(refine bB (l + 1, _, _) (Le.renA [(0, 3)]) ?_ ?_)
     ·dsimp only
      refine ⟨by omega,?_,by simp;omega,by omega⟩
      rw [hu4]; unfold Ha;rw [kW _ _ _ hln,List.append_assoc,if_pos hq]
     ·dsimp only;omega
    ·(refine bB (l + 1, _, _) (Le.renA [(0, 3)]) ?_ ?_)
     ·dsimp only
      refine ⟨by omega,?_,by simp;omega,by omega⟩
      rw [hu4]; unfold Ha;rw [kW _ _ _ hln,List.append_assoc,if_neg hq]
     ·dsimp only;omega
   ·repeat' (first | refine aE ?_ | (refine aK ?_ ?_ <;> intro hc hq <;> try (exfalso; omega))|fail)
    (refine bB (i + 1,u4,m4) (Le.renA [(0,0)]) ?_ ?_)
    ·dsimp only
     refine ⟨by omega,?_,hm4,by omega⟩
     rw [n5,hu4,List.take_of_length_le (by omega),hu3,← hL2,hu,List.append_assoc]; rfl
    ·dsimp only;omega
 ·repeat' (first | refine aE ?_ | (refine aK ?_ ?_ <;> intro hc hq <;> try (exfalso; omega))|fail)
  (refine aO (Le.frzD (d := 6) (i := 0) rfl rfl) ?_; refine aC rfl ?_)
  refine ⟨?_,(by (exact bD _ _))⟩
  simp only [aM,sl]
  rw [hm,hu,show i = pts.length by omega]
theorem gY (ts:List Int) (bd:List AL.Stmt) (pts:List Pnt) (w:WG ts pts) (f:Flows ts pts):PC Tryz.prog 19 [aG ts bd pts] (fun r => r = sl iW f.iss):=by
 have hpl := w.pl
 refine aB Tryz.func19 Tryz.ntmps19 ?_
 repeat' (first|(apply aF;first|(apply u6;rfl;rfl;rfl)|(apply aA (k := 49);rfl;exact yK ts bd pts f.Af w f.gf;exact Pur.pf;rfl)|(apply aA (k := 51);rfl;exact BB ts bd pts f.An f.Al w f.gn f.gl;exact Pur.pf;rfl)|(apply aA (k := 50);rfl;exact Mi ts bd pts f.Aa f.Am f.Al f.Af f.Ap _ w f.ga f.gm f.gl f.gf f.gp rfl;exact Pur.pf;rfl))|refine aE ?_|fail)
 refine aC rfl ⟨rfl,(by (exact bD _ _))⟩
theorem dK (p:Prg) (hl:p.types.length ≤ 1048576) (hs:aR p.body ≤ 1048576):PC Tryz.prog 17 [bI p,.v (.slice none 0 0)] (fun r => r = if bE p = true then .tup [aG p.types p.body (aD p),bv true] else .tup [.v (.pointer none),bv false]):=by
 have hpl := j6 p
 have hnl := lP p.body
 refine aB Tryz.func17 Tryz.ntmps17 ?_
 repeat' (first|(apply aF;(first|(apply aA (k := 45);rfl;(apply BP <;> (first|assumption|omega));exact Pur.pf;rfl)|(apply aA (k := 46);rfl;(apply BL <;> (assumption));exact Pur.pf;rfl)))|refine aE ?_|(refine aK ?_ ?_ <;> intro hc hq <;> try (exfalso;omega))|refine bH ?_|fail)
 ·refine aC rfl ⟨?_, (by (rfl))⟩
  rw [if_neg (by simp [hq])]; rfl
 ·refine aH (σ := Unit) [6, 17, 18] [1] (fun _u => [(19, iv 0)]) (fun _u => []) (fun _u => True) (fun _u => 0) () trivial ?_
  intro _ _
  repeat' (first|refine aE ?_|fail)
  refine aO (Le.frzP (d := 4) (i := 1) rfl rfl) ?_
  refine aC rfl ⟨?_,(by show (AV.tup [aG p.types p.body (aD p),bv true]).pur = true;exact PurV.pf)⟩
  rw [if_pos hq]; rfl
def H3 (p : Prg) (f : Flows p.types (aD p)) : List Iss := if bE p = true then f.iss else []
instance : BoT Tryz.prog 4:=⟨by kernel_rfl⟩
theorem qF (x:Pnt):PC Tryz.prog 111 [dJ x] (fun r => r = iv (aQ x)):=by
 refine aB Tryz.func111 Tryz.ntmps111 ?_
 repeat' (first|refine aE ?_|(refine aK ?_ ?_ <;> intro hc hq <;> try (exfalso;omega))|(refine bK ?_ ?_ <;> intro hg hq <;> try (exfalso;omega))|refine cV ?_|fail)
 all_goals (refine ⟨?_,rfl⟩; simp only [aM,AV.v.injEq,Value.bool.injEq,Value.int.injEq,true_and])
 all_goals grind [aQ]
theorem lT (ts:List Int) (x:Pnt) (v:Int) (h:0 ≤ v ∧ v < ts.length):PC Tryz.prog 107 [sl cI ts,dJ x,iv v] (fun r => r = iv (aV ts x v)):=by
 refine aB Tryz.func107 Tryz.ntmps107 ?_
 repeat' (first|refine aE ?_|(refine aK ?_ ?_ <;> intro hc hq <;> try (exfalso;omega))|(refine bK ?_ ?_ <;> intro hg hq <;> try (exfalso;omega))|refine cV ?_|fail)
 all_goals (refine ⟨?_,rfl⟩; simp only [aM,AV.v.injEq,Value.bool.injEq,Value.int.injEq,true_and])
 all_goals grind [aV]
theorem xT (a b:List Bool) (hab:a.length = b.length) (hl:a.length ≤ 1048576):PC Tryz.prog 150 [sl cB a,sl cB b] (fun r => r = bv (decide (a = b))):=by
 refine aB Tryz.func150 Tryz.ntmps150 ?_
 repeat' (first|refine aE ?_|fail)
 refine aH (σ := Nat) [0,1] [] (fun k => [(5,iv (k : Int))]) (fun k => []) (fun k => k ≤ a.length ∧ ∀ i,i < k → a[i]! = b[i]!) (fun k => a.length - k) (0) ⟨by omega,by omega⟩ ?_
 intro k ⟨hk,hall⟩
 repeat' (first|refine aE ?_|(refine aK ?_ ?_ <;> intro hc hq <;> try (exfalso;omega))|refine bH ?_|refine cV ?_|fail)
 ·refine ⟨?_, (by (rfl))⟩
  simp only [aM]
  have : a ≠ b := fun e => by subst e;exact absurd rfl ‹¬_›
  rw [decide_eq_false this]
 ·(refine bB (k + 1) (Le.renA []) ?_ ?_)
  ·refine ⟨by omega, fun i hi => ?_⟩
   by_cases h : i = k
   ·subst h;assumption
   ·exact hall i (by omega)
  ·try dsimp only
   omega
 ·refine ⟨?_, (by (rfl))⟩
  simp only [aM]
  have : a = b := bT hab fun i hi => hall i (by omega)
  rw [decide_eq_true this,decide_eq_true (by omega)]
theorem Gi (ts:List Int) (x:Pnt) (b:List Bool) (hb:b.length = ts.length) (hl:ts.length ≤ 6) (hs:aQ x < ts.length):PC Tryz.prog 148 [sl cI ts,dJ x,sl cB b] (fun r => r = sl cB (kZ ts x b)):=by
 refine aB Tryz.func148 Tryz.ntmps148 ?_
 repeat' (first|refine aE ?_|fail)
 refine aH (σ := Nat × List Bool) [0,4,7] [0] (fun k => [(8,iv (k.1 : Int))]) (fun k => [(2,some (flat cB k.2))]) (fun k => k.1 ≤ b.length ∧ k.2.length = b.length ∧ (∀ i,i < b.length → k.2[i]! = if i < k.1 ∧ aV ts x i = 2 then false else b[i]!)) (fun k => b.length - k.1) (0,b) ⟨by omega,rfl,by intro i hi;rw [if_neg (by omega)]⟩ ?_
 rintro ⟨k,u⟩ ⟨hk,hul,hu⟩
 dsimp only at hk hul hu
 try dsimp only
 repeat' (first|(apply aF;(first|(apply aA (k := 107);rfl;(apply lT <;> (omega));exact Pur.pf;rfl)|(apply aA (k := 111);rfl;(apply qF);exact Pur.pf;rfl)))|refine aE ?_|(refine aK ?_ ?_ <;> intro hc hq <;> try (exfalso;omega))|fail)
 ·(refine bB (k + 1, _) (Le.renA [(2, 2), (0, 0)]) ?_ ?_)
  ·refine ⟨(by show k + 1 ≤ b.length; omega), (by show (u.set k false).length = b.length; simp; omega), fun i hi => ?_⟩
   show (u.set k false)[i]! = if i < k + 1 ∧ _ then _ else _
   rw [aW,hu i hi]; grind
  ·show b.length - (k + 1) < b.length - k;omega
 ·(refine bB (k + 1, _) (Le.renA [(2, 2), (0, 0)]) ?_ ?_)
  ·refine ⟨(by show k + 1 ≤ b.length; omega), hul, fun i hi => ?_⟩
   show u[i]! = if i < k + 1 ∧ _ then _ else _
   rw [hu i hi]; grind
  ·show b.length - (k + 1) < b.length - k;omega
 ·refine aO (Le.frzD (d := 6) (i := 2) rfl rfl) ?_
  refine aC rfl ⟨?_,(by (exact bD _ _))⟩
  have e : u.set (aQ x).toNat true = kZ ts x b := bT (by rw [m9]; simp; omega) fun i hi => by
   rw [j8 _ _ _ _ (by simp at hi;omega),aW,hu i (by simp at hi;omega)]
   grind
  simp only [aM,e,Nat.zero_add,sl,m9]
 ·refine aO (Le.frzD (d := 6) (i := 2) rfl rfl) ?_
  refine aC rfl ⟨?_,(by (exact bD _ _))⟩
  have e : u = kZ ts x b := bT (by rw [m9]; omega) fun i hi => by
   rw [j8 _ _ _ _ (by omega),hu i (by omega)]
   grind
  rw [e]
  simp only [aM,Nat.zero_add,sl,m9]
theorem BM (o a:List Bool) (all:Bool) (ho:o.length = 0 ∨ o.length = a.length) (hl:a.length ≤ 1048576):PC Tryz.prog 149 [sl cB o,sl cB a,bv all] (fun r => r = sl cB (x4 o a all)):=by
 refine aB Tryz.func149 Tryz.ntmps149 ?_
 cases all
 ·repeat' (first | refine aE ?_|fail)
  refine aH (σ := Nat × List Bool) [0,1,2,7] [] (fun k => [(8,iv (k.1 : Int))]) (fun k => [(1,some (flat cB k.2))]) (fun k => k.1 ≤ o.length ∧ k.2.length = a.length ∧ (∀ i,i < a.length → k.2[i]! = if i < k.1 then o[i]! || a[i]! else a[i]!)) (fun k => o.length - k.1) (0,a) ⟨by omega,rfl,by intro i hi;rw [if_neg (by omega)]⟩ ?_
  rintro ⟨k,u⟩ ⟨hk,hul,hu⟩
  dsimp only at hk hul hu
  try dsimp only
  repeat' (first|refine aE ?_|(refine aK ?_ ?_ <;> intro hc hq <;> try (exfalso;omega))|(refine bK ?_ ?_ <;> intro hg hq <;> try (exfalso;omega))|fail)
  ·(refine bB (k + 1, _) (Le.renA [(1, 1)]) ?_ ?_)
   ·refine ⟨(by show k + 1 ≤ o.length; omega), (by show (u.set k a[k]!).length = a.length; simp; omega), fun i hi => ?_⟩
    show (u.set k a[k]!)[i]! = if i < k + 1 then _ else _
    rw [aW,hu i hi]; grind
   ·show o.length - (k + 1) < o.length - k;omega
  ·(refine bB (k + 1, _) (Le.renA [(1, 1)]) ?_ ?_)
   ·refine ⟨(by show k + 1 ≤ o.length; omega), (by show (u.set k true).length = a.length; simp; omega), fun i hi => ?_⟩
    show (u.set k true)[i]! = if i < k + 1 then _ else _
    rw [aW,hu i hi]; grind
   ·show o.length - (k + 1) < o.length - k;omega
  ·refine aO (Le.frzD (d := 6) (i := 1) rfl rfl) ?_
   refine aC rfl ⟨?_,(by (exact bD _ _))⟩
   have e : u = x4 o a false := bT (by rw [n4]; omega) fun i hi => by
    rw [y9 _ _ _ _ (by omega),hu i (by omega)]
    grind
   rw [e]
   simp only [aM,Nat.zero_add,sl,n4]
 ·repeat' (first | refine aE ?_|fail)
  refine aH (σ := Nat × List Bool) [0,1,2,7] [] (fun k => [(8,iv (k.1 : Int))]) (fun k => [(1,some (flat cB k.2))]) (fun k => k.1 ≤ o.length ∧ k.2.length = a.length ∧ (∀ i,i < a.length → k.2[i]! = if i < k.1 then o[i]! && a[i]! else a[i]!)) (fun k => o.length - k.1) (0,a) ⟨by omega,rfl,by intro i hi;rw [if_neg (by omega)]⟩ ?_
  rintro ⟨k,u⟩ ⟨hk,hul,hu⟩
  dsimp only at hk hul hu
  try dsimp only
  repeat' (first|refine aE ?_|(refine aK ?_ ?_ <;> intro hc hq <;> try (exfalso;omega))|(refine bK ?_ ?_ <;> intro hg hq <;> try (exfalso;omega))|fail)
  ·(refine bB (k + 1, _) (Le.renA [(1, 1)]) ?_ ?_)
   ·refine ⟨(by show k + 1 ≤ o.length; omega), (by show (u.set k a[k]!).length = a.length; simp; omega), fun i hi => ?_⟩
    show (u.set k a[k]!)[i]! = if i < k + 1 then _ else _
    rw [aW,hu i hi]; grind
   ·show o.length - (k + 1) < o.length - k;omega
  ·(refine bB (k + 1, _) (Le.renA [(1, 1)]) ?_ ?_)
   ·refine ⟨(by show k + 1 ≤ o.length; omega), (by show (u.set k false).length = a.length; simp; omega), fun i hi => ?_⟩
    show (u.set k false)[i]! = if i < k + 1 then _ else _
    rw [aW,hu i hi]; grind
   ·show o.length - (k + 1) < o.length - k;omega
  ·refine aO (Le.frzD (d := 6) (i := 1) rfl rfl) ?_
   refine aC rfl ⟨?_,(by (exact bD _ _))⟩
   have e : u = x4 o a true := bT (by rw [n4]; omega) fun i hi => by
    rw [y9 _ _ _ _ (by omega),hu i (by omega)]
    grind
   rw [e]
   simp only [aM,Nat.zero_add,sl,n4]
theorem sD (p:Prg) (all:Bool) (A:List Nat) (hs:aR p.body ≤ 1048576) (w:WG p.types (aD p)) (hr:Rch (aD p)) (hA:uJ p.types (aD p) all A):PC Tryz.prog 106 [bI p,bv all] (fun r => r = sl iF (dV p.types.length (aD p).length A)):=by
 have hpl := w.pl
 have hp0 := w.p0
 have htl := w.tl
 have hini := Mt w all
 refine aB Tryz.func106 Tryz.ntmps106 ?_
 repeat' (first|(apply aF;first|(apply aA (k := 36);rfl;exact dH p hs;exact Pur.pf;rfl)|(with_reducible apply aZ (d := 22)))|refine aE ?_|fail)
 refine bY (cX ?_ (Le.nilRows (i := 0 + 1) rfl))
 repeat' (first|(apply aF;(apply O2 (d := 26);rfl;rfl;omega;omega;rfl;rfl))|refine aE ?_|fail)
 refine aH (σ := Fw × Nat) [1,2,5,6,7] [0] (fun s => [(8,.own 4 0 s.2 1)]) (fun s => [(1,some (flat iF s.1.out)),(2,some (flat cB s.1.seen)),(4,some (flat cI s.1.work))]) (fun s => FI p.types (aD p) all s.1 ∧ FC p.types (aD p) all (fun _ => False) s.1 ∧ s.2 = s.1.work.length ∧ mS all p.types.length (aD p).length s.1 ≤ 10000) (fun s => mS all p.types.length (aD p).length s.1) (⟨(List.replicate (aD p).length []).set 0 (List.replicate p.types.length false),(List.replicate (aD p).length false).set 0 true,[0]⟩,1) ⟨hini.1,hini.2,rfl,by have := NG all p.types.length (aD p).length ⟨(List.replicate (aD p).length []).set 0 (List.replicate p.types.length false),(List.replicate (aD p).length false).set 0 true,[0]⟩ htl hpl;simp only [List.length_singleton] at this;show mS all p.types.length (aD p).length ⟨(List.replicate (aD p).length []).set 0 (List.replicate p.types.length false),(List.replicate (aD p).length false).set 0 true,[0]⟩ ≤ 10000;omega⟩ ?_
 rintro ⟨⟨out,seen,work⟩,m⟩ ⟨hI,hC,hm,hmb⟩
 dsimp only at hI hC hm hmb
 have hlo := hI.lo
 have hls := hI.ls
 dsimp only at hlo hls
 cases work with
 | nil =>
  simp only [List.length_nil] at hm
  subst hm
  try dsimp only
  repeat' (first|refine aE ?_|fail)
  refine aO (Le.frzD (d := 4) (i := 1) rfl rfl) ?_
  refine aC rfl ⟨?_,(by (exact bD _ _))⟩
  have e : out = dV p.types.length (aD p).length A := JW w hr hA hI hC rfl
  rw [e]
  simp only [aM,Nat.zero_add,sl,iB]
 | cons a q =>
  simp only [List.length_cons] at hm
  try dsimp only
  have hwa := hI.w a (List.mem_cons_self)
  have hon := hI.a a.toNat (by omega) hwa.2.2
  dsimp only at hwa hon
  have hset := (w.set a.toNat (by omega)).1
  repeat' (first|(apply aF;first|(with_reducible apply aZ (d := 8))|(apply lX;rfl;rfl;omega;rfl))|refine aE ?_|(refine aK ?_ ?_ <;> intro hc hq <;> try (exfalso;omega))|fail)
  refine bY (cX ?_ (Le.mvO (d := 38) (i := 4) rfl rfl (by simp [aI]) (by decide)))
  have hmw := FP all p.types.length (aD p).length ⟨out,seen,a :: q⟩
  simp only [List.length_cons] at hmw
  have hpop := Qc hI hC
  have hT := Rl hI hwa.2.2
  dsimp only at hT
  have hal : (kZ p.types (aD p)[a.toNat]! out[a.toNat]!).length = p.types.length := by rw [m9]; exact hon
  repeat' (first|(apply aF;(apply aA (k := 148);rfl;(apply Gi <;> (assumption));exact Pur.pf;rfl))|refine aE ?_|refine bH ?_|fail)
  refine aH (σ := Nat × Fw × Nat) [1,2,5,6,7,9,10] [0] (fun k => [(11,iv (k.1 : Int)),(8,.own 5 0 k.2.2 1)]) (fun k => [(1,some (flat iF k.2.1.out)),(2,some (flat cB k.2.1.seen)),(5,some (flat cI k.2.1.work))]) (fun k => k.1 ≤ (aD p)[a.toNat]!.next.length ∧ FIn p.types (aD p) all a.toNat (kZ p.types (aD p)[a.toNat]! out[a.toNat]!) (mS all p.types.length (aD p).length ⟨out,seen,a :: q⟩ - 1) k.1 k.2.1 ∧ k.2.2 = k.2.1.work.length) (fun k => (aD p)[a.toNat]!.next.length - k.1) (0,⟨out,seen,q⟩,m - 1) ⟨by omega,hpop,by show m - 1 = q.length;omega⟩ ?_
  rintro ⟨k,⟨o2,s2,w2⟩,m2⟩ ⟨hk,hF,hm2⟩
  dsimp only at hk hF hm2
  try dsimp only
  have hnl := w.nl a.toNat (by omega)
  have hlo2 := hF.I.lo
  have hls2 := hF.I.ls
  have hmu2 := hF.mu
  have hmw2 := FP all p.types.length (aD p).length ⟨o2,s2,w2⟩
  dsimp only at hlo2 hls2 hmw2
  by_cases hkn : k < (aD p)[a.toNat]!.next.length
  ·have hz := w.nx a.toNat (by omega) _ (aS _ _ hkn)
   have hst := hF.step w (by omega) hkn hal hT
   by_cases hsn : s2[((aD p)[a.toNat]!.next[k]!).toNat]! = true
   ·have hol := hF.I.a _ (by omega) hsn
    dsimp only at hol
    have hab : (o2[((aD p)[a.toNat]!.next[k]!).toNat]!).length = (x4 o2[((aD p)[a.toNat]!.next[k]!).toNat]! (kZ p.types (aD p)[a.toNat]! out[a.toNat]!) all).length := by rw [n4]; omega
    have ho : (o2[((aD p)[a.toNat]!.next[k]!).toNat]!).length = 0 ∨ (o2[((aD p)[a.toNat]!.next[k]!).toNat]!).length = (kZ p.types (aD p)[a.toNat]! out[a.toNat]!).length := .inr (by omega)
    repeat' (first|(apply aF;first|(apply aJ (t := _);rfl;rfl;rfl;exact (rfl:_=some [_]);rfl;rfl)|(first|(apply aA (k := 149);rfl;(apply BM <;> (first|assumption|omega));exact Pur.pf;rfl)|(apply aA (k := 150);rfl;(apply xT <;> (first|assumption|omega));exact Pur.pf;rfl)))|refine aE ?_|(refine aK ?_ ?_ <;> intro hc hq <;> try (exfalso;omega))|(refine bK ?_ ?_ <;> intro hg hq <;> try (exfalso;omega))|fail)
    all_goals try exact absurd (hsn.symm.trans (by assumption : s2[((aD p)[a.toNat]!.next[k]!).toNat]! = false)) (by decide)
    ·have e9 : Ln all (kZ p.types (aD p)[a.toNat]! out[a.toNat]!) ⟨o2, s2, w2⟩ ((aD p)[a.toNat]!.next[k]!).toNat = ⟨o2.set ((aD p)[a.toNat]!.next[k]!).toNat (x4 o2[((aD p)[a.toNat]!.next[k]!).toNat]! (kZ p.types (aD p)[a.toNat]! out[a.toNat]!) all), s2.set ((aD p)[a.toNat]!.next[k]!).toNat true, w2 ++ [((aD p)[a.toNat]!.next[k]!)]⟩ := by
      unfold Ln
      rw [if_neg (fun h => absurd h.2 ‹_›),Int.toNat_of_nonneg hz.1]
     rw [e9] at hst
     (refine bB (k + 1,⟨_,_,_⟩,_) (Le.renA [(0,0),(1,1),(2,2),(5,7)]) ?_ ?_)
     ·exact ⟨(by show k + 1 ≤ (aD p)[a.toNat]!.next.length;omega),hst,(by show m2 + 1 = (w2 ++ [((aD p)[a.toNat]!.next[k]!)]).length;rw [List.length_append,List.length_singleton]; omega)⟩
     ·show (aD p)[a.toNat]!.next.length - (k + 1) < (aD p)[a.toNat]!.next.length - k;omega
    ·have e9 : Ln all (kZ p.types (aD p)[a.toNat]! out[a.toNat]!) ⟨o2, s2, w2⟩ ((aD p)[a.toNat]!.next[k]!).toNat = ⟨o2, s2, w2⟩ := by
      unfold Ln
      rw [if_pos ⟨hsn,‹_›⟩]
     rw [e9] at hst
     (refine bB (k + 1,⟨o2,s2,w2⟩,m2) (Le.renA [(0,0),(1,1),(2,2),(5,5)]) ?_ ?_)
     ·exact ⟨(by show k + 1 ≤ (aD p)[a.toNat]!.next.length;omega),hst,hm2⟩
     ·show (aD p)[a.toNat]!.next.length - (k + 1) < (aD p)[a.toNat]!.next.length - k;omega
   ·rw [Bool.not_eq_true] at hsn
    have hol := hF.I.b _ (by omega) hsn
    dsimp only at hol
    have ho : (o2[((aD p)[a.toNat]!.next[k]!).toNat]!).length = 0 ∨ (o2[((aD p)[a.toNat]!.next[k]!).toNat]!).length = (kZ p.types (aD p)[a.toNat]! out[a.toNat]!).length := .inl (by rw [hol]; rfl)
    repeat' (first|(apply aF;first|(apply aJ (t := _);rfl;rfl;rfl;exact (rfl:_=some [_]);rfl;rfl)|(first|(apply aA (k := 149);rfl;(apply BM <;> (first|assumption|omega));exact Pur.pf;rfl)|(apply aA (k := 150);rfl;(apply xT <;> (first|omega|grind));exact Pur.pf;rfl)))|refine aE ?_|(refine aK ?_ ?_ <;> intro hc hq <;> try (exfalso;omega))|(refine bK ?_ ?_ <;> intro hg hq <;> try (exfalso;omega))|fail)
    all_goals try exact absurd (hsn.symm.trans (by assumption : s2[((aD p)[a.toNat]!.next[k]!).toNat]! = true)) (by decide)
    ·have e9 : Ln all (kZ p.types (aD p)[a.toNat]! out[a.toNat]!) ⟨o2, s2, w2⟩ ((aD p)[a.toNat]!.next[k]!).toNat = ⟨o2.set ((aD p)[a.toNat]!.next[k]!).toNat (x4 o2[((aD p)[a.toNat]!.next[k]!).toNat]! (kZ p.types (aD p)[a.toNat]! out[a.toNat]!) all), s2.set ((aD p)[a.toNat]!.next[k]!).toNat true, w2 ++ [((aD p)[a.toNat]!.next[k]!)]⟩ := by
      unfold Ln
      rw [if_neg (fun h => by rw [hsn] at h;cases h.1),Int.toNat_of_nonneg hz.1]
     rw [e9] at hst
     (refine bB (k + 1,⟨_,_,_⟩,_) (Le.renA [(0,0),(1,1),(2,2),(5,7)]) ?_ ?_)
     ·exact ⟨(by show k + 1 ≤ (aD p)[a.toNat]!.next.length;omega),hst,(by show m2 + 1 = (w2 ++ [((aD p)[a.toNat]!.next[k]!)]).length;rw [List.length_append,List.length_singleton]; omega)⟩
     ·show (aD p)[a.toNat]!.next.length - (k + 1) < (aD p)[a.toNat]!.next.length - k;omega
  ·repeat' (first | refine aE ?_ | (refine aK ?_ ?_ <;> intro hc hq <;> try (exfalso; omega))|fail)
   (refine bB (⟨o2,s2,w2⟩,m2) (Le.renA [(0,0),(1,1),(2,2),(4,5)]) ?_ ?_)
   ·exact ⟨hF.I,hF.out (by omega),hm2,(by show mS all p.types.length (aD p).length ⟨o2,s2,w2⟩ ≤ 10000;omega)⟩
   ·show mS all p.types.length (aD p).length ⟨o2,s2,w2⟩ < mS all p.types.length (aD p).length ⟨out,seen,a :: q⟩; omega
theorem zV (ts:List Int) (x:Pnt) (mb:List Bool) (htl:ts.length ≤ 6) (hmb:mb.length = ts.length) (hst:aQ x < ts.length) (hy:0 ≤ x.y ∧ (3 ≤ x.op → x.op ≤ 7 → x.y < ts.length)):PC Tryz.prog 108 [sl cI ts,dJ x,sl cB mb] (fun r => r = sl F4 (kC ts x mb[(aQ x).toNat]!)):=by
 have hu : x.op = 3 → (aV ts x x.y = 2 ↔ wZ ts[x.y.toNat]! = true) := by
  intro h
  unfold aV wZ;rw [if_pos h,if_pos rfl]; grind
 refine aB Tryz.func108 Tryz.ntmps108 ?_
 repeat' (first|(apply aF;(first|(apply aA (k := 107);rfl;(apply lT <;> (omega));exact Pur.pf;rfl)|(apply aA (k := 111);rfl;(apply qF);exact Pur.pf;rfl)))|refine aE ?_|(refine aK ?_ ?_ <;> intro hc hq <;> try (exfalso;omega))|(refine bK ?_ ?_ <;> intro hg hq <;> try (exfalso;omega))|fail)
 all_goals first|refine aO (Le.frzD (d := 6) (i := 1) rfl rfl) ?_|refine aO (Le.frzD (d := 6) (i := 3) rfl rfl) ?_|refine aO (Le.frzD (d := 6) (i := 5) rfl rfl) ?_
 all_goals refine aC rfl ⟨?_,(by (rfl))⟩
 all_goals simp only [aM,kC]
 all_goals (repeat' split)
 all_goals first|rfl|(exfalso;grind)
theorem xB (pts:List Pnt) (acs:List Acc) (fr:List (List Bool)) (pl lv:List Bool) (hpl:pts.length ≤ 61) (hac:acs.length ≤ 6) (h1:pl.length = pts.length) (h2:lv.length = pts.length):PC Tryz.prog 109 [sl b8 pts,sl F4 acs,.agg [sl iF fr,sl cB pl],sl cB lv] (fun r => r = sl cB (Ql pts acs pl lv)):=by
 refine aB Tryz.func109 Tryz.ntmps109 ?_
 repeat' (first|refine aE ?_|fail)
 refine aH (σ := Nat × List Bool) [0,1,3,6,9] [0] (fun k => [(10,iv (k.1 : Int))]) (fun k => [(1,some (flat cB k.2))]) (fun k => k.1 ≤ pts.length ∧ k.2.length = pts.length ∧ (∀ l,l < pts.length → k.2[l]! = if l < k.1 then acs.any (Li pts pl lv l) else false)) (fun k => pts.length - k.1) (0,List.replicate pts.length false) ⟨by omega,by simp,fun l hl => by rw [if_neg (by omega),dN _ _ _ hl]⟩ ?_
 rintro ⟨i,u⟩ ⟨hi,hul,hu⟩
 dsimp only at hi hul hu
 try dsimp only
 repeat' (first|refine aE ?_|(refine aK ?_ ?_ <;> intro hc hq <;> try (exfalso;omega))|fail)
 ·have hin : i < pts.length := by omega
  refine aH (σ := Nat × List Bool) [0,1,3,6,9,10] [0] (fun k => [(11,iv (k.1 : Int))]) (fun k => [(1,some (flat cB k.2))]) (fun k => k.1 ≤ acs.length ∧ k.2.length = pts.length ∧ (∀ l,l < pts.length → k.2[l]! = if l < i then acs.any (Li pts pl lv l) else if l = i then (acs.take k.1).any (Li pts pl lv l) else false)) (fun k => acs.length - k.1) (0,u) ⟨by omega,hul,fun l hl => by rw [hu l hl]; simp⟩ ?_
  rintro ⟨j,s⟩ ⟨hj,hsl,hs⟩
  dsimp only at hj hsl hs
  try dsimp only
  have hsi : s[i]! = (acs.take j).any (Li pts pl lv i) := by rw [hs i hin]; simp
  have hst := fun h : j < acs.length => KE (Li pts pl lv i) acs j h
  have hcg : Li pts pl lv i acs[j]! = (lv[i]! && pl[i]! && decide (pts[i]!.y = acs[j]!.var) && (acs[j]!.write || decide (pts[i]!.op = 5))) := rfl
  repeat' (first|refine aE ?_|(refine aK ?_ ?_ <;> intro hc hq <;> try (exfalso;omega))|(refine bK ?_ ?_ <;> intro hg hq <;> try (exfalso;omega))|refine bH ?_|fail)
  ·(refine bB (j + 1, _) (Le.renA [(0, 0), (1, 1)]) ?_ ?_)
   ·refine ⟨(by show j + 1 ≤ acs.length; omega), (by show (s.set i _).length = pts.length; rw [List.length_set]; exact hsl), fun l hl => ?_⟩
    show (s.set i _)[l]! = if l < i then _ else if l = i then (acs.take (j + 1)).any _ else false
    by_cases e : l = i
    ·rw [e, hst (by omega), hcg, aW, if_pos ⟨rfl, by omega⟩, if_neg (Nat.lt_irrefl _), if_pos rfl, ← hsi]
     clear hs hu hst hsi hcg
     grind
    ·rw [aW,if_neg (fun h => e h.1.symm),hs l hl,if_neg e,if_neg e]
   ·show acs.length - (j + 1) < acs.length - j;omega
  ·(refine bB (j + 1, _) (Le.renA [(0, 0), (1, 1)]) ?_ ?_)
   ·refine ⟨(by show j + 1 ≤ acs.length; omega), (by show (s.set i _).length = pts.length; rw [List.length_set]; exact hsl), fun l hl => ?_⟩
    show (s.set i _)[l]! = if l < i then _ else if l = i then (acs.take (j + 1)).any _ else false
    by_cases e : l = i
    ·rw [e, hst (by omega), hcg, aW, if_pos ⟨rfl, by omega⟩, if_neg (Nat.lt_irrefl _), if_pos rfl, ← hsi]
     clear hs hu hst hsi hcg
     grind
    ·rw [aW,if_neg (fun h => e h.1.symm),hs l hl,if_neg e,if_neg e]
   ·show acs.length - (j + 1) < acs.length - j;omega
  ·(refine bB (j + 1, _) (Le.renA [(0, 0), (1, 1)]) ?_ ?_)
   ·refine ⟨(by show j + 1 ≤ acs.length; omega), (by show (s.set i _).length = pts.length; rw [List.length_set]; exact hsl), fun l hl => ?_⟩
    show (s.set i _)[l]! = if l < i then _ else if l = i then (acs.take (j + 1)).any _ else false
    by_cases e : l = i
    ·rw [e, hst (by omega), hcg, aW, if_pos ⟨rfl, by omega⟩, if_neg (Nat.lt_irrefl _), if_pos rfl, ← hsi]
     clear hs hu hst hsi hcg
     grind
    ·rw [aW,if_neg (fun h => e h.1.symm),hs l hl,if_neg e,if_neg e]
   ·show acs.length - (j + 1) < acs.length - j;omega
  ·(refine bB (j + 1, _) (Le.renA [(0, 0), (1, 1)]) ?_ ?_)
   ·refine ⟨(by show j + 1 ≤ acs.length; omega), (by show (s.set i _).length = pts.length; rw [List.length_set]; exact hsl), fun l hl => ?_⟩
    show (s.set i _)[l]! = if l < i then _ else if l = i then (acs.take (j + 1)).any _ else false
    by_cases e : l = i
    ·rw [e, hst (by omega), hcg, aW, if_pos ⟨rfl, by omega⟩, if_neg (Nat.lt_irrefl _), if_pos rfl, ← hsi]
     clear hs hu hst hsi hcg
     grind
    ·rw [aW,if_neg (fun h => e h.1.symm),hs l hl,if_neg e,if_neg e]
   ·show acs.length - (j + 1) < acs.length - j;omega
  ·(refine bB (j + 1, _) (Le.renA [(0, 0), (1, 1)]) ?_ ?_)
   ·refine ⟨(by show j + 1 ≤ acs.length; omega), (by show (s.set i _).length = pts.length; rw [List.length_set]; exact hsl), fun l hl => ?_⟩
    show (s.set i _)[l]! = if l < i then _ else if l = i then (acs.take (j + 1)).any _ else false
    by_cases e : l = i
    ·rw [e, hst (by omega), hcg, aW, if_pos ⟨rfl, by omega⟩, if_neg (Nat.lt_irrefl _), if_pos rfl, ← hsi]
     clear hs hu hst hsi hcg
     grind
    ·rw [aW,if_neg (fun h => e h.1.symm),hs l hl,if_neg e,if_neg e]
   ·show acs.length - (j + 1) < acs.length - j;omega
  ·(refine bB (j + 1, _) (Le.renA [(0, 0), (1, 1)]) ?_ ?_)
   ·refine ⟨(by show j + 1 ≤ acs.length; omega), (by show (s.set i _).length = pts.length; rw [List.length_set]; exact hsl), fun l hl => ?_⟩
    show (s.set i _)[l]! = if l < i then _ else if l = i then (acs.take (j + 1)).any _ else false
    by_cases e : l = i
    ·rw [e, hst (by omega), hcg, aW, if_pos ⟨rfl, by omega⟩, if_neg (Nat.lt_irrefl _), if_pos rfl, ← hsi]
     clear hs hu hst hsi hcg
     grind
    ·rw [aW,if_neg (fun h => e h.1.symm),hs l hl,if_neg e,if_neg e]
   ·show acs.length - (j + 1) < acs.length - j;omega
  ·(refine bB (j + 1, _) (Le.renA [(0, 0), (1, 1)]) ?_ ?_)
   ·refine ⟨(by show j + 1 ≤ acs.length; omega), (by show (s.set i _).length = pts.length; rw [List.length_set]; exact hsl), fun l hl => ?_⟩
    show (s.set i _)[l]! = if l < i then _ else if l = i then (acs.take (j + 1)).any _ else false
    by_cases e : l = i
    ·rw [e, hst (by omega), hcg, aW, if_pos ⟨rfl, by omega⟩, if_neg (Nat.lt_irrefl _), if_pos rfl, ← hsi]
     clear hs hu hst hsi hcg
     grind
    ·rw [aW,if_neg (fun h => e h.1.symm),hs l hl,if_neg e,if_neg e]
   ·show acs.length - (j + 1) < acs.length - j;omega
  ·(refine bB (j + 1, _) (Le.renA [(0, 0), (1, 1)]) ?_ ?_)
   ·refine ⟨(by show j + 1 ≤ acs.length; omega), (by show (s.set i _).length = pts.length; rw [List.length_set]; exact hsl), fun l hl => ?_⟩
    show (s.set i _)[l]! = if l < i then _ else if l = i then (acs.take (j + 1)).any _ else false
    by_cases e : l = i
    ·rw [e, hst (by omega), hcg, aW, if_pos ⟨rfl, by omega⟩, if_neg (Nat.lt_irrefl _), if_pos rfl, ← hsi]
     clear hs hu hst hsi hcg
     grind
    ·rw [aW,if_neg (fun h => e h.1.symm),hs l hl,if_neg e,if_neg e]
   ·show acs.length - (j + 1) < acs.length - j;omega
  ·(refine bB (i + 1, s) (Le.renA [(0, 0), (1, 1)]) ?_ ?_)
   ·refine ⟨(by show i + 1 ≤ pts.length; omega), hsl, fun l hl => ?_⟩
    show s[l]! = if l < i + 1 then _ else _
    rw [hs l hl,List.take_of_length_le (by omega)]
    clear hs hu
    grind
   ·show pts.length - (i + 1) < pts.length - i;omega
 ·refine aO (Le.frzD (d := 8) (i := 1) rfl rfl) ?_
  refine aC rfl ⟨?_,(by (exact bD _ _))⟩
  have e : u = Ql pts acs pl lv := bT (by rw [zH, hul]) fun l hl => by
   rw [FF _ _ _ _ _ (by omega),hu l (by omega),if_pos (by omega)]
  rw [e]
  simp only [aM,Nat.zero_add,sl,zH]
theorem Bt {a b:List Bool}{m:Nat}{x0 x1:Operand}{i0:Nat}(ha0:ev (lk tsl) x0 = some (.own i0 0 m 1)) (ha1:ev (lk tsl) x1 = some (sl cB b)) (hH0:aT hsl i0 = some (flat cB a)) (hmc:MC Tryz.prog 126 [.own 0 0 m 1,sl cB b] [(0,some (flat cB a))] 1 (fun _:Unit => True) (fun _ => .tup []) (fun _ => [(0,some (flat cB (iD a b)))])) (hM:Nat.ble (nidl + 0) a6 = true) (hN:Nat.blt d N = true){md':Md}[hmd:MdA md (fF [x0,x1] ++ [.inr i0]) (List.map Sum.inr (List.map Prod.fst ([(i0,some (flat cB (iD a b)))]:List (Nat × Option (List AV)))) ++ [.inl d]) md'] (kk:RW Tryz.prog N all Q md' rest ⟨(d,.tup []) :: tsl,gD hsl [(i0,some (flat cB (iD a b)))],nidl + 0,z0⟩):RW Tryz.prog N all Q md (⟨some d,.call ⟨.value (.func 126),#[x0,x1],tys⟩,ty,pos,af,none⟩ :: rest) ⟨tsl,hsl,nidl,z0⟩:=by
 exact aX (l := [x0,x1]) [i0] 1 [(i0,some (flat cB (iD a b)))] hmc (avs := [.own i0 0 m 1,sl cB b]) (by simp only [evL,ha0,ha1]) rfl hM hN (md' := md') (hmd := hmd) kk
theorem EH (a b:List Bool) (m:Nat) (hm:m = a.length) (hab:b.length ≤ a.length) (hl:a.length ≤ 1048576):MC Tryz.prog 126 [.own 0 0 m 1,sl cB b] [(0,some (flat cB a))] 1 (fun _:Unit => True) (fun _ => .tup []) (fun _ => [(0,some (flat cB (iD a b)))]):=by
 subst hm
 refine aU Tryz.func126 Tryz.ntmps126 ?_
 repeat' (first|refine aE ?_|fail)
 refine aH (σ := Nat × List Bool) [0,1] [] (fun k => [(4,iv (k.1 : Int))]) (fun k => [(0,some (flat cB k.2))]) (fun k => k.1 ≤ b.length ∧ k.2.length = a.length ∧ (∀ l,l < a.length → k.2[l]! = (a[l]! || (decide (l < k.1) && b[l]!)))) (fun k => b.length - k.1) (0,a) ⟨by omega,rfl,fun l hl => by simp⟩ ?_
 rintro ⟨k,u⟩ ⟨hk,hul,hu⟩
 dsimp only at hk hul hu
 try dsimp only
 repeat' (first|refine aE ?_|(refine aK ?_ ?_ <;> intro hc hq <;> try (exfalso;omega))|(refine bK ?_ ?_ <;> intro hg hq <;> try (exfalso;omega))|fail)
 ·(refine bB (k + 1, _) (Le.renA []) ?_ ?_)
  ·refine ⟨(by show k + 1 ≤ b.length; omega), (by show (u.set k _).length = a.length; rw [List.length_set]; exact hul), fun l hl => ?_⟩
   show (u.set k _)[l]! = (a[l]! || (decide (l < k + 1) && b[l]!))
   have h1 := hu l hl
   have h2 := hu k (by omega)
   rw [aW]
   clear hu
   grind
  ·show b.length - (k + 1) < b.length - k;omega
 ·(refine bB (k + 1, _) (Le.renA []) ?_ ?_)
  ·refine ⟨(by show k + 1 ≤ b.length; omega), (by show (u.set k _).length = a.length; rw [List.length_set]; exact hul), fun l hl => ?_⟩
   show (u.set k _)[l]! = (a[l]! || (decide (l < k + 1) && b[l]!))
   have h1 := hu l hl
   have h2 := hu k (by omega)
   rw [aW]
   clear hu
   grind
  ·show b.length - (k + 1) < b.length - k;omega
 ·refine Au (l := []) rfl ?_
  refine aP () trivial rfl ⟨sE ?_,trivial⟩
  have e : u = iD a b := bT (by rw [gH, hul]) fun l hl => by
   rw [fA _ _ _ (by omega),hu l (by omega)]
   clear hu
   grind
  rw [e]
theorem Ij (ts:List Int) (x:Pnt) (fr:List (List Bool)) (pl lv:List Bool) (htl:ts.length ≤ 6) (hpl:pl.length ≤ 61) (h1:lv.length = ts.length) (h2:fr.length = ts.length) (h3:∀ v,v < ts.length → fr[v]!.length = pl.length):PC Tryz.prog 110 [sl cI ts,dJ x,.agg [sl iF fr,sl cB pl],sl cB lv] (fun r => r = sl cB (HJ ts x fr lv pl.length)):=by
 refine aB Tryz.func110 Tryz.ntmps110 ?_
 repeat' (first|refine aE ?_|fail)
 refine aH (σ := Nat × List Bool) [0,3,5,6,9] [0,1] (fun k => [(10,iv (k.1 : Int))]) (fun k => [(2,some (flat cB k.2))]) (fun k => k.1 ≤ lv.length ∧ k.2.length = pl.length ∧ (∀ l,l < pl.length → k.2[l]! = (List.range k.1).any (Fe ts x fr lv l))) (fun k => lv.length - k.1) (0,List.replicate pl.length false) ⟨by omega,by simp,fun l hl => by rw [dN _ _ _ hl]; rfl⟩ ?_
 rintro ⟨k,u⟩ ⟨hk,hul,hu⟩
 dsimp only at hk hul hu
 try dsimp only
 by_cases hkn : k < lv.length
 ·have hrow := h3 k (by omega)
  have hst : ∀ l,(List.range (k + 1)).any (Fe ts x fr lv l) = ((List.range k).any (Fe ts x fr lv l) || Fe ts x fr lv l k) := fun l => by rw [List.range_succ,List.any_append]; simp
  repeat' (first|(apply aF;(first|(apply aA (k := 107);rfl;(apply lT <;> (omega));exact Pur.pf;rfl)|(apply aA (k := 111);rfl;(apply qF);exact Pur.pf;rfl)|(apply Bt;rfl;rfl;(rfl);(apply EH <;> (omega));rfl;rfl)))|refine aE ?_|(refine aK ?_ ?_ <;> intro hc hq <;> try (exfalso;omega))|(refine bK ?_ ?_ <;> intro hg hq <;> try (exfalso;omega))|fail)
  ·(refine bB (k + 1, _) (Le.renA [(0, 0), (1, 1), (2, 2)]) ?_ ?_)
   ·refine ⟨(by show k + 1 ≤ lv.length; omega), (by show (iD u fr[k]!).length = pl.length; rw [gH]; exact hul), fun l hl => ?_⟩
    show (iD u fr[k]!)[l]! = (List.range (k + 1)).any _
    rw [hst l,fA _ _ _ (by omega),hu l hl,decide_eq_true (by omega : l < fr[k]!.length)]
    clear hu hst h3
    unfold Fe
    grind
   ·show lv.length - (k + 1) < lv.length - k;omega
  ·(refine bB (k + 1, u) (Le.renA [(0, 0), (1, 1), (2, 2)]) ?_ ?_)
   ·refine ⟨(by show k + 1 ≤ lv.length; omega), hul, fun l hl => ?_⟩
    show u[l]! = (List.range (k + 1)).any _
    rw [hst l,hu l hl]
    clear hu hst h3
    have e : Fe ts x fr lv l k = false := by unfold Fe;grind
    rw [e,Bool.or_false]
   ·show lv.length - (k + 1) < lv.length - k;omega
  ·(refine bB (k + 1, u) (Le.renA [(0, 0), (1, 1), (2, 2)]) ?_ ?_)
   ·refine ⟨(by show k + 1 ≤ lv.length; omega), hul, fun l hl => ?_⟩
    show u[l]! = (List.range (k + 1)).any _
    rw [hst l,hu l hl]
    clear hu hst h3
    have e : Fe ts x fr lv l k = false := by unfold Fe;grind
    rw [e,Bool.or_false]
   ·show lv.length - (k + 1) < lv.length - k;omega
  ·(refine bB (k + 1, u) (Le.renA [(0, 0), (1, 1), (2, 2)]) ?_ ?_)
   ·refine ⟨(by show k + 1 ≤ lv.length; omega), hul, fun l hl => ?_⟩
    show u[l]! = (List.range (k + 1)).any _
    rw [hst l,hu l hl]
    clear hu hst h3
    have e : Fe ts x fr lv l k = false := by unfold Fe;grind
    rw [e,Bool.or_false]
   ·show lv.length - (k + 1) < lv.length - k;omega
 ·repeat' (first | refine aE ?_ | (refine aK ?_ ?_ <;> intro hc hq <;> try (exfalso; omega))|fail)
  refine aO (Le.frzD (d := 8) (i := 2) rfl rfl) ?_
  refine aC rfl ⟨?_,(by (exact bD _ _))⟩
  have hkl : k = lv.length := by omega
  have e : u = HJ ts x fr lv pl.length := bT (by unfold HJ; simp; omega) fun l hl => by
   unfold HJ
   rw [bQ _ _ _ (by omega),hu l (by omega),hkl]
  have el : (HJ ts x fr lv pl.length).length = pl.length := by unfold HJ;simp
  rw [e]
  simp only [aM,Nat.zero_add,sl,el]
theorem j1 {f:Nat → Bool}{n k:Nat}(h:k < n) (hf:f k = false):(List.range n).all f = false:=by
 rw [Bool.eq_false_iff]; intro hc
 rw [List.all_eq_true] at hc
 have := hc k (List.mem_range.2 h)
 rw [hf] at this;cases this
theorem jO {f:Nat → Bool}{k:Nat}:(List.range (k + 1)).all f = ((List.range k).all f && f k):=by
 rw [List.range_succ,List.all_append]; simp
theorem DT (fa fb:List (List Bool)) (pa pb:List Bool) (hpl:pa.length ≤ 61) (hfl:fa.length ≤ 6) (h1:pb.length = pa.length) (h2:fb.length = fa.length) (h3:∀ v,v < fa.length → fa[v]!.length = pa.length) (h4:∀ v,v < fa.length → fb[v]!.length = pa.length):PC Tryz.prog 125 [.agg [sl iF fa,sl cB pa],.agg [sl iF fb,sl cB pb]] (fun r => r = bv (Hb fa fb pa pb)):=by
 refine aB Tryz.func125 Tryz.ntmps125 ?_
 repeat' (first|refine aE ?_|fail)
 refine aH (σ := Nat) [2,3] [0,1] (fun k => [(5,iv (k : Int))]) (fun k => []) (fun k => k ≤ pa.length ∧ (List.range k).all (Gr fa fb pa pb) = true) (fun k => pa.length - k) (0) ⟨by omega,rfl⟩ ?_
 rintro i ⟨hi,hall⟩
 try dsimp only
 repeat' (first|refine aE ?_|(refine aK ?_ ?_ <;> intro hc hq <;> try (exfalso;omega))|(refine bK ?_ ?_ <;> intro hg hq <;> try (exfalso;omega))|fail)
 ·refine aC rfl ⟨?_, (by (rfl))⟩
  have e2 : Gr fa fb pa pb i = false := by unfold Gr;grind
  have e3 : Hb fa fb pa pb = false := j1 (by omega : i < pa.length) e2
  simp only [aM]
  rw [e3]
 ·have hin : i < pa.length := by omega
  have hpp : (!pa[i]! || pb[i]!) = true := by grind
  refine aH (σ := Nat) [2,3,5] [0,1] (fun j => [(6,iv (j : Int))]) (fun j => []) (fun j => j ≤ fa.length ∧ (List.range j).all (HP fa fb i) = true) (fun j => fa.length - j) (0) ⟨by omega,rfl⟩ ?_
  rintro j ⟨hj,hj2⟩
  try dsimp only
  by_cases hjn : j < fa.length
  ·have r1 := h3 j hjn
   have r2 := h4 j hjn
   repeat' (first|refine aE ?_|(refine aK ?_ ?_ <;> intro hc hq <;> try (exfalso;omega))|(refine bK ?_ ?_ <;> intro hg hq <;> try (exfalso;omega))|fail)
   ·refine aC rfl ⟨?_, (by (rfl))⟩
    have e1 : HP fa fb i j = false := by unfold HP;grind
    have e2 : Gr fa fb pa pb i = false := by unfold Gr;rw [j1 hjn e1,Bool.and_false]
    have e3 : Hb fa fb pa pb = false := j1 hin e2
    simp only [aM]
    rw [e3]
   ·(refine bB (j + 1) (Le.renA [(0, 0), (1, 1)]) ?_ ?_)
    ·refine ⟨by omega, ?_⟩
     rw [jO,hj2]; unfold HP;grind
    ·omega
   ·(refine bB (j + 1) (Le.renA [(0, 0), (1, 1)]) ?_ ?_)
    ·refine ⟨by omega, ?_⟩
     rw [jO,hj2]; unfold HP;grind
    ·omega
  ·have hje : j = fa.length := by omega
   have e2 : Gr fa fb pa pb i = true := by unfold Gr;rw [hpp,← hje,hj2]; rfl
   repeat' (first|refine aE ?_|(refine aK ?_ ?_ <;> intro hc hq <;> try (exfalso;omega))|fail)
   (refine bB (i + 1) (Le.renA [(0,0),(1,1)]) ?_ ?_)
   ·refine ⟨by omega, ?_⟩
    rw [jO,hall,e2]; rfl
   ·omega
 ·have hin : i < pa.length := by omega
  have hpp : (!pa[i]! || pb[i]!) = true := by grind
  refine aH (σ := Nat) [2,3,5] [0,1] (fun j => [(6,iv (j : Int))]) (fun j => []) (fun j => j ≤ fa.length ∧ (List.range j).all (HP fa fb i) = true) (fun j => fa.length - j) (0) ⟨by omega,rfl⟩ ?_
  rintro j ⟨hj,hj2⟩
  try dsimp only
  by_cases hjn : j < fa.length
  ·have r1 := h3 j hjn
   have r2 := h4 j hjn
   repeat' (first|refine aE ?_|(refine aK ?_ ?_ <;> intro hc hq <;> try (exfalso;omega))|(refine bK ?_ ?_ <;> intro hg hq <;> try (exfalso;omega))|fail)
   ·refine aC rfl ⟨?_, (by (rfl))⟩
    have e1 : HP fa fb i j = false := by unfold HP;grind
    have e2 : Gr fa fb pa pb i = false := by unfold Gr;rw [j1 hjn e1,Bool.and_false]
    have e3 : Hb fa fb pa pb = false := j1 hin e2
    simp only [aM]
    rw [e3]
   ·(refine bB (j + 1) (Le.renA [(0, 0), (1, 1)]) ?_ ?_)
    ·refine ⟨by omega, ?_⟩
     rw [jO,hj2]; unfold HP;grind
    ·omega
   ·(refine bB (j + 1) (Le.renA [(0, 0), (1, 1)]) ?_ ?_)
    ·refine ⟨by omega, ?_⟩
     rw [jO,hj2]; unfold HP;grind
    ·omega
  ·have hje : j = fa.length := by omega
   have e2 : Gr fa fb pa pb i = true := by unfold Gr;rw [hpp,← hje,hj2]; rfl
   repeat' (first|refine aE ?_|(refine aK ?_ ?_ <;> intro hc hq <;> try (exfalso;omega))|fail)
   (refine bB (i + 1) (Le.renA [(0,0),(1,1)]) ?_ ?_)
   ·refine ⟨by omega, ?_⟩
    rw [jO,hall,e2]; rfl
   ·omega
 ·refine aC rfl ⟨?_, (by (rfl))⟩
  have hie : i = pa.length := by omega
  have e3 : Hb fa fb pa pb = true := by unfold Hb;rw [← hie]; exact hall
  simp only [aM]
  rw [e3]
theorem ER {m:List (Nat × Nat)}{l0 k K b w:Nat}(h0:l0 ≤ a6) (hK:K = k):RnL (kB m ⟨l0,a6 + K⟩ (some b)) (flat (Bd 0 w) (List.range (k + 1))) (((flat (Bd 0 w) (List.range k)).drop 0).take (k * 1) ++ [.own b 0 w 1]):=by
 rw [hK]
 have e : ((flat (Bd 0 w) (List.range k)).drop 0).take (k * 1) = flat (Bd 0 w) (List.range k) := List.take_of_length_le (by rw [List.drop_zero,aI (Bd 0 w) (e := 1)]; simp)
 rw [e,List.range_succ,← cE,nL]
 refine (dD (by show a6 + (0 + k) ≤ a6 + k;omega)).app (.cons (.own ?_) .nil)
 unfold kB
 rw [if_neg (by show ¬ 0 + k + a6 < l0;omega),if_pos (by omega),if_neg (by show ¬ 0 + k + a6 < a6 + k;omega),if_pos (by show 0 + k + a6 = a6 + k;omega)]
theorem Kl (p:Prg) (A:List Nat) (hs:aR p.body ≤ 1048576) (w:WG p.types (aD p)) (hA:sG p.types (aD p) A):PC Tryz.prog 65 [bI p] (fun r => r = sl iF (dV p.types.length (aD p).length A)):=by
 have hpl := w.pl
 have hp0 := w.p0
 have htl := w.tl
 refine aB Tryz.func65 Tryz.ntmps65 ?_
 repeat' (first|(apply aF;(apply aA (k := 36);rfl;exact dH p hs;exact Pur.pf;rfl))|refine aE ?_|fail)
 refine eS (σ := Nat) (fun k => List.replicate k (List.replicate p.types.length false)) [1,3] [0] (fun k => [(5,iv (k : Int)),(4,.own 1 0 k 1)]) (fun k => [(1,some (flat (Bd 0 p.types.length) (List.range k)))]) (fun k => k ≤ (aD p).length) (fun k => (aD p).length - k) (0) (Nat.zero_le _) ?_
 intro k hk
 try dsimp only
 repeat' (first|(apply aF;first|(with_reducible apply aZ (d := 6))|(apply bZ;rfl;rfl;rfl;rfl;rfl;(case hl => (simp [aI]; done));(rfl);omega;omega;(rfl);rfl;rfl))|refine aE ?_|(refine aK ?_ ?_ <;> intro hc hq <;> try (exfalso;omega))|fail)
 ·(apply bB (k + 1); focus (refine Le.renF1 [(0, 0), (1, 4)] 2 (R := ?qA1) (r := ?qB1) (hF := ?qF1) (hz := ?qz1) (hm := ?qm1) (hn := ?qn1) (hlb := ?qlb1) (hb := ?qb1) (hr := ?qr1) (hR := ?qR1) (h1 := ?q11) (h2 := ?q21); (case qF1 => (repeat' (first | exact FamR.here | (apply FamR.cons; focus rfl)))); (case qz1 => (rfl)); (case qm1 => rfl); (case qn1 => decide); (case qlb1 => decide); (case qb1 => decide); (case qr1 => rfl); (case qR1 => (exact List.replicate_succ')); all_goals (repeat' (first | exact trivial | refine And.intro ⟨_, rfl, ?_⟩ ?_ | refine And.intro ⟨_, _, rfl, rfl, ?_⟩ ?_ | exact RnL.purI inferInstance | exact RnV.purI inferInstance | exact RnV.own rfl | exact RnV.optr rfl | exact ER (by decide) (by simp)))))
  ·show k + 1 ≤ (aD p).length;omega
  ·show (aD p).length - (k + 1) < (aD p).length - k;omega
 ·have hkN : k = (aD p).length := by omega
  subst hkN
  refine bY (cX ?_ (Le.frzD (d := 4) (i := 1) rfl rfl))
  repeat' (first|refine aE ?_|fail)
  refine eS (σ := List (List Bool) × Bool) (fun s => s.1) [1,3,4] [0] (fun s => [(6,bv s.2)]) (fun s => []) (fun s => LH p.types (aD p) s.1 s.2) (fun s => Rz p.types.length (aD p).length s.1 s.2) (List.replicate (aD p).length (List.replicate p.types.length false),true) (LH.init _ _) ?_
  rintro ⟨R,c⟩ hLH
  try dsimp only at hLH
  try dsimp only
  have hRl := hLH.lo
  have hRr := hLH.ro
  cases c with
  | false =>
   repeat' (first|refine aE ?_|fail)
   have hfin := hLH.final w hA
   refine aO (Le.frzAll (d := 2) (D := (List.range R.length).map fun k => 0 + k + a6) rfl (.imm (LdL.rows (b := 0) (R := R) (by (repeat' (first|exact FamR.here|(apply FamR.cons;focus rfl)))) (fun k hk => List.mem_map.2 ⟨k,by rw [List.mem_range]; omega,rfl⟩) (by omega) (fun k hk => by rw [Nat.zero_add]; exact hRr k hk)))) ?_
   refine aC rfl ⟨?_,(by (exact bD _ _))⟩
   simp only [aM]
   rw [List.drop_zero,List.take_of_length_le (by omega),hfin]
   simp only [sl,iB]
  | true =>
   have hst := hLH.start
   repeat' (first|refine aE ?_|fail)
   refine eS (σ := Int × List (List Bool) × Bool) (fun s => s.2.1) [1,3,4] [0] (fun s => [(6,bv s.2.2),(7,iv s.1)]) (fun s => []) (fun s => -1 ≤ s.1 ∧ s.1 < (aD p).length ∧ LS p.types (aD p) R s.2.1 s.2.2 (DL s.1 0 0)) (fun s => (s.1 + 1).toNat) (((aD p).length : Int) - 1,R,false) ⟨(by show -1 ≤ ((aD p).length : Int) - 1;omega),(by show ((aD p).length : Int) - 1 < _; omega),hst⟩ ?_
   rintro ⟨z,R1,c1⟩ ⟨hz1,hz2,hL1⟩
   dsimp only at hz1 hz2 hL1
   have hl1 := hL1.lo
   try dsimp only
   repeat' (first|refine aE ?_|(refine aK ?_ ?_ <;> intro hc hq <;> try (exfalso;omega))|fail)
   ·have hnl := w.nl z.toNat (by omega)
    refine eS (σ := Nat × List (List Bool) × Bool) (fun s => s.2.1) [1,3,4,7] [0] (fun s => [(6,bv s.2.2),(8,iv (s.1 : Int))]) (fun s => []) (fun s => s.1 ≤ (aD p)[z.toNat]!.next.length ∧ LS p.types (aD p) R s.2.1 s.2.2 (DL z s.1 0)) (fun s => (aD p)[z.toNat]!.next.length - s.1) (0,R1,c1) ⟨Nat.zero_le _,hL1⟩ ?_
    rintro ⟨kk,R2,c2⟩ ⟨hk,hL2⟩
    dsimp only at hk hL2
    have hl2 := hL2.lo
    try dsimp only
    by_cases hkn : kk < (aD p)[z.toNat]!.next.length
    ·have hnx := w.nx z.toNat (by omega) _ (aS _ _ hkn)
     repeat' (first|refine aE ?_|(refine aK ?_ ?_ <;> intro hc hq <;> try (exfalso;omega))|fail)
     refine eS (σ := Nat × List (List Bool) × Bool) (fun s => s.2.1) [1,3,4,7,8,9] [0] (fun s => [(6,bv s.2.2),(10,iv (s.1 : Int))]) (fun s => []) (fun s => s.1 ≤ p.types.length ∧ LS p.types (aD p) R s.2.1 s.2.2 (DL z kk s.1)) (fun s => p.types.length - s.1) (0,R2,c2) ⟨Nat.zero_le _,hL2⟩ ?_
     rintro ⟨v,R3,c3⟩ ⟨hv,hL3⟩
     dsimp only at hv hL3
     try dsimp only
     have hl3 := hL3.lo
     have hr3 := hL3.ro z.toNat (by omega)
     have hr3n := hL3.ro ((aD p)[z.toNat]!.next[kk]!).toNat (by omega)
     by_cases hvn : v < p.types.length
     ·repeat' (first | (apply aF; first | (apply KD;rfl;(case hF => (repeat' (first | exact FamR.here | (apply FamR.cons; focus rfl))));(omega);(simp only [gB] <;> omega);rfl) | (apply kH;rfl;rfl;(first | assumption | omega);rfl;infer_instance;infer_instance;rfl) | (apply HI;rfl;rfl;(case hF => (repeat' (first | exact FamR.here | (apply FamR.cons; focus rfl))));(omega);(simp only [gB] <;> omega)) | (first | (apply aA (k := 107);rfl;(apply lT <;> (omega));exact Pur.pf;rfl) | (apply aA (k := 111);rfl;(apply qF);exact Pur.pf;rfl))) | refine aE ?_ | (refine aK ?_ ?_ <;> intro hc hq <;> try (exfalso; omega)) | (refine bK ?_ ?_ <;> intro hg hq <;> try (exfalso; omega)) | refine bH ?_|fail)
      ·(apply bB (v + 1, _, _); focus (refine Le.renF0 [(0, 0)] (R := ?qA2) (hF := ?qF2) (hz := ?qz2) (hm := ?qm2) (hn := ?qn2) (h1 := ?q12) (h2 := ?q22); (case qF2 => (repeat' (first | exact FamR.here | (apply FamR.cons; focus rfl)))); (case qz2 => (simp only [List.length_set])); (case qm2 => rfl); (case qn2 => decide); all_goals (repeat' (first | exact trivial | refine And.intro ⟨_, rfl, ?_⟩ ?_ | refine And.intro ⟨_, _, rfl, rfl, ?_⟩ ?_ | exact RnL.purI inferInstance | exact RnV.purI inferInstance | exact RnV.optr rfl | exact RnV.imm (dD (by (simp only [List.length_replicate, List.length_set, List.length_append, List.length_singleton] at * <;> omega)))))))
       ·refine ⟨(by show v + 1 ≤ p.types.length; omega), ?_⟩
        have hf : R3[z.toNat]![v]! = false := by simp only [Nat.zero_add] at *; assumption
        have hn : iZ p.types (aD p) R3 ((aD p)[z.toNat]!.next[kk]!).toNat v = true := by simp only [Nat.zero_add] at *; clear hL1 hL2 hL3 hLH hst;grind [iZ]
        have hh := hL3.hit w (DL z kk (v + 1)) (by omega) hkn hvn hn hf
        simpa only [Nat.zero_add] using hh
       ·show p.types.length - (v + 1) < p.types.length - v;omega
      ·(apply bB (v + 1, R3, c3); focus (refine Le.renF0 [(0, 0)] (R := ?qA3) (hF := ?qF3) (hz := ?qz3) (hm := ?qm3) (hn := ?qn3) (h1 := ?q13) (h2 := ?q23); (case qF3 => (repeat' (first | exact FamR.here | (apply FamR.cons; focus rfl)))); (case qz3 => (rfl)); (case qm3 => rfl); (case qn3 => decide); all_goals (repeat' (first | exact trivial | refine And.intro ⟨_, rfl, ?_⟩ ?_ | refine And.intro ⟨_, _, rfl, rfl, ?_⟩ ?_ | exact RnL.purI inferInstance | exact RnV.purI inferInstance | exact RnV.optr rfl | exact RnV.imm (dD (by (simp only [List.length_replicate, List.length_set, List.length_append, List.length_singleton] at * <;> omega)))))))
       ·refine ⟨(by show v + 1 ≤ p.types.length; omega), ?_⟩
        refine hL3.skip (i := z.toNat) (k := kk) (v := v) (fun hn => ?_) (fun i' k' v' _ _ _ hd => by unfold DL at hd ⊢; omega)
        simp only [Nat.zero_add] at *
        first
        | assumption
        | (exfalso;clear hL1 hL2 hL3 hLH hst;grind [iZ])
       ·show p.types.length - (v + 1) < p.types.length - v;omega
      ·(apply bB (v + 1, R3, c3); focus (refine Le.renF0 [(0, 0)] (R := ?qA4) (hF := ?qF4) (hz := ?qz4) (hm := ?qm4) (hn := ?qn4) (h1 := ?q14) (h2 := ?q24); (case qF4 => (repeat' (first | exact FamR.here | (apply FamR.cons; focus rfl)))); (case qz4 => (rfl)); (case qm4 => rfl); (case qn4 => decide); all_goals (repeat' (first | exact trivial | refine And.intro ⟨_, rfl, ?_⟩ ?_ | refine And.intro ⟨_, _, rfl, rfl, ?_⟩ ?_ | exact RnL.purI inferInstance | exact RnV.purI inferInstance | exact RnV.optr rfl | exact RnV.imm (dD (by (simp only [List.length_replicate, List.length_set, List.length_append, List.length_singleton] at * <;> omega)))))))
       ·refine ⟨(by show v + 1 ≤ p.types.length; omega), ?_⟩
        refine hL3.skip (i := z.toNat) (k := kk) (v := v) (fun hn => ?_) (fun i' k' v' _ _ _ hd => by unfold DL at hd ⊢; omega)
        simp only [Nat.zero_add] at *
        first
        | assumption
        | (exfalso;clear hL1 hL2 hL3 hLH hst;grind [iZ])
       ·show p.types.length - (v + 1) < p.types.length - v;omega
      ·(apply bB (v + 1, R3, c3); focus (refine Le.renF0 [(0, 0)] (R := ?qA5) (hF := ?qF5) (hz := ?qz5) (hm := ?qm5) (hn := ?qn5) (h1 := ?q15) (h2 := ?q25); (case qF5 => (repeat' (first | exact FamR.here | (apply FamR.cons; focus rfl)))); (case qz5 => (rfl)); (case qm5 => rfl); (case qn5 => decide); all_goals (repeat' (first | exact trivial | refine And.intro ⟨_, rfl, ?_⟩ ?_ | refine And.intro ⟨_, _, rfl, rfl, ?_⟩ ?_ | exact RnL.purI inferInstance | exact RnV.purI inferInstance | exact RnV.optr rfl | exact RnV.imm (dD (by (simp only [List.length_replicate, List.length_set, List.length_append, List.length_singleton] at * <;> omega)))))))
       ·refine ⟨(by show v + 1 ≤ p.types.length; omega), ?_⟩
        refine hL3.skip (i := z.toNat) (k := kk) (v := v) (fun hn => ?_) (fun i' k' v' _ _ _ hd => by unfold DL at hd ⊢; omega)
        simp only [Nat.zero_add] at *
        first
        | assumption
        | (exfalso;clear hL1 hL2 hL3 hLH hst;grind [iZ])
       ·show p.types.length - (v + 1) < p.types.length - v;omega
      ·(apply bB (v + 1, _, _); focus (refine Le.renF0 [(0, 0)] (R := ?qA6) (hF := ?qF6) (hz := ?qz6) (hm := ?qm6) (hn := ?qn6) (h1 := ?q16) (h2 := ?q26); (case qF6 => (repeat' (first | exact FamR.here | (apply FamR.cons; focus rfl)))); (case qz6 => (simp only [List.length_set])); (case qm6 => rfl); (case qn6 => decide); all_goals (repeat' (first | exact trivial | refine And.intro ⟨_, rfl, ?_⟩ ?_ | refine And.intro ⟨_, _, rfl, rfl, ?_⟩ ?_ | exact RnL.purI inferInstance | exact RnV.purI inferInstance | exact RnV.optr rfl | exact RnV.imm (dD (by (simp only [List.length_replicate, List.length_set, List.length_append, List.length_singleton] at * <;> omega)))))))
       ·refine ⟨(by show v + 1 ≤ p.types.length; omega), ?_⟩
        have hf : R3[z.toNat]![v]! = false := by simp only [Nat.zero_add] at *; assumption
        have hn : iZ p.types (aD p) R3 ((aD p)[z.toNat]!.next[kk]!).toNat v = true := by simp only [Nat.zero_add] at *; clear hL1 hL2 hL3 hLH hst;grind [iZ]
        have hh := hL3.hit w (DL z kk (v + 1)) (by omega) hkn hvn hn hf
        simpa only [Nat.zero_add] using hh
       ·show p.types.length - (v + 1) < p.types.length - v;omega
      ·(apply bB (v + 1, R3, c3); focus (refine Le.renF0 [(0, 0)] (R := ?qA7) (hF := ?qF7) (hz := ?qz7) (hm := ?qm7) (hn := ?qn7) (h1 := ?q17) (h2 := ?q27); (case qF7 => (repeat' (first | exact FamR.here | (apply FamR.cons; focus rfl)))); (case qz7 => (rfl)); (case qm7 => rfl); (case qn7 => decide); all_goals (repeat' (first | exact trivial | refine And.intro ⟨_, rfl, ?_⟩ ?_ | refine And.intro ⟨_, _, rfl, rfl, ?_⟩ ?_ | exact RnL.purI inferInstance | exact RnV.purI inferInstance | exact RnV.optr rfl | exact RnV.imm (dD (by (simp only [List.length_replicate, List.length_set, List.length_append, List.length_singleton] at * <;> omega)))))))
       ·refine ⟨(by show v + 1 ≤ p.types.length; omega), ?_⟩
        refine hL3.skip (i := z.toNat) (k := kk) (v := v) (fun hn => ?_) (fun i' k' v' _ _ _ hd => by unfold DL at hd ⊢; omega)
        simp only [Nat.zero_add] at *
        first
        | assumption
        | (exfalso;clear hL1 hL2 hL3 hLH hst;grind [iZ])
       ·show p.types.length - (v + 1) < p.types.length - v;omega
     ·repeat' (first | refine aE ?_ | (refine aK ?_ ?_ <;> intro hc hq <;> try (exfalso; omega))|fail)
      ·(apply bB (kk + 1, R3, c3); focus (refine Le.renF0 [(0, 0)] (R := ?qA8) (hF := ?qF8) (hz := ?qz8) (hm := ?qm8) (hn := ?qn8) (h1 := ?q18) (h2 := ?q28); (case qF8 => (repeat' (first | exact FamR.here | (apply FamR.cons; focus rfl)))); (case qz8 => (rfl)); (case qm8 => rfl); (case qn8 => decide); all_goals (repeat' (first | exact trivial | refine And.intro ⟨_, rfl, ?_⟩ ?_ | refine And.intro ⟨_, _, rfl, rfl, ?_⟩ ?_ | exact RnL.purI inferInstance | exact RnV.purI inferInstance | exact RnV.optr rfl | exact RnV.imm (dD (by (simp only [List.length_replicate, List.length_set, List.length_append, List.length_singleton] at * <;> omega)))))))
       ·refine ⟨(by show kk + 1 ≤ (aD p)[z.toNat]!.next.length; omega), ?_⟩
        exact hL3.mono fun i' k' v' _ _ _ hd => by unfold DL at hd ⊢; omega
       ·show (aD p)[z.toNat]!.next.length - (kk + 1) < (aD p)[z.toNat]!.next.length - kk;omega
    ·repeat' (first | refine aE ?_ | (refine aK ?_ ?_ <;> intro hc hq <;> try (exfalso; omega))|fail)
     ·(apply bB (z - 1, R2, c2); focus (refine Le.renF0 [(0, 0)] (R := ?qA9) (hF := ?qF9) (hz := ?qz9) (hm := ?qm9) (hn := ?qn9) (h1 := ?q19) (h2 := ?q29); (case qF9 => (repeat' (first | exact FamR.here | (apply FamR.cons; focus rfl)))); (case qz9 => (rfl)); (case qm9 => rfl); (case qn9 => decide); all_goals (repeat' (first | exact trivial | refine And.intro ⟨_, rfl, ?_⟩ ?_ | refine And.intro ⟨_, _, rfl, rfl, ?_⟩ ?_ | exact RnL.purI inferInstance | exact RnV.purI inferInstance | exact RnV.optr rfl | exact RnV.imm (dD (by (simp only [List.length_replicate, List.length_set, List.length_append, List.length_singleton] at * <;> omega)))))))
      ·refine ⟨(by show -1 ≤ z - 1; omega), (by show z - 1 < ((aD p).length : Int); omega), ?_⟩
       refine hL2.mono fun i' k' v' _ hk' _ hd => ?_
       unfold DL at hd ⊢
       by_cases e : (i' : Int) = z
       ·have e2 : i' = z.toNat := by omega
        rw [e2] at hk'; omega
       ·omega
      ·show (z - 1 + 1).toNat < (z + 1).toNat;omega
   ·(apply bB (R1, c1); focus (refine Le.renF0 [(0, 0)] (R := ?qA10) (hF := ?qF10) (hz := ?qz10) (hm := ?qm10) (hn := ?qn10) (h1 := ?q110) (h2 := ?q210); (case qF10 => (repeat' (first | exact FamR.here | (apply FamR.cons; focus rfl)))); (case qz10 => (rfl)); (case qm10 => rfl); (case qn10 => decide); all_goals (repeat' (first | exact trivial | refine And.intro ⟨_, rfl, ?_⟩ ?_ | refine And.intro ⟨_, _, rfl, rfl, ?_⟩ ?_ | exact RnL.purI inferInstance | exact RnV.purI inferInstance | exact RnV.optr rfl | exact RnV.imm (dD (by (simp only [List.length_replicate, List.length_set, List.length_append, List.length_singleton] at * <;> omega)))))))
    ·exact (hL1.fin (by omega)).1
    ·exact (hL1.fin (by omega)).2
abbrev O1 (b nv N : Nat) : AV := .agg [.imm nv (flat (Bd b N) (List.range nv)),.own (b + nv + a6) 0 N 1]
theorem KO {m:List (Nat × Nat)}{l0 K b j:Nat}(h0:l0 ≤ a6) (hj:j = K):kB m ⟨l0,a6 + K⟩ (some b) (j + a6) = some b:=by
 subst hj
 unfold kB
 rw [if_neg (by show ¬ j + a6 < l0;omega),if_pos (by omega),if_neg (by show ¬ j + a6 < a6 + j;omega),if_pos (by show j + a6 = a6 + j;omega)]
theorem GR (nv N:Nat) (hnv:nv ≤ 6) (hN:N ≤ 61):RA Tryz.prog 123 [iv (nv:Int),iv (N:Int)] (O1 0 nv N) (List.replicate (nv + 1) (List.replicate N false)):=by
 refine IY Tryz.func123 Tryz.ntmps123 ?_
 repeat' (first|(apply aF;first|(apply mQ (d := 9);rfl;exact (rfl:_=some [_,_]);rfl)|(with_reducible apply aZ (d := 6)))|refine aE ?_|fail)
 refine bY (cX ?_ (Le.nilCell (i := 2) 1 [] rfl (by decide) (by decide)))
 repeat' (first|refine aE ?_|fail)
 refine eS (σ := Nat) (fun k => List.replicate k (List.replicate N false)) [0,1,4,5] [1,0] (fun k => [(6,iv (k : Int))]) (fun k => [(2,some [.own 3 0 k 1,.own 1 0 N 1]),(3,some (flat (Bd 0 N) (List.range k)))]) (fun k => k ≤ nv) (fun k => nv - k) (0) (Nat.zero_le _) ?_
 intro k hk
 try dsimp only
 repeat' (first|(apply aF;first|(apply bZ;rfl;rfl;rfl;rfl;rfl;(case hl => (simp [aI]; done));(rfl);omega;omega;(rfl);rfl;rfl)|(apply bC;rfl;rfl;rfl;rfl;rfl;(case hl => (simp;done));(exact (rfl:_=[_,_]))))|refine aE ?_|(refine aK ?_ ?_ <;> intro hc hq <;> try (exfalso;omega))|refine bH ?_|fail)
 ·(apply bB (k + 1); focus (refine Le.renF1 [(0, 0), (1, 1), (2, 2), (3, 6)] 4 (R := ?qA1) (r := ?qB1) (hF := ?qF1) (hz := ?qz1) (hm := ?qm1) (hn := ?qn1) (hlb := ?qlb1) (hb := ?qb1) (hr := ?qr1) (hR := ?qR1) (h1 := ?q11) (h2 := ?q21); (case qF1 => (repeat' (first | exact FamR.here | (apply FamR.cons; focus rfl)))); (case qz1 => (rfl)); (case qm1 => rfl); (case qn1 => decide); (case qlb1 => decide); (case qb1 => decide); (case qr1 => rfl); (case qR1 => (exact List.replicate_succ')); all_goals (repeat' (first | exact trivial | refine And.intro ⟨_, rfl, ?_⟩ ?_ | refine And.intro ⟨_, _, rfl, rfl, ?_⟩ ?_ | exact RnL.purI inferInstance | exact RnV.purI inferInstance | exact RnV.own rfl | exact RnV.optr rfl | exact RnL.nil | refine RnL.cons ?_ ?_ | exact ER (by decide) (by simp)))))
  ·show k + 1 ≤ nv;omega
  ·show nv - (k + 1) < nv - k;omega
 ·have e : k = nv := by omega
  subst e
  refine aO (Le.renF1 [(0, 0), (3, 3)] 1 (ts' := [(4, .optr 0 0)]) (lits := [(0, some [.own 3 0 k 1, .own (0 + k + a6) 0 N 1]), (3, some (flat (Bd 0 N) (List.range k)))]) (n' := 4) (R := List.replicate k (List.replicate N false)) (r := List.replicate N false) (R' := List.replicate (k + 1) (List.replicate N false)) (by (repeat' (first | exact FamR.here | (apply FamR.cons; focus rfl)))) rfl rfl (by decide) (by decide) (by decide) rfl List.replicate_succ' ⟨⟨_, rfl, .optr rfl⟩, trivial⟩
   ⟨⟨0,_,rfl,rfl,.cons (.own rfl) (.cons (.own (KO (by decide) (by simp))) .nil)⟩,⟨3,_,rfl,rfl,dD (by simp)⟩,trivial⟩) ?_
  refine aO (Le.frzC (j := 0) (i := 3) [] rfl rfl (by decide)) ?_
  refine aC (l := [.agg [_,_]]) rfl ?_
  exact Oy rfl (by (repeat' (first|exact FamR.here|(apply FamR.cons;focus rfl))))
theorem OX {R0:List (List Bool)}{k N:Nat}(hk:k < R0.length) (hN:R0[k]!.length = N):flat iF (R0.take (k + 1)) = ((flat iF (R0.take k)).drop 0).take (k * 1) ++ [.imm (0 + N) (flat cB R0[0 + k]!)]:=by
 have e : ((flat iF (R0.take k)).drop 0).take (k * 1) = flat iF (R0.take k) := List.take_of_length_le (by rw [List.drop_zero,aI iF (e := 1)]; simp;omega)
 rw [e,bG _ _ hk,← cE,nL,Nat.zero_add,Nat.zero_add,← hN]; rfl
theorem Ro {ρ:Nat → Option Nat}{a b:List AV}[h:Pur a] (e:a = b):RnL ρ a b := by subst e;exact .pur h.pf
theorem KI (nv N:Nat) (R0:List (List Bool)) (hnv:nv ≤ 6) (hN:N ≤ 61) (hl:R0.length = nv + 1) (hr:∀ k,k < nv + 1 → R0[k]!.length = N):Qw Tryz.prog 157 [O1 0 nv N] R0 (.agg [.own 0 0 nv 1,.own 1 0 N 1]) [(0,some (flat iF (R0.take nv))),(1,some (flat cB R0[nv]!))]:=by
 have hrn := hr nv (by omega)
 refine BW Tryz.func157 Tryz.ntmps157 ?_
 repeat' (first|(apply aF;first|(apply mQ (d := 9);rfl;exact (rfl:_=some [_,_]);rfl)|(with_reducible apply aZ (d := 4))|(apply bZ;rfl;rfl;rfl;rfl;rfl;(case hl => (simp [aI]; done));(case hs' => (apply IU;(focus (repeat' (first|exact FamR.here|(apply FamR.cons;focus rfl))));(focus (omega));(simp only [gB] <;> omega)));omega;omega;(exact qH (by (omega)));rfl;rfl)|(apply bC;rfl;rfl;rfl;rfl;rfl;(case hl => (simp;done));(exact (rfl:_=[_,_]))))|refine aE ?_|fail)
 refine bY (cX ?_ (Le.nilCell (i := 4) 1 [] rfl (by decide) (by decide)))
 repeat' (first|refine aE ?_|fail)
 refine eS (σ := Nat) (fun k => R0) [1,2,3] [3,1,0] (fun k => [(4,iv (k : Int))]) (fun k => [(4,some [.own 5 0 k 1,.own 3 0 (0 + N) 1]),(5,some (flat iF (R0.take k)))]) (fun k => k ≤ nv) (fun k => nv - k) (0) (Nat.zero_le _) ?_
 intro k hk
 try dsimp only
 have hrk : k < nv → R0[k]!.length = N := fun h => hr k (by omega)
 repeat' (first|(apply aF;first|(apply pA;rfl;rfl;(omega);rfl;infer_instance;infer_instance;rfl)|(apply bZ;rfl;rfl;rfl;rfl;rfl;(case hl => first|(rw [aI]; simp only [gB] <;> omega)|(simp [aI]; done));(case hs' => first|(apply IU;(focus (repeat' (first|exact FamR.here|(apply FamR.cons;focus rfl))));(focus (omega));(simp only [gB] <;> omega))|rfl);omega;omega;(first|exact qH (by (omega))|rfl);rfl;rfl)|(apply bC;rfl;rfl;rfl;rfl;rfl;(case hl => (simp;done));(exact (rfl:_=[_,_]))))|refine aE ?_|(refine aK ?_ ?_ <;> intro hc hq <;> try (exfalso;omega))|refine bH ?_|fail)
 ·(apply bB (k + 1); focus (refine Le.trans (Le.frzC (j := 9) (i := 7) (((flat iF (R0.take k)).drop 0).take (k * 1)) rfl rfl (by decide)) ?_; refine Le.renF0 [(0, 0), (1, 1), (3, 3), (4, 4), (5, 9)] (R := ?qA1) (hF := ?qF1) (hz := ?qz1) (hm := ?qm1) (hn := ?qn1) (h1 := ?q11) (h2 := ?q21); (case qF1 => (repeat' (first | exact FamR.here | (apply FamR.cons; focus rfl)))); (case qz1 => (rfl)); (case qm1 => rfl); (case qn1 => decide); all_goals (repeat' (first | exact trivial | refine And.intro ⟨_, rfl, ?_⟩ ?_ | refine And.intro ⟨_, _, rfl, rfl, ?_⟩ ?_ | exact RnL.purI inferInstance | exact RnV.purI inferInstance | exact RnV.own rfl | exact RnV.optr rfl | exact RnL.nil | refine RnL.cons ?_ ?_ | exact RnV.imm (dD (by (simp only [List.length_replicate, List.length_set, List.length_append, List.length_singleton] at * <;> omega))) | exact RnV.own (iN (by omega) (by show _ < a6 + _; (omega))) | exact Ro (OX (by omega) (hrk (by omega)))))))
  ·show k + 1 ≤ nv;omega
  ·show nv - (k + 1) < nv - k;omega
 ·have e : k = nv := by omega
  subst e
  refine aO (Le.renF0 [(0, 5), (1, 3), (2, 1)] (ts' := [(2, .optr 2 0)]) (lits := [(2, some [.own 0 0 k 1, .own 1 0 (0 + N) 1]), (0, some (flat iF (R0.take k))), (1, some (flat cB R0[0 + k]!))]) (n' := 3) (R := R0) (by (repeat' (first | exact FamR.here | (apply FamR.cons; focus rfl)))) rfl rfl (by decide) ⟨⟨_, rfl, .optr rfl⟩, trivial⟩
   ⟨⟨1,_,rfl,rfl,.cons (.own rfl) (.cons (.own rfl) .nil)⟩,⟨5,_,rfl,rfl,RnL.purI inferInstance⟩,⟨3,_,rfl,rfl,RnL.purI inferInstance⟩,trivial⟩) ?_
  refine aC (l := [.agg [_,_]]) rfl ?_
  simp only [Nat.zero_add]
  exact rP rfl ⟨.inr rfl,.inr rfl,trivial⟩ (by (repeat' (first|exact FamR.here|(apply FamR.cons;focus rfl))))
theorem yI {fr:List (List Bool)}{pl:List Bool}{pts:List Pnt}{v:Int}{nv M:Nat}{x0 x1 x2:Operand}{i0 i1:Nat}(ha0:ev (lk tsl) x0 = some (.agg [.own i0 0 nv 1,.own i1 0 M 1])) (ha1:ev (lk tsl) x1 = some (sl b8 pts)) (ha2:ev (lk tsl) x2 = some (iv v)) (hH0:aT hsl i0 = some (flat iF fr)) (hH1:aT hsl i1 = some (flat cB pl)) (hdd:Go.AL.distinct [i0,i1] = true) (hmc:MC Tryz.prog 159 [.agg [.own 0 0 nv 1,.own 1 0 M 1],sl b8 pts,iv v] [(0,some (flat iF fr)),(1,some (flat cB pl))] 2 (fun _:Unit => True) (fun _ => .tup []) (fun _ => [(0,some (flat iF fr)),(1,some (flat cB (uR pts v pl)))])) (hM:Nat.ble (nidl + 0) a6 = true) (hN:Nat.blt d N = true){md':Md}[hmd:MdA md (fF [x0,x1,x2] ++ [.inr i0,.inr i1]) (List.map Sum.inr (List.map Prod.fst ([(i0,some (flat iF fr)),(i1,some (flat cB (uR pts v pl)))]:List (Nat × Option (List AV)))) ++ [.inl d]) md'] (kk:RW Tryz.prog N all Q md' rest ⟨(d,.tup []) :: tsl,gD hsl [(i0,some (flat iF fr)),(i1,some (flat cB (uR pts v pl)))],nidl + 0,z0⟩):RW Tryz.prog N all Q md (⟨some d,.call ⟨.value (.func 159),#[x0,x1,x2],tys⟩,ty,pos,af,none⟩ :: rest) ⟨tsl,hsl,nidl,z0⟩:=by
 exact aX (l := [x0,x1,x2]) [i0,i1] 2 [(i0,some (flat iF fr)),(i1,some (flat cB (uR pts v pl)))] hmc (avs := [.agg [.own i0 0 nv 1,.own i1 0 M 1],sl b8 pts,iv v]) (by simp only [evL,ha0,ha1,ha2]) hdd hM hN (md' := md') (hmd := hmd) kk
theorem CD (fr:List (List Bool)) (pl:List Bool) (pts:List Pnt) (v:Int) (nv M:Nat) (hN:M = pl.length) (hl:pts.length = pl.length) (hpl:pts.length ≤ 61):MC Tryz.prog 159 [.agg [.own 0 0 nv 1,.own 1 0 M 1],sl b8 pts,iv v] [(0,some (flat iF fr)),(1,some (flat cB pl))] 2 (fun _:Unit => True) (fun _ => .tup []) (fun _ => [(0,some (flat iF fr)),(1,some (flat cB (uR pts v pl)))]):=by
 refine aU Tryz.func159 Tryz.ntmps159 ?_
 repeat' (first|refine aE ?_|fail)
 refine aH (σ := Nat × List Bool) [1,2,3] [0,2] (fun k => [(6,iv (k.1 : Int))]) (fun k => [(1,some (flat cB k.2))]) (fun k => k.1 ≤ pts.length ∧ k.2.length = pl.length ∧ (∀ l,l < pl.length → k.2[l]! = if l < k.1 then (uR pts v pl)[l]! else pl[l]!)) (fun k => pts.length - k.1) (0,pl) ⟨by omega,rfl,fun l hl => by rw [if_neg (by omega)]⟩ ?_
 rintro ⟨k,u⟩ ⟨hk,hul,hu⟩
 dsimp only at hk hul hu
 try dsimp only
 have hstep : ∀ l,l < pl.length → (uR pts v pl)[l]! = (pl[l]! && !((decide (pts[l]!.op = 4) || decide (pts[l]!.op = 5)) && decide (pts[l]!.y = v))) := fun l hl => Ax pts v pl l hl
 repeat' (first|refine aE ?_|(refine aK ?_ ?_ <;> intro hc hq <;> try (exfalso;omega))|(refine bK ?_ ?_ <;> intro hg hq <;> try (exfalso;omega))|fail)
 ·(refine bB (k + 1, _) (Le.renA [(2, 2)]) ?_ ?_)
  ·refine ⟨(by show k + 1 ≤ pts.length; omega), (by show (u.set k false).length = pl.length; rw [List.length_set]; exact hul), fun l hl => ?_⟩
   show (u.set k false)[l]! = if l < k + 1 then (uR pts v pl)[l]! else pl[l]!
   have hs := hstep l hl
   rw [aW,hu l hl]
   clear hu hstep
   grind
  ·show pts.length - (k + 1) < pts.length - k;omega
 ·(refine bB (k + 1, u) (Le.renA [(2, 2)]) ?_ ?_)
  ·refine ⟨(by show k + 1 ≤ pts.length; omega), hul, fun l hl => ?_⟩
   show u[l]! = if l < k + 1 then (uR pts v pl)[l]! else pl[l]!
   have hs := hstep l hl
   rw [hu l hl]
   clear hu hstep
   grind
  ·show pts.length - (k + 1) < pts.length - k;omega
 ·(refine bB (k + 1, u) (Le.renA [(2, 2)]) ?_ ?_)
  ·refine ⟨(by show k + 1 ≤ pts.length; omega), hul, fun l hl => ?_⟩
   show u[l]! = if l < k + 1 then (uR pts v pl)[l]! else pl[l]!
   have hs := hstep l hl
   rw [hu l hl]
   clear hu hstep
   grind
  ·show pts.length - (k + 1) < pts.length - k;omega
 ·(refine bB (k + 1, _) (Le.renA [(2, 2)]) ?_ ?_)
  ·refine ⟨(by show k + 1 ≤ pts.length; omega), (by show (u.set k false).length = pl.length; rw [List.length_set]; exact hul), fun l hl => ?_⟩
   show (u.set k false)[l]! = if l < k + 1 then (uR pts v pl)[l]! else pl[l]!
   have hs := hstep l hl
   rw [aW,hu l hl]
   clear hu hstep
   grind
  ·show pts.length - (k + 1) < pts.length - k;omega
 ·(refine bB (k + 1, u) (Le.renA [(2, 2)]) ?_ ?_)
  ·refine ⟨(by show k + 1 ≤ pts.length; omega), hul, fun l hl => ?_⟩
   show u[l]! = if l < k + 1 then (uR pts v pl)[l]! else pl[l]!
   have hs := hstep l hl
   rw [hu l hl]
   clear hu hstep
   grind
  ·show pts.length - (k + 1) < pts.length - k;omega
 ·refine Au (l := []) rfl ?_
  refine aP () trivial rfl ⟨.inr rfl,sE ?_,trivial⟩
  have e : u = uR pts v pl := bT (by rw [Aj, hul]) fun l hl => by
   rw [hu l (by omega),if_pos (by omega)]
  rw [e]
theorem F6 {a b:List Bool}{m m2:Nat}{x0 x1:Operand}{i0 i1:Nat}(ha0:ev (lk tsl) x0 = some (.own i0 0 m 1)) (ha1:ev (lk tsl) x1 = some (.own i1 0 m2 1)) (hH0:aT hsl i0 = some (flat cB a)) (hH1:aT hsl i1 = some (flat cB b)) (hdd:Go.AL.distinct [i0,i1] = true) (hmc:MC Tryz.prog 126 [.own 0 0 m 1,.own 1 0 m2 1] [(0,some (flat cB a)),(1,some (flat cB b))] 2 (fun _:Unit => True) (fun _ => .tup []) (fun _ => [(0,some (flat cB (iD a b))),(1,some (flat cB b))])) (hM:Nat.ble (nidl + 0) a6 = true) (hN:Nat.blt d N = true){md':Md}[hmd:MdA md (fF [x0,x1] ++ [.inr i0,.inr i1]) (List.map Sum.inr (List.map Prod.fst ([(i0,some (flat cB (iD a b))),(i1,some (flat cB b))]:List (Nat × Option (List AV)))) ++ [.inl d]) md'] (kk:RW Tryz.prog N all Q md' rest ⟨(d,.tup []) :: tsl,gD hsl [(i0,some (flat cB (iD a b))),(i1,some (flat cB b))],nidl + 0,z0⟩):RW Tryz.prog N all Q md (⟨some d,.call ⟨.value (.func 126),#[x0,x1],tys⟩,ty,pos,af,none⟩ :: rest) ⟨tsl,hsl,nidl,z0⟩:=by
 exact aX (l := [x0,x1]) [i0,i1] 2 [(i0,some (flat cB (iD a b))),(i1,some (flat cB b))] hmc (avs := [.own i0 0 m 1,.own i1 0 m2 1]) (by simp only [evL,ha0,ha1]) hdd hM hN (md' := md') (hmd := hmd) kk
theorem IH (a b:List Bool) (m m2:Nat) (hm:m = a.length) (hm':m2 = b.length) (hab:b.length ≤ a.length) (hl:a.length ≤ 1048576):MC Tryz.prog 126 [.own 0 0 m 1,.own 1 0 m2 1] [(0,some (flat cB a)),(1,some (flat cB b))] 2 (fun _:Unit => True) (fun _ => .tup []) (fun _ => [(0,some (flat cB (iD a b))),(1,some (flat cB b))]):=by
 subst hm hm'
 refine aU Tryz.func126 Tryz.ntmps126 ?_
 repeat' (first|refine aE ?_|fail)
 refine aH (σ := Nat × List Bool) [0,1] [1] (fun k => [(4,iv (k.1 : Int))]) (fun k => [(0,some (flat cB k.2))]) (fun k => k.1 ≤ b.length ∧ k.2.length = a.length ∧ (∀ l,l < a.length → k.2[l]! = (a[l]! || (decide (l < k.1) && b[l]!)))) (fun k => b.length - k.1) (0,a) ⟨by omega,rfl,fun l hl => by simp⟩ ?_
 rintro ⟨k,u⟩ ⟨hk,hul,hu⟩
 dsimp only at hk hul hu
 try dsimp only
 repeat' (first|refine aE ?_|(refine aK ?_ ?_ <;> intro hc hq <;> try (exfalso;omega))|(refine bK ?_ ?_ <;> intro hg hq <;> try (exfalso;omega))|fail)
 ·(refine bB (k + 1, _) (Le.renA []) ?_ ?_)
  ·refine ⟨(by show k + 1 ≤ b.length; omega), (by show (u.set k _).length = a.length; rw [List.length_set]; exact hul), fun l hl => ?_⟩
   show (u.set k _)[l]! = (a[l]! || (decide (l < k + 1) && b[l]!))
   have h1 := hu l hl
   have h2 := hu k (by omega)
   rw [aW]
   clear hu
   grind
  ·show b.length - (k + 1) < b.length - k;omega
 ·(refine bB (k + 1, _) (Le.renA []) ?_ ?_)
  ·refine ⟨(by show k + 1 ≤ b.length; omega), (by show (u.set k _).length = a.length; rw [List.length_set]; exact hul), fun l hl => ?_⟩
   show (u.set k _)[l]! = (a[l]! || (decide (l < k + 1) && b[l]!))
   have h1 := hu l hl
   have h2 := hu k (by omega)
   rw [aW]
   clear hu
   grind
  ·show b.length - (k + 1) < b.length - k;omega
 ·refine Au (l := []) rfl ?_
  refine aP () trivial rfl ⟨sE ?_,.inr rfl,trivial⟩
  have e : u = iD a b := bT (by rw [gH, hul]) fun l hl => by
   rw [fA _ _ _ (by omega),hu l (by omega)]
   clear hu
   grind
  rw [e]
theorem Dh {a:List Bool}{R:List (List Bool)}{k m m2:Nat}{x0 x1:Operand}{i0:Nat}(ha0:ev (lk tsl) x0 = some (.own i0 0 m 1)) (ha1:ev (lk tsl) x1 = some (.own (k + a6) 0 m2 1))
  (hH0 : aT hsl i0 = some (flat cB a)) (hF : FamR R R hsl hsl) (hk : k < R.length) (hi : Nat.blt i0 a6 = true) (hm : m = a.length) (hm2 : m2 = R[k]!.length) (hab : R[k]!.length ≤ a.length) (hl : a.length ≤ 1048576) (hM : Nat.ble (nidl + 0) a6 = true) (hN : Nat.blt d N = true)
  (kk : RW Tryz.prog N all Q .txt rest ⟨(d,.tup []) :: tsl,(i0,some (flat cB (iD a R[k]!))) :: hsl,nidl + 0,z0⟩) : RW Tryz.prog N all Q .txt (⟨some d,.call ⟨.value (.func 126),#[x0,x1],tys⟩,ty,pos,af,none⟩ :: rest) ⟨tsl,hsl,nidl,z0⟩ :=
 F6 (a := a) (b := R[k]!) (i0 := i0) (i1 := k + a6) ha0 ha1 hH0 (hF.get hk) (QM hi) (IH a R[k]! m m2 hm hm2 hab hl) hM hN (md' := .txt) (cX kk (Le.fdrop (FamR.cons hi hF) hk))
theorem Gc (ts:List Int) (pts:List Pnt) (w:WG ts pts) (i:Nat) (hi:i < pts.length) (R0:List (List Bool)) (hl:R0.length = ts.length + 1) (hr:∀ k,k < ts.length + 1 → R0[k]!.length = pts.length):Qw Tryz.prog 124 [sl cI ts,sl b8 pts,iv (i:Int),O1 0 ts.length pts.length] R0 (.agg [sl iF (qT ts pts i (R0.take ts.length)),sl cB (qS ts pts i R0[ts.length]!)]) []:=by
 have hrn := hr ts.length (by omega)
 have htl := w.tl
 have hpl := w.pl
 have hy := w.y i hi
 have hset := w.set i hi
 refine BW Tryz.func124 Tryz.ntmps124 ?_
 repeat' (first|(apply aF;first|(with_reducible apply aZ (d := 19))|(apply bC;rfl;rfl;rfl;rfl;rfl;(case hl => (simp;done));(exact (rfl:_=[_,_,_,_,_]))))|refine aE ?_|fail)
 refine bY ?_
 refine BH (R := R0) (R0 := R0) (avs := [O1 0 ts.length pts.length]) (b := 0) (n1 := 2) (D := (List.range R0.length).map fun k => 0 + k + a6) (ws := [(3,some (flat iF (R0.take ts.length))),(4,some (flat cB R0[ts.length]!))]) (rr' := .agg [.own 3 0 ts.length 1,.own 4 0 pts.length 1]) (md' := .txt) rfl (KI ts.length pts.length R0 htl hpl hl hr) (by (repeat' (first|exact FamR.here|(apply FamR.cons;focus rfl)))) (by omega) (fun k hk => by rw [Nat.zero_add]) (fun k hk => List.mem_map.2 ⟨k,by rw [List.mem_range]; exact hk,rfl⟩) ?_ rfl ?_ ?_ rfl rfl ?_
 ·refine .cons (.agg (.cons (.imm (rn_rows fun k hk => ?_)) (.cons (.own ?_) .nil))) .nil
  ·rw [Nat.zero_add,nQ (by omega),Nat.zero_add]
  ·rw [Nat.zero_add,nQ (by omega),Nat.zero_add]
 ·exact .agg (.cons (.own (tU (j := 0) (by decide) (by decide))) (.cons (.own (tU (j := 1) (by decide) (by decide))) .nil))
 ·exact ⟨⟨0,_,tU (j := 0) (by decide) (by decide),rfl,RnL.purI inferInstance⟩,⟨1,_,tU (j := 1) (by decide) (by decide),rfl,RnL.purI inferInstance⟩,trivial⟩
 have hfr : ∀ v,v < ts.length → (R0.take ts.length)[v]! = R0[v]! := fun v hv => by rw [aY _ _ (by rw [List.length_take]; omega),aY _ _ (by omega),List.getElem_take]
 have hY : ∀ l, l < pts.length → pts[i]!.op = 3 ∨ pts[i]!.op = 4 ∨ pts[i]!.op = 5 → (R0.take ts.length)[pts[i]!.y.toNat]![l]! = R0[0 + pts[i]!.y.toNat]![l]! ∧ R0[0 + pts[i]!.y.toNat]!.length = pts.length := fun l hl h => by
  rw [Nat.zero_add]; exact ⟨by rw [hfr _ (by omega)],hr _ (by omega)⟩
 have eA : pts[i]!.op = 3 → iD (List.replicate pts.length false) R0[0 + pts[i]!.y.toNat]! = wF ts pts i (R0.take ts.length) := fun h => bT (by rw [gH, j7]; simp) fun l hl => by
  rw [gH,List.length_replicate] at hl
  have h1 := hY l hl (.inl h)
  rw [fA _ _ _ (by simpa using hl),jZ _ _ _ _ _ hl,if_pos h,dN _ _ _ hl,h1.1,decide_eq_true (by omega)]; rfl
 have eB : pts[i]!.op = 4 ∨ pts[i]!.op = 5 → kQ ts[pts[i]!.y.toNat]! = true → iD ((List.replicate pts.length false).set i true) R0[0 + pts[i]!.y.toNat]! = wF ts pts i (R0.take ts.length) := fun h h' => bT (by rw [gH, j7]; simp) fun l hl => by
  rw [gH,List.length_set,List.length_replicate] at hl
  have h1 := hY l hl (.inr h)
  have h2 : b9 pts[i]! = true := by unfold b9;rcases h with h|h <;> rw [h] <;> rfl
  rw [fA _ _ _ (by simpa using hl),jZ _ _ _ _ _ hl,if_neg (by omega),h1.1,h2,h',aW,dN _ _ _ hl,decide_eq_true (by omega)]
  by_cases e : l = i
  ·subst e;simp [hl]
  ·rw [if_neg (fun q => e q.1.symm),decide_eq_false e]; simp
 have eC : pts[i]!.op = 4 ∨ pts[i]!.op = 5 → kQ ts[pts[i]!.y.toNat]! = false → (List.replicate pts.length false).set i true = wF ts pts i (R0.take ts.length) := fun h h' => bT (by rw [j7]; simp) fun l hl => by
  rw [List.length_set,List.length_replicate] at hl
  have h2 : b9 pts[i]! = true := by unfold b9;rcases h with h|h <;> rw [h] <;> rfl
  rw [jZ _ _ _ _ _ hl,if_neg (by omega),h2,h',aW,dN _ _ _ hl]
  by_cases e : l = i
  ·subst e;simp [hl]
  ·rw [if_neg (fun q => e q.1.symm),decide_eq_false e]; simp
 have eD : ¬ pts[i]!.op = 3 → ¬ pts[i]!.op = 4 → ¬ pts[i]!.op = 5 → List.replicate pts.length false = wF ts pts i (R0.take ts.length) := fun h3 h4 h5 => bT (by rw [j7]; simp) fun l hl => by
  rw [List.length_replicate] at hl
  have h2 : b9 pts[i]! = false := by unfold b9;rw [decide_eq_false h4,decide_eq_false h5]; rfl
  rw [jZ _ _ _ _ _ hl,if_neg h3,h2,dN _ _ _ hl]; rfl
 have hvl := j7 ts pts i (R0.take ts.length)
 have hneg : aQ pts[i]! < 0 → ¬ pts[i]!.op = 4 ∧ ¬ pts[i]!.op = 5 := fun h => by
  have h1 := w.x i hi
  unfold aQ at h
  split at h
  ·omega
  ·omega
 have hQ0 : ∀ (v : Nat) (q : List Bool), ts.length ≤ v → (∀ l, l < pts.length → q[l]! = (R0[ts.length]![l]! && !(b9 pts[l]! && (decide (pts[l]!.y < v) && decide (aV ts pts[i]! pts[l]!.y = 2))))) → ∀ l, l < pts.length → q[l]! = (R0[ts.length]![l]! && !(b9 pts[l]! && decide (aV ts pts[i]! pts[l]!.y = 2))) := fun v q hv h l hl => by
  rw [h l hl]
  cases hln : b9 pts[l]! with
  | false => rfl
  | true => have := rW w hl hln;rw [decide_eq_true (by omega : pts[l]!.y < (v : Int))]; rfl
 apply cut
 case' main =>
  intro key
  repeat' (first|(apply aF;first|(apply Dh;rfl;rfl;rfl;(case hF => (repeat' (first|exact FamR.here|(apply FamR.cons;focus rfl))));(simp only [Nat.zero_add] <;> omega);rfl;(case hm => (simp;done));(simp only [Nat.zero_add]; symm;exact hr _ (by omega));(simp only [Nat.zero_add]; rw [hr _ (by omega)]; simp);(simp;omega);rfl;rfl)|(apply kH;rfl;rfl;(omega);rfl;infer_instance;infer_instance;rfl)|(apply bC;rfl;rfl;rfl;rfl;rfl;(case hl => (first|(rw [aI]; simp only [gB] <;> omega)|(simp;done)));(first|exact y7 (by (simp only [gB] <;> omega))|exact (rfl:_=[_,_])))|(apply aA (k := 158);rfl;(apply Lb);(rfl);rfl))|refine aE ?_|(refine aK ?_ ?_ <;> intro hc hq <;> try (exfalso;omega))|fail)
  all_goals first
   | rw [eA (by assumption)]
   | rw [eB (.inl (by assumption)) (by assumption)]
   | rw [eB (.inr (by assumption)) (by assumption)]
   | rw [eC (.inl (by assumption)) (by assumption)]
   | rw [eC (.inr (by assumption)) (by assumption)]
   | rw [eD (by assumption) (by assumption) (by assumption)]
  all_goals refine Cu (σ := Nat × List (List Bool) × List Bool) 0 (fun s => R0) [0, 1, 2, 8, 9, 10, 11] [(0, _), (1, _), (2, _), (8, _), (9, _), (10, _), (11, _)] [6, 5, 2, 1, 0] [(6, some _), (5, some _), (2, some _), (1, some _), (0, some _)] (fun s => [(12, iv (s.1 : Int))]) (fun s => [(3, some (flat iF s.2.1)), (4, some (flat cB s.2.2))]) (fun s => s.1 ≤ ts.length ∧ s.2.1.length = ts.length ∧ (∀ v, v < ts.length → s.2.1[v]! = if v < s.1 ∧ aV ts pts[i]! v = 2 then List.replicate pts.length false else R0[v]!) ∧ s.2.2.length = pts.length ∧ (∀ l, l < pts.length → s.2.2[l]! = (R0[ts.length]![l]! && !(b9 pts[l]! && (decide (pts[l]!.y < s.1) && decide (aV ts pts[i]! pts[l]!.y = 2)))))) (fun s => ts.length - s.1) (0, R0.take ts.length, R0[ts.length]!) ⟨by omega, (by show (R0.take ts.length).length = _; rw [List.length_take]; omega), fun v hv => (by show (R0.take ts.length)[v]! = _; rw [hfr v hv, if_neg (by omega)]), hrn, fun l hl => (by
    show R0[ts.length]![l]! = _
    cases hln : b9 pts[l]! with
    | false => simp
    | true => have := rW w hl hln;rw [decide_eq_false (by omega : ¬ pts[l]!.y < ((0 : Nat) : Int))]; simp)⟩ rfl rfl (by repeat' (first|exact trivial|refine And.intro rfl ?_)) (by repeat' (first|exact trivial|refine And.intro (.inr rfl) ?_)) (by (repeat' (first|exact FamR.here|(apply FamR.cons;focus rfl)))) (by (rfl)) key.pf
 rintro ⟨v,u,q⟩ ⟨hv,hul,hu,hql,hq'⟩
 dsimp only at hv hul hu hql hq'
 try dsimp only
 repeat' (first|(apply aF;first|(with_reducible apply aZ (d := 73))|(with_reducible apply aZ (d := 86))|(apply bC;rfl;rfl;rfl;rfl;rfl;(case hl => (first|(rw [aI]; simp only [gB] <;> omega)|(simp;done)));(first|exact (rfl:_=[_,_])|rfl))|(first|(apply aA (k := 107);rfl;(apply lT <;> (omega));exact Pur.pf;rfl)|(apply aA (k := 111);rfl;(apply qF);exact Pur.pf;rfl)))|refine aE ?_|(refine aK ?_ ?_ <;> intro hc hq <;> try (exfalso;omega))|(refine bK ?_ ?_ <;> intro hg hq <;> try (exfalso;omega))|refine bH ?_|fail)
 ·refine bY (cX ?_ (Le.frzRow (j := 3) (q := 7) (v := v) (u := u) (r := List.replicate pts.length false) rfl rfl (by simp) (by omega) (by decide)))
  repeat' (first|(apply aF;(apply yI;rfl;rfl;rfl;(rfl);(rfl);rfl;(apply CD <;> (first|assumption|omega));rfl;rfl))|refine aE ?_|fail)
  (apply bB (v + 1,u.set v (List.replicate pts.length false),uR pts v q);focus (refine Le.renF0 [(0,0),(1,1),(2,2),(3,3),(4,4),(5,5),(6,6)] (R := ?qA3) (hF := ?qF3) (hz := ?qz3) (hm := ?qm3) (hn := ?qn3) (h1 := ?q13) (h2 := ?q23);(case qF3 => (repeat' (first|exact FamR.here|(apply FamR.cons;focus rfl))));(case qz3 => (rfl));(case qm3 => rfl);(case qn3 => decide);all_goals (repeat' (first|exact trivial|refine And.intro ⟨_,rfl,?_⟩ ?_|refine And.intro ⟨_,_,rfl,rfl,?_⟩ ?_|exact RnL.purI inferInstance|exact RnV.purI inferInstance|exact RnV.own rfl|exact RnV.optr rfl|exact RnL.nil|refine RnL.cons ?_ ?_|exact RnV.imm (dD (by (simp only [List.length_replicate,List.length_set,List.length_append,List.length_singleton] at * <;> omega)))|exact RnV.own (iN (by omega) (by show _ < a6 + _; (omega)))))))
  ·refine ⟨(by show v + 1 ≤ ts.length; omega), (by show (u.set v _).length = ts.length; rw [List.length_set]; exact hul), fun v' hv' => ?_, (by show (uR pts v q).length = pts.length; rw [Aj]; exact hql), fun l hl => ?_⟩
   ·show (u.set v (List.replicate pts.length false))[v']! = if v' < v + 1 ∧ aV ts pts[i]! v' = 2 then _ else _
    rw [aW,hu v' hv']
    by_cases e : v = v'
    ·subst e;rw [if_pos ⟨rfl,by omega⟩,if_pos ⟨by omega,by assumption⟩]
    ·rw [if_neg (fun h => e h.1)]
     by_cases e2 : v' < v ∧ aV ts pts[i]! v' = 2
     ·rw [if_pos e2,if_pos ⟨by omega,e2.2⟩]
     ·rw [if_neg e2,if_neg (fun h => e2 ⟨by omega,h.2⟩)]
   ·show (uR pts v q)[l]! = _
    have hu2 : aV ts pts[i]! v = 2 := by assumption
    rw [Ax _ _ _ _ (by omega),hq' l hl]
    clear hu hq'
    by_cases hln : b9 pts[l]! = true
    ·rw [hln]
     by_cases e : pts[l]!.y = v
     ·rw [e,hu2,decide_eq_true (by omega : (v : Int) < ((v + 1 : Nat) : Int))]; simp
     ·rw [decide_eq_false e]
      have e3 : decide (pts[l]!.y < ((v + 1 : Nat) : Int)) = decide (pts[l]!.y < (v : Int)) := by
       have : (pts[l]!.y < ((v + 1 : Nat) : Int)) ↔ (pts[l]!.y < (v : Int)) := by omega
       simp only [this]
      rw [e3]; simp
    ·rw [Bool.not_eq_true] at hln;rw [hln]; simp
  ·show ts.length - (v + 1) < ts.length - v;omega
 ·(apply bB (v + 1, u, q); focus (refine Le.renF0 [(0, 0), (1, 1), (2, 2), (3, 3), (4, 4), (5, 5), (6, 6)] (R := ?qA4) (hF := ?qF4) (hz := ?qz4) (hm := ?qm4) (hn := ?qn4) (h1 := ?q14) (h2 := ?q24); (case qF4 => (repeat' (first | exact FamR.here | (apply FamR.cons; focus rfl)))); (case qz4 => (rfl)); (case qm4 => rfl); (case qn4 => decide); all_goals (repeat' (first | exact trivial | refine And.intro ⟨_, rfl, ?_⟩ ?_ | refine And.intro ⟨_, _, rfl, rfl, ?_⟩ ?_ | exact RnL.purI inferInstance | exact RnV.purI inferInstance | exact RnV.own rfl | exact RnV.optr rfl | exact RnL.nil | refine RnL.cons ?_ ?_ | exact RnV.imm (dD (by (simp only [List.length_replicate, List.length_set, List.length_append, List.length_singleton] at * <;> omega))) | exact RnV.own (iN (by omega) (by show _ < a6 + _; (omega)))))))
  ·refine ⟨(by show v + 1 ≤ ts.length; omega), hul, fun v' hv' => ?_, hql, fun l hl => ?_⟩
   ·show u[v']! = if v' < v + 1 ∧ aV ts pts[i]! v' = 2 then _ else _
    rw [hu v' hv']
    have hu2 : ¬ aV ts pts[i]! v = 2 := by assumption
    by_cases e2 : v' < v ∧ aV ts pts[i]! v' = 2
    ·rw [if_pos e2,if_pos ⟨by omega,e2.2⟩]
    ·rw [if_neg e2, if_neg (fun h => (by
      by_cases e : v = v'
      ·subst e;exact hu2 h.2
      ·exact e2 ⟨by omega,h.2⟩))]
   ·show q[l]! = _
    have hu2 : ¬ aV ts pts[i]! v = 2 := by assumption
    rw [hq' l hl]
    clear hu hq'
    by_cases e : pts[l]!.y = v
    ·rw [e,decide_eq_false hu2]; simp
    ·have e3 : decide (pts[l]!.y < ((v + 1 : Nat) : Int)) = decide (pts[l]!.y < (v : Int)) := by
      have : (pts[l]!.y < ((v + 1 : Nat) : Int)) ↔ (pts[l]!.y < (v : Int)) := by omega
      simp only [this]
     rw [e3]
  ·show ts.length - (v + 1) < ts.length - v;omega
 ·refine bY (cX ?_ (Le.frzRow (j := 3) (q := 6) (v := (aQ pts[i]!).toNat) (u := u) (r := wF ts pts i (R0.take ts.length)) rfl rfl (by omega) (by omega) (by decide)))
  have hlo : (uR pts (aQ pts[i]!) q).length = pts.length := by rw [Aj]; exact hql
  have hQ := fun l hl => hQ0 v q (by omega) hq' l hl
  have eU : u.set (aQ pts[i]!).toNat (wF ts pts i (R0.take ts.length)) = qT ts pts i (R0.take ts.length) := bT (by rw [eG]; simp; omega) fun v' hv' => by
   rw [List.length_set] at hv'
   rw [aW,lR _ _ _ _ _ (by omega),hu v' (by omega),hfr v' (by omega)]
   by_cases e : aQ pts[i]! = v'
   ·rw [if_pos ⟨by omega,hv'⟩,if_pos e]
   ·rw [if_neg (fun h => e (by omega)), if_neg e]
    by_cases e2 : aV ts pts[i]! v' = 2
    ·rw [if_pos ⟨by omega,e2⟩,if_pos e2]
    ·rw [if_neg (fun h => e2 h.2),if_neg e2]
  have eL : ∀ l, l < pts.length → (uR pts (aQ pts[i]!) q)[l]! = (R0[ts.length]![l]! && !(b9 pts[l]! && (decide (aV ts pts[i]! pts[l]!.y = 2) || decide (aQ pts[i]! = pts[l]!.y)))) := fun l hl => by
   rw [Ax _ _ _ _ (by omega),hQ l hl]
   have : decide (pts[l]!.y = aQ pts[i]!) = decide (aQ pts[i]! = pts[l]!.y) := by simp only [eq_comm]
   rw [this]
   cases R0[ts.length]![l]! <;> cases b9 pts[l]! <;> cases decide (aV ts pts[i]! pts[l]!.y = 2) <;> cases decide (aQ pts[i]! = pts[l]!.y) <;> rfl
  have eQ1 : b9 pts[i]! = true → (uR pts (aQ pts[i]!) q).set i true = qS ts pts i R0[ts.length]! := fun h => bT (by rw [cR, List.length_set, hlo]) fun l hl => by
   rw [List.length_set,hlo] at hl
   rw [aW,nY _ _ _ _ _ hl,eL l hl,h,hlo]
   by_cases e : l = i
   ·subst e;rw [if_pos ⟨rfl,hl⟩,decide_eq_true rfl]; rfl
   ·rw [if_neg (fun q => e q.1.symm),decide_eq_false e]; rfl
  have eQ0 : b9 pts[i]! = false → uR pts (aQ pts[i]!) q = qS ts pts i R0[ts.length]! := fun h => bT (by rw [cR, hlo]) fun l hl => by
   rw [hlo] at hl
   rw [nY _ _ _ _ _ hl,eL l hl,h]; rfl
  repeat' (first|(apply aF;first|(apply bC;rfl;rfl;rfl;rfl;rfl;(case hl => (first|(rw [aI]; simp only [gB] <;> omega)|(simp;done)));(first|exact y7 (by (omega))|exact (rfl:_=[_,_])))|(apply yI;rfl;rfl;rfl;(rfl);(rfl);rfl;(apply CD <;> (first|assumption|omega));rfl;rfl))|refine aE ?_|(refine aK ?_ ?_ <;> intro hc hq <;> try (exfalso;omega))|(refine bK ?_ ?_ <;> intro hg hq <;> try (exfalso;omega))|fail)
  ·refine aO ((Le.frzC (j := 1) (i := 3) [] rfl rfl (by decide)).trans (Le.frzC (j := 1) (i := 4) [_] rfl rfl (by decide))) ?_
   refine aC (l := [.agg [_,_]]) rfl ?_
   refine rP ?_ trivial (by (repeat' (first|exact FamR.here|(apply FamR.cons;focus rfl))))
   simp only [aM]
   rw [eU,eQ1 (by unfold b9;rw [decide_eq_true ‹pts[i]!.op = 5›]; simp)]
   simp only [sl,eG,cR]
  ·refine aO ((Le.frzC (j := 1) (i := 3) [] rfl rfl (by decide)).trans (Le.frzC (j := 1) (i := 4) [_] rfl rfl (by decide))) ?_
   refine aC (l := [.agg [_,_]]) rfl ?_
   refine rP ?_ trivial (by (repeat' (first|exact FamR.here|(apply FamR.cons;focus rfl))))
   simp only [aM]
   rw [eU,eQ0 (by unfold b9;rw [decide_eq_false ‹¬ pts[i]!.op = 4›,decide_eq_false ‹¬ pts[i]!.op = 5›]; rfl)]
   simp only [sl,eG,cR]
  ·refine aO ((Le.frzC (j := 1) (i := 3) [] rfl rfl (by decide)).trans (Le.frzC (j := 1) (i := 4) [_] rfl rfl (by decide))) ?_
   refine aC (l := [.agg [_,_]]) rfl ?_
   refine rP ?_ trivial (by (repeat' (first|exact FamR.here|(apply FamR.cons;focus rfl))))
   simp only [aM]
   rw [eU,eQ1 (by unfold b9;rw [decide_eq_true ‹pts[i]!.op = 4›]; rfl)]
   simp only [sl,eG,cR]
 ·have hQ := fun l hl => hQ0 v q (by omega) hq' l hl
  have eU : u = qT ts pts i (R0.take ts.length) := bT (by rw [eG]; omega) fun v' hv' => by
   rw [lR _ _ _ _ _ (by omega),hu v' (by omega),hfr v' (by omega),if_neg (by omega : ¬ aQ pts[i]! = (v' : Int))]
   by_cases e2 : aV ts pts[i]! v' = 2
   ·rw [if_pos ⟨by omega,e2⟩,if_pos e2]
   ·rw [if_neg (fun h => e2 h.2),if_neg e2]
  have eQ0 : b9 pts[i]! = false → q = qS ts pts i R0[ts.length]! := fun h => bT (by rw [cR, hql]) fun l hl => by
   rw [hql] at hl
   rw [nY _ _ _ _ _ hl,hQ l hl,h]
   cases hln : b9 pts[l]! with
   | false => simp
   | true => have := rW w hl hln;rw [decide_eq_false (by omega : ¬ aQ pts[i]! = pts[l]!.y)]; simp
  refine aO ((Le.frzC (j := 1) (i := 3) [] rfl rfl (by decide)).trans (Le.frzC (j := 1) (i := 4) [_] rfl rfl (by decide))) ?_
  refine aC (l := [.agg [_,_]]) rfl ?_
  refine rP ?_ trivial (by (repeat' (first|exact FamR.here|(apply FamR.cons;focus rfl))))
  simp only [aM]
  rw [eU,eQ0 (by unfold b9;rw [decide_eq_false ‹¬ pts[i]!.op = 4›,decide_eq_false ‹¬ pts[i]!.op = 5›]; rfl)]
  simp only [sl,eG,cR]
end Go.Proofs.YteidfaaldcedpaaGreatDoor
