/-
 A part of the proofs over this program: rules and contracts of its functions (the contracts).
-/
import Derived.Test.YtgkalkgplcdnkaaGreatDoorV1B01
set_option linter.unusedVariables false
set_option linter.unusedSimpArgs false
set_option maxHeartbeats 8000000
set_option maxRecDepth 4000
attribute [local irreducible] Go.AL.RW Go.AL.AW Go.AL.Stop
namespace Go.Proofs.YtgkalkgplcdnkaaGreatDoor
open Go.AL Go.RowKit
variable {N : Nat} {Q : Exit → AS → Prop} {all : Array Oper} {rest : List Oper} {tsl : List (Nat × AV)} {hsl : List (Nat × Option (List AV))} {nidl : Nat} {z0 : Lo} {md : Md} {d : Nat} {ty : TypeId} {pos : String} {af : Array Edge} {tys : Array TypeId}
theorem BM (n:Nat) (A:List Nat) (i:Int) (hA:A.length = n * 6) (hi:0 ≤ i ∧ i < n):PC Tryz.prog 64 [iv i,.iptr [.imm n (flat cW A)]] (fun r => r = .agg (flat cW (dC A i.toNat))):=by
 have h6 : ((A.drop (i.toNat * 6)).take 6).length = 6 := eH hA (by omega)
 refine aB Tryz.func64 Tryz.ntmps64 ?_
 repeat' (first|refine aD ?_|fail)
 refine aH (lF (z := 6) rfl rfl h6 (by decide)) ⟨rfl,(by (exact bC _ _))⟩
theorem Hr (ts:List Int) (bd:List AL.Stmt) (pts:List Pnt) (Aa Am Al Af Ap:List Nat) (n:Nat) (w:WG ts pts) (ga:nR ts pts Aa) (gm:nX ts pts Am) (gl:nY ts pts Al) (gf:nK ts pts Af) (gp:nN ts pts Ap) (hn:n = pts.length) :
  PC Tryz.prog 62 [aG ts bd pts,.imm n (flat cN Al),.clos (.func 64) [] [.iptr [.imm n (flat cW Af)]]] (fun r => r = sl eJ (m6 ts pts Aa Am Al Af Ap pts.length)) := by
 subst hn
 have hpl := w.pl
 have htl := w.tl
 have hla := ga.1
 have hlm := gm.1
 have hll := gl.1
 have hlf := gf.1
 have hlp := gp.1
 refine aB Tryz.func62 Tryz.ntmps62 ?_
 repeat' (first|(apply aI;first|(apply mK (d := 10) (e := 3);rfl;rfl)|(first|(apply aA (k := 101);rfl;(apply GU <;> (assumption));exact Pur.pf;rfl)|(apply aA (k := 100);rfl;(apply DC <;> (assumption));exact Pur.pf;rfl)|(apply aA (k := 102);rfl;(apply Ei <;> (assumption));exact Pur.pf;rfl)))|refine aD ?_|fail)
 refine aJ (σ := Nat × List Iss × Nat) [0,1,2,7,8,9,27,28] [] (fun k => [(29,iv (k.1 : Int)),(10,.own 0 0 k.2.2 3)]) (fun k => [(0,some (flat eJ k.2.1))]) (fun k => k.1 ≤ pts.length ∧ k.2.1 = m6 ts pts Aa Am Al Af Ap k.1 ∧ k.2.2 = k.2.1.length ∧ k.2.2 ≤ k.1 * 124) (fun k => pts.length - k.1) (0,[],0) ⟨by omega,rfl,rfl,Nat.le_refl _⟩ ?_
 rintro ⟨i,u,m⟩ ⟨hk,hu,hm,hmk⟩
 dsimp only at hk hu hm hmk ⊢
 by_cases hin : i < pts.length
 ·have hst := w.set i hin
  have hsU : Sm (wS ts pts[i]! [1,2,3]) := dG (by omega)
  have bl : ∀ {A : Nat} {n : Nat}, n ≤ 62 → (∀ v, A.testBit v = true → v < n) → A < 2 ^ n := fun _ hv => Nat.lt_pow_two_of_testBit _ fun v h => by
   cases hq : Nat.testBit _ v with
   | false => rfl
   | true => have := hv v hq;omega
  have hAa : Sm Aa[i]! := ⟨bl (n := 62) (by omega) fun v hv => by have := ((ga.2 i hin v).1 hv).1;omega⟩
  have hAm : Sm Am[i]! := ⟨bl (n := 62) (by omega) fun v hv => by have := D5 w ((gm.2 i hin v).1 hv);dsimp only at this;omega⟩
  have hAl : Al[i]! < 2 ^ ts.length := bl (by omega) fun v hv => by obtain ⟨k,_,h⟩ := (gl.2 i hin v).1 hv;exact o8 w h
  have hAl2 : Sm Al[i]! := ⟨Nat.lt_of_lt_of_le hAl (Nat.pow_le_pow_right (by decide) (by omega))⟩
  have hAp : Ap[i]! < 2 ^ pts.length := bl (by omega) fun v hv => (oQ ((gp.2 i hin v).1 hv)).1
  have hAp2 : Sm Ap[i]! := ⟨Nat.lt_of_lt_of_le hAp (Nat.pow_le_pow_right (by decide) (by omega))⟩
  have hrl := eH hlf hin
  have hrs : ∀ z : Nat, Sm (dC Af i)[z]! := by
   intro z
   by_cases hz : z < 6
   ·rw [fD hlf hin hz]
    exact ⟨bl (n := 62) (by omega) fun v hv => by have := (AZ w ((gf.2 i z hin hz v).1 hv)).2.2;dsimp only at this;omega⟩
   ·rw [getElem!_neg _ z (by rw [hrl]; exact hz)]; exact ⟨by decide⟩
  have hkp : uV ts pts[(i : Int).toNat]! Al[i]! (dC Af (i : Int).toNat) < 2 ^ pts.length := by
   refine bl (by omega) fun v hv => ?_
   unfold uV at hv
   rw [gZ] at hv
   rcases hv with hv | ⟨z,hz,hv⟩
   ·simp at hv
   ·obtain ⟨q, h1, h2, rfl⟩ := dZ.1 hz
    rw [cK,Bool.and_eq_true] at h2
    have h3 := b8 hAl h2.1
    have h4 : q < 6 := by omega
    have h5 : (dC Af i)[q]!.testBit v = true := hv
    rw [fD hlf hin h4] at h5
    exact (AZ w ((gf.2 i q hin h4 v).1 h5)).2.2
  have hkp2 : Sm (uV ts pts[(i : Int).toNat]! Al[i]! (dC Af (i : Int).toNat)) := ⟨Nat.lt_of_lt_of_le hkp (Nat.pow_le_pow_right (by decide) (by omega))⟩
  have hlo : uV ts pts[(i : Int).toNat]! Al[i]! (dC Af (i : Int).toNat) &&& Ap[i]! < 2 ^ pts.length := Nat.and_lt_two_pow _ hAp
  have hcf := yD w (Am := Am) (Al := Al) (Af := Af) (i := i) hAp
  have hcf2 : Sm (F6 ts pts Am Al Af Ap i) := ⟨Nat.lt_of_lt_of_le hcf (Nat.pow_le_pow_right (by decide) (by omega))⟩
  have hcf3 : Sm (Fy pts (uV ts pts[(i : Int).toNat]! Al[i]! (dC Af (i : Int).toNat) &&& Ap[i]!) (gO ts pts[(i : Int).toNat]! (Am[i]!.testBit (aN pts[(i : Int).toNat]!).toNat)) 0) := hcf2
  have hb1 := iJ (kY (wS ts pts[i]! [1,2,3]) Aa[i]!)
  have hb2 := iJ (F6 ts pts Am Al Af Ap i)
  repeat' (first|(apply aI;(first|(apply aA (k := 75);rfl;(apply Ag <;> (infer_instance));(rfl);rfl)|(apply aA (k := 76);rfl;(apply Fo <;> (assumption));exact Pur.pf;rfl)))|refine aD ?_|(refine aL ?_ ?_ <;> intro hc hq <;> try (exfalso;omega))|refine bV ?_|fail)
  have hb1b : ∀ j,j < (aX (kY (wS ts pts[i]! [1,2,3]) Aa[i]!)).length → 0 ≤ (aX (kY (wS ts pts[i]! [1,2,3]) Aa[i]!))[j]! := fun j h => (jT (inferInstance : Sm (kY (wS ts pts[i]! [1,2,3]) Aa[i]!)).pf h).1
  refine aJ (σ := Nat × List Iss × Nat) [0,1,2,7,8,9,11,27,28,29,42,43] [] (fun j => [(44,iv (j.1 : Int)),(10,.own 0 0 j.2.2 3)]) (fun j => [(0,some (flat eJ j.2.1))]) (fun j => j.1 ≤ (aX (kY (wS ts pts[i]! [1,2,3]) Aa[i]!)).length ∧ j.2.1 = u ++ CR i ((aX (kY (wS ts pts[i]! [1,2,3]) Aa[i]!)).take j.1) ∧ j.2.2 = j.2.1.length ∧ j.2.2 ≤ i * 124 + j.1) (fun j => (aX (kY (wS ts pts[i]! [1,2,3]) Aa[i]!)).length - j.1) (0,u,m) ⟨by omega,by simp [CR],hm,by omega⟩ ?_
  rintro ⟨j,u2,m2⟩ ⟨hj,hu2,hm2,hmk2⟩
  dsimp only at hj hu2 hm2 hmk2 ⊢
  by_cases hjn : j < (aX (kY (wS ts pts[i]! [1,2,3]) Aa[i]!)).length
  ·repeat' (first | (apply aI; (apply aO (t := _);rfl;rfl;rfl;(exact (rfl:_=some [_, _, _]));rfl;rfl)) | refine aD ?_ | (refine aL ?_ ?_ <;> intro hc hq <;> try (exfalso; omega))|fail)
   (refine a7 (j + 1,_,_) (Le.renA [(0,3)]) ?_ ?_)
   ·dsimp only
    refine ⟨by omega,?_,by simp;omega,by omega⟩
    rw [hu2]; unfold CR;rw [hU _ _ _ hjn,List.append_assoc]
   ·dsimp only;omega
  ·have hu3 : u2 = u ++ CR i (aX (kY (wS ts pts[i]! [1, 2, 3]) Aa[i]!)) := by rw [hu2, List.take_of_length_le (by omega)]
   repeat' (first|(apply aI;first|(first|(apply aA (k := 103);rfl;(apply oZ <;> (assumption));(rfl);rfl)|(apply aA (k := 104);rfl;(apply Cc <;> (first|assumption|omega));exact Pur.pf;rfl)|(apply aA (k := 105);rfl;(apply It <;> (first|assumption|omega));exact Pur.pf;rfl))|(apply l9;rfl;rfl;infer_instance;rfl;(apply BM <;> (first|assumption|omega));exact Pur.pf;rfl))|refine aD ?_|(refine aL ?_ ?_ <;> intro hc hq <;> try (exfalso;omega))|refine bV ?_|fail)
   generalize hL : aX (Fy pts (uV ts pts[(i : Int).toNat]! Al[i]! (dC Af (i : Int).toNat) &&& Ap[i]!) (gO ts pts[(i : Int).toNat]! (Am[i]!.testBit (aN pts[(i : Int).toNat]!).toNat)) 0) = L2
   have hL2 : aX (F6 ts pts Am Al Af Ap i) = L2 := hL
   have hbd : ∀ j,j < L2.length → 0 ≤ L2[j]! ∧ L2[j]! < pts.length := fun j h => by rw [← hL2] at h ⊢; exact jT hcf h
   rw [hL2] at hb2
   refine aJ (σ := Nat × List Iss × Nat) [0,1,2,7,8,9,11,27,28,29,77,78] [] (fun l => [(79,iv (l.1 : Int)),(10,.own 0 0 l.2.2 3)]) (fun l => [(0,some (flat eJ l.2.1))]) (fun l => l.1 ≤ L2.length ∧ l.2.1 = u2 ++ CO pts i (L2.take l.1) ∧ l.2.2 = l.2.1.length ∧ l.2.2 ≤ i * 124 + 62 + l.1) (fun l => L2.length - l.1) (0,u2,m2) ⟨by omega,by simp [CO],hm2,Nat.le_trans hmk2 (by omega)⟩ ?_
   rintro ⟨l,u4,m4⟩ ⟨hl,hu4,hm4,hmk4⟩
   dsimp only at hl hu4 hm4 hmk4 ⊢
   by_cases hln : l < L2.length
   ·have hbl := hbd l hln
    repeat' (first|(apply aI;(apply aO (t := _);rfl;rfl;rfl;(exact (rfl:_=some [_,_,_]));rfl;rfl))|refine aD ?_|(refine aL ?_ ?_ <;> intro hc hq <;> try (exfalso;omega))|fail)
    ·(refine a7 (l + 1, _, _) (Le.renA [(0, 3)]) ?_ ?_)
     ·dsimp only
      refine ⟨by omega,?_,by simp;omega,by omega⟩
      rw [hu4]; unfold CO;rw [hU _ _ _ hln,List.append_assoc,if_pos hq]
     ·dsimp only;omega
    ·(refine a7 (l + 1, _, _) (Le.renA [(0, 3)]) ?_ ?_)
     ·dsimp only
      refine ⟨by omega,?_,by simp;omega,by omega⟩
      rw [hu4]; unfold CO;rw [hU _ _ _ hln,List.append_assoc,if_neg hq]
     ·dsimp only;omega
   ·repeat' (first | refine aD ?_ | (refine aL ?_ ?_ <;> intro hc hq <;> try (exfalso; omega))|fail)
    (refine a7 (i + 1,u4,m4) (Le.renA [(0,0)]) ?_ ?_)
    ·dsimp only
     refine ⟨by omega,?_,hm4,by omega⟩
     rw [kP,hu4,List.take_of_length_le (by omega),hu3,← hL2,hu,List.append_assoc]; rfl
    ·dsimp only;omega
 ·repeat' (first | refine aD ?_ | (refine aL ?_ ?_ <;> intro hc hq <;> try (exfalso; omega))|fail)
  (refine aT (Le.frzD (d := 6) (i := 0) rfl rfl) ?_; refine aH rfl ?_)
  refine ⟨?_,(by (exact bC _ _))⟩
  simp only [aM,sl]
  rw [hm,hu,show i = pts.length by omega]
theorem mU (ts:List Int) (bd:List AL.Stmt) (pts:List Pnt) (w:WG ts pts) (f:Flows ts pts):PC Tryz.prog 31 [aG ts bd pts] (fun r => r = sl eJ f.iss):=by
 have hpl := w.pl
 refine aB Tryz.func31 Tryz.ntmps31 ?_
 repeat' (first|(apply aI;first|(apply p8;rfl;rfl;rfl)|(apply aA (k := 61);rfl;exact CA ts bd pts f.Af w f.gf;exact Pur.pf;rfl)|(apply aA (k := 63);rfl;exact xN ts bd pts f.An f.Al w f.gn f.gl;exact Pur.pf;rfl)|(apply aA (k := 62);rfl;exact Hr ts bd pts f.Aa f.Am f.Al f.Af f.Ap _ w f.ga f.gm f.gl f.gf f.gp rfl;exact Pur.pf;rfl))|refine aD ?_|fail)
 refine aH rfl ⟨rfl,(by (exact bC _ _))⟩
theorem gA (p:Prg) (hl:p.types.length ≤ 1048576) (hs:aK p.body ≤ 1048576):PC Tryz.prog 29 [bZ p,.v (.slice none 0 0)] (fun r => r = if b0 p = true then .tup [aG p.types p.body (aC p),bv true] else .tup [.v (.pointer none),bv false]):=by
 have hpl := lR p
 have hnl := jV p.body
 refine aB Tryz.func29 Tryz.ntmps29 ?_
 repeat' (first|(apply aI;(first|(apply aA (k := 57);rfl;(apply DT <;> (first|assumption|omega));exact Pur.pf;rfl)|(apply aA (k := 58);rfl;(apply D9 <;> (assumption));exact Pur.pf;rfl)))|refine aD ?_|(refine aL ?_ ?_ <;> intro hc hq <;> try (exfalso;omega))|refine bV ?_|fail)
 ·refine aH rfl ⟨?_, (by (rfl))⟩
  rw [if_neg (by simp [hq])]; rfl
 ·refine aJ (σ := Unit) [6, 17, 18] [1] (fun _u => [(19, iv 0)]) (fun _u => []) (fun _u => True) (fun _u => 0) () trivial ?_
  intro _ _
  repeat' (first|refine aD ?_|fail)
  refine aT (Le.frzP (d := 4) (i := 1) rfl rfl) ?_
  refine aH rfl ⟨?_,(by show (AV.tup [aG p.types p.body (aC p),bv true]).pur = true;exact PurV.pf)⟩
  rw [if_pos hq]; rfl
def zY (p : Prg) (f : Flows p.types (aC p)) : List Iss := if b0 p = true then f.iss else []
theorem xI (p:Prg) (f:Flows p.types (aC p)) (hl:p.types.length ≤ 1048576) (hs:aK p.body ≤ 1048576):PC Tryz.prog 13 [bZ p] (fun r => r = sl eJ (zY p f)):=by
 unfold zY
 cases hv : b0 p
 ·refine aB Tryz.func13 Tryz.ntmps13 ?_
  repeat' (first|(apply aI;(apply aA (k := 29);rfl;(exact (by have := gA p hl hs;rw [if_neg (by simp [hv])] at this;exact this));exact Pur.pf;rfl))|refine aD ?_|fail)
  (refine aT (Le.nilImm (d := 2) rfl) ?_; refine aH rfl ?_)
  exact ⟨rfl,rfl⟩
 ·have w := WG.of_valid hv
  refine aB Tryz.func13 Tryz.ntmps13 ?_
  repeat' (first|(apply aI;first|(apply aA (k := 29);rfl;(exact (by have := gA p hl hs;rw [if_pos hv] at this;exact this));exact Pur.pf;rfl)|(apply aA (k := 31);rfl;exact mU p.types p.body (aC p) w f;exact Pur.pf;rfl))|refine aD ?_|fail)
  exact aH rfl ⟨rfl,(by (exact bC _ _))⟩
instance : BoT Tryz.prog 4:=⟨by kernel_rfl⟩
theorem mF (x:Pnt):PC Tryz.prog 94 [lL x] (fun r => r = iv (aN x)):=by
 refine aB Tryz.func94 Tryz.ntmps94 ?_
 repeat' (first|refine aD ?_|(refine aL ?_ ?_ <;> intro hc hq <;> try (exfalso;omega))|(refine bT ?_ ?_ <;> intro hg hq <;> try (exfalso;omega))|refine b9 ?_|fail)
 all_goals (refine ⟨?_,rfl⟩; simp only [aM,AV.v.injEq,Value.bool.injEq,Value.int.injEq,true_and])
 all_goals grind [aN]
theorem kK (ts:List Int) (x:Pnt) (v:Int) (h:0 ≤ v ∧ v < ts.length):PC Tryz.prog 90 [sl cI ts,lL x,iv v] (fun r => r = iv (aU ts x v)):=by
 refine aB Tryz.func90 Tryz.ntmps90 ?_
 repeat' (first|refine aD ?_|(refine aL ?_ ?_ <;> intro hc hq <;> try (exfalso;omega))|(refine bT ?_ ?_ <;> intro hg hq <;> try (exfalso;omega))|refine b9 ?_|fail)
 all_goals (refine ⟨?_,rfl⟩; simp only [aM,AV.v.injEq,Value.bool.injEq,Value.int.injEq,true_and])
 all_goals grind [aU]
theorem qX (a b:List Bool) (hab:a.length = b.length) (hl:a.length ≤ 1048576):PC Tryz.prog 123 [sl cB a,sl cB b] (fun r => r = bv (decide (a = b))):=by
 refine aB Tryz.func123 Tryz.ntmps123 ?_
 repeat' (first|refine aD ?_|fail)
 refine aJ (σ := Nat) [0,1] [] (fun k => [(5,iv (k : Int))]) (fun k => []) (fun k => k ≤ a.length ∧ ∀ i,i < k → a[i]! = b[i]!) (fun k => a.length - k) (0) ⟨by omega,by omega⟩ ?_
 intro k ⟨hk,hall⟩
 repeat' (first|refine aD ?_|(refine aL ?_ ?_ <;> intro hc hq <;> try (exfalso;omega))|refine bV ?_|refine b9 ?_|fail)
 ·refine ⟨?_, (by (rfl))⟩
  simp only [aM]
  have : a ≠ b := fun e => by subst e;exact absurd rfl ‹¬_›
  rw [decide_eq_false this]
 ·(refine a7 (k + 1) (Le.renA []) ?_ ?_)
  ·refine ⟨by omega, fun i hi => ?_⟩
   by_cases h : i = k
   ·subst h;assumption
   ·exact hall i (by omega)
  ·try dsimp only
   omega
 ·refine ⟨?_, (by (rfl))⟩
  simp only [aM]
  have : a = b := a8 hab fun i hi => hall i (by omega)
  rw [decide_eq_true this,decide_eq_true (by omega)]
theorem CP (ts:List Int) (x:Pnt) (b:List Bool) (hb:b.length = ts.length) (hl:ts.length ≤ 6) (hs:aN x < ts.length):PC Tryz.prog 121 [sl cI ts,lL x,sl cB b] (fun r => r = sl cB (iC ts x b)):=by
 refine aB Tryz.func121 Tryz.ntmps121 ?_
 repeat' (first|refine aD ?_|fail)
 refine aJ (σ := Nat × List Bool) [0,4,7] [0] (fun k => [(8,iv (k.1 : Int))]) (fun k => [(2,some (flat cB k.2))]) (fun k => k.1 ≤ b.length ∧ k.2.length = b.length ∧ (∀ i,i < b.length → k.2[i]! = if i < k.1 ∧ aU ts x i = 2 then false else b[i]!)) (fun k => b.length - k.1) (0,b) ⟨by omega,rfl,by intro i hi;rw [if_neg (by omega)]⟩ ?_
 rintro ⟨k,u⟩ ⟨hk,hul,hu⟩
 dsimp only at hk hul hu
 try dsimp only
 repeat' (first|(apply aI;(first|(apply aA (k := 90);rfl;(apply kK <;> (omega));exact Pur.pf;rfl)|(apply aA (k := 94);rfl;(apply mF);exact Pur.pf;rfl)))|refine aD ?_|(refine aL ?_ ?_ <;> intro hc hq <;> try (exfalso;omega))|fail)
 ·(refine a7 (k + 1, _) (Le.renA [(2, 2), (0, 0)]) ?_ ?_)
  ·refine ⟨(by show k + 1 ≤ b.length; omega), (by show (u.set k false).length = b.length; simp; omega), fun i hi => ?_⟩
   show (u.set k false)[i]! = if i < k + 1 ∧ _ then _ else _
   rw [aR,hu i hi]; grind
  ·show b.length - (k + 1) < b.length - k;omega
 ·(refine a7 (k + 1, _) (Le.renA [(2, 2), (0, 0)]) ?_ ?_)
  ·refine ⟨(by show k + 1 ≤ b.length; omega), hul, fun i hi => ?_⟩
   show u[i]! = if i < k + 1 ∧ _ then _ else _
   rw [hu i hi]; grind
  ·show b.length - (k + 1) < b.length - k;omega
 ·refine aT (Le.frzD (d := 6) (i := 2) rfl rfl) ?_
  refine aH rfl ⟨?_,(by (exact bC _ _))⟩
  have e : u.set (aN x).toNat true = iC ts x b := a8 (by rw [j4]; simp; omega) fun i hi => by
   rw [gD _ _ _ _ (by simp at hi;omega),aR,hu i (by simp at hi;omega)]
   grind
  simp only [aM,e,Nat.zero_add,sl,j4]
 ·refine aT (Le.frzD (d := 6) (i := 2) rfl rfl) ?_
  refine aH rfl ⟨?_,(by (exact bC _ _))⟩
  have e : u = iC ts x b := a8 (by rw [j4]; omega) fun i hi => by
   rw [gD _ _ _ _ (by omega),hu i (by omega)]
   grind
  rw [e]
  simp only [aM,Nat.zero_add,sl,j4]
theorem vH (o a:List Bool) (all:Bool) (ho:o.length = 0 ∨ o.length = a.length) (hl:a.length ≤ 1048576):PC Tryz.prog 122 [sl cB o,sl cB a,bv all] (fun r => r = sl cB (sJ o a all)):=by
 refine aB Tryz.func122 Tryz.ntmps122 ?_
 cases all
 ·repeat' (first | refine aD ?_|fail)
  refine aJ (σ := Nat × List Bool) [0,1,2,7] [] (fun k => [(8,iv (k.1 : Int))]) (fun k => [(1,some (flat cB k.2))]) (fun k => k.1 ≤ o.length ∧ k.2.length = a.length ∧ (∀ i,i < a.length → k.2[i]! = if i < k.1 then o[i]! || a[i]! else a[i]!)) (fun k => o.length - k.1) (0,a) ⟨by omega,rfl,by intro i hi;rw [if_neg (by omega)]⟩ ?_
  rintro ⟨k,u⟩ ⟨hk,hul,hu⟩
  dsimp only at hk hul hu
  try dsimp only
  repeat' (first|refine aD ?_|(refine aL ?_ ?_ <;> intro hc hq <;> try (exfalso;omega))|(refine bT ?_ ?_ <;> intro hg hq <;> try (exfalso;omega))|fail)
  ·(refine a7 (k + 1, _) (Le.renA [(1, 1)]) ?_ ?_)
   ·refine ⟨(by show k + 1 ≤ o.length; omega), (by show (u.set k a[k]!).length = a.length; simp; omega), fun i hi => ?_⟩
    show (u.set k a[k]!)[i]! = if i < k + 1 then _ else _
    rw [aR,hu i hi]; grind
   ·show o.length - (k + 1) < o.length - k;omega
  ·(refine a7 (k + 1, _) (Le.renA [(1, 1)]) ?_ ?_)
   ·refine ⟨(by show k + 1 ≤ o.length; omega), (by show (u.set k true).length = a.length; simp; omega), fun i hi => ?_⟩
    show (u.set k true)[i]! = if i < k + 1 then _ else _
    rw [aR,hu i hi]; grind
   ·show o.length - (k + 1) < o.length - k;omega
  ·refine aT (Le.frzD (d := 6) (i := 1) rfl rfl) ?_
   refine aH rfl ⟨?_,(by (exact bC _ _))⟩
   have e : u = sJ o a false := a8 (by rw [kR]; omega) fun i hi => by
    rw [tZ _ _ _ _ (by omega),hu i (by omega)]
    grind
   rw [e]
   simp only [aM,Nat.zero_add,sl,kR]
 ·repeat' (first | refine aD ?_|fail)
  refine aJ (σ := Nat × List Bool) [0,1,2,7] [] (fun k => [(8,iv (k.1 : Int))]) (fun k => [(1,some (flat cB k.2))]) (fun k => k.1 ≤ o.length ∧ k.2.length = a.length ∧ (∀ i,i < a.length → k.2[i]! = if i < k.1 then o[i]! && a[i]! else a[i]!)) (fun k => o.length - k.1) (0,a) ⟨by omega,rfl,by intro i hi;rw [if_neg (by omega)]⟩ ?_
  rintro ⟨k,u⟩ ⟨hk,hul,hu⟩
  dsimp only at hk hul hu
  try dsimp only
  repeat' (first|refine aD ?_|(refine aL ?_ ?_ <;> intro hc hq <;> try (exfalso;omega))|(refine bT ?_ ?_ <;> intro hg hq <;> try (exfalso;omega))|fail)
  ·(refine a7 (k + 1, _) (Le.renA [(1, 1)]) ?_ ?_)
   ·refine ⟨(by show k + 1 ≤ o.length; omega), (by show (u.set k a[k]!).length = a.length; simp; omega), fun i hi => ?_⟩
    show (u.set k a[k]!)[i]! = if i < k + 1 then _ else _
    rw [aR,hu i hi]; grind
   ·show o.length - (k + 1) < o.length - k;omega
  ·(refine a7 (k + 1, _) (Le.renA [(1, 1)]) ?_ ?_)
   ·refine ⟨(by show k + 1 ≤ o.length; omega), (by show (u.set k false).length = a.length; simp; omega), fun i hi => ?_⟩
    show (u.set k false)[i]! = if i < k + 1 then _ else _
    rw [aR,hu i hi]; grind
   ·show o.length - (k + 1) < o.length - k;omega
  ·refine aT (Le.frzD (d := 6) (i := 1) rfl rfl) ?_
   refine aH rfl ⟨?_,(by (exact bC _ _))⟩
   have e : u = sJ o a true := a8 (by rw [kR]; omega) fun i hi => by
    rw [tZ _ _ _ _ (by omega),hu i (by omega)]
    grind
   rw [e]
   simp only [aM,Nat.zero_add,sl,kR]
theorem nG (p:Prg) (all:Bool) (A:List Nat) (hs:aK p.body ≤ 1048576) (w:WG p.types (aC p)) (hr:Rch (aC p)) (hA:pC p.types (aC p) all A):PC Tryz.prog 89 [bZ p,bv all] (fun r => r = sl fK (cT p.types.length (aC p).length A)):=by
 have hpl := w.pl
 have hp0 := w.p0
 have htl := w.tl
 have hini := Gn w all
 refine aB Tryz.func89 Tryz.ntmps89 ?_
 repeat' (first|(apply aI;first|(apply aA (k := 23);rfl;exact fB p hs;exact Pur.pf;rfl)|(with_reducible apply cF (d := 22)))|refine aD ?_|fail)
 refine eQ (eR ?_ (Le.nilRows (i := 0 + 1) rfl))
 repeat' (first|(apply aI;(apply IB (d := 26);rfl;rfl;omega;omega;rfl;rfl))|refine aD ?_|fail)
 refine aJ (σ := Fw × Nat) [1,2,5,6,7] [0] (fun s => [(8,.own 4 0 s.2 1)]) (fun s => [(1,some (flat fK s.1.out)),(2,some (flat cB s.1.seen)),(4,some (flat cI s.1.work))]) (fun s => FI p.types (aC p) all s.1 ∧ FC p.types (aC p) all (fun _ => False) s.1 ∧ s.2 = s.1.work.length ∧ jW all p.types.length (aC p).length s.1 ≤ 10000) (fun s => jW all p.types.length (aC p).length s.1) (⟨(List.replicate (aC p).length []).set 0 (List.replicate p.types.length false),(List.replicate (aC p).length false).set 0 true,[0]⟩,1) ⟨hini.1,hini.2,rfl,by have := HA all p.types.length (aC p).length ⟨(List.replicate (aC p).length []).set 0 (List.replicate p.types.length false),(List.replicate (aC p).length false).set 0 true,[0]⟩ htl hpl;simp only [List.length_singleton] at this;show jW all p.types.length (aC p).length ⟨(List.replicate (aC p).length []).set 0 (List.replicate p.types.length false),(List.replicate (aC p).length false).set 0 true,[0]⟩ ≤ 10000;omega⟩ ?_
 rintro ⟨⟨out,seen,work⟩,m⟩ ⟨hI,hC,hm,hmb⟩
 dsimp only at hI hC hm hmb
 have hlo := hI.lo
 have hls := hI.ls
 dsimp only at hlo hls
 cases work with
 | nil =>
  simp only [List.length_nil] at hm
  subst hm
  try dsimp only
  repeat' (first|refine aD ?_|fail)
  refine aT (Le.frzD (d := 4) (i := 1) rfl rfl) ?_
  refine aH rfl ⟨?_,(by (exact bC _ _))⟩
  have e : out = cT p.types.length (aC p).length A := Ff w hr hA hI hC rfl
  rw [e]
  simp only [aM,Nat.zero_add,sl,eZ]
 | cons a q =>
  simp only [List.length_cons] at hm
  try dsimp only
  have hwa := hI.w a (List.mem_cons_self)
  have hon := hI.a a.toNat (by omega) hwa.2.2
  dsimp only at hwa hon
  have hset := (w.set a.toNat (by omega)).1
  repeat' (first|(apply aI;first|(with_reducible apply cF (d := 8))|(apply pX;rfl;rfl;omega;rfl))|refine aD ?_|(refine aL ?_ ?_ <;> intro hc hq <;> try (exfalso;omega))|fail)
  refine eQ (eR ?_ (Le.mvO (d := 38) (i := 4) rfl rfl (by simp [aQ]) (by decide)))
  have hmw := Au all p.types.length (aC p).length ⟨out,seen,a :: q⟩
  simp only [List.length_cons] at hmw
  have hpop := H9 hI hC
  have hT := JQ hI hwa.2.2
  dsimp only at hT
  have hal : (iC p.types (aC p)[a.toNat]! out[a.toNat]!).length = p.types.length := by rw [j4]; exact hon
  repeat' (first|(apply aI;(apply aA (k := 121);rfl;(apply CP <;> (assumption));exact Pur.pf;rfl))|refine aD ?_|refine bV ?_|fail)
  refine aJ (σ := Nat × Fw × Nat) [1,2,5,6,7,9,10] [0] (fun k => [(11,iv (k.1 : Int)),(8,.own 5 0 k.2.2 1)]) (fun k => [(1,some (flat fK k.2.1.out)),(2,some (flat cB k.2.1.seen)),(5,some (flat cI k.2.1.work))]) (fun k => k.1 ≤ (aC p)[a.toNat]!.next.length ∧ FIn p.types (aC p) all a.toNat (iC p.types (aC p)[a.toNat]! out[a.toNat]!) (jW all p.types.length (aC p).length ⟨out,seen,a :: q⟩ - 1) k.1 k.2.1 ∧ k.2.2 = k.2.1.work.length) (fun k => (aC p)[a.toNat]!.next.length - k.1) (0,⟨out,seen,q⟩,m - 1) ⟨by omega,hpop,by show m - 1 = q.length;omega⟩ ?_
  rintro ⟨k,⟨o2,s2,w2⟩,m2⟩ ⟨hk,hF,hm2⟩
  dsimp only at hk hF hm2
  try dsimp only
  have hnl := w.nl a.toNat (by omega)
  have hlo2 := hF.I.lo
  have hls2 := hF.I.ls
  have hmu2 := hF.mu
  have hmw2 := Au all p.types.length (aC p).length ⟨o2,s2,w2⟩
  dsimp only at hlo2 hls2 hmw2
  by_cases hkn : k < (aC p)[a.toNat]!.next.length
  ·have hz := w.nx a.toNat (by omega) _ (bD _ _ hkn)
   have hst := hF.step w (by omega) hkn hal hT
   by_cases hsn : s2[((aC p)[a.toNat]!.next[k]!).toNat]! = true
   ·have hol := hF.I.a _ (by omega) hsn
    dsimp only at hol
    have hab : (o2[((aC p)[a.toNat]!.next[k]!).toNat]!).length = (sJ o2[((aC p)[a.toNat]!.next[k]!).toNat]! (iC p.types (aC p)[a.toNat]! out[a.toNat]!) all).length := by rw [kR]; omega
    have ho : (o2[((aC p)[a.toNat]!.next[k]!).toNat]!).length = 0 ∨ (o2[((aC p)[a.toNat]!.next[k]!).toNat]!).length = (iC p.types (aC p)[a.toNat]! out[a.toNat]!).length := .inr (by omega)
    repeat' (first|(apply aI;first|(apply aO (t := _);rfl;rfl;rfl;exact (rfl:_=some [_]);rfl;rfl)|(first|(apply aA (k := 122);rfl;(apply vH <;> (first|assumption|omega));exact Pur.pf;rfl)|(apply aA (k := 123);rfl;(apply qX <;> (first|assumption|omega));exact Pur.pf;rfl)))|refine aD ?_|(refine aL ?_ ?_ <;> intro hc hq <;> try (exfalso;omega))|(refine bT ?_ ?_ <;> intro hg hq <;> try (exfalso;omega))|fail)
    all_goals try exact absurd (hsn.symm.trans (by assumption : s2[((aC p)[a.toNat]!.next[k]!).toNat]! = false)) (by decide)
    ·have e9 : Fz all (iC p.types (aC p)[a.toNat]! out[a.toNat]!) ⟨o2, s2, w2⟩ ((aC p)[a.toNat]!.next[k]!).toNat = ⟨o2.set ((aC p)[a.toNat]!.next[k]!).toNat (sJ o2[((aC p)[a.toNat]!.next[k]!).toNat]! (iC p.types (aC p)[a.toNat]! out[a.toNat]!) all), s2.set ((aC p)[a.toNat]!.next[k]!).toNat true, w2 ++ [((aC p)[a.toNat]!.next[k]!)]⟩ := by
      unfold Fz
      rw [if_neg (fun h => absurd h.2 ‹_›),Int.toNat_of_nonneg hz.1]
     rw [e9] at hst
     (refine a7 (k + 1,⟨_,_,_⟩,_) (Le.renA [(0,0),(1,1),(2,2),(5,7)]) ?_ ?_)
     ·exact ⟨(by show k + 1 ≤ (aC p)[a.toNat]!.next.length;omega),hst,(by show m2 + 1 = (w2 ++ [((aC p)[a.toNat]!.next[k]!)]).length;rw [List.length_append,List.length_singleton]; omega)⟩
     ·show (aC p)[a.toNat]!.next.length - (k + 1) < (aC p)[a.toNat]!.next.length - k;omega
    ·have e9 : Fz all (iC p.types (aC p)[a.toNat]! out[a.toNat]!) ⟨o2, s2, w2⟩ ((aC p)[a.toNat]!.next[k]!).toNat = ⟨o2, s2, w2⟩ := by
      unfold Fz
      rw [if_pos ⟨hsn,‹_›⟩]
     rw [e9] at hst
     (refine a7 (k + 1,⟨o2,s2,w2⟩,m2) (Le.renA [(0,0),(1,1),(2,2),(5,5)]) ?_ ?_)
     ·exact ⟨(by show k + 1 ≤ (aC p)[a.toNat]!.next.length;omega),hst,hm2⟩
     ·show (aC p)[a.toNat]!.next.length - (k + 1) < (aC p)[a.toNat]!.next.length - k;omega
   ·rw [Bool.not_eq_true] at hsn
    have hol := hF.I.b _ (by omega) hsn
    dsimp only at hol
    have ho : (o2[((aC p)[a.toNat]!.next[k]!).toNat]!).length = 0 ∨ (o2[((aC p)[a.toNat]!.next[k]!).toNat]!).length = (iC p.types (aC p)[a.toNat]! out[a.toNat]!).length := .inl (by rw [hol]; rfl)
    repeat' (first|(apply aI;first|(apply aO (t := _);rfl;rfl;rfl;exact (rfl:_=some [_]);rfl;rfl)|(first|(apply aA (k := 122);rfl;(apply vH <;> (first|assumption|omega));exact Pur.pf;rfl)|(apply aA (k := 123);rfl;(apply qX <;> (first|omega|grind));exact Pur.pf;rfl)))|refine aD ?_|(refine aL ?_ ?_ <;> intro hc hq <;> try (exfalso;omega))|(refine bT ?_ ?_ <;> intro hg hq <;> try (exfalso;omega))|fail)
    all_goals try exact absurd (hsn.symm.trans (by assumption : s2[((aC p)[a.toNat]!.next[k]!).toNat]! = true)) (by decide)
    ·have e9 : Fz all (iC p.types (aC p)[a.toNat]! out[a.toNat]!) ⟨o2, s2, w2⟩ ((aC p)[a.toNat]!.next[k]!).toNat = ⟨o2.set ((aC p)[a.toNat]!.next[k]!).toNat (sJ o2[((aC p)[a.toNat]!.next[k]!).toNat]! (iC p.types (aC p)[a.toNat]! out[a.toNat]!) all), s2.set ((aC p)[a.toNat]!.next[k]!).toNat true, w2 ++ [((aC p)[a.toNat]!.next[k]!)]⟩ := by
      unfold Fz
      rw [if_neg (fun h => by rw [hsn] at h;cases h.1),Int.toNat_of_nonneg hz.1]
     rw [e9] at hst
     (refine a7 (k + 1,⟨_,_,_⟩,_) (Le.renA [(0,0),(1,1),(2,2),(5,7)]) ?_ ?_)
     ·exact ⟨(by show k + 1 ≤ (aC p)[a.toNat]!.next.length;omega),hst,(by show m2 + 1 = (w2 ++ [((aC p)[a.toNat]!.next[k]!)]).length;rw [List.length_append,List.length_singleton]; omega)⟩
     ·show (aC p)[a.toNat]!.next.length - (k + 1) < (aC p)[a.toNat]!.next.length - k;omega
  ·repeat' (first | refine aD ?_ | (refine aL ?_ ?_ <;> intro hc hq <;> try (exfalso; omega))|fail)
   (refine a7 (⟨o2,s2,w2⟩,m2) (Le.renA [(0,0),(1,1),(2,2),(4,5)]) ?_ ?_)
   ·exact ⟨hF.I,hF.out (by omega),hm2,(by show jW all p.types.length (aC p).length ⟨o2,s2,w2⟩ ≤ 10000;omega)⟩
   ·show jW all p.types.length (aC p).length ⟨o2,s2,w2⟩ < jW all p.types.length (aC p).length ⟨out,seen,a :: q⟩; omega
theorem tH (ts:List Int) (x:Pnt) (mb:List Bool) (htl:ts.length ≤ 6) (hmb:mb.length = ts.length) (hst:aN x < ts.length) (hy:0 ≤ x.y ∧ (3 ≤ x.op → x.op ≤ 7 → x.y < ts.length)):PC Tryz.prog 91 [sl cI ts,lL x,sl cB mb] (fun r => r = sl CF (gO ts x mb[(aN x).toNat]!)):=by
 have hu : x.op = 3 → (aU ts x x.y = 2 ↔ Ic ts[x.y.toNat]! = true) := by
  intro h
  unfold aU Ic;rw [if_pos h,if_pos rfl]; grind
 refine aB Tryz.func91 Tryz.ntmps91 ?_
 repeat' (first|(apply aI;(first|(apply aA (k := 90);rfl;(apply kK <;> (omega));exact Pur.pf;rfl)|(apply aA (k := 94);rfl;(apply mF);exact Pur.pf;rfl)))|refine aD ?_|(refine aL ?_ ?_ <;> intro hc hq <;> try (exfalso;omega))|(refine bT ?_ ?_ <;> intro hg hq <;> try (exfalso;omega))|fail)
 all_goals first|refine aT (Le.frzD (d := 6) (i := 1) rfl rfl) ?_|refine aT (Le.frzD (d := 6) (i := 3) rfl rfl) ?_|refine aT (Le.frzD (d := 6) (i := 5) rfl rfl) ?_
 all_goals refine aH rfl ⟨?_,(by (rfl))⟩
 all_goals simp only [aM,gO]
 all_goals (repeat' split)
 all_goals first|rfl|(exfalso;grind)
theorem qO (pts:List Pnt) (acs:List Acc) (fr:List (List Bool)) (pl lv:List Bool) (hpl:pts.length ≤ 61) (hac:acs.length ≤ 6) (h1:pl.length = pts.length) (h2:lv.length = pts.length):PC Tryz.prog 92 [sl bK pts,sl CF acs,.agg [sl fK fr,sl cB pl],sl cB lv] (fun r => r = sl cB (H8 pts acs pl lv)):=by
 refine aB Tryz.func92 Tryz.ntmps92 ?_
 repeat' (first|refine aD ?_|fail)
 refine aJ (σ := Nat × List Bool) [0,1,3,6,9] [0] (fun k => [(10,iv (k.1 : Int))]) (fun k => [(1,some (flat cB k.2))]) (fun k => k.1 ≤ pts.length ∧ k.2.length = pts.length ∧ (∀ l,l < pts.length → k.2[l]! = if l < k.1 then acs.any (FD pts pl lv l) else false)) (fun k => pts.length - k.1) (0,List.replicate pts.length false) ⟨by omega,by simp,fun l hl => by rw [if_neg (by omega),cO _ _ _ hl]⟩ ?_
 rintro ⟨i,u⟩ ⟨hi,hul,hu⟩
 dsimp only at hi hul hu
 try dsimp only
 repeat' (first|refine aD ?_|(refine aL ?_ ?_ <;> intro hc hq <;> try (exfalso;omega))|fail)
 ·have hin : i < pts.length := by omega
  refine aJ (σ := Nat × List Bool) [0,1,3,6,9,10] [0] (fun k => [(11,iv (k.1 : Int))]) (fun k => [(1,some (flat cB k.2))]) (fun k => k.1 ≤ acs.length ∧ k.2.length = pts.length ∧ (∀ l,l < pts.length → k.2[l]! = if l < i then acs.any (FD pts pl lv l) else if l = i then (acs.take k.1).any (FD pts pl lv l) else false)) (fun k => acs.length - k.1) (0,u) ⟨by omega,hul,fun l hl => by rw [hu l hl]; simp⟩ ?_
  rintro ⟨j,s⟩ ⟨hj,hsl,hs⟩
  dsimp only at hj hsl hs
  try dsimp only
  have hsi : s[i]! = (acs.take j).any (FD pts pl lv i) := by rw [hs i hin]; simp
  have hst := fun h : j < acs.length => C5 (FD pts pl lv i) acs j h
  have hcg : FD pts pl lv i acs[j]! = (lv[i]! && pl[i]! && decide (pts[i]!.y = acs[j]!.var) && (acs[j]!.write || decide (pts[i]!.op = 5))) := rfl
  repeat' (first|refine aD ?_|(refine aL ?_ ?_ <;> intro hc hq <;> try (exfalso;omega))|(refine bT ?_ ?_ <;> intro hg hq <;> try (exfalso;omega))|refine bV ?_|fail)
  ·(refine a7 (j + 1, _) (Le.renA [(0, 0), (1, 1)]) ?_ ?_)
   ·refine ⟨(by show j + 1 ≤ acs.length; omega), (by show (s.set i _).length = pts.length; rw [List.length_set]; exact hsl), fun l hl => ?_⟩
    show (s.set i _)[l]! = if l < i then _ else if l = i then (acs.take (j + 1)).any _ else false
    by_cases e : l = i
    ·rw [e, hst (by omega), hcg, aR, if_pos ⟨rfl, by omega⟩, if_neg (Nat.lt_irrefl _), if_pos rfl, ← hsi]
     clear hs hu hst hsi hcg
     grind
    ·rw [aR,if_neg (fun h => e h.1.symm),hs l hl,if_neg e,if_neg e]
   ·show acs.length - (j + 1) < acs.length - j;omega
  ·(refine a7 (j + 1, _) (Le.renA [(0, 0), (1, 1)]) ?_ ?_)
   ·refine ⟨(by show j + 1 ≤ acs.length; omega), (by show (s.set i _).length = pts.length; rw [List.length_set]; exact hsl), fun l hl => ?_⟩
    show (s.set i _)[l]! = if l < i then _ else if l = i then (acs.take (j + 1)).any _ else false
    by_cases e : l = i
    ·rw [e, hst (by omega), hcg, aR, if_pos ⟨rfl, by omega⟩, if_neg (Nat.lt_irrefl _), if_pos rfl, ← hsi]
     clear hs hu hst hsi hcg
     grind
    ·rw [aR,if_neg (fun h => e h.1.symm),hs l hl,if_neg e,if_neg e]
   ·show acs.length - (j + 1) < acs.length - j;omega
  ·(refine a7 (j + 1, _) (Le.renA [(0, 0), (1, 1)]) ?_ ?_)
   ·refine ⟨(by show j + 1 ≤ acs.length; omega), (by show (s.set i _).length = pts.length; rw [List.length_set]; exact hsl), fun l hl => ?_⟩
    show (s.set i _)[l]! = if l < i then _ else if l = i then (acs.take (j + 1)).any _ else false
    by_cases e : l = i
    ·rw [e, hst (by omega), hcg, aR, if_pos ⟨rfl, by omega⟩, if_neg (Nat.lt_irrefl _), if_pos rfl, ← hsi]
     clear hs hu hst hsi hcg
     grind
    ·rw [aR,if_neg (fun h => e h.1.symm),hs l hl,if_neg e,if_neg e]
   ·show acs.length - (j + 1) < acs.length - j;omega
  ·(refine a7 (j + 1, _) (Le.renA [(0, 0), (1, 1)]) ?_ ?_)
   ·refine ⟨(by show j + 1 ≤ acs.length; omega), (by show (s.set i _).length = pts.length; rw [List.length_set]; exact hsl), fun l hl => ?_⟩
    show (s.set i _)[l]! = if l < i then _ else if l = i then (acs.take (j + 1)).any _ else false
    by_cases e : l = i
    ·rw [e, hst (by omega), hcg, aR, if_pos ⟨rfl, by omega⟩, if_neg (Nat.lt_irrefl _), if_pos rfl, ← hsi]
     clear hs hu hst hsi hcg
     grind
    ·rw [aR,if_neg (fun h => e h.1.symm),hs l hl,if_neg e,if_neg e]
   ·show acs.length - (j + 1) < acs.length - j;omega
  ·(refine a7 (j + 1, _) (Le.renA [(0, 0), (1, 1)]) ?_ ?_)
   ·refine ⟨(by show j + 1 ≤ acs.length; omega), (by show (s.set i _).length = pts.length; rw [List.length_set]; exact hsl), fun l hl => ?_⟩
    show (s.set i _)[l]! = if l < i then _ else if l = i then (acs.take (j + 1)).any _ else false
    by_cases e : l = i
    ·rw [e, hst (by omega), hcg, aR, if_pos ⟨rfl, by omega⟩, if_neg (Nat.lt_irrefl _), if_pos rfl, ← hsi]
     clear hs hu hst hsi hcg
     grind
    ·rw [aR,if_neg (fun h => e h.1.symm),hs l hl,if_neg e,if_neg e]
   ·show acs.length - (j + 1) < acs.length - j;omega
  ·(refine a7 (j + 1, _) (Le.renA [(0, 0), (1, 1)]) ?_ ?_)
   ·refine ⟨(by show j + 1 ≤ acs.length; omega), (by show (s.set i _).length = pts.length; rw [List.length_set]; exact hsl), fun l hl => ?_⟩
    show (s.set i _)[l]! = if l < i then _ else if l = i then (acs.take (j + 1)).any _ else false
    by_cases e : l = i
    ·rw [e, hst (by omega), hcg, aR, if_pos ⟨rfl, by omega⟩, if_neg (Nat.lt_irrefl _), if_pos rfl, ← hsi]
     clear hs hu hst hsi hcg
     grind
    ·rw [aR,if_neg (fun h => e h.1.symm),hs l hl,if_neg e,if_neg e]
   ·show acs.length - (j + 1) < acs.length - j;omega
  ·(refine a7 (j + 1, _) (Le.renA [(0, 0), (1, 1)]) ?_ ?_)
   ·refine ⟨(by show j + 1 ≤ acs.length; omega), (by show (s.set i _).length = pts.length; rw [List.length_set]; exact hsl), fun l hl => ?_⟩
    show (s.set i _)[l]! = if l < i then _ else if l = i then (acs.take (j + 1)).any _ else false
    by_cases e : l = i
    ·rw [e, hst (by omega), hcg, aR, if_pos ⟨rfl, by omega⟩, if_neg (Nat.lt_irrefl _), if_pos rfl, ← hsi]
     clear hs hu hst hsi hcg
     grind
    ·rw [aR,if_neg (fun h => e h.1.symm),hs l hl,if_neg e,if_neg e]
   ·show acs.length - (j + 1) < acs.length - j;omega
  ·(refine a7 (j + 1, _) (Le.renA [(0, 0), (1, 1)]) ?_ ?_)
   ·refine ⟨(by show j + 1 ≤ acs.length; omega), (by show (s.set i _).length = pts.length; rw [List.length_set]; exact hsl), fun l hl => ?_⟩
    show (s.set i _)[l]! = if l < i then _ else if l = i then (acs.take (j + 1)).any _ else false
    by_cases e : l = i
    ·rw [e, hst (by omega), hcg, aR, if_pos ⟨rfl, by omega⟩, if_neg (Nat.lt_irrefl _), if_pos rfl, ← hsi]
     clear hs hu hst hsi hcg
     grind
    ·rw [aR,if_neg (fun h => e h.1.symm),hs l hl,if_neg e,if_neg e]
   ·show acs.length - (j + 1) < acs.length - j;omega
  ·(refine a7 (i + 1, s) (Le.renA [(0, 0), (1, 1)]) ?_ ?_)
   ·refine ⟨(by show i + 1 ≤ pts.length; omega), hsl, fun l hl => ?_⟩
    show s[l]! = if l < i + 1 then _ else _
    rw [hs l hl,List.take_of_length_le (by omega)]
    clear hs hu
    grind
   ·show pts.length - (i + 1) < pts.length - i;omega
 ·refine aT (Le.frzD (d := 8) (i := 1) rfl rfl) ?_
  refine aH rfl ⟨?_,(by (exact bC _ _))⟩
  have e : u = H8 pts acs pl lv := a8 (by rw [s8, hul]) fun l hl => by
   rw [A6 _ _ _ _ _ (by omega),hu l (by omega),if_pos (by omega)]
  rw [e]
  simp only [aM,Nat.zero_add,sl,s8]
theorem u6 {a b:List Bool}{m:Nat}{x0 x1:Operand}{i0:Nat}(ha0:ev (lk tsl) x0 = some (.own i0 0 m 1)) (ha1:ev (lk tsl) x1 = some (sl cB b)) (hH0:aP hsl i0 = some (flat cB a)) (hmc:MC Tryz.prog 119 [.own 0 0 m 1,sl cB b] [(0,some (flat cB a))] 1 (fun _:Unit => True) (fun _ => .tup []) (fun _ => [(0,some (flat cB (eX a b)))])) (hM:Nat.ble (nidl + 0) aS = true) (hN:Nat.blt d N = true){md':Md}[hmd:MdA md (iD [x0,x1] ++ [.inr i0]) (List.map Sum.inr (List.map Prod.fst ([(i0,some (flat cB (eX a b)))]:List (Nat × Option (List AV)))) ++ [.inl d]) md'] (kk:RW Tryz.prog N all Q md' rest ⟨(d,.tup []) :: tsl,kO hsl [(i0,some (flat cB (eX a b)))],nidl + 0,z0⟩):RW Tryz.prog N all Q md (⟨some d,.call ⟨.value (.func 119),#[x0,x1],tys⟩,ty,pos,af,none⟩ :: rest) ⟨tsl,hsl,nidl,z0⟩:=by
 exact bR (l := [x0,x1]) [i0] 1 [(i0,some (flat cB (eX a b)))] hmc (avs := [.own i0 0 m 1,sl cB b]) (by simp only [evL,ha0,ha1]) rfl hM hN (md' := md') (hmd := hmd) kk
theorem Bg (a b:List Bool) (m:Nat) (hm:m = a.length) (hab:b.length ≤ a.length) (hl:a.length ≤ 1048576):MC Tryz.prog 119 [.own 0 0 m 1,sl cB b] [(0,some (flat cB a))] 1 (fun _:Unit => True) (fun _ => .tup []) (fun _ => [(0,some (flat cB (eX a b)))]):=by
 subst hm
 refine bU Tryz.func119 Tryz.ntmps119 ?_
 repeat' (first|refine aD ?_|fail)
 refine aJ (σ := Nat × List Bool) [0,1] [] (fun k => [(4,iv (k.1 : Int))]) (fun k => [(0,some (flat cB k.2))]) (fun k => k.1 ≤ b.length ∧ k.2.length = a.length ∧ (∀ l,l < a.length → k.2[l]! = (a[l]! || (decide (l < k.1) && b[l]!)))) (fun k => b.length - k.1) (0,a) ⟨by omega,rfl,fun l hl => by simp⟩ ?_
 rintro ⟨k,u⟩ ⟨hk,hul,hu⟩
 dsimp only at hk hul hu
 try dsimp only
 repeat' (first|refine aD ?_|(refine aL ?_ ?_ <;> intro hc hq <;> try (exfalso;omega))|(refine bT ?_ ?_ <;> intro hg hq <;> try (exfalso;omega))|fail)
 ·(refine a7 (k + 1, _) (Le.renA []) ?_ ?_)
  ·refine ⟨(by show k + 1 ≤ b.length; omega), (by show (u.set k _).length = a.length; rw [List.length_set]; exact hul), fun l hl => ?_⟩
   show (u.set k _)[l]! = (a[l]! || (decide (l < k + 1) && b[l]!))
   have h1 := hu l hl
   have h2 := hu k (by omega)
   rw [aR]
   clear hu
   grind
  ·show b.length - (k + 1) < b.length - k;omega
 ·(refine a7 (k + 1, _) (Le.renA []) ?_ ?_)
  ·refine ⟨(by show k + 1 ≤ b.length; omega), (by show (u.set k _).length = a.length; rw [List.length_set]; exact hul), fun l hl => ?_⟩
   show (u.set k _)[l]! = (a[l]! || (decide (l < k + 1) && b[l]!))
   have h1 := hu l hl
   have h2 := hu k (by omega)
   rw [aR]
   clear hu
   grind
  ·show b.length - (k + 1) < b.length - k;omega
 ·refine Aj (l := []) rfl ?_
  refine bQ () trivial rfl ⟨sE ?_,trivial⟩
  have e : u = eX a b := a8 (by rw [eP, hul]) fun l hl => by
   rw [dN _ _ _ (by omega),hu l (by omega)]
   clear hu
   grind
  rw [e]
theorem Dd (ts:List Int) (x:Pnt) (fr:List (List Bool)) (pl lv:List Bool) (htl:ts.length ≤ 6) (hpl:pl.length ≤ 61) (h1:lv.length = ts.length) (h2:fr.length = ts.length) (h3:∀ v,v < ts.length → fr[v]!.length = pl.length):PC Tryz.prog 93 [sl cI ts,lL x,.agg [sl fK fr,sl cB pl],sl cB lv] (fun r => r = sl cB (CK ts x fr lv pl.length)):=by
 refine aB Tryz.func93 Tryz.ntmps93 ?_
 repeat' (first|refine aD ?_|fail)
 refine aJ (σ := Nat × List Bool) [0,3,5,6,9] [0,1] (fun k => [(10,iv (k.1 : Int))]) (fun k => [(2,some (flat cB k.2))]) (fun k => k.1 ≤ lv.length ∧ k.2.length = pl.length ∧ (∀ l,l < pl.length → k.2[l]! = (List.range k.1).any (Aq ts x fr lv l))) (fun k => lv.length - k.1) (0,List.replicate pl.length false) ⟨by omega,by simp,fun l hl => by rw [cO _ _ _ hl]; rfl⟩ ?_
 rintro ⟨k,u⟩ ⟨hk,hul,hu⟩
 dsimp only at hk hul hu
 try dsimp only
 by_cases hkn : k < lv.length
 ·have hrow := h3 k (by omega)
  have hst : ∀ l,(List.range (k + 1)).any (Aq ts x fr lv l) = ((List.range k).any (Aq ts x fr lv l) || Aq ts x fr lv l k) := fun l => by rw [List.range_succ,List.any_append]; simp
  repeat' (first|(apply aI;(first|(apply aA (k := 90);rfl;(apply kK <;> (omega));exact Pur.pf;rfl)|(apply aA (k := 94);rfl;(apply mF);exact Pur.pf;rfl)|(apply u6;rfl;rfl;(rfl);(apply Bg <;> (omega));rfl;rfl)))|refine aD ?_|(refine aL ?_ ?_ <;> intro hc hq <;> try (exfalso;omega))|(refine bT ?_ ?_ <;> intro hg hq <;> try (exfalso;omega))|fail)
  ·(refine a7 (k + 1, _) (Le.renA [(0, 0), (1, 1), (2, 2)]) ?_ ?_)
   ·refine ⟨(by show k + 1 ≤ lv.length; omega), (by show (eX u fr[k]!).length = pl.length; rw [eP]; exact hul), fun l hl => ?_⟩
    show (eX u fr[k]!)[l]! = (List.range (k + 1)).any _
    rw [hst l,dN _ _ _ (by omega),hu l hl,decide_eq_true (by omega : l < fr[k]!.length)]
    clear hu hst h3
    unfold Aq
    grind
   ·show lv.length - (k + 1) < lv.length - k;omega
  ·(refine a7 (k + 1, u) (Le.renA [(0, 0), (1, 1), (2, 2)]) ?_ ?_)
   ·refine ⟨(by show k + 1 ≤ lv.length; omega), hul, fun l hl => ?_⟩
    show u[l]! = (List.range (k + 1)).any _
    rw [hst l,hu l hl]
    clear hu hst h3
    have e : Aq ts x fr lv l k = false := by unfold Aq;grind
    rw [e,Bool.or_false]
   ·show lv.length - (k + 1) < lv.length - k;omega
  ·(refine a7 (k + 1, u) (Le.renA [(0, 0), (1, 1), (2, 2)]) ?_ ?_)
   ·refine ⟨(by show k + 1 ≤ lv.length; omega), hul, fun l hl => ?_⟩
    show u[l]! = (List.range (k + 1)).any _
    rw [hst l,hu l hl]
    clear hu hst h3
    have e : Aq ts x fr lv l k = false := by unfold Aq;grind
    rw [e,Bool.or_false]
   ·show lv.length - (k + 1) < lv.length - k;omega
  ·(refine a7 (k + 1, u) (Le.renA [(0, 0), (1, 1), (2, 2)]) ?_ ?_)
   ·refine ⟨(by show k + 1 ≤ lv.length; omega), hul, fun l hl => ?_⟩
    show u[l]! = (List.range (k + 1)).any _
    rw [hst l,hu l hl]
    clear hu hst h3
    have e : Aq ts x fr lv l k = false := by unfold Aq;grind
    rw [e,Bool.or_false]
   ·show lv.length - (k + 1) < lv.length - k;omega
 ·repeat' (first | refine aD ?_ | (refine aL ?_ ?_ <;> intro hc hq <;> try (exfalso; omega))|fail)
  refine aT (Le.frzD (d := 8) (i := 2) rfl rfl) ?_
  refine aH rfl ⟨?_,(by (exact bC _ _))⟩
  have hkl : k = lv.length := by omega
  have e : u = CK ts x fr lv pl.length := a8 (by unfold CK; simp; omega) fun l hl => by
   unfold CK
   rw [a6 _ _ _ (by omega),hu l (by omega),hkl]
  have el : (CK ts x fr lv pl.length).length = pl.length := by unfold CK;simp
  rw [e]
  simp only [aM,Nat.zero_add,sl,el]
theorem gB {f:Nat → Bool}{n k:Nat}(h:k < n) (hf:f k = false):(List.range n).all f = false:=by
 rw [Bool.eq_false_iff]; intro hc
 rw [List.all_eq_true] at hc
 have := hc k (List.mem_range.2 h)
 rw [hf] at this;cases this
theorem fZ {f:Nat → Bool}{k:Nat}:(List.range (k + 1)).all f = ((List.range k).all f && f k):=by
 rw [List.range_succ,List.all_append]; simp
theorem y8 (fa fb:List (List Bool)) (pa pb:List Bool) (hpl:pa.length ≤ 61) (hfl:fa.length ≤ 6) (h1:pb.length = pa.length) (h2:fb.length = fa.length) (h3:∀ v,v < fa.length → fa[v]!.length = pa.length) (h4:∀ v,v < fa.length → fb[v]!.length = pa.length):PC Tryz.prog 118 [.agg [sl fK fa,sl cB pa],.agg [sl fK fb,sl cB pb]] (fun r => r = bv (Cr fa fb pa pb)):=by
 refine aB Tryz.func118 Tryz.ntmps118 ?_
 repeat' (first|refine aD ?_|fail)
 refine aJ (σ := Nat) [2,3] [0,1] (fun k => [(5,iv (k : Int))]) (fun k => []) (fun k => k ≤ pa.length ∧ (List.range k).all (Bz fa fb pa pb) = true) (fun k => pa.length - k) (0) ⟨by omega,rfl⟩ ?_
 rintro i ⟨hi,hall⟩
 try dsimp only
 repeat' (first|refine aD ?_|(refine aL ?_ ?_ <;> intro hc hq <;> try (exfalso;omega))|(refine bT ?_ ?_ <;> intro hg hq <;> try (exfalso;omega))|fail)
 ·refine aH rfl ⟨?_, (by (rfl))⟩
  have e2 : Bz fa fb pa pb i = false := by unfold Bz;grind
  have e3 : Cr fa fb pa pb = false := gB (by omega : i < pa.length) e2
  simp only [aM]
  rw [e3]
 ·have hin : i < pa.length := by omega
  have hpp : (!pa[i]! || pb[i]!) = true := by grind
  refine aJ (σ := Nat) [2,3,5] [0,1] (fun j => [(6,iv (j : Int))]) (fun j => []) (fun j => j ≤ fa.length ∧ (List.range j).all (CV fa fb i) = true) (fun j => fa.length - j) (0) ⟨by omega,rfl⟩ ?_
  rintro j ⟨hj,hj2⟩
  try dsimp only
  by_cases hjn : j < fa.length
  ·have r1 := h3 j hjn
   have r2 := h4 j hjn
   repeat' (first|refine aD ?_|(refine aL ?_ ?_ <;> intro hc hq <;> try (exfalso;omega))|(refine bT ?_ ?_ <;> intro hg hq <;> try (exfalso;omega))|fail)
   ·refine aH rfl ⟨?_, (by (rfl))⟩
    have e1 : CV fa fb i j = false := by unfold CV;grind
    have e2 : Bz fa fb pa pb i = false := by unfold Bz;rw [gB hjn e1,Bool.and_false]
    have e3 : Cr fa fb pa pb = false := gB hin e2
    simp only [aM]
    rw [e3]
   ·(refine a7 (j + 1) (Le.renA [(0, 0), (1, 1)]) ?_ ?_)
    ·refine ⟨by omega, ?_⟩
     rw [fZ,hj2]; unfold CV;grind
    ·omega
   ·(refine a7 (j + 1) (Le.renA [(0, 0), (1, 1)]) ?_ ?_)
    ·refine ⟨by omega, ?_⟩
     rw [fZ,hj2]; unfold CV;grind
    ·omega
  ·have hje : j = fa.length := by omega
   have e2 : Bz fa fb pa pb i = true := by unfold Bz;rw [hpp,← hje,hj2]; rfl
   repeat' (first|refine aD ?_|(refine aL ?_ ?_ <;> intro hc hq <;> try (exfalso;omega))|fail)
   (refine a7 (i + 1) (Le.renA [(0,0),(1,1)]) ?_ ?_)
   ·refine ⟨by omega, ?_⟩
    rw [fZ,hall,e2]; rfl
   ·omega
 ·have hin : i < pa.length := by omega
  have hpp : (!pa[i]! || pb[i]!) = true := by grind
  refine aJ (σ := Nat) [2,3,5] [0,1] (fun j => [(6,iv (j : Int))]) (fun j => []) (fun j => j ≤ fa.length ∧ (List.range j).all (CV fa fb i) = true) (fun j => fa.length - j) (0) ⟨by omega,rfl⟩ ?_
  rintro j ⟨hj,hj2⟩
  try dsimp only
  by_cases hjn : j < fa.length
  ·have r1 := h3 j hjn
   have r2 := h4 j hjn
   repeat' (first|refine aD ?_|(refine aL ?_ ?_ <;> intro hc hq <;> try (exfalso;omega))|(refine bT ?_ ?_ <;> intro hg hq <;> try (exfalso;omega))|fail)
   ·refine aH rfl ⟨?_, (by (rfl))⟩
    have e1 : CV fa fb i j = false := by unfold CV;grind
    have e2 : Bz fa fb pa pb i = false := by unfold Bz;rw [gB hjn e1,Bool.and_false]
    have e3 : Cr fa fb pa pb = false := gB hin e2
    simp only [aM]
    rw [e3]
   ·(refine a7 (j + 1) (Le.renA [(0, 0), (1, 1)]) ?_ ?_)
    ·refine ⟨by omega, ?_⟩
     rw [fZ,hj2]; unfold CV;grind
    ·omega
   ·(refine a7 (j + 1) (Le.renA [(0, 0), (1, 1)]) ?_ ?_)
    ·refine ⟨by omega, ?_⟩
     rw [fZ,hj2]; unfold CV;grind
    ·omega
  ·have hje : j = fa.length := by omega
   have e2 : Bz fa fb pa pb i = true := by unfold Bz;rw [hpp,← hje,hj2]; rfl
   repeat' (first|refine aD ?_|(refine aL ?_ ?_ <;> intro hc hq <;> try (exfalso;omega))|fail)
   (refine a7 (i + 1) (Le.renA [(0,0),(1,1)]) ?_ ?_)
   ·refine ⟨by omega, ?_⟩
    rw [fZ,hall,e2]; rfl
   ·omega
 ·refine aH rfl ⟨?_, (by (rfl))⟩
  have hie : i = pa.length := by omega
  have e3 : Cr fa fb pa pb = true := by unfold Cr;rw [← hie]; exact hall
  simp only [aM]
  rw [e3]
theorem Be {m:List (Nat × Nat)}{l0 k K b w:Nat}(h0:l0 ≤ aS) (hK:K = k):RnL (gN m ⟨l0,aS + K⟩ (some b)) (flat (uU 0 w) (List.range (k + 1))) (((flat (uU 0 w) (List.range k)).drop 0).take (k * 1) ++ [.own b 0 w 1]):=by
 rw [hK]
 have e : ((flat (uU 0 w) (List.range k)).drop 0).take (k * 1) = flat (uU 0 w) (List.range k) := List.take_of_length_le (by rw [List.drop_zero,aQ (uU 0 w) (e := 1)]; simp)
 rw [e,List.range_succ,← bX,jU]
 refine (cE (by show aS + (0 + k) ≤ aS + k;omega)).app (.cons (.own ?_) .nil)
 unfold gN
 rw [if_neg (by show ¬ 0 + k + aS < l0;omega),if_pos (by omega),if_neg (by show ¬ 0 + k + aS < aS + k;omega),if_pos (by show 0 + k + aS = aS + k;omega)]
theorem Eh (p:Prg) (A:List Nat) (hs:aK p.body ≤ 1048576) (w:WG p.types (aC p)) (hA:nY p.types (aC p) A):PC Tryz.prog 53 [bZ p] (fun r => r = sl fK (cT p.types.length (aC p).length A)):=by
 have hpl := w.pl
 have hp0 := w.p0
 have htl := w.tl
 refine aB Tryz.func53 Tryz.ntmps53 ?_
 repeat' (first|(apply aI;(apply aA (k := 23);rfl;exact fB p hs;exact Pur.pf;rfl))|refine aD ?_|fail)
 refine dA (σ := Nat) (fun k => List.replicate k (List.replicate p.types.length false)) [1,3] [0] (fun k => [(5,iv (k : Int)),(4,.own 1 0 k 1)]) (fun k => [(1,some (flat (uU 0 p.types.length) (List.range k)))]) (fun k => k ≤ (aC p).length) (fun k => (aC p).length - k) (0) (Nat.zero_le _) ?_
 intro k hk
 try dsimp only
 repeat' (first|(apply aI;first|(with_reducible apply cF (d := 6))|(apply eW;rfl;rfl;rfl;rfl;rfl;(case hl => (simp [aQ]; done));(rfl);omega;omega;(rfl);rfl;rfl))|refine aD ?_|(refine aL ?_ ?_ <;> intro hc hq <;> try (exfalso;omega))|fail)
 ·(apply a7 (k + 1); focus (refine Le.renF1 [(0, 0), (1, 4)] 2 (R := ?qA1) (r := ?qB1) (hF := ?qF1) (hz := ?qz1) (hm := ?qm1) (hn := ?qn1) (hlb := ?qlb1) (hb := ?qb1) (hr := ?qr1) (hR := ?qR1) (h1 := ?q11) (h2 := ?q21); (case qF1 => (repeat' (first | exact FamR.here | (apply FamR.cons; focus rfl)))); (case qz1 => (rfl)); (case qm1 => rfl); (case qn1 => decide); (case qlb1 => decide); (case qb1 => decide); (case qr1 => rfl); (case qR1 => (exact List.replicate_succ')); all_goals (repeat' (first | exact trivial | refine And.intro ⟨_, rfl, ?_⟩ ?_ | refine And.intro ⟨_, _, rfl, rfl, ?_⟩ ?_ | exact RnL.purI inferInstance | exact RnV.purI inferInstance | exact RnV.own rfl | exact RnV.optr rfl | exact Be (by decide) (by simp)))))
  ·show k + 1 ≤ (aC p).length;omega
  ·show (aC p).length - (k + 1) < (aC p).length - k;omega
 ·have hkN : k = (aC p).length := by omega
  subst hkN
  refine eQ (eR ?_ (Le.frzD (d := 4) (i := 1) rfl rfl))
  repeat' (first|refine aD ?_|fail)
  refine dA (σ := List (List Bool) × Bool) (fun s => s.1) [1,3,4] [0] (fun s => [(6,bv s.2)]) (fun s => []) (fun s => LH p.types (aC p) s.1 s.2) (fun s => JY p.types.length (aC p).length s.1 s.2) (List.replicate (aC p).length (List.replicate p.types.length false),true) (LH.init _ _) ?_
  rintro ⟨R,c⟩ hLH
  try dsimp only at hLH
  try dsimp only
  have hRl := hLH.lo
  have hRr := hLH.ro
  cases c with
  | false =>
   repeat' (first|refine aD ?_|fail)
   have hfin := hLH.final w hA
   refine aT (Le.frzAll (d := 2) (D := (List.range R.length).map fun k => 0 + k + aS) rfl (.imm (LdL.rows (b := 0) (R := R) (by (repeat' (first|exact FamR.here|(apply FamR.cons;focus rfl)))) (fun k hk => List.mem_map.2 ⟨k,by rw [List.mem_range]; omega,rfl⟩) (by omega) (fun k hk => by rw [Nat.zero_add]; exact hRr k hk)))) ?_
   refine aH rfl ⟨?_,(by (exact bC _ _))⟩
   simp only [aM]
   rw [List.drop_zero,List.take_of_length_le (by omega),hfin]
   simp only [sl,eZ]
  | true =>
   have hst := hLH.start
   repeat' (first|refine aD ?_|fail)
   refine dA (σ := Int × List (List Bool) × Bool) (fun s => s.2.1) [1,3,4] [0] (fun s => [(6,bv s.2.2),(7,iv s.1)]) (fun s => []) (fun s => -1 ≤ s.1 ∧ s.1 < (aC p).length ∧ LS p.types (aC p) R s.2.1 s.2.2 (DL s.1 0 0)) (fun s => (s.1 + 1).toNat) (((aC p).length : Int) - 1,R,false) ⟨(by show -1 ≤ ((aC p).length : Int) - 1;omega),(by show ((aC p).length : Int) - 1 < _; omega),hst⟩ ?_
   rintro ⟨z,R1,c1⟩ ⟨hz1,hz2,hL1⟩
   dsimp only at hz1 hz2 hL1
   have hl1 := hL1.lo
   try dsimp only
   repeat' (first|refine aD ?_|(refine aL ?_ ?_ <;> intro hc hq <;> try (exfalso;omega))|fail)
   ·have hnl := w.nl z.toNat (by omega)
    refine dA (σ := Nat × List (List Bool) × Bool) (fun s => s.2.1) [1,3,4,7] [0] (fun s => [(6,bv s.2.2),(8,iv (s.1 : Int))]) (fun s => []) (fun s => s.1 ≤ (aC p)[z.toNat]!.next.length ∧ LS p.types (aC p) R s.2.1 s.2.2 (DL z s.1 0)) (fun s => (aC p)[z.toNat]!.next.length - s.1) (0,R1,c1) ⟨Nat.zero_le _,hL1⟩ ?_
    rintro ⟨kk,R2,c2⟩ ⟨hk,hL2⟩
    dsimp only at hk hL2
    have hl2 := hL2.lo
    try dsimp only
    by_cases hkn : kk < (aC p)[z.toNat]!.next.length
    ·have hnx := w.nx z.toNat (by omega) _ (bD _ _ hkn)
     repeat' (first|refine aD ?_|(refine aL ?_ ?_ <;> intro hc hq <;> try (exfalso;omega))|fail)
     refine dA (σ := Nat × List (List Bool) × Bool) (fun s => s.2.1) [1,3,4,7,8,9] [0] (fun s => [(6,bv s.2.2),(10,iv (s.1 : Int))]) (fun s => []) (fun s => s.1 ≤ p.types.length ∧ LS p.types (aC p) R s.2.1 s.2.2 (DL z kk s.1)) (fun s => p.types.length - s.1) (0,R2,c2) ⟨Nat.zero_le _,hL2⟩ ?_
     rintro ⟨v,R3,c3⟩ ⟨hv,hL3⟩
     dsimp only at hv hL3
     try dsimp only
     have hl3 := hL3.lo
     have hr3 := hL3.ro z.toNat (by omega)
     have hr3n := hL3.ro ((aC p)[z.toNat]!.next[kk]!).toNat (by omega)
     by_cases hvn : v < p.types.length
     ·repeat' (first | (apply aI; first | (apply Er;rfl;(case hF => (repeat' (first | exact FamR.here | (apply FamR.cons; focus rfl))));(omega);(simp only [iM] <;> omega);rfl) | (apply gU;rfl;rfl;(first | assumption | omega);rfl;infer_instance;infer_instance;rfl) | (apply BV;rfl;rfl;(case hF => (repeat' (first | exact FamR.here | (apply FamR.cons; focus rfl))));(omega);(simp only [iM] <;> omega)) | (first | (apply aA (k := 90);rfl;(apply kK <;> (omega));exact Pur.pf;rfl) | (apply aA (k := 94);rfl;(apply mF);exact Pur.pf;rfl))) | refine aD ?_ | (refine aL ?_ ?_ <;> intro hc hq <;> try (exfalso; omega)) | (refine bT ?_ ?_ <;> intro hg hq <;> try (exfalso; omega)) | refine bV ?_|fail)
      ·(apply a7 (v + 1, _, _); focus (refine Le.renF0 [(0, 0)] (R := ?qA2) (hF := ?qF2) (hz := ?qz2) (hm := ?qm2) (hn := ?qn2) (h1 := ?q12) (h2 := ?q22); (case qF2 => (repeat' (first | exact FamR.here | (apply FamR.cons; focus rfl)))); (case qz2 => (simp only [List.length_set])); (case qm2 => rfl); (case qn2 => decide); all_goals (repeat' (first | exact trivial | refine And.intro ⟨_, rfl, ?_⟩ ?_ | refine And.intro ⟨_, _, rfl, rfl, ?_⟩ ?_ | exact RnL.purI inferInstance | exact RnV.purI inferInstance | exact RnV.optr rfl | exact RnV.imm (cE (by (simp only [List.length_replicate, List.length_set, List.length_append, List.length_singleton] at * <;> omega)))))))
       ·refine ⟨(by show v + 1 ≤ p.types.length; omega), ?_⟩
        have hf : R3[z.toNat]![v]! = false := by simp only [Nat.zero_add] at *; assumption
        have hn : fP p.types (aC p) R3 ((aC p)[z.toNat]!.next[kk]!).toNat v = true := by simp only [Nat.zero_add] at *; clear hL1 hL2 hL3 hLH hst;grind [fP]
        have hh := hL3.hit w (DL z kk (v + 1)) (by omega) hkn hvn hn hf
        simpa only [Nat.zero_add] using hh
       ·show p.types.length - (v + 1) < p.types.length - v;omega
      ·(apply a7 (v + 1, R3, c3); focus (refine Le.renF0 [(0, 0)] (R := ?qA3) (hF := ?qF3) (hz := ?qz3) (hm := ?qm3) (hn := ?qn3) (h1 := ?q13) (h2 := ?q23); (case qF3 => (repeat' (first | exact FamR.here | (apply FamR.cons; focus rfl)))); (case qz3 => (rfl)); (case qm3 => rfl); (case qn3 => decide); all_goals (repeat' (first | exact trivial | refine And.intro ⟨_, rfl, ?_⟩ ?_ | refine And.intro ⟨_, _, rfl, rfl, ?_⟩ ?_ | exact RnL.purI inferInstance | exact RnV.purI inferInstance | exact RnV.optr rfl | exact RnV.imm (cE (by (simp only [List.length_replicate, List.length_set, List.length_append, List.length_singleton] at * <;> omega)))))))
       ·refine ⟨(by show v + 1 ≤ p.types.length; omega), ?_⟩
        refine hL3.skip (i := z.toNat) (k := kk) (v := v) (fun hn => ?_) (fun i' k' v' _ _ _ hd => by unfold DL at hd ⊢; omega)
        simp only [Nat.zero_add] at *
        first
        | assumption
        | (exfalso;clear hL1 hL2 hL3 hLH hst;grind [fP])
       ·show p.types.length - (v + 1) < p.types.length - v;omega
      ·(apply a7 (v + 1, R3, c3); focus (refine Le.renF0 [(0, 0)] (R := ?qA4) (hF := ?qF4) (hz := ?qz4) (hm := ?qm4) (hn := ?qn4) (h1 := ?q14) (h2 := ?q24); (case qF4 => (repeat' (first | exact FamR.here | (apply FamR.cons; focus rfl)))); (case qz4 => (rfl)); (case qm4 => rfl); (case qn4 => decide); all_goals (repeat' (first | exact trivial | refine And.intro ⟨_, rfl, ?_⟩ ?_ | refine And.intro ⟨_, _, rfl, rfl, ?_⟩ ?_ | exact RnL.purI inferInstance | exact RnV.purI inferInstance | exact RnV.optr rfl | exact RnV.imm (cE (by (simp only [List.length_replicate, List.length_set, List.length_append, List.length_singleton] at * <;> omega)))))))
       ·refine ⟨(by show v + 1 ≤ p.types.length; omega), ?_⟩
        refine hL3.skip (i := z.toNat) (k := kk) (v := v) (fun hn => ?_) (fun i' k' v' _ _ _ hd => by unfold DL at hd ⊢; omega)
        simp only [Nat.zero_add] at *
        first
        | assumption
        | (exfalso;clear hL1 hL2 hL3 hLH hst;grind [fP])
       ·show p.types.length - (v + 1) < p.types.length - v;omega
      ·(apply a7 (v + 1, R3, c3); focus (refine Le.renF0 [(0, 0)] (R := ?qA5) (hF := ?qF5) (hz := ?qz5) (hm := ?qm5) (hn := ?qn5) (h1 := ?q15) (h2 := ?q25); (case qF5 => (repeat' (first | exact FamR.here | (apply FamR.cons; focus rfl)))); (case qz5 => (rfl)); (case qm5 => rfl); (case qn5 => decide); all_goals (repeat' (first | exact trivial | refine And.intro ⟨_, rfl, ?_⟩ ?_ | refine And.intro ⟨_, _, rfl, rfl, ?_⟩ ?_ | exact RnL.purI inferInstance | exact RnV.purI inferInstance | exact RnV.optr rfl | exact RnV.imm (cE (by (simp only [List.length_replicate, List.length_set, List.length_append, List.length_singleton] at * <;> omega)))))))
       ·refine ⟨(by show v + 1 ≤ p.types.length; omega), ?_⟩
        refine hL3.skip (i := z.toNat) (k := kk) (v := v) (fun hn => ?_) (fun i' k' v' _ _ _ hd => by unfold DL at hd ⊢; omega)
        simp only [Nat.zero_add] at *
        first
        | assumption
        | (exfalso;clear hL1 hL2 hL3 hLH hst;grind [fP])
       ·show p.types.length - (v + 1) < p.types.length - v;omega
      ·(apply a7 (v + 1, _, _); focus (refine Le.renF0 [(0, 0)] (R := ?qA6) (hF := ?qF6) (hz := ?qz6) (hm := ?qm6) (hn := ?qn6) (h1 := ?q16) (h2 := ?q26); (case qF6 => (repeat' (first | exact FamR.here | (apply FamR.cons; focus rfl)))); (case qz6 => (simp only [List.length_set])); (case qm6 => rfl); (case qn6 => decide); all_goals (repeat' (first | exact trivial | refine And.intro ⟨_, rfl, ?_⟩ ?_ | refine And.intro ⟨_, _, rfl, rfl, ?_⟩ ?_ | exact RnL.purI inferInstance | exact RnV.purI inferInstance | exact RnV.optr rfl | exact RnV.imm (cE (by (simp only [List.length_replicate, List.length_set, List.length_append, List.length_singleton] at * <;> omega)))))))
       ·refine ⟨(by show v + 1 ≤ p.types.length; omega), ?_⟩
        have hf : R3[z.toNat]![v]! = false := by simp only [Nat.zero_add] at *; assumption
        have hn : fP p.types (aC p) R3 ((aC p)[z.toNat]!.next[kk]!).toNat v = true := by simp only [Nat.zero_add] at *; clear hL1 hL2 hL3 hLH hst;grind [fP]
        have hh := hL3.hit w (DL z kk (v + 1)) (by omega) hkn hvn hn hf
        simpa only [Nat.zero_add] using hh
       ·show p.types.length - (v + 1) < p.types.length - v;omega
      ·(apply a7 (v + 1, R3, c3); focus (refine Le.renF0 [(0, 0)] (R := ?qA7) (hF := ?qF7) (hz := ?qz7) (hm := ?qm7) (hn := ?qn7) (h1 := ?q17) (h2 := ?q27); (case qF7 => (repeat' (first | exact FamR.here | (apply FamR.cons; focus rfl)))); (case qz7 => (rfl)); (case qm7 => rfl); (case qn7 => decide); all_goals (repeat' (first | exact trivial | refine And.intro ⟨_, rfl, ?_⟩ ?_ | refine And.intro ⟨_, _, rfl, rfl, ?_⟩ ?_ | exact RnL.purI inferInstance | exact RnV.purI inferInstance | exact RnV.optr rfl | exact RnV.imm (cE (by (simp only [List.length_replicate, List.length_set, List.length_append, List.length_singleton] at * <;> omega)))))))
       ·refine ⟨(by show v + 1 ≤ p.types.length; omega), ?_⟩
        refine hL3.skip (i := z.toNat) (k := kk) (v := v) (fun hn => ?_) (fun i' k' v' _ _ _ hd => by unfold DL at hd ⊢; omega)
        simp only [Nat.zero_add] at *
        first
        | assumption
        | (exfalso;clear hL1 hL2 hL3 hLH hst;grind [fP])
       ·show p.types.length - (v + 1) < p.types.length - v;omega
     ·repeat' (first | refine aD ?_ | (refine aL ?_ ?_ <;> intro hc hq <;> try (exfalso; omega))|fail)
      ·(apply a7 (kk + 1, R3, c3); focus (refine Le.renF0 [(0, 0)] (R := ?qA8) (hF := ?qF8) (hz := ?qz8) (hm := ?qm8) (hn := ?qn8) (h1 := ?q18) (h2 := ?q28); (case qF8 => (repeat' (first | exact FamR.here | (apply FamR.cons; focus rfl)))); (case qz8 => (rfl)); (case qm8 => rfl); (case qn8 => decide); all_goals (repeat' (first | exact trivial | refine And.intro ⟨_, rfl, ?_⟩ ?_ | refine And.intro ⟨_, _, rfl, rfl, ?_⟩ ?_ | exact RnL.purI inferInstance | exact RnV.purI inferInstance | exact RnV.optr rfl | exact RnV.imm (cE (by (simp only [List.length_replicate, List.length_set, List.length_append, List.length_singleton] at * <;> omega)))))))
       ·refine ⟨(by show kk + 1 ≤ (aC p)[z.toNat]!.next.length; omega), ?_⟩
        exact hL3.mono fun i' k' v' _ _ _ hd => by unfold DL at hd ⊢; omega
       ·show (aC p)[z.toNat]!.next.length - (kk + 1) < (aC p)[z.toNat]!.next.length - kk;omega
    ·repeat' (first | refine aD ?_ | (refine aL ?_ ?_ <;> intro hc hq <;> try (exfalso; omega))|fail)
     ·(apply a7 (z - 1, R2, c2); focus (refine Le.renF0 [(0, 0)] (R := ?qA9) (hF := ?qF9) (hz := ?qz9) (hm := ?qm9) (hn := ?qn9) (h1 := ?q19) (h2 := ?q29); (case qF9 => (repeat' (first | exact FamR.here | (apply FamR.cons; focus rfl)))); (case qz9 => (rfl)); (case qm9 => rfl); (case qn9 => decide); all_goals (repeat' (first | exact trivial | refine And.intro ⟨_, rfl, ?_⟩ ?_ | refine And.intro ⟨_, _, rfl, rfl, ?_⟩ ?_ | exact RnL.purI inferInstance | exact RnV.purI inferInstance | exact RnV.optr rfl | exact RnV.imm (cE (by (simp only [List.length_replicate, List.length_set, List.length_append, List.length_singleton] at * <;> omega)))))))
      ·refine ⟨(by show -1 ≤ z - 1; omega), (by show z - 1 < ((aC p).length : Int); omega), ?_⟩
       refine hL2.mono fun i' k' v' _ hk' _ hd => ?_
       unfold DL at hd ⊢
       by_cases e : (i' : Int) = z
       ·have e2 : i' = z.toNat := by omega
        rw [e2] at hk'; omega
       ·omega
      ·show (z - 1 + 1).toNat < (z + 1).toNat;omega
   ·(apply a7 (R1, c1); focus (refine Le.renF0 [(0, 0)] (R := ?qA10) (hF := ?qF10) (hz := ?qz10) (hm := ?qm10) (hn := ?qn10) (h1 := ?q110) (h2 := ?q210); (case qF10 => (repeat' (first | exact FamR.here | (apply FamR.cons; focus rfl)))); (case qz10 => (rfl)); (case qm10 => rfl); (case qn10 => decide); all_goals (repeat' (first | exact trivial | refine And.intro ⟨_, rfl, ?_⟩ ?_ | refine And.intro ⟨_, _, rfl, rfl, ?_⟩ ?_ | exact RnL.purI inferInstance | exact RnV.purI inferInstance | exact RnV.optr rfl | exact RnV.imm (cE (by (simp only [List.length_replicate, List.length_set, List.length_append, List.length_singleton] at * <;> omega)))))))
    ·exact (hL1.fin (by omega)).1
    ·exact (hL1.fin (by omega)).2
abbrev Ih (b nv N : Nat) : AV := .agg [.imm nv (flat (uU b N) (List.range nv)),.own (b + nv + aS) 0 N 1]
theorem Dr {m:List (Nat × Nat)}{l0 K b j:Nat}(h0:l0 ≤ aS) (hj:j = K):gN m ⟨l0,aS + K⟩ (some b) (j + aS) = some b:=by
 subst hj
 unfold gN
 rw [if_neg (by show ¬ j + aS < l0;omega),if_pos (by omega),if_neg (by show ¬ j + aS < aS + j;omega),if_pos (by show j + aS = aS + j;omega)]
theorem Cw (nv N:Nat) (hnv:nv ≤ 6) (hN:N ≤ 61):J1 Tryz.prog 116 [iv (nv:Int),iv (N:Int)] (Ih 0 nv N) (List.replicate (nv + 1) (List.replicate N false)):=by
 refine C4 Tryz.func116 Tryz.ntmps116 ?_
 repeat' (first|(apply aI;first|(apply mL (d := 9);rfl;exact (rfl:_=some [_,_]);rfl)|(with_reducible apply cF (d := 6)))|refine aD ?_|fail)
 refine eQ (eR ?_ (Le.nilCell (i := 2) 1 [] rfl (by decide) (by decide)))
 repeat' (first|refine aD ?_|fail)
 refine dA (σ := Nat) (fun k => List.replicate k (List.replicate N false)) [0,1,4,5] [1,0] (fun k => [(6,iv (k : Int))]) (fun k => [(2,some [.own 3 0 k 1,.own 1 0 N 1]),(3,some (flat (uU 0 N) (List.range k)))]) (fun k => k ≤ nv) (fun k => nv - k) (0) (Nat.zero_le _) ?_
 intro k hk
 try dsimp only
 repeat' (first|(apply aI;first|(apply eW;rfl;rfl;rfl;rfl;rfl;(case hl => (simp [aQ]; done));(rfl);omega;omega;(rfl);rfl;rfl)|(apply cS;rfl;rfl;rfl;rfl;rfl;(case hl => (simp;done));(exact (rfl:_=[_,_]))))|refine aD ?_|(refine aL ?_ ?_ <;> intro hc hq <;> try (exfalso;omega))|refine bV ?_|fail)
 ·(apply a7 (k + 1); focus (refine Le.renF1 [(0, 0), (1, 1), (2, 2), (3, 6)] 4 (R := ?qA1) (r := ?qB1) (hF := ?qF1) (hz := ?qz1) (hm := ?qm1) (hn := ?qn1) (hlb := ?qlb1) (hb := ?qb1) (hr := ?qr1) (hR := ?qR1) (h1 := ?q11) (h2 := ?q21); (case qF1 => (repeat' (first | exact FamR.here | (apply FamR.cons; focus rfl)))); (case qz1 => (rfl)); (case qm1 => rfl); (case qn1 => decide); (case qlb1 => decide); (case qb1 => decide); (case qr1 => rfl); (case qR1 => (exact List.replicate_succ')); all_goals (repeat' (first | exact trivial | refine And.intro ⟨_, rfl, ?_⟩ ?_ | refine And.intro ⟨_, _, rfl, rfl, ?_⟩ ?_ | exact RnL.purI inferInstance | exact RnV.purI inferInstance | exact RnV.own rfl | exact RnV.optr rfl | exact RnL.nil | refine RnL.cons ?_ ?_ | exact Be (by decide) (by simp)))))
  ·show k + 1 ≤ nv;omega
  ·show nv - (k + 1) < nv - k;omega
 ·have e : k = nv := by omega
  subst e
  refine aT (Le.renF1 [(0, 0), (3, 3)] 1 (ts' := [(4, .optr 0 0)]) (lits := [(0, some [.own 3 0 k 1, .own (0 + k + aS) 0 N 1]), (3, some (flat (uU 0 N) (List.range k)))]) (n' := 4) (R := List.replicate k (List.replicate N false)) (r := List.replicate N false) (R' := List.replicate (k + 1) (List.replicate N false)) (by (repeat' (first | exact FamR.here | (apply FamR.cons; focus rfl)))) rfl rfl (by decide) (by decide) (by decide) rfl List.replicate_succ' ⟨⟨_, rfl, .optr rfl⟩, trivial⟩
   ⟨⟨0,_,rfl,rfl,.cons (.own rfl) (.cons (.own (Dr (by decide) (by simp))) .nil)⟩,⟨3,_,rfl,rfl,cE (by simp)⟩,trivial⟩) ?_
  refine aT (Le.frzC (j := 0) (i := 3) [] rfl rfl (by decide)) ?_
  refine aH (l := [.agg [_,_]]) rfl ?_
  exact Ie rfl (by (repeat' (first|exact FamR.here|(apply FamR.cons;focus rfl))))
theorem Iu {R0:List (List Bool)}{k N:Nat}(hk:k < R0.length) (hN:R0[k]!.length = N):flat fK (R0.take (k + 1)) = ((flat fK (R0.take k)).drop 0).take (k * 1) ++ [.imm (0 + N) (flat cB R0[0 + k]!)]:=by
 have e : ((flat fK (R0.take k)).drop 0).take (k * 1) = flat fK (R0.take k) := List.take_of_length_le (by rw [List.drop_zero,aQ fK (e := 1)]; simp;omega)
 rw [e,bJ _ _ hk,← bX,jU,Nat.zero_add,Nat.zero_add,← hN]; rfl
theorem JN {ρ:Nat → Option Nat}{a b:List AV}[h:Pur a] (e:a = b):RnL ρ a b := by subst e;exact .pur h.pf
theorem D6 (nv N:Nat) (R0:List (List Bool)) (hnv:nv ≤ 6) (hN:N ≤ 61) (hl:R0.length = nv + 1) (hr:∀ k,k < nv + 1 → R0[k]!.length = N):Jm Tryz.prog 139 [Ih 0 nv N] R0 (.agg [.own 0 0 nv 1,.own 1 0 N 1]) [(0,some (flat fK (R0.take nv))),(1,some (flat cB R0[nv]!))]:=by
 have hrn := hr nv (by omega)
 refine wZ Tryz.func139 Tryz.ntmps139 ?_
 repeat' (first|(apply aI;first|(apply mL (d := 9);rfl;exact (rfl:_=some [_,_]);rfl)|(with_reducible apply cF (d := 4))|(apply eW;rfl;rfl;rfl;rfl;rfl;(case hl => (simp [aQ]; done));(case hs' => (apply C8;(focus (repeat' (first|exact FamR.here|(apply FamR.cons;focus rfl))));(focus (omega));(simp only [iM] <;> omega)));omega;omega;(exact qB (by (omega)));rfl;rfl)|(apply cS;rfl;rfl;rfl;rfl;rfl;(case hl => (simp;done));(exact (rfl:_=[_,_]))))|refine aD ?_|fail)
 refine eQ (eR ?_ (Le.nilCell (i := 4) 1 [] rfl (by decide) (by decide)))
 repeat' (first|refine aD ?_|fail)
 refine dA (σ := Nat) (fun k => R0) [1,2,3] [3,1,0] (fun k => [(4,iv (k : Int))]) (fun k => [(4,some [.own 5 0 k 1,.own 3 0 (0 + N) 1]),(5,some (flat fK (R0.take k)))]) (fun k => k ≤ nv) (fun k => nv - k) (0) (Nat.zero_le _) ?_
 intro k hk
 try dsimp only
 have hrk : k < nv → R0[k]!.length = N := fun h => hr k (by omega)
 repeat' (first|(apply aI;first|(apply lG;rfl;rfl;(omega);rfl;infer_instance;infer_instance;rfl)|(apply eW;rfl;rfl;rfl;rfl;rfl;(case hl => first|(rw [aQ]; simp only [iM] <;> omega)|(simp [aQ]; done));(case hs' => first|(apply C8;(focus (repeat' (first|exact FamR.here|(apply FamR.cons;focus rfl))));(focus (omega));(simp only [iM] <;> omega))|rfl);omega;omega;(first|exact qB (by (omega))|rfl);rfl;rfl)|(apply cS;rfl;rfl;rfl;rfl;rfl;(case hl => (simp;done));(exact (rfl:_=[_,_]))))|refine aD ?_|(refine aL ?_ ?_ <;> intro hc hq <;> try (exfalso;omega))|refine bV ?_|fail)
 ·(apply a7 (k + 1); focus (refine Le.trans (Le.frzC (j := 9) (i := 7) (((flat fK (R0.take k)).drop 0).take (k * 1)) rfl rfl (by decide)) ?_; refine Le.renF0 [(0, 0), (1, 1), (3, 3), (4, 4), (5, 9)] (R := ?qA1) (hF := ?qF1) (hz := ?qz1) (hm := ?qm1) (hn := ?qn1) (h1 := ?q11) (h2 := ?q21); (case qF1 => (repeat' (first | exact FamR.here | (apply FamR.cons; focus rfl)))); (case qz1 => (rfl)); (case qm1 => rfl); (case qn1 => decide); all_goals (repeat' (first | exact trivial | refine And.intro ⟨_, rfl, ?_⟩ ?_ | refine And.intro ⟨_, _, rfl, rfl, ?_⟩ ?_ | exact RnL.purI inferInstance | exact RnV.purI inferInstance | exact RnV.own rfl | exact RnV.optr rfl | exact RnL.nil | refine RnL.cons ?_ ?_ | exact RnV.imm (cE (by (simp only [List.length_replicate, List.length_set, List.length_append, List.length_singleton] at * <;> omega))) | exact RnV.own (fG (by omega) (by show _ < aS + _; (omega))) | exact JN (Iu (by omega) (hrk (by omega)))))))
  ·show k + 1 ≤ nv;omega
  ·show nv - (k + 1) < nv - k;omega
 ·have e : k = nv := by omega
  subst e
  refine aT (Le.renF0 [(0, 5), (1, 3), (2, 1)] (ts' := [(2, .optr 2 0)]) (lits := [(2, some [.own 0 0 k 1, .own 1 0 (0 + N) 1]), (0, some (flat fK (R0.take k))), (1, some (flat cB R0[0 + k]!))]) (n' := 3) (R := R0) (by (repeat' (first | exact FamR.here | (apply FamR.cons; focus rfl)))) rfl rfl (by decide) ⟨⟨_, rfl, .optr rfl⟩, trivial⟩
   ⟨⟨1,_,rfl,rfl,.cons (.own rfl) (.cons (.own rfl) .nil)⟩,⟨5,_,rfl,rfl,RnL.purI inferInstance⟩,⟨3,_,rfl,rfl,RnL.purI inferInstance⟩,trivial⟩) ?_
  refine aH (l := [.agg [_,_]]) rfl ?_
  simp only [Nat.zero_add]
  exact nB rfl ⟨.inr rfl,.inr rfl,trivial⟩ (by (repeat' (first|exact FamR.here|(apply FamR.cons;focus rfl))))
theorem rT {fr:List (List Bool)}{pl:List Bool}{pts:List Pnt}{v:Int}{nv M:Nat}{x0 x1 x2:Operand}{i0 i1:Nat}(ha0:ev (lk tsl) x0 = some (.agg [.own i0 0 nv 1,.own i1 0 M 1])) (ha1:ev (lk tsl) x1 = some (sl bK pts)) (ha2:ev (lk tsl) x2 = some (iv v)) (hH0:aP hsl i0 = some (flat fK fr)) (hH1:aP hsl i1 = some (flat cB pl)) (hdd:Go.AL.distinct [i0,i1] = true) (hmc:MC Tryz.prog 141 [.agg [.own 0 0 nv 1,.own 1 0 M 1],sl bK pts,iv v] [(0,some (flat fK fr)),(1,some (flat cB pl))] 2 (fun _:Unit => True) (fun _ => .tup []) (fun _ => [(0,some (flat fK fr)),(1,some (flat cB (pU pts v pl)))])) (hM:Nat.ble (nidl + 0) aS = true) (hN:Nat.blt d N = true){md':Md}[hmd:MdA md (iD [x0,x1,x2] ++ [.inr i0,.inr i1]) (List.map Sum.inr (List.map Prod.fst ([(i0,some (flat fK fr)),(i1,some (flat cB (pU pts v pl)))]:List (Nat × Option (List AV)))) ++ [.inl d]) md'] (kk:RW Tryz.prog N all Q md' rest ⟨(d,.tup []) :: tsl,kO hsl [(i0,some (flat fK fr)),(i1,some (flat cB (pU pts v pl)))],nidl + 0,z0⟩):RW Tryz.prog N all Q md (⟨some d,.call ⟨.value (.func 141),#[x0,x1,x2],tys⟩,ty,pos,af,none⟩ :: rest) ⟨tsl,hsl,nidl,z0⟩:=by
 exact bR (l := [x0,x1,x2]) [i0,i1] 2 [(i0,some (flat fK fr)),(i1,some (flat cB (pU pts v pl)))] hmc (avs := [.agg [.own i0 0 nv 1,.own i1 0 M 1],sl bK pts,iv v]) (by simp only [evL,ha0,ha1,ha2]) hdd hM hN (md' := md') (hmd := hmd) kk
theorem wO (fr:List (List Bool)) (pl:List Bool) (pts:List Pnt) (v:Int) (nv M:Nat) (hN:M = pl.length) (hl:pts.length = pl.length) (hpl:pts.length ≤ 61):MC Tryz.prog 141 [.agg [.own 0 0 nv 1,.own 1 0 M 1],sl bK pts,iv v] [(0,some (flat fK fr)),(1,some (flat cB pl))] 2 (fun _:Unit => True) (fun _ => .tup []) (fun _ => [(0,some (flat fK fr)),(1,some (flat cB (pU pts v pl)))]):=by
 refine bU Tryz.func141 Tryz.ntmps141 ?_
 repeat' (first|refine aD ?_|fail)
 refine aJ (σ := Nat × List Bool) [1,2,3] [0,2] (fun k => [(6,iv (k.1 : Int))]) (fun k => [(1,some (flat cB k.2))]) (fun k => k.1 ≤ pts.length ∧ k.2.length = pl.length ∧ (∀ l,l < pl.length → k.2[l]! = if l < k.1 then (pU pts v pl)[l]! else pl[l]!)) (fun k => pts.length - k.1) (0,pl) ⟨by omega,rfl,fun l hl => by rw [if_neg (by omega)]⟩ ?_
 rintro ⟨k,u⟩ ⟨hk,hul,hu⟩
 dsimp only at hk hul hu
 try dsimp only
 have hstep : ∀ l,l < pl.length → (pU pts v pl)[l]! = (pl[l]! && !((decide (pts[l]!.op = 4) || decide (pts[l]!.op = 5)) && decide (pts[l]!.y = v))) := fun l hl => uK pts v pl l hl
 repeat' (first|refine aD ?_|(refine aL ?_ ?_ <;> intro hc hq <;> try (exfalso;omega))|(refine bT ?_ ?_ <;> intro hg hq <;> try (exfalso;omega))|fail)
 ·(refine a7 (k + 1, _) (Le.renA [(2, 2)]) ?_ ?_)
  ·refine ⟨(by show k + 1 ≤ pts.length; omega), (by show (u.set k false).length = pl.length; rw [List.length_set]; exact hul), fun l hl => ?_⟩
   show (u.set k false)[l]! = if l < k + 1 then (pU pts v pl)[l]! else pl[l]!
   have hs := hstep l hl
   rw [aR,hu l hl]
   clear hu hstep
   grind
  ·show pts.length - (k + 1) < pts.length - k;omega
 ·(refine a7 (k + 1, u) (Le.renA [(2, 2)]) ?_ ?_)
  ·refine ⟨(by show k + 1 ≤ pts.length; omega), hul, fun l hl => ?_⟩
   show u[l]! = if l < k + 1 then (pU pts v pl)[l]! else pl[l]!
   have hs := hstep l hl
   rw [hu l hl]
   clear hu hstep
   grind
  ·show pts.length - (k + 1) < pts.length - k;omega
 ·(refine a7 (k + 1, u) (Le.renA [(2, 2)]) ?_ ?_)
  ·refine ⟨(by show k + 1 ≤ pts.length; omega), hul, fun l hl => ?_⟩
   show u[l]! = if l < k + 1 then (pU pts v pl)[l]! else pl[l]!
   have hs := hstep l hl
   rw [hu l hl]
   clear hu hstep
   grind
  ·show pts.length - (k + 1) < pts.length - k;omega
 ·(refine a7 (k + 1, _) (Le.renA [(2, 2)]) ?_ ?_)
  ·refine ⟨(by show k + 1 ≤ pts.length; omega), (by show (u.set k false).length = pl.length; rw [List.length_set]; exact hul), fun l hl => ?_⟩
   show (u.set k false)[l]! = if l < k + 1 then (pU pts v pl)[l]! else pl[l]!
   have hs := hstep l hl
   rw [aR,hu l hl]
   clear hu hstep
   grind
  ·show pts.length - (k + 1) < pts.length - k;omega
 ·(refine a7 (k + 1, u) (Le.renA [(2, 2)]) ?_ ?_)
  ·refine ⟨(by show k + 1 ≤ pts.length; omega), hul, fun l hl => ?_⟩
   show u[l]! = if l < k + 1 then (pU pts v pl)[l]! else pl[l]!
   have hs := hstep l hl
   rw [hu l hl]
   clear hu hstep
   grind
  ·show pts.length - (k + 1) < pts.length - k;omega
 ·refine Aj (l := []) rfl ?_
  refine bQ () trivial rfl ⟨.inr rfl,sE ?_,trivial⟩
  have e : u = pU pts v pl := a8 (by rw [uC, hul]) fun l hl => by
   rw [hu l (by omega),if_pos (by omega)]
  rw [e]
theorem BB {a b:List Bool}{m m2:Nat}{x0 x1:Operand}{i0 i1:Nat}(ha0:ev (lk tsl) x0 = some (.own i0 0 m 1)) (ha1:ev (lk tsl) x1 = some (.own i1 0 m2 1)) (hH0:aP hsl i0 = some (flat cB a)) (hH1:aP hsl i1 = some (flat cB b)) (hdd:Go.AL.distinct [i0,i1] = true) (hmc:MC Tryz.prog 119 [.own 0 0 m 1,.own 1 0 m2 1] [(0,some (flat cB a)),(1,some (flat cB b))] 2 (fun _:Unit => True) (fun _ => .tup []) (fun _ => [(0,some (flat cB (eX a b))),(1,some (flat cB b))])) (hM:Nat.ble (nidl + 0) aS = true) (hN:Nat.blt d N = true){md':Md}[hmd:MdA md (iD [x0,x1] ++ [.inr i0,.inr i1]) (List.map Sum.inr (List.map Prod.fst ([(i0,some (flat cB (eX a b))),(i1,some (flat cB b))]:List (Nat × Option (List AV)))) ++ [.inl d]) md'] (kk:RW Tryz.prog N all Q md' rest ⟨(d,.tup []) :: tsl,kO hsl [(i0,some (flat cB (eX a b))),(i1,some (flat cB b))],nidl + 0,z0⟩):RW Tryz.prog N all Q md (⟨some d,.call ⟨.value (.func 119),#[x0,x1],tys⟩,ty,pos,af,none⟩ :: rest) ⟨tsl,hsl,nidl,z0⟩:=by
 exact bR (l := [x0,x1]) [i0,i1] 2 [(i0,some (flat cB (eX a b))),(i1,some (flat cB b))] hmc (avs := [.own i0 0 m 1,.own i1 0 m2 1]) (by simp only [evL,ha0,ha1]) hdd hM hN (md' := md') (hmd := hmd) kk
theorem DZ (a b:List Bool) (m m2:Nat) (hm:m = a.length) (hm':m2 = b.length) (hab:b.length ≤ a.length) (hl:a.length ≤ 1048576):MC Tryz.prog 119 [.own 0 0 m 1,.own 1 0 m2 1] [(0,some (flat cB a)),(1,some (flat cB b))] 2 (fun _:Unit => True) (fun _ => .tup []) (fun _ => [(0,some (flat cB (eX a b))),(1,some (flat cB b))]):=by
 subst hm hm'
 refine bU Tryz.func119 Tryz.ntmps119 ?_
 repeat' (first|refine aD ?_|fail)
 refine aJ (σ := Nat × List Bool) [0,1] [1] (fun k => [(4,iv (k.1 : Int))]) (fun k => [(0,some (flat cB k.2))]) (fun k => k.1 ≤ b.length ∧ k.2.length = a.length ∧ (∀ l,l < a.length → k.2[l]! = (a[l]! || (decide (l < k.1) && b[l]!)))) (fun k => b.length - k.1) (0,a) ⟨by omega,rfl,fun l hl => by simp⟩ ?_
 rintro ⟨k,u⟩ ⟨hk,hul,hu⟩
 dsimp only at hk hul hu
 try dsimp only
 repeat' (first|refine aD ?_|(refine aL ?_ ?_ <;> intro hc hq <;> try (exfalso;omega))|(refine bT ?_ ?_ <;> intro hg hq <;> try (exfalso;omega))|fail)
 ·(refine a7 (k + 1, _) (Le.renA []) ?_ ?_)
  ·refine ⟨(by show k + 1 ≤ b.length; omega), (by show (u.set k _).length = a.length; rw [List.length_set]; exact hul), fun l hl => ?_⟩
   show (u.set k _)[l]! = (a[l]! || (decide (l < k + 1) && b[l]!))
   have h1 := hu l hl
   have h2 := hu k (by omega)
   rw [aR]
   clear hu
   grind
  ·show b.length - (k + 1) < b.length - k;omega
 ·(refine a7 (k + 1, _) (Le.renA []) ?_ ?_)
  ·refine ⟨(by show k + 1 ≤ b.length; omega), (by show (u.set k _).length = a.length; rw [List.length_set]; exact hul), fun l hl => ?_⟩
   show (u.set k _)[l]! = (a[l]! || (decide (l < k + 1) && b[l]!))
   have h1 := hu l hl
   have h2 := hu k (by omega)
   rw [aR]
   clear hu
   grind
  ·show b.length - (k + 1) < b.length - k;omega
 ·refine Aj (l := []) rfl ?_
  refine bQ () trivial rfl ⟨sE ?_,.inr rfl,trivial⟩
  have e : u = eX a b := a8 (by rw [eP, hul]) fun l hl => by
   rw [dN _ _ _ (by omega),hu l (by omega)]
   clear hu
   grind
  rw [e]
theorem zD {a:List Bool}{R:List (List Bool)}{k m m2:Nat}{x0 x1:Operand}{i0:Nat}(ha0:ev (lk tsl) x0 = some (.own i0 0 m 1)) (ha1:ev (lk tsl) x1 = some (.own (k + aS) 0 m2 1))
  (hH0 : aP hsl i0 = some (flat cB a)) (hF : FamR R R hsl hsl) (hk : k < R.length) (hi : Nat.blt i0 aS = true) (hm : m = a.length) (hm2 : m2 = R[k]!.length) (hab : R[k]!.length ≤ a.length) (hl : a.length ≤ 1048576) (hM : Nat.ble (nidl + 0) aS = true) (hN : Nat.blt d N = true)
  (kk : RW Tryz.prog N all Q .txt rest ⟨(d,.tup []) :: tsl,(i0,some (flat cB (eX a R[k]!))) :: hsl,nidl + 0,z0⟩) : RW Tryz.prog N all Q .txt (⟨some d,.call ⟨.value (.func 119),#[x0,x1],tys⟩,ty,pos,af,none⟩ :: rest) ⟨tsl,hsl,nidl,z0⟩ :=
 BB (a := a) (b := R[k]!) (i0 := i0) (i1 := k + aS) ha0 ha1 hH0 (hF.get hk) (JO hi) (DZ a R[k]! m m2 hm hm2 hab hl) hM hN (md' := .txt) (eR kk (Le.fdrop (FamR.cons hi hF) hk))
theorem CS (ts:List Int) (pts:List Pnt) (w:WG ts pts) (i:Nat) (hi:i < pts.length) (R0:List (List Bool)) (hl:R0.length = ts.length + 1) (hr:∀ k,k < ts.length + 1 → R0[k]!.length = pts.length):Jm Tryz.prog 117 [sl cI ts,sl bK pts,iv (i:Int),Ih 0 ts.length pts.length] R0 (.agg [sl fK (mO ts pts i (R0.take ts.length)),sl cB (mM ts pts i R0[ts.length]!)]) []:=by
 have hrn := hr ts.length (by omega)
 have htl := w.tl
 have hpl := w.pl
 have hy := w.y i hi
 have hset := w.set i hi
 refine wZ Tryz.func117 Tryz.ntmps117 ?_
 repeat' (first|(apply aI;first|(with_reducible apply cF (d := 19))|(apply cS;rfl;rfl;rfl;rfl;rfl;(case hl => (simp;done));(exact (rfl:_=[_,_,_,_,_]))))|refine aD ?_|fail)
 refine eQ ?_
 refine wC (R := R0) (R0 := R0) (avs := [Ih 0 ts.length pts.length]) (b := 0) (n1 := 2) (D := (List.range R0.length).map fun k => 0 + k + aS) (ws := [(3,some (flat fK (R0.take ts.length))),(4,some (flat cB R0[ts.length]!))]) (rr' := .agg [.own 3 0 ts.length 1,.own 4 0 pts.length 1]) (md' := .txt) rfl (D6 ts.length pts.length R0 htl hpl hl hr) (by (repeat' (first|exact FamR.here|(apply FamR.cons;focus rfl)))) (by omega) (fun k hk => by rw [Nat.zero_add]) (fun k hk => List.mem_map.2 ⟨k,by rw [List.mem_range]; exact hk,rfl⟩) ?_ rfl ?_ ?_ rfl rfl ?_
 ·refine .cons (.agg (.cons (.imm (rn_rows fun k hk => ?_)) (.cons (.own ?_) .nil))) .nil
  ·rw [Nat.zero_add,kG (by omega),Nat.zero_add]
  ·rw [Nat.zero_add,kG (by omega),Nat.zero_add]
 ·exact .agg (.cons (.own (oE (j := 0) (by decide) (by decide))) (.cons (.own (oE (j := 1) (by decide) (by decide))) .nil))
 ·exact ⟨⟨0,_,oE (j := 0) (by decide) (by decide),rfl,RnL.purI inferInstance⟩,⟨1,_,oE (j := 1) (by decide) (by decide),rfl,RnL.purI inferInstance⟩,trivial⟩
 have hfr : ∀ v,v < ts.length → (R0.take ts.length)[v]! = R0[v]! := fun v hv => by rw [bE _ _ (by rw [List.length_take]; omega),bE _ _ (by omega),List.getElem_take]
 have hY : ∀ l, l < pts.length → pts[i]!.op = 3 ∨ pts[i]!.op = 4 ∨ pts[i]!.op = 5 → (R0.take ts.length)[pts[i]!.y.toNat]![l]! = R0[0 + pts[i]!.y.toNat]![l]! ∧ R0[0 + pts[i]!.y.toNat]!.length = pts.length := fun l hl h => by
  rw [Nat.zero_add]; exact ⟨by rw [hfr _ (by omega)],hr _ (by omega)⟩
 have eA : pts[i]!.op = 3 → eX (List.replicate pts.length false) R0[0 + pts[i]!.y.toNat]! = oP ts pts i (R0.take ts.length) := fun h => a8 (by rw [eP, gC]; simp) fun l hl => by
  rw [eP,List.length_replicate] at hl
  have h1 := hY l hl (.inl h)
  rw [dN _ _ _ (by simpa using hl),gG _ _ _ _ _ hl,if_pos h,cO _ _ _ hl,h1.1,decide_eq_true (by omega)]; rfl
 have eB : pts[i]!.op = 4 ∨ pts[i]!.op = 5 → gQ ts[pts[i]!.y.toNat]! = true → eX ((List.replicate pts.length false).set i true) R0[0 + pts[i]!.y.toNat]! = oP ts pts i (R0.take ts.length) := fun h h' => a8 (by rw [eP, gC]; simp) fun l hl => by
  rw [eP,List.length_set,List.length_replicate] at hl
  have h1 := hY l hl (.inr h)
  have h2 : bI pts[i]! = true := by unfold bI;rcases h with h|h <;> rw [h] <;> rfl
  rw [dN _ _ _ (by simpa using hl),gG _ _ _ _ _ hl,if_neg (by omega),h1.1,h2,h',aR,cO _ _ _ hl,decide_eq_true (by omega)]
  by_cases e : l = i
  ·subst e;simp [hl]
  ·rw [if_neg (fun q => e q.1.symm),decide_eq_false e]; simp
 have eC : pts[i]!.op = 4 ∨ pts[i]!.op = 5 → gQ ts[pts[i]!.y.toNat]! = false → (List.replicate pts.length false).set i true = oP ts pts i (R0.take ts.length) := fun h h' => a8 (by rw [gC]; simp) fun l hl => by
  rw [List.length_set,List.length_replicate] at hl
  have h2 : bI pts[i]! = true := by unfold bI;rcases h with h|h <;> rw [h] <;> rfl
  rw [gG _ _ _ _ _ hl,if_neg (by omega),h2,h',aR,cO _ _ _ hl]
  by_cases e : l = i
  ·subst e;simp [hl]
  ·rw [if_neg (fun q => e q.1.symm),decide_eq_false e]; simp
 have eD : ¬ pts[i]!.op = 3 → ¬ pts[i]!.op = 4 → ¬ pts[i]!.op = 5 → List.replicate pts.length false = oP ts pts i (R0.take ts.length) := fun h3 h4 h5 => a8 (by rw [gC]; simp) fun l hl => by
  rw [List.length_replicate] at hl
  have h2 : bI pts[i]! = false := by unfold bI;rw [decide_eq_false h4,decide_eq_false h5]; rfl
  rw [gG _ _ _ _ _ hl,if_neg h3,h2,cO _ _ _ hl]; rfl
 have hvl := gC ts pts i (R0.take ts.length)
 have hneg : aN pts[i]! < 0 → ¬ pts[i]!.op = 4 ∧ ¬ pts[i]!.op = 5 := fun h => by
  have h1 := w.x i hi
  unfold aN at h
  split at h
  ·omega
  ·omega
 have hQ0 : ∀ (v : Nat) (q : List Bool), ts.length ≤ v → (∀ l, l < pts.length → q[l]! = (R0[ts.length]![l]! && !(bI pts[l]! && (decide (pts[l]!.y < v) && decide (aU ts pts[i]! pts[l]!.y = 2))))) → ∀ l, l < pts.length → q[l]! = (R0[ts.length]![l]! && !(bI pts[l]! && decide (aU ts pts[i]! pts[l]!.y = 2))) := fun v q hv h l hl => by
  rw [h l hl]
  cases hln : bI pts[l]! with
  | false => rfl
  | true => have := mW w hl hln;rw [decide_eq_true (by omega : pts[l]!.y < (v : Int))]; rfl
 apply Kt
 case' main =>
  intro key
  repeat' (first|(apply aI;first|(apply zD;rfl;rfl;rfl;(case hF => (repeat' (first|exact FamR.here|(apply FamR.cons;focus rfl))));(simp only [Nat.zero_add] <;> omega);rfl;(case hm => (simp;done));(simp only [Nat.zero_add]; symm;exact hr _ (by omega));(simp only [Nat.zero_add]; rw [hr _ (by omega)]; simp);(simp;omega);rfl;rfl)|(apply gU;rfl;rfl;(omega);rfl;infer_instance;infer_instance;rfl)|(apply cS;rfl;rfl;rfl;rfl;rfl;(case hl => (first|(rw [aQ]; simp only [iM] <;> omega)|(simp;done)));(first|exact tP (by (simp only [iM] <;> omega))|exact (rfl:_=[_,_])))|(apply aA (k := 140);rfl;(apply DO);(rfl);rfl))|refine aD ?_|(refine aL ?_ ?_ <;> intro hc hq <;> try (exfalso;omega))|fail)
  all_goals first
   | rw [eA (by assumption)]
   | rw [eB (.inl (by assumption)) (by assumption)]
   | rw [eB (.inr (by assumption)) (by assumption)]
   | rw [eC (.inl (by assumption)) (by assumption)]
   | rw [eC (.inr (by assumption)) (by assumption)]
   | rw [eD (by assumption) (by assumption) (by assumption)]
  all_goals refine w8 (σ := Nat × List (List Bool) × List Bool) 0 (fun s => R0) [0, 1, 2, 8, 9, 10, 11] [(0, _), (1, _), (2, _), (8, _), (9, _), (10, _), (11, _)] [6, 5, 2, 1, 0] [(6, some _), (5, some _), (2, some _), (1, some _), (0, some _)] (fun s => [(12, iv (s.1 : Int))]) (fun s => [(3, some (flat fK s.2.1)), (4, some (flat cB s.2.2))]) (fun s => s.1 ≤ ts.length ∧ s.2.1.length = ts.length ∧ (∀ v, v < ts.length → s.2.1[v]! = if v < s.1 ∧ aU ts pts[i]! v = 2 then List.replicate pts.length false else R0[v]!) ∧ s.2.2.length = pts.length ∧ (∀ l, l < pts.length → s.2.2[l]! = (R0[ts.length]![l]! && !(bI pts[l]! && (decide (pts[l]!.y < s.1) && decide (aU ts pts[i]! pts[l]!.y = 2)))))) (fun s => ts.length - s.1) (0, R0.take ts.length, R0[ts.length]!) ⟨by omega, (by show (R0.take ts.length).length = _; rw [List.length_take]; omega), fun v hv => (by show (R0.take ts.length)[v]! = _; rw [hfr v hv, if_neg (by omega)]), hrn, fun l hl => (by
    show R0[ts.length]![l]! = _
    cases hln : bI pts[l]! with
    | false => simp
    | true => have := mW w hl hln;rw [decide_eq_false (by omega : ¬ pts[l]!.y < ((0 : Nat) : Int))]; simp)⟩ rfl rfl (by repeat' (first|exact trivial|refine And.intro rfl ?_)) (by repeat' (first|exact trivial|refine And.intro (.inr rfl) ?_)) (by (repeat' (first|exact FamR.here|(apply FamR.cons;focus rfl)))) (by (rfl)) key.pf
 rintro ⟨v,u,q⟩ ⟨hv,hul,hu,hql,hq'⟩
 dsimp only at hv hul hu hql hq'
 try dsimp only
 repeat' (first|(apply aI;first|(with_reducible apply cF (d := 73))|(with_reducible apply cF (d := 86))|(apply cS;rfl;rfl;rfl;rfl;rfl;(case hl => (first|(rw [aQ]; simp only [iM] <;> omega)|(simp;done)));(first|exact (rfl:_=[_,_])|rfl))|(first|(apply aA (k := 90);rfl;(apply kK <;> (omega));exact Pur.pf;rfl)|(apply aA (k := 94);rfl;(apply mF);exact Pur.pf;rfl)))|refine aD ?_|(refine aL ?_ ?_ <;> intro hc hq <;> try (exfalso;omega))|(refine bT ?_ ?_ <;> intro hg hq <;> try (exfalso;omega))|refine bV ?_|fail)
 ·refine eQ (eR ?_ (Le.frzRow (j := 3) (q := 7) (v := v) (u := u) (r := List.replicate pts.length false) rfl rfl (by simp) (by omega) (by decide)))
  repeat' (first|(apply aI;(apply rT;rfl;rfl;rfl;(rfl);(rfl);rfl;(apply wO <;> (first|assumption|omega));rfl;rfl))|refine aD ?_|fail)
  (apply a7 (v + 1,u.set v (List.replicate pts.length false),pU pts v q);focus (refine Le.renF0 [(0,0),(1,1),(2,2),(3,3),(4,4),(5,5),(6,6)] (R := ?qA3) (hF := ?qF3) (hz := ?qz3) (hm := ?qm3) (hn := ?qn3) (h1 := ?q13) (h2 := ?q23);(case qF3 => (repeat' (first|exact FamR.here|(apply FamR.cons;focus rfl))));(case qz3 => (rfl));(case qm3 => rfl);(case qn3 => decide);all_goals (repeat' (first|exact trivial|refine And.intro ⟨_,rfl,?_⟩ ?_|refine And.intro ⟨_,_,rfl,rfl,?_⟩ ?_|exact RnL.purI inferInstance|exact RnV.purI inferInstance|exact RnV.own rfl|exact RnV.optr rfl|exact RnL.nil|refine RnL.cons ?_ ?_|exact RnV.imm (cE (by (simp only [List.length_replicate,List.length_set,List.length_append,List.length_singleton] at * <;> omega)))|exact RnV.own (fG (by omega) (by show _ < aS + _; (omega)))))))
  ·refine ⟨(by show v + 1 ≤ ts.length; omega), (by show (u.set v _).length = ts.length; rw [List.length_set]; exact hul), fun v' hv' => ?_, (by show (pU pts v q).length = pts.length; rw [uC]; exact hql), fun l hl => ?_⟩
   ·show (u.set v (List.replicate pts.length false))[v']! = if v' < v + 1 ∧ aU ts pts[i]! v' = 2 then _ else _
    rw [aR,hu v' hv']
    by_cases e : v = v'
    ·subst e;rw [if_pos ⟨rfl,by omega⟩,if_pos ⟨by omega,by assumption⟩]
    ·rw [if_neg (fun h => e h.1)]
     by_cases e2 : v' < v ∧ aU ts pts[i]! v' = 2
     ·rw [if_pos e2,if_pos ⟨by omega,e2.2⟩]
     ·rw [if_neg e2,if_neg (fun h => e2 ⟨by omega,h.2⟩)]
   ·show (pU pts v q)[l]! = _
    have hu2 : aU ts pts[i]! v = 2 := by assumption
    rw [uK _ _ _ _ (by omega),hq' l hl]
    clear hu hq'
    by_cases hln : bI pts[l]! = true
    ·rw [hln]
     by_cases e : pts[l]!.y = v
     ·rw [e,hu2,decide_eq_true (by omega : (v : Int) < ((v + 1 : Nat) : Int))]; simp
     ·rw [decide_eq_false e]
      have e3 : decide (pts[l]!.y < ((v + 1 : Nat) : Int)) = decide (pts[l]!.y < (v : Int)) := by
       have : (pts[l]!.y < ((v + 1 : Nat) : Int)) ↔ (pts[l]!.y < (v : Int)) := by omega
       simp only [this]
      rw [e3]; simp
    ·rw [Bool.not_eq_true] at hln;rw [hln]; simp
  ·show ts.length - (v + 1) < ts.length - v;omega
 ·(apply a7 (v + 1, u, q); focus (refine Le.renF0 [(0, 0), (1, 1), (2, 2), (3, 3), (4, 4), (5, 5), (6, 6)] (R := ?qA4) (hF := ?qF4) (hz := ?qz4) (hm := ?qm4) (hn := ?qn4) (h1 := ?q14) (h2 := ?q24); (case qF4 => (repeat' (first | exact FamR.here | (apply FamR.cons; focus rfl)))); (case qz4 => (rfl)); (case qm4 => rfl); (case qn4 => decide); all_goals (repeat' (first | exact trivial | refine And.intro ⟨_, rfl, ?_⟩ ?_ | refine And.intro ⟨_, _, rfl, rfl, ?_⟩ ?_ | exact RnL.purI inferInstance | exact RnV.purI inferInstance | exact RnV.own rfl | exact RnV.optr rfl | exact RnL.nil | refine RnL.cons ?_ ?_ | exact RnV.imm (cE (by (simp only [List.length_replicate, List.length_set, List.length_append, List.length_singleton] at * <;> omega))) | exact RnV.own (fG (by omega) (by show _ < aS + _; (omega)))))))
  ·refine ⟨(by show v + 1 ≤ ts.length; omega), hul, fun v' hv' => ?_, hql, fun l hl => ?_⟩
   ·show u[v']! = if v' < v + 1 ∧ aU ts pts[i]! v' = 2 then _ else _
    rw [hu v' hv']
    have hu2 : ¬ aU ts pts[i]! v = 2 := by assumption
    by_cases e2 : v' < v ∧ aU ts pts[i]! v' = 2
    ·rw [if_pos e2,if_pos ⟨by omega,e2.2⟩]
    ·rw [if_neg e2, if_neg (fun h => (by
      by_cases e : v = v'
      ·subst e;exact hu2 h.2
      ·exact e2 ⟨by omega,h.2⟩))]
   ·show q[l]! = _
    have hu2 : ¬ aU ts pts[i]! v = 2 := by assumption
    rw [hq' l hl]
    clear hu hq'
    by_cases e : pts[l]!.y = v
    ·rw [e,decide_eq_false hu2]; simp
    ·have e3 : decide (pts[l]!.y < ((v + 1 : Nat) : Int)) = decide (pts[l]!.y < (v : Int)) := by
      have : (pts[l]!.y < ((v + 1 : Nat) : Int)) ↔ (pts[l]!.y < (v : Int)) := by omega
      simp only [this]
     rw [e3]
  ·show ts.length - (v + 1) < ts.length - v;omega
 ·refine eQ (eR ?_ (Le.frzRow (j := 3) (q := 6) (v := (aN pts[i]!).toNat) (u := u) (r := oP ts pts i (R0.take ts.length)) rfl rfl (by omega) (by omega) (by decide)))
  have hlo : (pU pts (aN pts[i]!) q).length = pts.length := by rw [uC]; exact hql
  have hQ := fun l hl => hQ0 v q (by omega) hq' l hl
  have eU : u.set (aN pts[i]!).toNat (oP ts pts i (R0.take ts.length)) = mO ts pts i (R0.take ts.length) := a8 (by rw [cZ]; simp; omega) fun v' hv' => by
   rw [List.length_set] at hv'
   rw [aR,iW _ _ _ _ _ (by omega),hu v' (by omega),hfr v' (by omega)]
   by_cases e : aN pts[i]! = v'
   ·rw [if_pos ⟨by omega,hv'⟩,if_pos e]
   ·rw [if_neg (fun h => e (by omega)), if_neg e]
    by_cases e2 : aU ts pts[i]! v' = 2
    ·rw [if_pos ⟨by omega,e2⟩,if_pos e2]
    ·rw [if_neg (fun h => e2 h.2),if_neg e2]
  have eL : ∀ l, l < pts.length → (pU pts (aN pts[i]!) q)[l]! = (R0[ts.length]![l]! && !(bI pts[l]! && (decide (aU ts pts[i]! pts[l]!.y = 2) || decide (aN pts[i]! = pts[l]!.y)))) := fun l hl => by
   rw [uK _ _ _ _ (by omega),hQ l hl]
   have : decide (pts[l]!.y = aN pts[i]!) = decide (aN pts[i]! = pts[l]!.y) := by simp only [eq_comm]
   rw [this]
   cases R0[ts.length]![l]! <;> cases bI pts[l]! <;> cases decide (aU ts pts[i]! pts[l]!.y = 2) <;> cases decide (aN pts[i]! = pts[l]!.y) <;> rfl
  have eQ1 : bI pts[i]! = true → (pU pts (aN pts[i]!) q).set i true = mM ts pts i R0[ts.length]! := fun h => a8 (by rw [bY, List.length_set, hlo]) fun l hl => by
   rw [List.length_set,hlo] at hl
   rw [aR,kF _ _ _ _ _ hl,eL l hl,h,hlo]
   by_cases e : l = i
   ·subst e;rw [if_pos ⟨rfl,hl⟩,decide_eq_true rfl]; rfl
   ·rw [if_neg (fun q => e q.1.symm),decide_eq_false e]; rfl
  have eQ0 : bI pts[i]! = false → pU pts (aN pts[i]!) q = mM ts pts i R0[ts.length]! := fun h => a8 (by rw [bY, hlo]) fun l hl => by
   rw [hlo] at hl
   rw [kF _ _ _ _ _ hl,eL l hl,h]; rfl
  repeat' (first|(apply aI;first|(apply cS;rfl;rfl;rfl;rfl;rfl;(case hl => (first|(rw [aQ]; simp only [iM] <;> omega)|(simp;done)));(first|exact tP (by (omega))|exact (rfl:_=[_,_])))|(apply rT;rfl;rfl;rfl;(rfl);(rfl);rfl;(apply wO <;> (first|assumption|omega));rfl;rfl))|refine aD ?_|(refine aL ?_ ?_ <;> intro hc hq <;> try (exfalso;omega))|(refine bT ?_ ?_ <;> intro hg hq <;> try (exfalso;omega))|fail)
  ·refine aT ((Le.frzC (j := 1) (i := 3) [] rfl rfl (by decide)).trans (Le.frzC (j := 1) (i := 4) [_] rfl rfl (by decide))) ?_
   refine aH (l := [.agg [_,_]]) rfl ?_
   refine nB ?_ trivial (by (repeat' (first|exact FamR.here|(apply FamR.cons;focus rfl))))
   simp only [aM]
   rw [eU,eQ1 (by unfold bI;rw [decide_eq_true ‹pts[i]!.op = 5›]; simp)]
   simp only [sl,cZ,bY]
  ·refine aT ((Le.frzC (j := 1) (i := 3) [] rfl rfl (by decide)).trans (Le.frzC (j := 1) (i := 4) [_] rfl rfl (by decide))) ?_
   refine aH (l := [.agg [_,_]]) rfl ?_
   refine nB ?_ trivial (by (repeat' (first|exact FamR.here|(apply FamR.cons;focus rfl))))
   simp only [aM]
   rw [eU,eQ0 (by unfold bI;rw [decide_eq_false ‹¬ pts[i]!.op = 4›,decide_eq_false ‹¬ pts[i]!.op = 5›]; rfl)]
   simp only [sl,cZ,bY]
  ·refine aT ((Le.frzC (j := 1) (i := 3) [] rfl rfl (by decide)).trans (Le.frzC (j := 1) (i := 4) [_] rfl rfl (by decide))) ?_
   refine aH (l := [.agg [_,_]]) rfl ?_
   refine nB ?_ trivial (by (repeat' (first|exact FamR.here|(apply FamR.cons;focus rfl))))
   simp only [aM]
   rw [eU,eQ1 (by unfold bI;rw [decide_eq_true ‹pts[i]!.op = 4›]; rfl)]
   simp only [sl,cZ,bY]
 ·have hQ := fun l hl => hQ0 v q (by omega) hq' l hl
  have eU : u = mO ts pts i (R0.take ts.length) := a8 (by rw [cZ]; omega) fun v' hv' => by
   rw [iW _ _ _ _ _ (by omega),hu v' (by omega),hfr v' (by omega),if_neg (by omega : ¬ aN pts[i]! = (v' : Int))]
   by_cases e2 : aU ts pts[i]! v' = 2
   ·rw [if_pos ⟨by omega,e2⟩,if_pos e2]
   ·rw [if_neg (fun h => e2 h.2),if_neg e2]
  have eQ0 : bI pts[i]! = false → q = mM ts pts i R0[ts.length]! := fun h => a8 (by rw [bY, hql]) fun l hl => by
   rw [hql] at hl
   rw [kF _ _ _ _ _ hl,hQ l hl,h]
   cases hln : bI pts[l]! with
   | false => simp
   | true => have := mW w hl hln;rw [decide_eq_false (by omega : ¬ aN pts[i]! = pts[l]!.y)]; simp
  refine aT ((Le.frzC (j := 1) (i := 3) [] rfl rfl (by decide)).trans (Le.frzC (j := 1) (i := 4) [_] rfl rfl (by decide))) ?_
  refine aH (l := [.agg [_,_]]) rfl ?_
  refine nB ?_ trivial (by (repeat' (first|exact FamR.here|(apply FamR.cons;focus rfl))))
  simp only [aM]
  rw [eU,eQ0 (by unfold bI;rw [decide_eq_false ‹¬ pts[i]!.op = 4›,decide_eq_false ‹¬ pts[i]!.op = 5›]; rfl)]
  simp only [sl,cZ,bY]
end Go.Proofs.YtgkalkgplcdnkaaGreatDoor
