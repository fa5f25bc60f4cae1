/-
 A part of the proofs over this program: rules and contracts of its functions (the contracts).
-/
import Derived.Test.YtahdccneecdmmaaGreatJ3B05
set_option linter.unusedVariables false
set_option linter.unusedSimpArgs false
set_option maxHeartbeats 8000000
set_option maxRecDepth 4000
attribute [local irreducible] Go.AL.RW Go.AL.AW Go.AL.Stop
namespace Go.Proofs.YtahdccneecdmmaaGreat
open Go.AL Go.RowKit
variable {N : Nat} {Q : Exit → AS → Prop} {all : Array Oper} {rest : List Oper} {tsl : List (Nat × AV)} {hsl : List (Nat × Option (List AV))} {nidl : Nat} {z0 : Lo} {md : Md} {d : Nat} {ty : TypeId} {pos : String} {af : Array Edge} {tys : Array TypeId}
theorem Dm (m:List Cl) (hm:OkM m) (v:Int):PC Tryz.prog 240 [sl bO m,iv v] (fun r => r = .tup [sl bO (m ++ [oT v]),.agg [iv m.length,iv 0]]):=by
 have hml := hm.l
 refine aC Tryz.func240 Tryz.ntmps240 ?_
 repeat' (first|(apply aF;first|(apply iK;rfl;exact kU m hm;rfl;rfl)|(apply aJ (t := _);rfl;rfl;rfl;(first|exact (rfl:_=some [_,_])|exact (rfl:_=some [_,_,_,_]));rfl;rfl))|refine aE ?_|fail)
 have e2 : AV.imm (m.length + 1) (((flat bO m).drop 0).take (m.length * 4) ++ [iv v, bv true, iv 1, .imm 1 [iv 0, bv true]]) = sl bO (m ++ [oT v]) := by
  have e : ((flat bO m).drop 0).take (m.length * 4) ++ [iv v,bv true,iv 1,.imm 1 [iv 0,bv true]] = flat bO (m ++ [oT v]) := eO rfl rfl
  rw [e]; exact fF (by rw [List.length_append]; rfl)
 refine aS (Le.frzD (d := 4) (i := 5) rfl rfl) ?_
 refine aD (l := [AV.imm (m.length + 1) (((flat bO m).drop 0).take (m.length * 4) ++ [iv v,bv true,iv 1,.imm 1 [iv 0,bv true]]),.agg [iv m.length,iv 0]]) rfl ?_
 rw [e2]
 exact ⟨rfl,by exact Pur.pf⟩
theorem DP (m:List Cl) (hm:OkM m) (v:Int):PC Tryz.prog 198 [sl bO m,iv v] (fun r => r = .tup (if 0 ≤ v ∧ v ≤ 9 ∧ m.length < 200 then [sl bO (m ++ [oT v]),.agg [iv m.length,iv 0],bv true] else [sl bO [],.agg [iv 0,iv 0],bv false])):=by
 have hml := hm.l
 have hcv := iH m hm
 have hnc := Dm m hm v
 refine aC Tryz.func198 Tryz.ntmps198 ?_
 repeat' (first|(apply aF;first|(apply aA (k := 239);rfl;exact hcv;exact Pur.pf;rfl)|(apply aA (k := 240);rfl;exact hnc;exact Pur.pf;rfl)|(apply aA (k := 54);rfl;(apply dO);(rfl);rfl))|refine aE ?_|(refine aK ?_ ?_ <;> intro hc hq <;> try (exfalso;omega))|(refine bS ?_ ?_ <;> intro hg hq <;> try (exfalso;omega))|refine bQ ?_|fail)
 ·refine aS (Le.nilImm (d := 4) rfl) ?_
  exact aD (l := [sl bO [],.agg [iv 0,iv 0],bv false]) rfl ⟨by rw [if_neg (by omega)]; rfl,rfl⟩
 ·exact aD (l := [sl bO (m ++ [oT v]),.agg [iv m.length,iv 0],bv true]) rfl ⟨by rw [if_pos (by omega)]; rfl,by exact Pur.pf⟩
 ·refine aS (Le.nilImm (d := 4) rfl) ?_
  exact aD (l := [sl bO [],.agg [iv 0,iv 0],bv false]) rfl ⟨by rw [if_neg (by omega)]; rfl,rfl⟩
theorem Gt {m:List Cl}{j:Nat}{t:Int}{r:List Tg}{n:Nat}{x0 x1 x2:Operand}{i0 i1:Nat}(ha0:ev (lk tsl) x0 = some (.own i0 0 n 4)) (ha1:ev (lk tsl) x1 = some (.agg [iv (j:Int),iv t])) (ha2:ev (lk tsl) x2 = some (bv true)) (hH0:aU hsl i0 = some (flat fH (dJ m j (.own i1 0 m[j]!.stk.length 2)))) (hH1:aU hsl i1 = some (flat cL m[j]!.stk)) (hdd:Go.AL.distinct [i0,i1] = true) (hmc:MC Tryz.prog 242 [.own 0 0 n 4,.agg [iv (j:Int),iv t],bv true] [(0,some (flat fH (dJ m j (.own 1 0 m[j]!.stk.length 2)))),(1,some (flat cL m[j]!.stk))] 2 (fun _:Unit => True) (fun _ => iv 0) (fun _ => [(0,some (flat fH (dJ m j (.own 1 0 r.length 2)))),(1,some (flat cL r))])) (hM:Nat.ble (nidl + 0) aX = true) (hN:Nat.blt d N = true){md':Md}[hmd:MdA md (fP [x0,x1,x2] ++ [.inr i0,.inr i1]) (List.map Sum.inr (List.map Prod.fst ([(i0,some (flat fH (dJ m j (.own i1 0 r.length 2)))),(i1,some (flat cL r))]:List (Nat × Option (List AV)))) ++ [.inl d]) md'] (kk:RW Tryz.prog N all Q md' rest ⟨(d,iv 0) :: tsl,gR hsl [(i0,some (flat fH (dJ m j (.own i1 0 r.length 2)))),(i1,some (flat cL r))],nidl + 0,z0⟩):RW Tryz.prog N all Q md (⟨some d,.call ⟨.value (.func 242),#[x0,x1,x2],tys⟩,ty,pos,af,none⟩ :: rest) ⟨tsl,hsl,nidl,z0⟩:=by
 exact aZ (l := [x0,x1,x2]) [i0,i1] 2 [(i0,some (flat fH (dJ m j (.own i1 0 r.length 2)))),(i1,some (flat cL r))] hmc (avs := [.own i0 0 n 4,.agg [iv (j : Int),iv t],bv true]) (by simp only [evL,ha0,ha1,ha2]) hdd hM hN (md' := md') (hmd := hmd) kk
theorem JK (m:List Cl) (j:Nat) (t:Int) (r:List Tg) (k n:Nat) (hm:OkM m) (hn:n = m.length) (hj:j < m.length) (hk:cD m[j]!.stk t = (k:Int)) (hal:m[j]!.alive = true) (hu:m[j]!.stk[k]!.uq = true) (hre:m[j]!.stk.take (k + 1) = r) (hrk:k + 1 = r.length):MC Tryz.prog 242 [.own 0 0 n 4,.agg [iv (j:Int),iv t],bv true] [(0,some (flat fH (dJ m j (.own 1 0 m[j]!.stk.length 2)))),(1,some (flat cL m[j]!.stk))] 2 (fun _:Unit => True) (fun _ => iv 0) (fun _ => [(0,some (flat fH (dJ m j (.own 1 0 r.length 2)))),(1,some (flat cL r))]):=by
 have h := wH m j t k n hm hn hj hk hal hu
 rw [hre,hrk] at h
 exact h
theorem Me (m:List Cl) (hm:OkM m) (j k:Nat) (t:Int) (r:List Tg) (hj:j < m.length) (hkk:cD m[j]!.stk t = (k:Int)) (hk:a7 m ⟨(j:Int),t⟩ false = 0) (hr:r = fE m[j]!.stk k false):PC Tryz.prog 200 [sl bO m,.agg [iv (j:Int),iv t],bv false] (fun z => z = .tup [sl bO (kB m m j false r),nZ (j9 m j r),iv (kA m j r)]):=by
 have hml := hm.l
 obtain ⟨h1,h2,h3,h4,hu⟩ := dV hk
 have hc := ((c7 m).1 hm).2 j hj
 have hb := eG m[j]!.stk t
 have hrl : r.length ≤ 200 := by rw [hr]; exact Nat.le_trans tchS_sub.length_le hc.l.2
 have hnx := hc.n
 obtain ⟨_,e2,_⟩ := mB hk (r := r) (by rw [hr]; show _ = fE m[j]!.stk (cD m[j]!.stk t).toNat false;rw [hkk]; rfl)
 have e2' : jT m ⟨(j : Int),t⟩ false = kB m m j false r := e2
 have hok := hm.ln ⟨(j : Int),t⟩ false
 rw [e2'] at hok
 have hto := Cy m j t r k m.length hm rfl hj hkk h3 hr
 have hog := iF (m := m) (j := j) (X := .own (0 + 1 + 1 + 3 + 3) 0 r.length 2) hj
 have hol := dF (m := m) (j := j) (X := .own (0 + 1 + 1 + 3 + 3) 0 r.length 2)
 have hol2 := dF (m := m) (j := j) (X := .own (0 + 1 + 1 + 3 + 4 + 1) 0 (r.length + 1) 2)
 have hm2 : (m.set j { m[j]! with next := m[j]!.next + 1 }).length = m.length := List.length_set
 refine aC Tryz.func200 Tryz.ntmps200 ?_
 repeat' (first|(apply aF;first|(apply pQ (j := j);rfl;exact w6 m j hm hj;rfl;rfl)|(apply y5 (m := m) (j := j) (t := t) (r := r) (n := m.length);rfl;rfl;rfl;rfl;rfl;rfl;exact hto;rfl;rfl)|(with_reducible apply aY (d := 32)))|refine aE ?_|fail)
 refine bZ ?_
 rw [hog]
 dsimp only
 by_cases hf : o6 m j r
 ·have eM : kB m m j false r = m := by unfold kB; rw [if_pos hf]
  have eP : j9 m j r = ⟨0,0⟩ := by unfold j9;rw [if_pos hf]
  have eK : kA m j r = 4 := by unfold kA;rw [if_pos hf]
  rw [eM,eP,eK]
  unfold o6 at hf
  repeat' (first|(apply aF;first|(apply iK;rfl;exact kU m hm;rfl;rfl)|(with_reducible apply aY (d := 44)))|refine aE ?_|(refine aK ?_ ?_ <;> intro hc hq <;> try (exfalso;omega))|(refine bS ?_ ?_ <;> intro hg hq <;> try (exfalso;omega))|fail)
  ·refine aS (Le.frzD (d := 6) (i := 10) rfl rfl) ?_
   exact aD (l := [sl bO m,.agg [iv 0,iv 0],iv 4]) rfl ⟨rfl,by exact Pur.pf⟩
  ·exfalso
   have h : ¬ (dJ m j (.own (0 + 1 + 1 + 3 + 3) 0 r.length 2))[j]!.next = 1000 := by assumption
   rw [hog] at h
   dsimp only at h
   omega
  ·refine aS (Le.frzD (d := 6) (i := 10) rfl rfl) ?_
   exact aD (l := [sl bO m,.agg [iv 0,iv 0],iv 4]) rfl ⟨rfl,by exact Pur.pf⟩
 ·have eM : kB m m j false r = m.set j (psh { m[j]! with stk := r } false) := by unfold kB; rw [if_neg hf]
  have eP : j9 m j r = ⟨j,m[j]!.next⟩ := by unfold j9;rw [if_neg hf]
  have eK : kA m j r = 0 := by unfold kA;rw [if_neg hf]
  rw [eM] at hok
  rw [eM,eP,eK]
  unfold o6 at hf
  have hown := kU _ hok
  repeat' (first|(apply aF;first|(with_reducible apply aY (d := 41))|(with_reducible apply aY (d := 54)))|refine aE ?_|(refine aK ?_ ?_ <;> intro hc hq <;> try (exfalso;omega))|(refine bS ?_ ?_ <;> intro hg hq <;> try (exfalso;omega))|fail)
  ·exfalso
   have h : (dJ m j (.own (0 + 1 + 1 + 3 + 3) 0 r.length 2))[j]!.next = 1000 := by assumption
   rw [hog] at h
   dsimp only at h
   omega
  ·refine bZ ?_
   rw [hog]
   dsimp only
   repeat' (first|(apply aF;first|(apply bF;rfl;rfl;rfl;rfl;rfl;(rw [aI,dF]; simp only [List.length_append,List.length_cons,List.length_nil]; omega);(first|exact uE hj|exact Au hj))|(apply bX;rfl;rfl;rfl;rfl;rfl;(rw [aI]; omega);(rfl);omega;omega;(exact vD (by (omega)));rfl;rfl)|(apply aJ (t := _);rfl;rfl;rfl;(exact (rfl:_=some [_,_]));rfl;rfl))|refine aE ?_|fail)
   refine AW.le ?_ (Le.cls (o := 3) (q := 0 + 1 + 1 + 3 + 4 + 1) (j := j) (k := r.length + 1) (m := m.set j { m[j]! with next := m[j]!.next + 1 }) (r := r ++ [⟨m[j]!.next,false⟩]) rfl rfl (by (rw [List.length_append]; rfl)) (by omega) (by decide))
   refine AW.le ?_ (Le.frzD (d := 9) (i := 3) rfl rfl)
   have e : (m.set j { m[j]! with next := m[j]!.next + 1 }).set j { (m.set j { m[j]! with next := m[j]!.next + 1 })[j]! with stk := r ++ [⟨m[j]!.next, false⟩] } = m.set j (psh { m[j]! with stk := r } false) := by
    rw [lN hj,set_set]; rfl
   rw [e,fF (f := bO) (xs := m.set j (psh { m[j]! with stk := r } false)) (by rw [List.length_set])]
   repeat' (first|(apply aF;(apply iK;rfl;exact hown;rfl;rfl))|refine aE ?_|refine bQ ?_|fail)
   refine aS (Le.frzD (d := 6) (i := 12) rfl rfl) ?_
   exact aD (l := [sl bO (m.set j (psh { m[j]! with stk := r } false)),.agg [iv (j : Int),iv m[j]!.next],iv 0]) rfl ⟨rfl,by exact Pur.pf⟩
  all_goals (exfalso;omega)
theorem MP (m:List Cl) (hm:OkM m) (j k:Nat) (t:Int) (r:List Tg) (hj:j < m.length) (hkk:cD m[j]!.stk t = (k:Int)) (hk:a7 m ⟨(j:Int),t⟩ true = 0) (hr:r = fE m[j]!.stk k true):PC Tryz.prog 200 [sl bO m,.agg [iv (j:Int),iv t],bv true] (fun z => z = .tup [sl bO (kB m m j true r),nZ (j9 m j r),iv (kA m j r)]):=by
 have hml := hm.l
 obtain ⟨h1,h2,h3,h4,hu⟩ := dV hk
 have hc := ((c7 m).1 hm).2 j hj
 have hb := eG m[j]!.stk t
 have hrl : r.length ≤ 200 := by rw [hr]; exact Nat.le_trans tchS_sub.length_le hc.l.2
 have hnx := hc.n
 obtain ⟨_,e2,_⟩ := mB hk (r := r) (by rw [hr]; show _ = fE m[j]!.stk (cD m[j]!.stk t).toNat true;rw [hkk]; rfl)
 have e2' : jT m ⟨(j : Int),t⟩ true = kB m m j true r := e2
 have hok := hm.ln ⟨(j : Int),t⟩ true
 rw [e2'] at hok
 have huk : m[j]!.stk[k]!.uq = true := by
  have h : m[j]!.stk[(cD m[j]!.stk t).toNat]!.uq = true := hu rfl
  rwa [hkk,Int.toNat_natCast] at h
 have hre : m[j]!.stk.take (k + 1) = r := by rw [hr]; unfold fE;rw [if_pos rfl]
 have hrk : k + 1 = r.length := by rw [← hre,List.length_take]; omega
 have hto := JK m j t r k m.length hm rfl hj hkk h3 huk hre hrk
 clear hre hrk huk hu hr hkk
 have hog := iF (m := m) (j := j) (X := .own (0 + 1 + 1 + 2) 0 r.length 2) hj
 have hol := dF (m := m) (j := j) (X := .own (0 + 1 + 1 + 2) 0 r.length 2)
 have hol2 := dF (m := m) (j := j) (X := .own (0 + 1 + 1 + 3 + 0 + 1) 0 (r.length + 1) 2)
 have hm2 : (m.set j { m[j]! with next := m[j]!.next + 1 }).length = m.length := List.length_set
 refine aC Tryz.func200 Tryz.ntmps200 ?_
 repeat' (first|(apply aF;first|(apply pQ (j := j);rfl;exact w6 m j hm hj;rfl;rfl)|(apply Gt (m := m) (j := j) (t := t) (r := r) (n := m.length);rfl;rfl;rfl;rfl;rfl;rfl;exact hto;rfl;rfl)|(with_reducible apply aY (d := 32)))|refine aE ?_|fail)
 refine bZ ?_
 rw [hog]
 dsimp only
 by_cases hf : o6 m j r
 ·have eM : kB m m j true r = m := by unfold kB; rw [if_pos hf]
  have eP : j9 m j r = ⟨0,0⟩ := by unfold j9;rw [if_pos hf]
  have eK : kA m j r = 4 := by unfold kA;rw [if_pos hf]
  rw [eM,eP,eK]
  unfold o6 at hf
  repeat' (first|(apply aF;first|(apply iK;rfl;exact kU m hm;rfl;rfl)|(with_reducible apply aY (d := 44)))|refine aE ?_|(refine aK ?_ ?_ <;> intro hc hq <;> try (exfalso;omega))|(refine bS ?_ ?_ <;> intro hg hq <;> try (exfalso;omega))|fail)
  ·refine aS (Le.frzD (d := 6) (i := 6) rfl rfl) ?_
   exact aD (l := [sl bO m,.agg [iv 0,iv 0],iv 4]) rfl ⟨rfl,by exact Pur.pf⟩
  ·exfalso
   have h : ¬ (dJ m j (.own (0 + 1 + 1 + 2) 0 r.length 2))[j]!.next = 1000 := by assumption
   rw [hog] at h
   dsimp only at h
   omega
  ·refine aS (Le.frzD (d := 6) (i := 6) rfl rfl) ?_
   exact aD (l := [sl bO m,.agg [iv 0,iv 0],iv 4]) rfl ⟨rfl,by exact Pur.pf⟩
 ·have eM : kB m m j true r = m.set j (psh { m[j]! with stk := r } true) := by unfold kB; rw [if_neg hf]
  have eP : j9 m j r = ⟨j,m[j]!.next⟩ := by unfold j9;rw [if_neg hf]
  have eK : kA m j r = 0 := by unfold kA;rw [if_neg hf]
  rw [eM] at hok
  rw [eM,eP,eK]
  unfold o6 at hf
  have hown := kU _ hok
  repeat' (first|(apply aF;first|(with_reducible apply aY (d := 41))|(with_reducible apply aY (d := 54)))|refine aE ?_|(refine aK ?_ ?_ <;> intro hc hq <;> try (exfalso;omega))|(refine bS ?_ ?_ <;> intro hg hq <;> try (exfalso;omega))|fail)
  ·exfalso
   have h : (dJ m j (.own (0 + 1 + 1 + 2) 0 r.length 2))[j]!.next = 1000 := by assumption
   rw [hog] at h
   dsimp only at h
   omega
  ·refine bZ ?_
   rw [hog]
   dsimp only
   repeat' (first|(apply aF;first|(apply bF;rfl;rfl;rfl;rfl;rfl;(rw [aI,dF]; simp only [List.length_append,List.length_cons,List.length_nil]; omega);(first|exact uE hj|exact Au hj))|(apply bX;rfl;rfl;rfl;rfl;rfl;(rw [aI]; omega);(rfl);omega;omega;(exact vD (by (omega)));rfl;rfl)|(apply aJ (t := _);rfl;rfl;rfl;(exact (rfl:_=some [_,_]));rfl;rfl))|refine aE ?_|fail)
   refine AW.le ?_ (Le.cls (o := 3) (q := 0 + 1 + 1 + 3 + 0 + 1) (j := j) (k := r.length + 1) (m := m.set j { m[j]! with next := m[j]!.next + 1 }) (r := r ++ [⟨m[j]!.next,true⟩]) rfl rfl (by (rw [List.length_append]; rfl)) (by omega) (by decide))
   refine AW.le ?_ (Le.frzD (d := 9) (i := 3) rfl rfl)
   have e : (m.set j { m[j]! with next := m[j]!.next + 1 }).set j { (m.set j { m[j]! with next := m[j]!.next + 1 })[j]! with stk := r ++ [⟨m[j]!.next, true⟩] } = m.set j (psh { m[j]! with stk := r } true) := by
    rw [lN hj,set_set]; rfl
   rw [e,fF (f := bO) (xs := m.set j (psh { m[j]! with stk := r } true)) (by rw [List.length_set])]
   repeat' (first|(apply aF;(apply iK;rfl;exact hown;rfl;rfl))|refine aE ?_|refine bQ ?_|fail)
   refine aS (Le.frzD (d := 6) (i := 8) rfl rfl) ?_
   exact aD (l := [sl bO (m.set j (psh { m[j]! with stk := r } true)),.agg [iv (j : Int),iv m[j]!.next],iv 0]) rfl ⟨rfl,by exact Pur.pf⟩
  all_goals (exfalso;omega)
theorem LW (m:List Cl) (hm:OkM m) (x:Pt) (u:Bool):PC Tryz.prog 200 [sl bO m,nZ x,bv u] (fun r => r = .tup [sl bO (jT m x u),nZ (qI m x u),iv (kV m x u)]):=by
 have hml := hm.l
 by_cases hk : a7 m x u = 0
 ·obtain ⟨c, t⟩ := x
  obtain ⟨h1,h2,h3,h4,hu⟩ := dV hk
  obtain ⟨j,rfl⟩ := Int.eq_ofNat_of_zero_le (show 0 ≤ c from h1)
  have hj : j < m.length := by have : (j : Int) < m.length := h2;omega
  obtain ⟨k,hkk⟩ := Int.eq_ofNat_of_zero_le (show 0 ≤ cD m[j]!.stk t from h4)
  obtain ⟨r,hr⟩ : ∃ r,r = fE m[j]!.stk k u := ⟨_,rfl⟩
  obtain ⟨e1,e2,e3⟩ := mB hk (r := r) (by rw [hr]; show _ = fE m[j]!.stk (cD m[j]!.stk t).toNat u;rw [hkk]; rfl)
  rw [e1,e2,e3]
  cases u
  ·exact Me m hm j k t r hj hkk hk hr
  ·exact MP m hm j k t r hj hkk hk hr
 ·obtain ⟨e1, e2, e3⟩ := JR hk
  rw [e1,e2,e3]
  refine aC Tryz.func200 Tryz.ntmps200 ?_
  repeat' (first|(apply aF;first|(apply iK;rfl;exact kU m hm;rfl;rfl)|(apply nS (m := m) (x := x) (wr := u) (n := m.length);rfl;rfl;rfl;rfl;exact pX m x u _ hm rfl hk;rfl;rfl))|refine aE ?_|(refine aK ?_ ?_ <;> intro hc hq <;> try (exfalso;omega))|fail)
  refine aS (Le.frzD (d := 6) (i := 3) rfl rfl) ?_
  exact aD (l := [sl bO m,.agg [iv 0,iv 0],iv (a7 m x u)]) rfl ⟨rfl,by exact Pur.pf⟩
abbrev mO (ts : List Int) (bd : List AL.Stmt) (pts : List Pnt) (i1 i2 : Nat) (s : Mc) : List AV := [aG ts bd pts,.own i1 0 ts.length 4,sl bO s.cells,.own i2 0 s.read.length 1]
theorem CO {ts:List Int}{bd:List AL.Stmt}{pts:List Pnt}{s:Mc}{v:Nat}{x0 x1:Operand}{i0 i1 i2:Nat}(ha0:ev (lk tsl) x0 = some (.optr i0 0)) (ha1:ev (lk tsl) x1 = some (iv (v:Int))) (hH0:aU hsl i0 = some (mO ts bd pts i1 i2 s)) (hH1:aU hsl i1 = some (flat dK s.slots)) (hH2:aU hsl i2 = some (flat cI s.read)) (hdd:Go.AL.distinct [i0,i1,i2] = true) (hmc:MC Tryz.prog 204 [.optr 0 0,iv (v:Int)] [(0,some (mO ts bd pts 1 2 s)),(1,some (flat dK s.slots)),(2,some (flat cI s.read))] 3 (fun _:Unit => True) (fun _ => iv (kI (a7 s.cells s.slots[v]!.ptr true))) (fun _ => [(0,some ([aG ts bd pts,.own 1 0 ts.length 4,sl bO (g8 s.cells s.slots[v]!.ptr),.own 2 0 s.read.length 1])),(1,some (flat dK s.slots)),(2,some (flat cI s.read))])) (hM:Nat.ble (nidl + 0) aX = true) (hN:Nat.blt d N = true){md':Md}[hmd:MdA md (fP [x0,x1] ++ [.inr i0,.inr i1,.inr i2]) (List.map Sum.inr (List.map Prod.fst ([(i0,some ([aG ts bd pts,.own i1 0 ts.length 4,sl bO (g8 s.cells s.slots[v]!.ptr),.own i2 0 s.read.length 1])),(i1,some (flat dK s.slots)),(i2,some (flat cI s.read))]:List (Nat × Option (List AV)))) ++ [.inl d]) md'] (kk:RW Tryz.prog N all Q md' rest ⟨(d,iv (kI (a7 s.cells s.slots[v]!.ptr true))) :: tsl,gR hsl [(i0,some ([aG ts bd pts,.own i1 0 ts.length 4,sl bO (g8 s.cells s.slots[v]!.ptr),.own i2 0 s.read.length 1])),(i1,some (flat dK s.slots)),(i2,some (flat cI s.read))],nidl + 0,z0⟩):RW Tryz.prog N all Q md (⟨some d,.call ⟨.value (.func 204),#[x0,x1],tys⟩,ty,pos,af,none⟩ :: rest) ⟨tsl,hsl,nidl,z0⟩:=by
 exact aZ (l := [x0,x1]) [i0,i1,i2] 3 [(i0,some ([aG ts bd pts,.own i1 0 ts.length 4,sl bO (g8 s.cells s.slots[v]!.ptr),.own i2 0 s.read.length 1])),(i1,some (flat dK s.slots)),(i2,some (flat cI s.read))] hmc (avs := [.optr i0 0,iv (v : Int)]) (by simp only [evL,ha0,ha1]) hdd hM hN (md' := md') (hmd := hmd) kk
theorem zD (ts:List Int) (bd:List AL.Stmt) (pts:List Pnt) (s:Mc) (v:Nat) (hm:OkM s.cells) (hsl:s.slots.length = ts.length) (hv:v < ts.length):MC Tryz.prog 204 [.optr 0 0,iv (v:Int)] [(0,some (mO ts bd pts 1 2 s)),(1,some (flat dK s.slots)),(2,some (flat cI s.read))] 3 (fun _:Unit => True) (fun _ => iv (kI (a7 s.cells s.slots[v]!.ptr true))) (fun _ => [(0,some ([aG ts bd pts,.own 1 0 ts.length 4,sl bO (g8 s.cells s.slots[v]!.ptr),.own 2 0 s.read.length 1])),(1,some (flat dK s.slots)),(2,some (flat cI s.read))]):=by
 have hfc := Bi s.cells hm s.slots[v]!.ptr
 refine aV Tryz.func204 Tryz.ntmps204 ?_
 repeat' (first|(apply aF;first|(apply jP;(case hx|hH => rfl);(case hf|hg|hα => infer_instance);(case hk => omega);(case hj => decide);(case hc => exact (rfl:_=[_,_]));(case h0|hN => rfl))|(apply aA (k := 243);rfl;exact hfc;exact Pur.pf;rfl)|(apply aA (k := 201);rfl;(apply tR);(rfl);rfl))|refine aE ?_|(refine aK ?_ ?_ <;> intro hc hq <;> try (exfalso;omega))|refine bQ ?_|fail)
 ·have hk : ¬ a7 s.cells s.slots[v]!.ptr true = 0 := by assumption
  (refine aD rfl ?_; refine aR () trivial ?_ ⟨sE ?_,⟨sE ?_,⟨sE ?_,trivial⟩⟩⟩)
  ·show iv (eJ _) = iv (kI _)
   unfold kI;rw [if_neg hk]
  ·rfl
  ·rfl
  ·rfl
 ·have hk : a7 s.cells s.slots[v]!.ptr true = 0 := by assumption
  (refine aD rfl ?_; refine aR () trivial ?_ ⟨sE ?_,⟨sE ?_,⟨sE ?_,trivial⟩⟩⟩)
  ·rw [hk]; rfl
  ·rfl
  ·rfl
  ·rfl
theorem Oo (ts:List Int) (bd:List AL.Stmt) (pts:List Pnt) (s:Mc) (v:Nat) (y:Sl) (hm:OkM s.cells) (hsl:s.slots.length = ts.length) (hv:v < ts.length):MC Tryz.prog 197 [.optr 0 0,iv (v:Int),JA y] [(0,some (mO ts bd pts 1 2 s)),(1,some (flat dK s.slots)),(2,some (flat cI s.read))] 3 (fun _:Unit => True) (fun _ => iv (bK ts s v y).2) (fun _ => [(0,some (mO ts bd pts 1 2 (bK ts s v y).1)),(1,some (flat dK (bK ts s v y).1.slots)),(2,some (flat cI (bK ts s v y).1.read))]):=by
 have hfr := zD ts bd pts s v hm hsl hv
 refine aV Tryz.func197 Tryz.ntmps197 ?_
 repeat' (first|(apply aF;first|(apply CO (ts := ts) (bd := bd) (pts := pts) (s := s) (v := v);rfl;rfl;rfl;rfl;rfl;rfl;exact hfr;rfl;rfl)|(apply bF;rfl;rfl;rfl;rfl;rfl;(rw [aI]; simp only [gE] <;> omega);(exact yT (by (omega)))))|refine aE ?_|(refine aK ?_ ?_ <;> intro hc hq <;> try (exfalso;omega))|(refine bS ?_ ?_ <;> intro hg hq <;> try (exfalso;omega))|refine bQ ?_|fail)
 ·have hp : bK ts s v y = (⟨s.slots.set v y, g8 s.cells s.slots[v]!.ptr, s.read⟩, kI (a7 s.cells s.slots[v]!.ptr true)) := if_pos ⟨by assumption, by assumption⟩
  rw [hp]
  (refine aD rfl ?_; refine aR () trivial ?_ ⟨sE ?_,⟨sE ?_,⟨sE ?_,trivial⟩⟩⟩)
  ·rfl
  ·rfl
  ·rfl
  ·rfl
 all_goals (
  have hp : bK ts s v y = (⟨s.slots.set v y, s.cells, s.read⟩, -1) := if_neg (by
   rintro ⟨q1,q2⟩
   first|(exact (by assumption : ¬ ts[v]! = 2) q1)|(rw [(by assumption : s.slots[v]!.set = false)] at q2;exact absurd q2 (by decide)))
  rw [hp]
  (refine aD rfl ?_; refine aR () trivial ?_ ⟨sE ?_,⟨sE ?_,⟨sE ?_,trivial⟩⟩⟩)
  ·rfl
  ·rfl
  ·rfl
  ·rfl)
theorem Nf {ts:List Int}{bd:List AL.Stmt}{pts:List Pnt}{s:Mc}{x0:Operand}{i0 i1 i2:Nat}(ha0:ev (lk tsl) x0 = some (.optr i0 0)) (hH0:aU hsl i0 = some (mO ts bd pts i1 i2 s)) (hH1:aU hsl i1 = some (flat dK s.slots)) (hH2:aU hsl i2 = some (flat cI s.read)) (hdd:Go.AL.distinct [i0,i1,i2] = true) (hmc:MC Tryz.prog 205 [.optr 0 0] [(0,some (mO ts bd pts 1 2 s)),(1,some (flat dK s.slots)),(2,some (flat cI s.read))] 3 (fun _:Unit => True) (fun _ => iv (cT ts ts.length 0 s).2) (fun _ => [(0,some (mO ts bd pts 1 2 (cT ts ts.length 0 s).1)),(1,some (flat dK (cT ts ts.length 0 s).1.slots)),(2,some (flat cI (cT ts ts.length 0 s).1.read))])) (hM:Nat.ble (nidl + 0) aX = true) (hN:Nat.blt d N = true){md':Md}[hmd:MdA md (fP [x0] ++ [.inr i0,.inr i1,.inr i2]) (List.map Sum.inr (List.map Prod.fst ([(i0,some (mO ts bd pts i1 i2 (cT ts ts.length 0 s).1)),(i1,some (flat dK (cT ts ts.length 0 s).1.slots)),(i2,some (flat cI (cT ts ts.length 0 s).1.read))]:List (Nat × Option (List AV)))) ++ [.inl d]) md'] (kk:RW Tryz.prog N all Q md' rest ⟨(d,iv (cT ts ts.length 0 s).2) :: tsl,gR hsl [(i0,some (mO ts bd pts i1 i2 (cT ts ts.length 0 s).1)),(i1,some (flat dK (cT ts ts.length 0 s).1.slots)),(i2,some (flat cI (cT ts ts.length 0 s).1.read))],nidl + 0,z0⟩):RW Tryz.prog N all Q md (⟨some d,.call ⟨.value (.func 205),#[x0],tys⟩,ty,pos,af,none⟩ :: rest) ⟨tsl,hsl,nidl,z0⟩:=by
 exact aZ (l := [x0]) [i0,i1,i2] 3 [(i0,some (mO ts bd pts i1 i2 (cT ts ts.length 0 s).1)),(i1,some (flat dK (cT ts ts.length 0 s).1.slots)),(i2,some (flat cI (cT ts ts.length 0 s).1.read))] hmc (avs := [.optr i0 0]) (by simp only [evL,ha0]) hdd hM hN (md' := md') (hmd := hmd) kk
theorem PB (ts:List Int) (bd:List AL.Stmt) (pts:List Pnt) (s:Mc) (hm:OkM s.cells) (hsl:s.slots.length = ts.length) (hl:ts.length ≤ 1000000):MC Tryz.prog 205 [.optr 0 0] [(0,some (mO ts bd pts 1 2 s)),(1,some (flat dK s.slots)),(2,some (flat cI s.read))] 3 (fun _:Unit => True) (fun _ => iv (cT ts ts.length 0 s).2) (fun _ => [(0,some (mO ts bd pts 1 2 (cT ts ts.length 0 s).1)),(1,some (flat dK (cT ts ts.length 0 s).1.slots)),(2,some (flat cI (cT ts ts.length 0 s).1.read))]):=by
 refine aV Tryz.func205 Tryz.ntmps205 ?_
 repeat' (first|refine aE ?_|fail)
 refine aH (σ := Nat × Mc) [0,13,14] [] (fun k => [(15,iv (k.1 : Int))]) (fun k => [(0,some (mO ts bd pts 1 2 k.2)),(1,some (flat dK k.2.slots)),(2,some (flat cI k.2.read))]) (fun k => k.1 ≤ ts.length ∧ cT ts (ts.length - k.1) k.1 k.2 = cT ts ts.length 0 s ∧ OkM k.2.cells ∧ k.2.slots.length = ts.length) (fun k => ts.length - k.1) (0,s) ⟨Nat.zero_le _,rfl,hm,hsl⟩ ?_
 rintro ⟨v,q⟩ ⟨hv,hf,hmq,hlq⟩
 dsimp only at hv hf hmq hlq ⊢
 by_cases hvn : v < ts.length
 ·have hfr := zD ts bd pts q v hmq hlq hvn
  repeat' (first|(apply aF;first|(apply CO (ts := ts) (bd := bd) (pts := pts) (s := q) (v := v);rfl;rfl;rfl;rfl;rfl;rfl;exact hfr;rfl;rfl)|(apply bF;rfl;rfl;rfl;rfl;rfl;(rw [aI]; simp only [gE] <;> omega);(exact yT (by (omega)))))|refine aE ?_|(refine aK ?_ ?_ <;> intro hc hq <;> try (exfalso;omega))|(refine bS ?_ ?_ <;> intro hg hq <;> try (exfalso;omega))|fail)
  ·(refine bE (v + 1, q) (Le.renA []) ?_ ?_)
   ·refine ⟨by omega, ?_, hmq, hlq⟩
    dsimp only
    rw [← hf, show ts.length - v = (ts.length - (v + 1)) + 1 by omega, A5 (fun h => by
     have h2 : q.slots[v]!.set = false := by assumption
     rw [h2] at h;exact absurd h.2 (by decide))]
   ·dsimp only;omega
  ·have hk : ¬ a7 q.cells q.slots[v]!.ptr true = 0 := fun h => by
    have h2 : ¬ kI (a7 q.cells q.slots[v]!.ptr true) = -1 := by assumption
    rw [h] at h2;exact h2 rfl
   have hq2 : cT ts ts.length 0 s = (⟨q.slots, g8 q.cells q.slots[v]!.ptr, q.read⟩, eJ (a7 q.cells q.slots[v]!.ptr true)) := by
    rw [← hf,show ts.length - v = (ts.length - (v + 1)) + 1 by omega,I7 ⟨by assumption,by assumption⟩ hk]
   rw [hq2]
   (refine aD rfl ?_; refine aR () trivial ?_ ⟨sE ?_,⟨sE ?_,⟨sE ?_,trivial⟩⟩⟩)
   ·show iv (kI _) = iv (eJ _)
    unfold kI;rw [if_neg hk]
   ·rfl
   ·rfl
   ·rfl
  ·have hk : a7 q.cells q.slots[v]!.ptr true = 0 := by
    have h2 : kI (a7 q.cells q.slots[v]!.ptr true) = -1 := by assumption
    unfold kI at h2
    by_cases h : a7 q.cells q.slots[v]!.ptr true = 0
    ·exact h
    ·rw [if_neg h] at h2;unfold eJ at h2;split at h2 <;> cases h2
   have hls : (q.slots.set v gP).length = q.slots.length := List.length_set
   (refine bE (v + 1,⟨q.slots.set v gP,g8 q.cells q.slots[v]!.ptr,q.read⟩) (Le.renA []) ?_ ?_)
   ·refine ⟨by dsimp only; omega, ?_, hmq.fr _, by show (q.slots.set v gP).length = _; rw [List.length_set]; exact hlq⟩
    dsimp only
    rw [← hf,show ts.length - v = (ts.length - (v + 1)) + 1 by omega,HX ⟨by assumption,by assumption⟩ hk]
   ·dsimp only;omega
  ·(refine bE (v + 1, q) (Le.renA []) ?_ ?_)
   ·refine ⟨by omega, ?_, hmq, hlq⟩
    dsimp only
    rw [← hf, show ts.length - v = (ts.length - (v + 1)) + 1 by omega, A5 (fun h => by
     have h2 : ¬ ts[v]! = 2 := by assumption
     exact h2 h.1)]
   ·dsimp only;omega
 ·have hve : v = ts.length := by omega
  have hq2 : cT ts ts.length 0 s = (q,0) := by rw [← hf,hve,Nat.sub_self]; rfl
  repeat' (first|refine aE ?_|(refine aK ?_ ?_ <;> intro hc hq <;> try (exfalso;omega))|fail)
  rw [hq2]
  (refine aD rfl ?_; refine aR () trivial ?_ ⟨sE ?_,⟨sE ?_,⟨sE ?_,trivial⟩⟩⟩)
  ·rfl
  ·rfl
  ·rfl
  ·rfl
def eE (ts : List Int) (s : Mc) (x : Pnt) : Mc × Int := if cE ts s x = true then (s,2) else bT ts s x
theorem xG {ts:List Int}{s:Mc}{x:Pnt}(h:cE ts s x = true):eE ts s x = (s,2) := if_pos h
theorem tA {ts:List Int}{s:Mc}{x:Pnt}(h:cE ts s x = false):eE ts s x = bT ts s x := if_neg (by rw [h]; decide)
theorem iM {ts:List Int}{x:Pnt}{v:Int}(h:v ∈ a8 (wS ts x [1,2,3])):0 ≤ v ∧ v < ts.length:=by
 obtain ⟨v',h3,h4,rfl⟩ := bU.1 h
 rw [cG,Bool.and_eq_true,decide_eq_true_eq] at h4
 omega
theorem cO {ts:List Int}{s:Mc}{x:Pnt}(htl:ts.length ≤ 6):cE ts s x = true ↔ ∃ v ∈ a8 (wS ts x [1,2,3]),s.slots[v.toNat]!.set = false:=by
 constructor
 ·intro h
  obtain ⟨v,hv,hne,hs⟩ := wU h
  refine ⟨(v : Int),bU.2 ⟨v,by omega,?_,rfl⟩,hs⟩
  have hb := mS ts x v
  rw [cG,decide_eq_true hv,Bool.true_and,decide_eq_true_eq]
  simp only [List.mem_cons,List.not_mem_nil,or_false]; omega
 ·rintro ⟨v, hv, hs⟩
  obtain ⟨v',h3,h4,rfl⟩ := bU.1 hv
  rw [cG,Bool.and_eq_true,decide_eq_true_eq,decide_eq_true_eq] at h4
  unfold cE
  refine List.any_eq_true.2 ⟨v',List.mem_range.2 h4.1,?_⟩
  rw [Bool.and_eq_true,decide_eq_true_eq]
  refine ⟨fun e => ?_,by rw [show s.slots[v']!.set = false from hs]; rfl⟩
  have h5 := h4.2
  simp only [List.mem_cons,List.not_mem_nil,or_false] at h5;omega
theorem Ol {ts:List Int}{bd:List AL.Stmt}{pts:List Pnt}{s:Mc}{x:Pnt}{x0 x1:Operand}{i0 i1 i2:Nat}(ha0:ev (lk tsl) x0 = some (.optr i0 0)) (ha1:ev (lk tsl) x1 = some (dY x)) (hH0:aU hsl i0 = some (mO ts bd pts i1 i2 s)) (hH1:aU hsl i1 = some (flat dK s.slots)) (hH2:aU hsl i2 = some (flat cI s.read)) (hdd:Go.AL.distinct [i0,i1,i2] = true) (hmc:MC Tryz.prog 140 [.optr 0 0,dY x] [(0,some (mO ts bd pts 1 2 s)),(1,some (flat dK s.slots)),(2,some (flat cI s.read))] 3 (fun _:Unit => True) (fun _ => iv (eE ts s x).2) (fun _ => [(0,some (mO ts bd pts 1 2 (eE ts s x).1)),(1,some (flat dK (eE ts s x).1.slots)),(2,some (flat cI (eE ts s x).1.read))])) (hM:Nat.ble (nidl + 0) aX = true) (hN:Nat.blt d N = true){md':Md}[hmd:MdA md (fP [x0,x1] ++ [.inr i0,.inr i1,.inr i2]) (List.map Sum.inr (List.map Prod.fst ([(i0,some (mO ts bd pts i1 i2 (eE ts s x).1)),(i1,some (flat dK (eE ts s x).1.slots)),(i2,some (flat cI (eE ts s x).1.read))]:List (Nat × Option (List AV)))) ++ [.inl d]) md'] (kk:RW Tryz.prog N all Q md' rest ⟨(d,iv (eE ts s x).2) :: tsl,gR hsl [(i0,some (mO ts bd pts i1 i2 (eE ts s x).1)),(i1,some (flat dK (eE ts s x).1.slots)),(i2,some (flat cI (eE ts s x).1.read))],nidl + 0,z0⟩):RW Tryz.prog N all Q md (⟨some d,.call ⟨.value (.func 140),#[x0,x1],tys⟩,ty,pos,af,none⟩ :: rest) ⟨tsl,hsl,nidl,z0⟩:=by
 exact aZ (l := [x0,x1]) [i0,i1,i2] 3 [(i0,some (mO ts bd pts i1 i2 (eE ts s x).1)),(i1,some (flat dK (eE ts s x).1.slots)),(i2,some (flat cI (eE ts s x).1.read))] hmc (avs := [.optr i0 0,dY x]) (by simp only [evL,ha0,ha1]) hdd hM hN (md' := md') (hmd := hmd) kk
theorem lC {ts:List Int}{bd:List AL.Stmt}{pts:List Pnt}{s:Mc}{v:Int}{y:Sl}{x0 x1 x2:Operand}{i0 i1 i2:Nat}(ha0:ev (lk tsl) x0 = some (.optr i0 0)) (ha1:ev (lk tsl) x1 = some (iv v)) (ha2:ev (lk tsl) x2 = some (JA y)) (hH0:aU hsl i0 = some (mO ts bd pts i1 i2 s)) (hH1:aU hsl i1 = some (flat dK s.slots)) (hH2:aU hsl i2 = some (flat cI s.read)) (hdd:Go.AL.distinct [i0,i1,i2] = true) (hmc:MC Tryz.prog 197 [.optr 0 0,iv v,JA y] [(0,some (mO ts bd pts 1 2 s)),(1,some (flat dK s.slots)),(2,some (flat cI s.read))] 3 (fun _:Unit => True) (fun _ => iv (bK ts s v.toNat y).2) (fun _ => [(0,some (mO ts bd pts 1 2 (bK ts s v.toNat y).1)),(1,some (flat dK (bK ts s v.toNat y).1.slots)),(2,some (flat cI (bK ts s v.toNat y).1.read))])) (hM:Nat.ble (nidl + 0) aX = true) (hN:Nat.blt d N = true){md':Md}[hmd:MdA md (fP [x0,x1,x2] ++ [.inr i0,.inr i1,.inr i2]) (List.map Sum.inr (List.map Prod.fst ([(i0,some (mO ts bd pts i1 i2 (bK ts s v.toNat y).1)),(i1,some (flat dK (bK ts s v.toNat y).1.slots)),(i2,some (flat cI (bK ts s v.toNat y).1.read))]:List (Nat × Option (List AV)))) ++ [.inl d]) md'] (kk:RW Tryz.prog N all Q md' rest ⟨(d,iv (bK ts s v.toNat y).2) :: tsl,gR hsl [(i0,some (mO ts bd pts i1 i2 (bK ts s v.toNat y).1)),(i1,some (flat dK (bK ts s v.toNat y).1.slots)),(i2,some (flat cI (bK ts s v.toNat y).1.read))],nidl + 0,z0⟩):RW Tryz.prog N all Q md (⟨some d,.call ⟨.value (.func 197),#[x0,x1,x2],tys⟩,ty,pos,af,none⟩ :: rest) ⟨tsl,hsl,nidl,z0⟩:=by
 exact aZ (l := [x0,x1,x2]) [i0,i1,i2] 3 [(i0,some (mO ts bd pts i1 i2 (bK ts s v.toNat y).1)),(i1,some (flat dK (bK ts s v.toNat y).1.slots)),(i2,some (flat cI (bK ts s v.toNat y).1.read))] hmc (avs := [.optr i0 0,iv v,JA y]) (by simp only [evL,ha0,ha1,ha2]) hdd hM hN (md' := md') (hmd := hmd) kk
theorem nX (ts:List Int) (bd:List AL.Stmt) (pts:List Pnt) (s:Mc) (v:Int) (y:Sl) (hm:OkM s.cells) (hsl:s.slots.length = ts.length) (hv:0 ≤ v ∧ v < ts.length):MC Tryz.prog 197 [.optr 0 0,iv v,JA y] [(0,some (mO ts bd pts 1 2 s)),(1,some (flat dK s.slots)),(2,some (flat cI s.read))] 3 (fun _:Unit => True) (fun _ => iv (bK ts s v.toNat y).2) (fun _ => [(0,some (mO ts bd pts 1 2 (bK ts s v.toNat y).1)),(1,some (flat dK (bK ts s v.toNat y).1.slots)),(2,some (flat cI (bK ts s v.toNat y).1.read))]):=by
 have h := Oo ts bd pts s v.toNat y hm hsl (by omega)
 rw [Int.toNat_of_nonneg hv.1] at h
 exact h
theorem Gu {ts:List Int}{bd:List AL.Stmt}{pts:List Pnt}{s:Mc}{v:Int}{x0 x1:Operand}{i0 i1 i2:Nat}(ha0:ev (lk tsl) x0 = some (.optr i0 0)) (ha1:ev (lk tsl) x1 = some (iv v)) (hH0:aU hsl i0 = some (mO ts bd pts i1 i2 s)) (hH1:aU hsl i1 = some (flat dK s.slots)) (hH2:aU hsl i2 = some (flat cI s.read)) (hdd:Go.AL.distinct [i0,i1,i2] = true) (hmc:MC Tryz.prog 204 [.optr 0 0,iv v] [(0,some (mO ts bd pts 1 2 s)),(1,some (flat dK s.slots)),(2,some (flat cI s.read))] 3 (fun _:Unit => True) (fun _ => iv (kI (a7 s.cells s.slots[v.toNat]!.ptr true))) (fun _ => [(0,some ([aG ts bd pts,.own 1 0 ts.length 4,sl bO (g8 s.cells s.slots[v.toNat]!.ptr),.own 2 0 s.read.length 1])),(1,some (flat dK s.slots)),(2,some (flat cI s.read))])) (hM:Nat.ble (nidl + 0) aX = true) (hN:Nat.blt d N = true){md':Md}[hmd:MdA md (fP [x0,x1] ++ [.inr i0,.inr i1,.inr i2]) (List.map Sum.inr (List.map Prod.fst ([(i0,some ([aG ts bd pts,.own i1 0 ts.length 4,sl bO (g8 s.cells s.slots[v.toNat]!.ptr),.own i2 0 s.read.length 1])),(i1,some (flat dK s.slots)),(i2,some (flat cI s.read))]:List (Nat × Option (List AV)))) ++ [.inl d]) md'] (kk:RW Tryz.prog N all Q md' rest ⟨(d,iv (kI (a7 s.cells s.slots[v.toNat]!.ptr true))) :: tsl,gR hsl [(i0,some ([aG ts bd pts,.own i1 0 ts.length 4,sl bO (g8 s.cells s.slots[v.toNat]!.ptr),.own i2 0 s.read.length 1])),(i1,some (flat dK s.slots)),(i2,some (flat cI s.read))],nidl + 0,z0⟩):RW Tryz.prog N all Q md (⟨some d,.call ⟨.value (.func 204),#[x0,x1],tys⟩,ty,pos,af,none⟩ :: rest) ⟨tsl,hsl,nidl,z0⟩:=by
 exact aZ (l := [x0,x1]) [i0,i1,i2] 3 [(i0,some ([aG ts bd pts,.own i1 0 ts.length 4,sl bO (g8 s.cells s.slots[v.toNat]!.ptr),.own i2 0 s.read.length 1])),(i1,some (flat dK s.slots)),(i2,some (flat cI s.read))] hmc (avs := [.optr i0 0,iv v]) (by simp only [evL,ha0,ha1]) hdd hM hN (md' := md') (hmd := hmd) kk
theorem KN (ts:List Int) (bd:List AL.Stmt) (pts:List Pnt) (s:Mc) (v:Int) (hm:OkM s.cells) (hsl:s.slots.length = ts.length) (hv:0 ≤ v ∧ v < ts.length):MC Tryz.prog 204 [.optr 0 0,iv v] [(0,some (mO ts bd pts 1 2 s)),(1,some (flat dK s.slots)),(2,some (flat cI s.read))] 3 (fun _:Unit => True) (fun _ => iv (kI (a7 s.cells s.slots[v.toNat]!.ptr true))) (fun _ => [(0,some ([aG ts bd pts,.own 1 0 ts.length 4,sl bO (g8 s.cells s.slots[v.toNat]!.ptr),.own 2 0 s.read.length 1])),(1,some (flat dK s.slots)),(2,some (flat cI s.read))]):=by
 have h := zD ts bd pts s v.toNat hm hsl (by omega)
 rw [Int.toNat_of_nonneg hv.1] at h
 exact h
theorem QT (ts:List Int) (bd:List AL.Stmt) (pts:List Pnt) (s:Mc) (x:Pnt) (htl:ts.length ≤ 6) (hm:OkM s.cells) (hsl:s.slots.length = ts.length) (ho:x.op = 1) (hx:0 ≤ x.x ∧ x.x < ts.length):MC Tryz.prog 140 [.optr 0 0,dY x] [(0,some (mO ts bd pts 1 2 s)),(1,some (flat dK s.slots)),(2,some (flat cI s.read))] 3 (fun _:Unit => True) (fun _ => iv (eE ts s x).2) (fun _ => [(0,some (mO ts bd pts 1 2 (eE ts s x).1)),(1,some (flat dK (eE ts s x).1.slots)),(2,some (flat cI (eE ts s x).1.read))]):=by
 have hus := g0 ts bd pts x htl
 have hsm : Sm (wS ts x [1,2,3]) := bY (by omega)
 obtain ⟨L,hL⟩ : ∃ L,L = a8 (wS ts x [1,2,3]) := ⟨_,rfl⟩
 have hLl : L.length ≤ 62 := by rw [hL]; exact cJ _
 have hmem : ∀ k, k < L.length → 0 ≤ L[k]! ∧ L[k]! < s.slots.length := fun k hk => by
  rw [hsl]; exact iM (by rw [← hL]; exact aW _ _ hk)
 refine aV Tryz.func140 Tryz.ntmps140 ?_
 repeat' (first|(apply aF;first|(apply aA (k := 158);rfl;exact hus;exact Pur.pf;rfl)|(apply aA (k := 120);rfl;(apply gD <;> (assumption));(rfl);rfl))|refine aE ?_|refine bQ ?_|fail)
 rw [← hL]
 refine aH (σ := Nat) [0,3,26,27] [0,1,2,3] (fun k => [(28,iv (k : Int))]) (fun k => []) (fun k => k ≤ L.length ∧ ∀ j,j < k → s.slots[(L[j]!).toNat]!.set = true) (fun k => L.length - k) (0) ⟨Nat.zero_le _,fun j h => absurd h (by omega)⟩ ?_
 rintro k ⟨hk,hall⟩
 by_cases hkn : k < L.length
 ·have hmk := hmem k hkn
  repeat' (first|refine aE ?_|(refine aK ?_ ?_ <;> intro hc hq <;> try (exfalso;omega))|fail)
  ·have hu : cE ts s x = true := (cO htl).2 ⟨L[k]!, by rw [← hL]; exact aW _ _ hkn, by assumption⟩
   rw [xG hu]
   (refine aD rfl ?_; refine aR () trivial ?_ ⟨sE ?_,⟨sE ?_,⟨sE ?_,trivial⟩⟩⟩)
   ·rfl
   ·rfl
   ·rfl
   ·rfl
  ·(refine bE (k + 1) (Le.renA [(3, 3)]) ?_ ?_)
   ·refine ⟨by omega, fun j hj => ?_⟩
    rcases Nat.lt_or_ge j k with h|h
    ·exact hall j h
    ·rw [show j = k by omega]; assumption
   ·omega
 ·have hu : cE ts s x = false := by
   cases q : cE ts s x with
   | false => rfl
   | true =>
    obtain ⟨v,hv,hs⟩ := (cO htl).1 q
    rw [← hL] at hv
    obtain ⟨j,hj,e⟩ := List.getElem_of_mem hv
    have h1 := hall j (by omega)
    rw [bC _ _ hj,e,hs] at h1;cases h1
  rw [tA hu]
  have hd : bT ts s x = bK ts s x.x.toNat ⟨true,x.n,⟨0,0⟩⟩ := by unfold bT;rw [if_pos ho]
  rw [hd]
  have hp := nX ts bd pts s x.x ⟨true,x.n,⟨0,0⟩⟩ hm hsl hx
  repeat' (first|(apply aF;(apply lC (ts := ts) (bd := bd) (pts := pts) (s := s) (v := x.x) (y := ⟨true,x.n,⟨0,0⟩⟩);rfl;rfl;rfl;rfl;rfl;rfl;rfl;exact hp;rfl;rfl))|refine aE ?_|(refine aK ?_ ?_ <;> intro hc hq <;> try (exfalso;omega))|fail)
  (refine aD rfl ?_; refine aR () trivial ?_ ⟨sE ?_,⟨sE ?_,⟨sE ?_,trivial⟩⟩⟩)
  ·rfl
  ·rfl
  ·rfl
  ·rfl
theorem Ru (ts:List Int) (bd:List AL.Stmt) (pts:List Pnt) (s:Mc) (x:Pnt) (htl:ts.length ≤ 6) (hm:OkM s.cells) (hsl:s.slots.length = ts.length) (ho:x.op = 2) (hn:0 ≤ x.n ∧ x.n ≤ 9) (hx:0 ≤ x.x ∧ x.x < ts.length):MC Tryz.prog 140 [.optr 0 0,dY x] [(0,some (mO ts bd pts 1 2 s)),(1,some (flat dK s.slots)),(2,some (flat cI s.read))] 3 (fun _:Unit => True) (fun _ => iv (eE ts s x).2) (fun _ => [(0,some (mO ts bd pts 1 2 (eE ts s x).1)),(1,some (flat dK (eE ts s x).1.slots)),(2,some (flat cI (eE ts s x).1.read))]):=by
 have hus := g0 ts bd pts x htl
 have hsm : Sm (wS ts x [1,2,3]) := bY (by omega)
 obtain ⟨L,hL⟩ : ∃ L,L = a8 (wS ts x [1,2,3]) := ⟨_,rfl⟩
 have hLl : L.length ≤ 62 := by rw [hL]; exact cJ _
 have hmem : ∀ k, k < L.length → 0 ≤ L[k]! ∧ L[k]! < s.slots.length := fun k hk => by
  rw [hsl]; exact iM (by rw [← hL]; exact aW _ _ hk)
 refine aV Tryz.func140 Tryz.ntmps140 ?_
 repeat' (first|(apply aF;first|(apply aA (k := 158);rfl;exact hus;exact Pur.pf;rfl)|(apply aA (k := 120);rfl;(apply gD <;> (assumption));(rfl);rfl))|refine aE ?_|refine bQ ?_|fail)
 rw [← hL]
 refine aH (σ := Nat) [0,3,26,27] [0,1,2,3] (fun k => [(28,iv (k : Int))]) (fun k => []) (fun k => k ≤ L.length ∧ ∀ j,j < k → s.slots[(L[j]!).toNat]!.set = true) (fun k => L.length - k) (0) ⟨Nat.zero_le _,fun j h => absurd h (by omega)⟩ ?_
 rintro k ⟨hk,hall⟩
 by_cases hkn : k < L.length
 ·have hmk := hmem k hkn
  repeat' (first|refine aE ?_|(refine aK ?_ ?_ <;> intro hc hq <;> try (exfalso;omega))|fail)
  ·have hu : cE ts s x = true := (cO htl).2 ⟨L[k]!, by rw [← hL]; exact aW _ _ hkn, by assumption⟩
   rw [xG hu]
   (refine aD rfl ?_; refine aR () trivial ?_ ⟨sE ?_,⟨sE ?_,⟨sE ?_,trivial⟩⟩⟩)
   ·rfl
   ·rfl
   ·rfl
   ·rfl
  ·(refine bE (k + 1) (Le.renA [(3, 3)]) ?_ ?_)
   ·refine ⟨by omega, fun j hj => ?_⟩
    rcases Nat.lt_or_ge j k with h|h
    ·exact hall j h
    ·rw [show j = k by omega]; assumption
   ·omega
 ·have hu : cE ts s x = false := by
   cases q : cE ts s x with
   | false => rfl
   | true =>
    obtain ⟨v,hv,hs⟩ := (cO htl).1 q
    rw [← hL] at hv
    obtain ⟨j,hj,e⟩ := List.getElem_of_mem hv
    have h1 := hall j (by omega)
    rw [bC _ _ hj,e,hs] at h1;cases h1
  rw [tA hu]
  have hml := hm.l
  have hnc := DP s.cells hm x.n
  by_cases h2 : s.cells.length = 200
  ·rw [if_neg (by omega)] at hnc
   have hd : bT ts s x = (s,1) := by unfold bT;rw [if_neg (show ¬ x.op = 1 by omega),if_pos ho,if_pos h2]
   rw [hd]
   repeat' (first|(apply aF;(apply aA (k := 198);rfl;exact hnc;exact Pur.pf;rfl))|refine aE ?_|(refine aK ?_ ?_ <;> intro hc hq <;> try (exfalso;omega))|refine bQ ?_|fail)
   (refine aD rfl ?_; refine aR () trivial ?_ ⟨sE ?_,⟨sE ?_,⟨sE ?_,trivial⟩⟩⟩)
   ·rfl
   ·rfl
   ·rfl
   ·rfl
  ·rw [if_pos (by omega)] at hnc
   have hp := nX ts bd pts ⟨s.slots,s.cells ++ [oT x.n],s.read⟩ x.x ⟨true,0,⟨s.cells.length,0⟩⟩ (hm.nw hn (by omega)) hsl hx
   have hd : bT ts s x = bK ts ⟨s.slots,s.cells ++ [oT x.n],s.read⟩ x.x.toNat ⟨true,0,⟨s.cells.length,0⟩⟩ := by unfold bT;rw [if_neg (show ¬ x.op = 1 by omega),if_pos ho,if_neg h2]
   rw [hd]
   repeat' (first|(apply aF;first|(apply aA (k := 198);rfl;exact hnc;exact Pur.pf;rfl)|(apply lC (ts := ts) (bd := bd) (pts := pts) (s := ⟨s.slots,s.cells ++ [oT x.n],s.read⟩) (v := x.x) (y := ⟨true,0,⟨s.cells.length,0⟩⟩);rfl;rfl;rfl;rfl;rfl;rfl;rfl;exact hp;rfl;rfl))|refine aE ?_|(refine aK ?_ ?_ <;> intro hc hq <;> try (exfalso;omega))|refine bQ ?_|fail)
   (refine aD rfl ?_; refine aR () trivial ?_ ⟨sE ?_,⟨sE ?_,⟨sE ?_,trivial⟩⟩⟩)
   ·rfl
   ·rfl
   ·rfl
   ·rfl
theorem Rn (ts:List Int) (bd:List AL.Stmt) (pts:List Pnt) (s:Mc) (x:Pnt) (htl:ts.length ≤ 6) (hm:OkM s.cells) (hsl:s.slots.length = ts.length) (ho:x.op = 3) (hx:0 ≤ x.x ∧ x.x < ts.length) (hy:0 ≤ x.y ∧ x.y < ts.length):MC Tryz.prog 140 [.optr 0 0,dY x] [(0,some (mO ts bd pts 1 2 s)),(1,some (flat dK s.slots)),(2,some (flat cI s.read))] 3 (fun _:Unit => True) (fun _ => iv (eE ts s x).2) (fun _ => [(0,some (mO ts bd pts 1 2 (eE ts s x).1)),(1,some (flat dK (eE ts s x).1.slots)),(2,some (flat cI (eE ts s x).1.read))]):=by
 have hus := g0 ts bd pts x htl
 have hsm : Sm (wS ts x [1,2,3]) := bY (by omega)
 obtain ⟨L,hL⟩ : ∃ L,L = a8 (wS ts x [1,2,3]) := ⟨_,rfl⟩
 have hLl : L.length ≤ 62 := by rw [hL]; exact cJ _
 have hmem : ∀ k, k < L.length → 0 ≤ L[k]! ∧ L[k]! < s.slots.length := fun k hk => by
  rw [hsl]; exact iM (by rw [← hL]; exact aW _ _ hk)
 refine aV Tryz.func140 Tryz.ntmps140 ?_
 repeat' (first|(apply aF;first|(apply aA (k := 158);rfl;exact hus;exact Pur.pf;rfl)|(apply aA (k := 120);rfl;(apply gD <;> (assumption));(rfl);rfl))|refine aE ?_|refine bQ ?_|fail)
 rw [← hL]
 refine aH (σ := Nat) [0,3,26,27] [0,1,2,3] (fun k => [(28,iv (k : Int))]) (fun k => []) (fun k => k ≤ L.length ∧ ∀ j,j < k → s.slots[(L[j]!).toNat]!.set = true) (fun k => L.length - k) (0) ⟨Nat.zero_le _,fun j h => absurd h (by omega)⟩ ?_
 rintro k ⟨hk,hall⟩
 by_cases hkn : k < L.length
 ·have hmk := hmem k hkn
  repeat' (first|refine aE ?_|(refine aK ?_ ?_ <;> intro hc hq <;> try (exfalso;omega))|fail)
  ·have hu : cE ts s x = true := (cO htl).2 ⟨L[k]!, by rw [← hL]; exact aW _ _ hkn, by assumption⟩
   rw [xG hu]
   (refine aD rfl ?_; refine aR () trivial ?_ ⟨sE ?_,⟨sE ?_,⟨sE ?_,trivial⟩⟩⟩)
   ·rfl
   ·rfl
   ·rfl
   ·rfl
  ·(refine bE (k + 1) (Le.renA [(3, 3)]) ?_ ?_)
   ·refine ⟨by omega, fun j hj => ?_⟩
    rcases Nat.lt_or_ge j k with h|h
    ·exact hall j h
    ·rw [show j = k by omega]; assumption
   ·omega
 ·have hu : cE ts s x = false := by
   cases q : cE ts s x with
   | false => rfl
   | true =>
    obtain ⟨v,hv,hs⟩ := (cO htl).1 q
    rw [← hL] at hv
    obtain ⟨j,hj,e⟩ := List.getElem_of_mem hv
    have h1 := hall j (by omega)
    rw [bC _ _ hj,e,hs] at h1;cases h1
  rw [tA hu]
  have hd : bT ts s x = bK ts (if xA ts[x.y.toNat]! = true then ⟨s.slots.set x.y.toNat gP,s.cells,s.read⟩ else s) x.x.toNat s.slots[x.y.toNat]! := by unfold bT;rw [if_neg (show ¬ x.op = 1 by omega),if_neg (show ¬ x.op = 2 by omega),if_pos ho]
  rw [hd]
  have htk := z7 ts bd pts x.y hy
  by_cases hk : xA ts[x.y.toNat]! = true
  ·rw [hk] at htk
   rw [if_pos hk]
   have hp := nX ts bd pts ⟨s.slots.set x.y.toNat gP,s.cells,s.read⟩ x.x s.slots[x.y.toNat]! hm (by show (s.slots.set _ _).length = _; rw [List.length_set]; exact hsl) hx
   repeat' (first|(apply aF;first|(apply aA (k := 199);rfl;exact htk;exact Pur.pf;rfl)|(apply lC (ts := ts) (bd := bd) (pts := pts) (s := ⟨s.slots.set x.y.toNat gP,s.cells,s.read⟩) (v := x.x) (y := s.slots[x.y.toNat]!);rfl;rfl;rfl;rfl;rfl;rfl;rfl;exact hp;rfl;rfl)|(apply bF;rfl;rfl;rfl;rfl;rfl;(case hl => (first|(rw [aI]; simp only [gE] <;> omega)|(simp;done)));(exact yT (by (omega)))))|refine aE ?_|(refine aK ?_ ?_ <;> intro hc hq <;> try (exfalso;omega))|refine bQ ?_|fail)
   (refine aD rfl ?_; refine aR () trivial ?_ ⟨sE ?_,⟨sE ?_,⟨sE ?_,trivial⟩⟩⟩)
   ·rfl
   ·rfl
   ·rfl
   ·rfl
  ·have hk2 : xA ts[x.y.toNat]! = false := by simpa using hk
   rw [hk2] at htk
   rw [if_neg hk]
   have hp := nX ts bd pts s x.x s.slots[x.y.toNat]! hm hsl hx
   repeat' (first|(apply aF;first|(apply aA (k := 199);rfl;exact htk;exact Pur.pf;rfl)|(apply lC (ts := ts) (bd := bd) (pts := pts) (s := s) (v := x.x) (y := s.slots[x.y.toNat]!);rfl;rfl;rfl;rfl;rfl;rfl;rfl;exact hp;rfl;rfl))|refine aE ?_|(refine aK ?_ ?_ <;> intro hc hq <;> try (exfalso;omega))|refine bQ ?_|fail)
   (refine aD rfl ?_; refine aR () trivial ?_ ⟨sE ?_,⟨sE ?_,⟨sE ?_,trivial⟩⟩⟩)
   ·rfl
   ·rfl
   ·rfl
   ·rfl
theorem OG (ts:List Int) (bd:List AL.Stmt) (pts:List Pnt) (s:Mc) (x:Pnt) (htl:ts.length ≤ 6) (hm:OkM s.cells) (hsl:s.slots.length = ts.length) (ho:x.op = 4 ∨ x.op = 5) (hx:0 ≤ x.x ∧ x.x < ts.length) (hy:0 ≤ x.y ∧ x.y < ts.length):MC Tryz.prog 140 [.optr 0 0,dY x] [(0,some (mO ts bd pts 1 2 s)),(1,some (flat dK s.slots)),(2,some (flat cI s.read))] 3 (fun _:Unit => True) (fun _ => iv (eE ts s x).2) (fun _ => [(0,some (mO ts bd pts 1 2 (eE ts s x).1)),(1,some (flat dK (eE ts s x).1.slots)),(2,some (flat cI (eE ts s x).1.read))]):=by
 have hus := g0 ts bd pts x htl
 have hsm : Sm (wS ts x [1,2,3]) := bY (by omega)
 obtain ⟨L,hL⟩ : ∃ L,L = a8 (wS ts x [1,2,3]) := ⟨_,rfl⟩
 have hLl : L.length ≤ 62 := by rw [hL]; exact cJ _
 have hmem : ∀ k, k < L.length → 0 ≤ L[k]! ∧ L[k]! < s.slots.length := fun k hk => by
  rw [hsl]; exact iM (by rw [← hL]; exact aW _ _ hk)
 refine aV Tryz.func140 Tryz.ntmps140 ?_
 repeat' (first|(apply aF;first|(apply aA (k := 158);rfl;exact hus;exact Pur.pf;rfl)|(apply aA (k := 120);rfl;(apply gD <;> (assumption));(rfl);rfl))|refine aE ?_|refine bQ ?_|fail)
 rw [← hL]
 refine aH (σ := Nat) [0,3,26,27] [0,1,2,3] (fun k => [(28,iv (k : Int))]) (fun k => []) (fun k => k ≤ L.length ∧ ∀ j,j < k → s.slots[(L[j]!).toNat]!.set = true) (fun k => L.length - k) (0) ⟨Nat.zero_le _,fun j h => absurd h (by omega)⟩ ?_
 rintro k ⟨hk,hall⟩
 by_cases hkn : k < L.length
 ·have hmk := hmem k hkn
  repeat' (first|refine aE ?_|(refine aK ?_ ?_ <;> intro hc hq <;> try (exfalso;omega))|fail)
  ·have hu : cE ts s x = true := (cO htl).2 ⟨L[k]!, by rw [← hL]; exact aW _ _ hkn, by assumption⟩
   rw [xG hu]
   (refine aD rfl ?_; refine aR () trivial ?_ ⟨sE ?_,⟨sE ?_,⟨sE ?_,trivial⟩⟩⟩)
   ·rfl
   ·rfl
   ·rfl
   ·rfl
  ·(refine bE (k + 1) (Le.renA [(3, 3)]) ?_ ?_)
   ·refine ⟨by omega, fun j hj => ?_⟩
    rcases Nat.lt_or_ge j k with h|h
    ·exact hall j h
    ·rw [show j = k by omega]; assumption
   ·omega
 ·have hu : cE ts s x = false := by
   cases q : cE ts s x with
   | false => rfl
   | true =>
    obtain ⟨v,hv,hs⟩ := (cO htl).1 q
    rw [← hL] at hv
    obtain ⟨j,hj,e⟩ := List.getElem_of_mem hv
    have h1 := hall j (by omega)
    rw [bC _ _ hj,e,hs] at h1;cases h1
  rw [tA hu]
  have hle := LW s.cells hm s.slots[x.y.toNat]!.ptr (decide (x.op = 5))
  by_cases hk : kV s.cells s.slots[x.y.toNat]!.ptr (decide (x.op = 5)) = 0
  ·have hp := nX ts bd pts ⟨s.slots, jT s.cells s.slots[x.y.toNat]!.ptr (decide (x.op = 5)), s.read⟩ x.x ⟨true, 0, qI s.cells s.slots[x.y.toNat]!.ptr (decide (x.op = 5))⟩ (hm.ln _ _) hsl hx
   have hd : bT ts s x = bK ts ⟨s.slots,jT s.cells s.slots[x.y.toNat]!.ptr (decide (x.op = 5)),s.read⟩ x.x.toNat ⟨true,0,qI s.cells s.slots[x.y.toNat]!.ptr (decide (x.op = 5))⟩ := by unfold bT;rw [if_neg (show ¬ x.op = 1 by omega),if_neg (show ¬ x.op = 2 by omega),if_neg (show ¬ x.op = 3 by omega),if_pos ho,if_pos hk]
   rw [hd]
   rw [hk] at hle
   repeat' (first|(apply aF;first|(apply jP;(case hx|hH => rfl);(case hf|hg|hα => infer_instance);(case hk => omega);(case hj => decide);(case hc => exact (rfl:_=[_,_]));(case h0|hN => rfl))|(apply aA (k := 200);rfl;exact hle;exact Pur.pf;rfl)|(apply lC (ts := ts) (bd := bd) (pts := pts) (s := ⟨s.slots,jT s.cells s.slots[x.y.toNat]!.ptr (decide (x.op = 5)),s.read⟩) (v := x.x) (y := ⟨true,0,qI s.cells s.slots[x.y.toNat]!.ptr (decide (x.op = 5))⟩);(case ha0|ha1|ha2|hH0|hH1|hH2|hdd => rfl);(case hmc => exact hp);(case hM|hN => rfl)))|refine aE ?_|(refine aK ?_ ?_ <;> intro hc hq <;> try (exfalso;omega))|refine bQ ?_|fail)
   all_goals (
    (refine aD rfl ?_; refine aR () trivial ?_ ⟨sE ?_,⟨sE ?_,⟨sE ?_,trivial⟩⟩⟩)
    ·rfl
    ·rfl
    ·rfl
    ·rfl)
  ·have hd : bT ts s x = (s, eJ (kV s.cells s.slots[x.y.toNat]!.ptr (decide (x.op = 5)))) := by unfold bT; rw [if_neg (show ¬ x.op = 1 by omega), if_neg (show ¬ x.op = 2 by omega), if_neg (show ¬ x.op = 3 by omega), if_pos ho, if_neg hk]
   rw [hd]
   repeat' (first|(apply aF;first|(apply jP;(case hx|hH => rfl);(case hf|hg|hα => infer_instance);(case hk => omega);(case hj => decide);(case hc => exact (rfl:_=[_,_]));(case h0|hN => rfl))|(apply aA (k := 200);rfl;exact hle;exact Pur.pf;rfl)|(apply aA (k := 201);rfl;(apply tR);(rfl);rfl))|refine aE ?_|(refine aK ?_ ?_ <;> intro hc hq <;> try (exfalso;omega))|refine bQ ?_|fail)
   all_goals (
    (refine aD rfl ?_; refine aR () trivial ?_ ⟨sE ?_,⟨sE ?_,⟨sE ?_,trivial⟩⟩⟩)
    ·rfl
    ·rfl
    ·rfl
    ·rfl)
theorem Q6 (ts:List Int) (bd:List AL.Stmt) (pts:List Pnt) (s:Mc) (x:Pnt) (htl:ts.length ≤ 6) (hm:OkM s.cells) (hsl:s.slots.length = ts.length) (ho:x.op = 6) (hrl:s.read.length ≤ 1000) (hx:0 ≤ x.x ∧ x.x < ts.length) (hy:0 ≤ x.y ∧ x.y < ts.length) (hz:¬ a7 s.cells s.slots[x.y.toNat]!.ptr false = 0):MC Tryz.prog 140 [.optr 0 0,dY x] [(0,some (mO ts bd pts 1 2 s)),(1,some (flat dK s.slots)),(2,some (flat cI s.read))] 3 (fun _:Unit => True) (fun _ => iv (eE ts s x).2) (fun _ => [(0,some (mO ts bd pts 1 2 (eE ts s x).1)),(1,some (flat dK (eE ts s x).1.slots)),(2,some (flat cI (eE ts s x).1.read))]):=by
 have hus := g0 ts bd pts x htl
 have hsm : Sm (wS ts x [1,2,3]) := bY (by omega)
 obtain ⟨L,hL⟩ : ∃ L,L = a8 (wS ts x [1,2,3]) := ⟨_,rfl⟩
 have hLl : L.length ≤ 62 := by rw [hL]; exact cJ _
 have hmem : ∀ k, k < L.length → 0 ≤ L[k]! ∧ L[k]! < s.slots.length := fun k hk => by
  rw [hsl]; exact iM (by rw [← hL]; exact aW _ _ hk)
 refine aV Tryz.func140 Tryz.ntmps140 ?_
 repeat' (first|(apply aF;first|(apply aA (k := 158);rfl;exact hus;exact Pur.pf;rfl)|(apply aA (k := 120);rfl;(apply gD <;> (assumption));(rfl);rfl))|refine aE ?_|refine bQ ?_|fail)
 rw [← hL]
 refine aH (σ := Nat) [0,3,26,27] [0,1,2,3] (fun k => [(28,iv (k : Int))]) (fun k => []) (fun k => k ≤ L.length ∧ ∀ j,j < k → s.slots[(L[j]!).toNat]!.set = true) (fun k => L.length - k) (0) ⟨Nat.zero_le _,fun j h => absurd h (by omega)⟩ ?_
 rintro k ⟨hk,hall⟩
 by_cases hkn : k < L.length
 ·have hmk := hmem k hkn
  repeat' (first|refine aE ?_|(refine aK ?_ ?_ <;> intro hc hq <;> try (exfalso;omega))|fail)
  ·have hu : cE ts s x = true := (cO htl).2 ⟨L[k]!, by rw [← hL]; exact aW _ _ hkn, by assumption⟩
   rw [xG hu]
   (refine aD rfl ?_; refine aR () trivial ?_ ⟨sE ?_,⟨sE ?_,⟨sE ?_,trivial⟩⟩⟩)
   ·rfl
   ·rfl
   ·rfl
   ·rfl
  ·(refine bE (k + 1) (Le.renA [(3, 3)]) ?_ ?_)
   ·refine ⟨by omega, fun j hj => ?_⟩
    rcases Nat.lt_or_ge j k with h|h
    ·exact hall j h
    ·rw [show j = k by omega]; assumption
   ·omega
 ·have hu : cE ts s x = false := by
   cases q : cE ts s x with
   | false => rfl
   | true =>
    obtain ⟨v,hv,hs⟩ := (cO htl).1 q
    rw [← hL] at hv
    obtain ⟨j,hj,e⟩ := List.getElem_of_mem hv
    have h1 := hall j (by omega)
    rw [bC _ _ hj,e,hs] at h1;cases h1
  rw [tA hu]
  have hrc := sJ s.cells hm s.slots[x.y.toNat]!.ptr
  have hd : bT ts s x = (s,eJ (a7 s.cells s.slots[x.y.toNat]!.ptr false)) := by unfold bT;rw [if_neg (show ¬ x.op = 1 by omega),if_neg (show ¬ x.op = 2 by omega),if_neg (show ¬ x.op = 3 by omega),if_neg (show ¬ (x.op = 4 ∨ x.op = 5) by omega),if_pos ho,if_neg hz]
  rw [hd]
  repeat' (first|(apply aF;first|(apply jP;(case hx|hH => rfl);(case hf|hg|hα => infer_instance);(case hk => omega);(case hj => decide);(case hc => exact (rfl:_=[_,_]));(case h0|hN => rfl))|(apply aA (k := 202);rfl;exact hrc;exact Pur.pf;rfl)|(apply aA (k := 201);rfl;(apply tR);(rfl);rfl))|refine aE ?_|(refine aK ?_ ?_ <;> intro hc hq <;> try (exfalso;omega))|refine bQ ?_|fail)
  (refine aD rfl ?_; refine aR () trivial ?_ ⟨sE ?_,⟨sE ?_,⟨sE ?_,trivial⟩⟩⟩)
  ·rfl
  ·rfl
  ·rfl
  ·rfl
theorem Qv (ts:List Int) (bd:List AL.Stmt) (pts:List Pnt) (s:Mc) (x:Pnt) (htl:ts.length ≤ 6) (hm:OkM s.cells) (hsl:s.slots.length = ts.length) (ho:x.op = 7) (hx:0 ≤ x.x ∧ x.x < ts.length) (hy:0 ≤ x.y ∧ x.y < ts.length):MC Tryz.prog 140 [.optr 0 0,dY x] [(0,some (mO ts bd pts 1 2 s)),(1,some (flat dK s.slots)),(2,some (flat cI s.read))] 3 (fun _:Unit => True) (fun _ => iv (eE ts s x).2) (fun _ => [(0,some (mO ts bd pts 1 2 (eE ts s x).1)),(1,some (flat dK (eE ts s x).1.slots)),(2,some (flat cI (eE ts s x).1.read))]):=by
 have hus := g0 ts bd pts x htl
 have hsm : Sm (wS ts x [1,2,3]) := bY (by omega)
 obtain ⟨L,hL⟩ : ∃ L,L = a8 (wS ts x [1,2,3]) := ⟨_,rfl⟩
 have hLl : L.length ≤ 62 := by rw [hL]; exact cJ _
 have hmem : ∀ k, k < L.length → 0 ≤ L[k]! ∧ L[k]! < s.slots.length := fun k hk => by
  rw [hsl]; exact iM (by rw [← hL]; exact aW _ _ hk)
 refine aV Tryz.func140 Tryz.ntmps140 ?_
 repeat' (first|(apply aF;first|(apply aA (k := 158);rfl;exact hus;exact Pur.pf;rfl)|(apply aA (k := 120);rfl;(apply gD <;> (assumption));(rfl);rfl))|refine aE ?_|refine bQ ?_|fail)
 rw [← hL]
 refine aH (σ := Nat) [0,3,26,27] [0,1,2,3] (fun k => [(28,iv (k : Int))]) (fun k => []) (fun k => k ≤ L.length ∧ ∀ j,j < k → s.slots[(L[j]!).toNat]!.set = true) (fun k => L.length - k) (0) ⟨Nat.zero_le _,fun j h => absurd h (by omega)⟩ ?_
 rintro k ⟨hk,hall⟩
 by_cases hkn : k < L.length
 ·have hmk := hmem k hkn
  repeat' (first|refine aE ?_|(refine aK ?_ ?_ <;> intro hc hq <;> try (exfalso;omega))|fail)
  ·have hu : cE ts s x = true := (cO htl).2 ⟨L[k]!, by rw [← hL]; exact aW _ _ hkn, by assumption⟩
   rw [xG hu]
   (refine aD rfl ?_; refine aR () trivial ?_ ⟨sE ?_,⟨sE ?_,⟨sE ?_,trivial⟩⟩⟩)
   ·rfl
   ·rfl
   ·rfl
   ·rfl
  ·(refine bE (k + 1) (Le.renA [(3, 3)]) ?_ ?_)
   ·refine ⟨by omega, fun j hj => ?_⟩
    rcases Nat.lt_or_ge j k with h|h
    ·exact hall j h
    ·rw [show j = k by omega]; assumption
   ·omega
 ·have hu : cE ts s x = false := by
   cases q : cE ts s x with
   | false => rfl
   | true =>
    obtain ⟨v,hv,hs⟩ := (cO htl).1 q
    rw [← hL] at hv
    obtain ⟨j,hj,e⟩ := List.getElem_of_mem hv
    have h1 := hall j (by omega)
    rw [bC _ _ hj,e,hs] at h1;cases h1
  rw [tA hu]
  have hwr := Ao s.cells hm s.slots[x.x.toNat]!.ptr s.slots[x.y.toNat]!.num
  have hd : bT ts s x = (⟨s.slots,oQ s.cells s.slots[x.x.toNat]!.ptr s.slots[x.y.toNat]!.num,s.read⟩,kI (qU s.cells s.slots[x.x.toNat]!.ptr s.slots[x.y.toNat]!.num)) := by unfold bT;rw [if_neg (show ¬ x.op = 1 by omega),if_neg (show ¬ x.op = 2 by omega),if_neg (show ¬ x.op = 3 by omega),if_neg (show ¬ (x.op = 4 ∨ x.op = 5) by omega),if_neg (show ¬ x.op = 6 by omega),if_pos ho]
  rw [hd]
  repeat' (first|(apply aF;first|(apply jP;(case hx|hH => rfl);(case hf|hg|hα => infer_instance);(case hk => omega);(case hj => decide);(case hc => exact (rfl:_=[_,_]));(case h0|hN => rfl))|(apply aA (k := 203);rfl;exact hwr;exact Pur.pf;rfl)|(apply aA (k := 201);rfl;(apply tR);(rfl);rfl))|refine aE ?_|(refine aK ?_ ?_ <;> intro hc hq <;> try (exfalso;omega))|refine bQ ?_|fail)
  ·have hk : ¬ qU s.cells s.slots[x.x.toNat]!.ptr s.slots[x.y.toNat]!.num = 0 := by assumption
   (refine aD rfl ?_; refine aR () trivial ?_ ⟨sE ?_,⟨sE ?_,⟨sE ?_,trivial⟩⟩⟩)
   ·show iv (eJ _) = iv (kI _)
    unfold kI;rw [if_neg hk]
   ·rfl
   ·rfl
   ·rfl
  ·have hk : qU s.cells s.slots[x.x.toNat]!.ptr s.slots[x.y.toNat]!.num = 0 := by assumption
   (refine aD rfl ?_; refine aR () trivial ?_ ⟨sE ?_,⟨sE ?_,⟨sE ?_,trivial⟩⟩⟩)
   ·rw [hk]; rfl
   ·rfl
   ·rfl
   ·rfl
theorem Q7 (ts:List Int) (bd:List AL.Stmt) (pts:List Pnt) (s:Mc) (x:Pnt) (htl:ts.length ≤ 6) (hm:OkM s.cells) (hsl:s.slots.length = ts.length) (ho:x.op = 8) (hx:0 ≤ x.x ∧ x.x < ts.length):MC Tryz.prog 140 [.optr 0 0,dY x] [(0,some (mO ts bd pts 1 2 s)),(1,some (flat dK s.slots)),(2,some (flat cI s.read))] 3 (fun _:Unit => True) (fun _ => iv (eE ts s x).2) (fun _ => [(0,some (mO ts bd pts 1 2 (eE ts s x).1)),(1,some (flat dK (eE ts s x).1.slots)),(2,some (flat cI (eE ts s x).1.read))]):=by
 have hus := g0 ts bd pts x htl
 have hsm : Sm (wS ts x [1,2,3]) := bY (by omega)
 obtain ⟨L,hL⟩ : ∃ L,L = a8 (wS ts x [1,2,3]) := ⟨_,rfl⟩
 have hLl : L.length ≤ 62 := by rw [hL]; exact cJ _
 have hmem : ∀ k, k < L.length → 0 ≤ L[k]! ∧ L[k]! < s.slots.length := fun k hk => by
  rw [hsl]; exact iM (by rw [← hL]; exact aW _ _ hk)
 refine aV Tryz.func140 Tryz.ntmps140 ?_
 repeat' (first|(apply aF;first|(apply aA (k := 158);rfl;exact hus;exact Pur.pf;rfl)|(apply aA (k := 120);rfl;(apply gD <;> (assumption));(rfl);rfl))|refine aE ?_|refine bQ ?_|fail)
 rw [← hL]
 refine aH (σ := Nat) [0,3,26,27] [0,1,2,3] (fun k => [(28,iv (k : Int))]) (fun k => []) (fun k => k ≤ L.length ∧ ∀ j,j < k → s.slots[(L[j]!).toNat]!.set = true) (fun k => L.length - k) (0) ⟨Nat.zero_le _,fun j h => absurd h (by omega)⟩ ?_
 rintro k ⟨hk,hall⟩
 by_cases hkn : k < L.length
 ·have hmk := hmem k hkn
  repeat' (first|refine aE ?_|(refine aK ?_ ?_ <;> intro hc hq <;> try (exfalso;omega))|fail)
  ·have hu : cE ts s x = true := (cO htl).2 ⟨L[k]!, by rw [← hL]; exact aW _ _ hkn, by assumption⟩
   rw [xG hu]
   (refine aD rfl ?_; refine aR () trivial ?_ ⟨sE ?_,⟨sE ?_,⟨sE ?_,trivial⟩⟩⟩)
   ·rfl
   ·rfl
   ·rfl
   ·rfl
  ·(refine bE (k + 1) (Le.renA [(3, 3)]) ?_ ?_)
   ·refine ⟨by omega, fun j hj => ?_⟩
    rcases Nat.lt_or_ge j k with h|h
    ·exact hall j h
    ·rw [show j = k by omega]; assumption
   ·omega
 ·have hu : cE ts s x = false := by
   cases q : cE ts s x with
   | false => rfl
   | true =>
    obtain ⟨v,hv,hs⟩ := (cO htl).1 q
    rw [← hL] at hv
    obtain ⟨j,hj,e⟩ := List.getElem_of_mem hv
    have h1 := hall j (by omega)
    rw [bC _ _ hj,e,hs] at h1;cases h1
  rw [tA hu]
  have hfr := KN ts bd pts s x.x hm hsl hx
  have hd : bT ts s x = (⟨s.slots.set x.x.toNat gP,g8 s.cells s.slots[x.x.toNat]!.ptr,s.read⟩,kI (a7 s.cells s.slots[x.x.toNat]!.ptr true)) := by unfold bT;rw [if_neg (show ¬ x.op = 1 by omega),if_neg (show ¬ x.op = 2 by omega),if_neg (show ¬ x.op = 3 by omega),if_neg (show ¬ (x.op = 4 ∨ x.op = 5) by omega),if_neg (show ¬ x.op = 6 by omega),if_neg (show ¬ x.op = 7 by omega),if_pos ho]
  rw [hd]
  repeat' (first|(apply aF;first|(apply Gu (ts := ts) (bd := bd) (pts := pts) (s := s) (v := x.x);rfl;rfl;rfl;rfl;rfl;rfl;exact hfr;rfl;rfl)|(apply bF;rfl;rfl;rfl;rfl;rfl;(rw [aI]; simp only [gE] <;> omega);(exact yT (by (omega)))))|refine aE ?_|(refine aK ?_ ?_ <;> intro hc hq <;> try (exfalso;omega))|refine bQ ?_|fail)
  (refine aD rfl ?_; refine aR () trivial ?_ ⟨sE ?_,⟨sE ?_,⟨sE ?_,trivial⟩⟩⟩)
  ·rfl
  ·rfl
  ·rfl
  ·rfl
theorem QD (ts:List Int) (bd:List AL.Stmt) (pts:List Pnt) (s:Mc) (x:Pnt) (htl:ts.length ≤ 6) (hm:OkM s.cells) (hsl:s.slots.length = ts.length) (ho:x.op = 9 ∨ x.op = 10 ∨ x.op = 11):MC Tryz.prog 140 [.optr 0 0,dY x] [(0,some (mO ts bd pts 1 2 s)),(1,some (flat dK s.slots)),(2,some (flat cI s.read))] 3 (fun _:Unit => True) (fun _ => iv (eE ts s x).2) (fun _ => [(0,some (mO ts bd pts 1 2 (eE ts s x).1)),(1,some (flat dK (eE ts s x).1.slots)),(2,some (flat cI (eE ts s x).1.read))]):=by
 have hus := g0 ts bd pts x htl
 have hsm : Sm (wS ts x [1,2,3]) := bY (by omega)
 obtain ⟨L,hL⟩ : ∃ L,L = a8 (wS ts x [1,2,3]) := ⟨_,rfl⟩
 have hLl : L.length ≤ 62 := by rw [hL]; exact cJ _
 have hmem : ∀ k, k < L.length → 0 ≤ L[k]! ∧ L[k]! < s.slots.length := fun k hk => by
  rw [hsl]; exact iM (by rw [← hL]; exact aW _ _ hk)
 refine aV Tryz.func140 Tryz.ntmps140 ?_
 repeat' (first|(apply aF;first|(apply aA (k := 158);rfl;exact hus;exact Pur.pf;rfl)|(apply aA (k := 120);rfl;(apply gD <;> (assumption));(rfl);rfl))|refine aE ?_|refine bQ ?_|fail)
 rw [← hL]
 refine aH (σ := Nat) [0,3,26,27] [0,1,2,3] (fun k => [(28,iv (k : Int))]) (fun k => []) (fun k => k ≤ L.length ∧ ∀ j,j < k → s.slots[(L[j]!).toNat]!.set = true) (fun k => L.length - k) (0) ⟨Nat.zero_le _,fun j h => absurd h (by omega)⟩ ?_
 rintro k ⟨hk,hall⟩
 by_cases hkn : k < L.length
 ·have hmk := hmem k hkn
  repeat' (first|refine aE ?_|(refine aK ?_ ?_ <;> intro hc hq <;> try (exfalso;omega))|fail)
  ·have hu : cE ts s x = true := (cO htl).2 ⟨L[k]!, by rw [← hL]; exact aW _ _ hkn, by assumption⟩
   rw [xG hu]
   (refine aD rfl ?_; refine aR () trivial ?_ ⟨sE ?_,⟨sE ?_,⟨sE ?_,trivial⟩⟩⟩)
   ·rfl
   ·rfl
   ·rfl
   ·rfl
  ·(refine bE (k + 1) (Le.renA [(3, 3)]) ?_ ?_)
   ·refine ⟨by omega, fun j hj => ?_⟩
    rcases Nat.lt_or_ge j k with h|h
    ·exact hall j h
    ·rw [show j = k by omega]; assumption
   ·omega
 ·have hu : cE ts s x = false := by
   cases q : cE ts s x with
   | false => rfl
   | true =>
    obtain ⟨v,hv,hs⟩ := (cO htl).1 q
    rw [← hL] at hv
    obtain ⟨j,hj,e⟩ := List.getElem_of_mem hv
    have h1 := hall j (by omega)
    rw [bC _ _ hj,e,hs] at h1;cases h1
  rw [tA hu]
  by_cases h11 : x.op = 11
  ·have hd : bT ts s x = cT ts ts.length 0 s := wM h11
   rw [hd]
   have hfi := PB ts bd pts s hm hsl (by omega)
   repeat' (first|(apply aF;(apply Nf (ts := ts) (bd := bd) (pts := pts) (s := s);rfl;rfl;rfl;rfl;rfl;exact hfi;rfl;rfl))|refine aE ?_|(refine aK ?_ ?_ <;> intro hc hq <;> try (exfalso;omega))|fail)
   (refine aD rfl ?_; refine aR () trivial ?_ ⟨sE ?_,⟨sE ?_,⟨sE ?_,trivial⟩⟩⟩)
   ·rfl
   ·rfl
   ·rfl
   ·rfl
  ·have hd : bT ts s x = (s, -1) := by unfold bT; rw [if_neg (show ¬ x.op = 1 by omega), if_neg (show ¬ x.op = 2 by omega), if_neg (show ¬ x.op = 3 by omega), if_neg (show ¬ (x.op = 4 ∨ x.op = 5) by omega), if_neg (show ¬ x.op = 6 by omega), if_neg (show ¬ x.op = 7 by omega), if_neg (show ¬ x.op = 8 by omega), if_neg (show ¬ x.op = 11 by omega)]
   rw [hd]
   repeat' (first|refine aE ?_|(refine aK ?_ ?_ <;> intro hc hq <;> try (exfalso;omega))|fail)
   (refine aD rfl ?_; refine aR () trivial ?_ ⟨sE ?_,⟨sE ?_,⟨sE ?_,trivial⟩⟩⟩)
   ·rfl
   ·rfl
   ·rfl
   ·rfl
theorem PO (ts:List Int) (bd:List AL.Stmt) (pts:List Pnt) (s:Mc) (x:Pnt) (htl:ts.length ≤ 6) (hm:OkM s.cells) (hsl:s.slots.length = ts.length) (ho:x.op = 6) (hrl:s.read.length ≤ 1000) (hx:0 ≤ x.x ∧ x.x < ts.length) (hy:0 ≤ x.y ∧ x.y < ts.length) (hz:a7 s.cells s.slots[x.y.toNat]!.ptr false = 0) (hun:cE ts s x = false):MC Tryz.prog 140 [.optr 0 0,dY x] [(0,some (mO ts bd pts 1 2 s)),(1,some (flat dK s.slots)),(2,some (flat cI s.read))] 3 (fun _:Unit => True) (fun _ => iv (eE ts s x).2) (fun _ => [(0,some (mO ts bd pts 1 5 (eE ts s x).1)),(1,some (flat dK (eE ts s x).1.slots)),(5,some (flat cI (eE ts s x).1.read))]):=by
 have hus := g0 ts bd pts x htl
 have hsm : Sm (wS ts x [1,2,3]) := bY (by omega)
 obtain ⟨L,hL⟩ : ∃ L,L = a8 (wS ts x [1,2,3]) := ⟨_,rfl⟩
 have hLl : L.length ≤ 62 := by rw [hL]; exact cJ _
 have hmem : ∀ k, k < L.length → 0 ≤ L[k]! ∧ L[k]! < s.slots.length := fun k hk => by
  rw [hsl]; exact iM (by rw [← hL]; exact aW _ _ hk)
 refine aV Tryz.func140 Tryz.ntmps140 ?_
 repeat' (first|(apply aF;first|(apply aA (k := 158);rfl;exact hus;exact Pur.pf;rfl)|(apply aA (k := 120);rfl;(apply gD <;> (assumption));(rfl);rfl))|refine aE ?_|refine bQ ?_|fail)
 rw [← hL]
 refine aH (σ := Nat) [0,3,26,27] [0,1,2,3] (fun k => [(28,iv (k : Int))]) (fun k => []) (fun k => k ≤ L.length ∧ ∀ j,j < k → s.slots[(L[j]!).toNat]!.set = true) (fun k => L.length - k) (0) ⟨Nat.zero_le _,fun j h => absurd h (by omega)⟩ ?_
 rintro k ⟨hk,hall⟩
 by_cases hkn : k < L.length
 ·have hmk := hmem k hkn
  repeat' (first|refine aE ?_|(refine aK ?_ ?_ <;> intro hc hq <;> try (exfalso;omega))|fail)
  ·exfalso
   have hu : cE ts s x = true := (cO htl).2 ⟨L[k]!,by rw [← hL]; exact aW _ _ hkn,by assumption⟩
   rw [hun] at hu;cases hu
  ·(refine bE (k + 1) (Le.renA [(3, 3)]) ?_ ?_)
   ·refine ⟨by omega, fun j hj => ?_⟩
    rcases Nat.lt_or_ge j k with h|h
    ·exact hall j h
    ·rw [show j = k by omega]; assumption
   ·omega
 ·have hu : cE ts s x = false := by
   cases q : cE ts s x with
   | false => rfl
   | true =>
    obtain ⟨v,hv,hs⟩ := (cO htl).1 q
    rw [← hL] at hv
    obtain ⟨j,hj,e⟩ := List.getElem_of_mem hv
    have h1 := hall j (by omega)
    rw [bC _ _ hj,e,hs] at h1;cases h1
  rw [tA hu]
  have hrc := sJ s.cells hm s.slots[x.y.toNat]!.ptr
  have hp := nX ts bd pts ⟨s.slots,cV s.cells s.slots[x.y.toNat]!.ptr false,s.read ++ [oN s.cells s.slots[x.y.toNat]!.ptr]⟩ x.x ⟨true,oN s.cells s.slots[x.y.toNat]!.ptr,⟨0,0⟩⟩ (hm.tch _ _) hsl hx
  have hd : bT ts s x = bK ts ⟨s.slots,cV s.cells s.slots[x.y.toNat]!.ptr false,s.read ++ [oN s.cells s.slots[x.y.toNat]!.ptr]⟩ x.x.toNat ⟨true,oN s.cells s.slots[x.y.toNat]!.ptr,⟨0,0⟩⟩ := by unfold bT;rw [if_neg (show ¬ x.op = 1 by omega),if_neg (show ¬ x.op = 2 by omega),if_neg (show ¬ x.op = 3 by omega),if_neg (show ¬ (x.op = 4 ∨ x.op = 5) by omega),if_pos ho,if_pos hz]
  rw [hd]
  rw [hz] at hrc
  repeat' (first|(apply aF;first|(apply jP;(case hx|hH => rfl);(case hf|hg|hα => infer_instance);(case hk => omega);(case hj => decide);(case hc => exact (rfl:_=[_,_]));(case h0|hN => rfl))|(apply aA (k := 202);rfl;exact hrc;exact Pur.pf;rfl)|(with_reducible apply aY (d := 184))|(apply aJ (t := _);rfl;rfl;rfl;exact (rfl:_=some [_]);rfl;rfl))|refine aE ?_|(refine aK ?_ ?_ <;> intro hc hq <;> try (exfalso;omega))|refine bQ ?_|fail)
  refine bZ ?_
  rw [show s.read.length + 1 = (s.read ++ [oN s.cells s.slots[x.y.toNat]!.ptr]).length from by rw [List.length_append]; rfl]
  repeat' (first|(apply aF;(apply lC (ts := ts) (bd := bd) (pts := pts) (s := ⟨s.slots,cV s.cells s.slots[x.y.toNat]!.ptr false,s.read ++ [oN s.cells s.slots[x.y.toNat]!.ptr]⟩) (v := x.x) (y := ⟨true,oN s.cells s.slots[x.y.toNat]!.ptr,⟨0,0⟩⟩);rfl;rfl;rfl;rfl;rfl;rfl;rfl;exact hp;rfl;rfl))|refine aE ?_|fail)
  (refine aD rfl ?_; refine aR () trivial ?_ ⟨sE ?_,⟨sE ?_,⟨sE ?_,trivial⟩⟩⟩)
  ·rfl
  ·rfl
  ·rfl
  ·rfl
theorem QO (ts:List Int) (bd:List AL.Stmt) (pts:List Pnt) (s:Mc) (x:Pnt) (htl:ts.length ≤ 6) (hm:OkM s.cells) (hsl:s.slots.length = ts.length) (hun:cE ts s x = true):MC Tryz.prog 140 [.optr 0 0,dY x] [(0,some (mO ts bd pts 1 2 s)),(1,some (flat dK s.slots)),(2,some (flat cI s.read))] 3 (fun _:Unit => True) (fun _ => iv (eE ts s x).2) (fun _ => [(0,some (mO ts bd pts 1 2 (eE ts s x).1)),(1,some (flat dK (eE ts s x).1.slots)),(2,some (flat cI (eE ts s x).1.read))]):=by
 have hus := g0 ts bd pts x htl
 have hsm : Sm (wS ts x [1,2,3]) := bY (by omega)
 obtain ⟨L,hL⟩ : ∃ L,L = a8 (wS ts x [1,2,3]) := ⟨_,rfl⟩
 have hLl : L.length ≤ 62 := by rw [hL]; exact cJ _
 have hmem : ∀ k, k < L.length → 0 ≤ L[k]! ∧ L[k]! < s.slots.length := fun k hk => by
  rw [hsl]; exact iM (by rw [← hL]; exact aW _ _ hk)
 refine aV Tryz.func140 Tryz.ntmps140 ?_
 repeat' (first|(apply aF;first|(apply aA (k := 158);rfl;exact hus;exact Pur.pf;rfl)|(apply aA (k := 120);rfl;(apply gD <;> (assumption));(rfl);rfl))|refine aE ?_|refine bQ ?_|fail)
 rw [← hL]
 refine aH (σ := Nat) [0,3,26,27] [0,1,2,3] (fun k => [(28,iv (k : Int))]) (fun k => []) (fun k => k ≤ L.length ∧ ∀ j,j < k → s.slots[(L[j]!).toNat]!.set = true) (fun k => L.length - k) (0) ⟨Nat.zero_le _,fun j h => absurd h (by omega)⟩ ?_
 rintro k ⟨hk,hall⟩
 by_cases hkn : k < L.length
 ·have hmk := hmem k hkn
  repeat' (first|refine aE ?_|(refine aK ?_ ?_ <;> intro hc hq <;> try (exfalso;omega))|fail)
  ·have hu : cE ts s x = true := (cO htl).2 ⟨L[k]!, by rw [← hL]; exact aW _ _ hkn, by assumption⟩
   rw [xG hu]
   (refine aD rfl ?_; refine aR () trivial ?_ ⟨sE ?_,⟨sE ?_,⟨sE ?_,trivial⟩⟩⟩)
   ·rfl
   ·rfl
   ·rfl
   ·rfl
  ·(refine bE (k + 1) (Le.renA [(3, 3)]) ?_ ?_)
   ·refine ⟨by omega, fun j hj => ?_⟩
    rcases Nat.lt_or_ge j k with h|h
    ·exact hall j h
    ·rw [show j = k by omega]; assumption
   ·omega
 ·have hu : cE ts s x = false := by
   cases q : cE ts s x with
   | false => rfl
   | true =>
    obtain ⟨v,hv,hs⟩ := (cO htl).1 q
    rw [← hL] at hv
    obtain ⟨j,hj,e⟩ := List.getElem_of_mem hv
    have h1 := hall j (by omega)
    rw [bC _ _ hj,e,hs] at h1;cases h1
  rw [tA hu]
  rw [hun] at hu;cases hu
theorem M8 {ts:List Int}{bd:List AL.Stmt}{pts:List Pnt}{s:Mc}{x:Pnt}{x0 x1:Operand}{i0 i1 i2:Nat}(ha0:ev (lk tsl) x0 = some (.optr i0 0)) (ha1:ev (lk tsl) x1 = some (dY x)) (hH0:aU hsl i0 = some (mO ts bd pts i1 i2 s)) (hH1:aU hsl i1 = some (flat dK s.slots)) (hH2:aU hsl i2 = some (flat cI s.read)) (hdd:Go.AL.distinct [i0,i1,i2] = true) (hmc:MC Tryz.prog 140 [.optr 0 0,dY x] [(0,some (mO ts bd pts 1 2 s)),(1,some (flat dK s.slots)),(2,some (flat cI s.read))] 3 (fun _:Unit => True) (fun _ => iv (eE ts s x).2) (fun _ => [(0,some (mO ts bd pts 1 5 (eE ts s x).1)),(1,some (flat dK (eE ts s x).1.slots)),(5,some (flat cI (eE ts s x).1.read))])) (hM:Nat.ble (nidl + 3) aX = true) (hN:Nat.blt d N = true){md':Md}[hmd:MdA md (fP [x0,x1] ++ [.inr i0,.inr i1,.inr i2]) (List.map Sum.inr (List.map Prod.fst ([(i0,some (mO ts bd pts i1 (nidl + 2) (eE ts s x).1)),(i1,some (flat dK (eE ts s x).1.slots)),((nidl + 2),some (flat cI (eE ts s x).1.read)),(i2,none)]:List (Nat × Option (List AV)))) ++ [.inl d]) md'] (kk:RW Tryz.prog N all Q md' rest ⟨(d,iv (eE ts s x).2) :: tsl,gR hsl [(i0,some (mO ts bd pts i1 (nidl + 2) (eE ts s x).1)),(i1,some (flat dK (eE ts s x).1.slots)),((nidl + 2),some (flat cI (eE ts s x).1.read)),(i2,none)],nidl + 3,z0⟩):RW Tryz.prog N all Q md (⟨some d,.call ⟨.value (.func 140),#[x0,x1],tys⟩,ty,pos,af,none⟩ :: rest) ⟨tsl,hsl,nidl,z0⟩:=by
 exact aZ (l := [x0,x1]) [i0,i1,i2] 6 [(i0,some (mO ts bd pts i1 (nidl + 2) (eE ts s x).1)),(i1,some (flat dK (eE ts s x).1.slots)),((nidl + 2),some (flat cI (eE ts s x).1.read)),(i2,none)] hmc (avs := [.optr i0 0,dY x]) (by simp only [evL,ha0,ha1]) hdd hM hN (md' := md') (hmd := hmd) kk
theorem Ro (ts:List Int) (bd:List AL.Stmt) (pts:List Pnt) (s:Mc) (x:Pnt) (htl:ts.length ≤ 6) (hm:OkM s.cells) (hsl:s.slots.length = ts.length) (hop:1 ≤ x.op ∧ x.op ≤ 11) (hrl:s.read.length ≤ 1000)
  (hx : x.op ≤ 8 → 0 ≤ x.x ∧ x.x < ts.length) (hy : 3 ≤ x.op → x.op ≤ 7 → 0 ≤ x.y ∧ x.y < ts.length) (hn : x.op = 2 → 0 ≤ x.n ∧ x.n ≤ 9) (h6 : ¬ (x.op = 6 ∧ a7 s.cells s.slots[x.y.toNat]!.ptr false = 0 ∧ cE ts s x = false)) : MC Tryz.prog 140 [.optr 0 0,dY x] [(0,some (mO ts bd pts 1 2 s)),(1,some (flat dK s.slots)),(2,some (flat cI s.read))] 3 (fun _ : Unit => True) (fun _ => iv (eE ts s x).2) (fun _ => [(0,some (mO ts bd pts 1 2 (eE ts s x).1)),(1,some (flat dK (eE ts s x).1.slots)),(2,some (flat cI (eE ts s x).1.read))]) := by
 by_cases h1 : x.op = 1
 ·exact QT ts bd pts s x htl hm hsl h1 (hx (by omega))
 by_cases h2 : x.op = 2
 ·exact Ru ts bd pts s x htl hm hsl h2 (hn h2) (hx (by omega))
 by_cases h3 : x.op = 3
 ·exact Rn ts bd pts s x htl hm hsl h3 (hx (by omega)) (hy (by omega) (by omega))
 by_cases h4 : x.op = 4 ∨ x.op = 5
 ·exact OG ts bd pts s x htl hm hsl h4 (hx (by omega)) (hy (by omega) (by omega))
 by_cases h6' : x.op = 6
 ·by_cases hu : cE ts s x = true
  ·exact QO ts bd pts s x htl hm hsl hu
  ·exact Q6 ts bd pts s x htl hm hsl h6' hrl (hx (by omega)) (hy (by omega) (by omega)) (fun q => h6 ⟨h6',q,by simpa using hu⟩)
 by_cases h7 : x.op = 7
 ·exact Qv ts bd pts s x htl hm hsl h7 (hx (by omega)) (hy (by omega) (by omega))
 by_cases h8 : x.op = 8
 ·exact Q7 ts bd pts s x htl hm hsl h8 (hx (by omega))
 ·exact QD ts bd pts s x htl hm hsl (by omega)
theorem El (x:Pnt) (h:x.next.length ≤ 1000000):PC Tryz.prog 91 [dY x] (fun r => r = bv (decide (x.next.length = 2))):=by
 refine aC Tryz.func91 Tryz.ntmps91 ?_
 repeat' (first|refine aE ?_|fail)
 refine aD rfl ⟨?_,rfl⟩
 simp only [aO,AV.v.injEq,Value.bool.injEq,decide_eq_decide]; omega
theorem QE {pts:List Pnt}{a:Nat}{C:List Int}(h:pts[a]!.next.length = 2) (hC:0 < C.length):g7 pts a C = ((pts[a]!.next[(C[0]! % 2).toNat]!).toNat,C.drop 1):=by
 cases C with
 | nil => simp at hC
 | cons c C => unfold g7;rw [if_pos h]; rfl
theorem Rq {pts:List Pnt}{a:Nat}(h:pts[a]!.next.length = 2):g7 pts a [] = ((pts[a]!.next[1]!).toNat,[]) := by unfold g7;rw [if_pos h]
theorem Kl {pts:List Pnt}{n a b:Nat}{out C C2:List Int}{q:List Int × Bool}(h:¬ pts[a]!.op = 11) (ho:out.length ≤ n) (hs:g7 pts a C = (b,C2)) (hq:q = (out ++ (wm pts (n - out.length) a C).1,(wm pts (n - out.length) a C).2)) :
  ((out ++ [(a : Int)]).length ≤ n ∧ q = ((out ++ [(a : Int)]) ++ (wm pts (n - (out ++ [(a : Int)]).length) b C2).1,(wm pts (n - (out ++ [(a : Int)]).length) b C2).2)) ∨ ((out ++ [(a : Int)]).length = n + 1 ∧ q = ((out ++ [(a : Int)]).take n,false)) := by
 have hl : (out ++ [(a : Int)]).length = out.length + 1 := by rw [List.length_append]; rfl
 rcases Nat.lt_or_ge out.length n with h1|h1
 ·exact .inl ⟨by omega,pI h h1 hs hq⟩
 ·refine .inr ⟨by omega, ?_⟩
  have e : out.length = n := by omega
  rw [hq,e,Nat.sub_self,KH h,← e,List.take_left' rfl,List.append_nil]
theorem OX (ts:List Int) (bd:List AL.Stmt) (pts:List Pnt) (cs:List Int) (n:Nat) (w:WG ts pts) (wa:WA ts pts) (hn:n ≤ 1000) (hcl:cs.length ≤ 1000000):PC Tryz.prog 139 [aG ts bd pts,sl cI cs,iv (n:Int)] (fun r => r = .tup [sl cI (wm pts n 0 cs).1,bv (wm pts n 0 cs).2]):=by
 have hpl := w.pl
 have hp0 := w.p0
 refine aC Tryz.func139 Tryz.ntmps139 ?_
 repeat' (first|(apply aF;(apply fT (d := 8) (e := 1);rfl;rfl))|refine aE ?_|fail)
 refine aH (σ := Int × List Int × Nat × List Int) [0,2] [] (fun k => [(9,iv k.1),(1,sl cI k.2.2.2),(8,.own 0 0 k.2.2.1 1)]) (fun k => [(0,some (flat cI k.2.1))]) (fun k => (0 ≤ k.1 ∧ k.1 < pts.length) ∧ k.2.2.1 = k.2.1.length ∧ k.2.2.2.length ≤ 1000000 ∧ ((k.2.1.length ≤ n ∧ wm pts n 0 cs = (k.2.1 ++ (wm pts (n - k.2.1.length) k.1.toNat k.2.2.2).1,(wm pts (n - k.2.1.length) k.1.toNat k.2.2.2).2)) ∨ (k.2.1.length = n + 1 ∧ wm pts n 0 cs = (k.2.1.take n,false)))) (fun k => n + 1 - k.2.1.length) (0,[],0,cs) ⟨⟨Int.le_refl _,by show (0 : Int) < _; omega⟩,rfl,hcl,.inl ⟨Nat.zero_le _,rfl⟩⟩ ?_
 rintro ⟨a,out,m,C⟩ ⟨⟨ha0,ha⟩,hm,hC,hw⟩
 dsimp only at ha0 ha hm hC hw ⊢
 by_cases hout : out.length ≤ n
 ·have hw2 : wm pts n 0 cs = (out ++ (wm pts (n - out.length) a.toNat C).1, (wm pts (n - out.length) a.toNat C).2) := by
   rcases hw with h|h
   ·exact h.2
   ·omega
  have hat : (a.toNat : Int) = a := Int.toNat_of_nonneg ha0
  have hnx := w.nx a.toNat (by omega)
  have hnl := w.nl a.toNat (by omega)
  have hn1 := wa.n a.toNat (by omega)
  have hk : ∀ k,k < pts[a.toNat]!.next.length → 0 ≤ pts[a.toNat]!.next[k]! ∧ pts[a.toNat]!.next[k]! < pts.length := fun k h => hnx _ (aW _ _ h)
  have hch := El pts[a.toNat]! (by omega)
  repeat' (first|(apply aF;first|(apply aA (k := 91);rfl;exact hch;exact Pur.pf;rfl)|(apply LX;rfl;rfl;rfl)|(apply aJ (t := _);rfl;rfl;rfl;exact (rfl:_=some [_]);rfl;rfl))|refine aE ?_|(refine aK ?_ ?_ <;> intro hc hq <;> try (exfalso;omega))|refine bQ ?_|fail)
  ·have hop : pts[a.toNat]!.op = 11 := by assumption
   have e : wm pts n 0 cs = (out ++ [a],true) := by rw [hw2,I8 hop,hat]
   rw [e]
   (refine aS (Le.frzD (d := 6) (i := 2) rfl rfl) ?_; refine aD rfl ?_)
   refine ⟨?_,(by exact Pur.pf)⟩
   simp only [aO,sl]
   rw [hm,List.length_append]; rfl
  ·have hop : ¬ pts[a.toNat]!.op = 11 := by assumption
   have hst := Kl hop hout (NI (by omega)) hw2
   rw [hat] at hst
   have hk := hk 0 (by omega)
   (refine bE (pts[a.toNat]!.next[0]!,_,_,C) (Le.renA [(0,2)]) ?_ ?_)
   ·exact ⟨hk,by dsimp only;rw [List.length_append,hm]; rfl,hC,hst⟩
   ·dsimp only;rw [List.length_append]; simp only [List.length_singleton]; omega
  ·have hop : ¬ pts[a.toNat]!.op = 11 := by assumption
   have hC0 : 0 < C.length := by omega
   have hst := Kl hop hout (QE (by omega) hC0) hw2
   rw [hat] at hst
   have hk := hk (C[0]! % 2).toNat (by omega)
   have hCe : List.take (C.length - Int.toNat 1) (List.drop (Int.toNat 1) C) = C.drop 1 := List.take_of_length_le (by rw [List.length_drop]; exact Nat.le_refl _)
   rw [hCe]
   (refine bE (pts[a.toNat]!.next[(C[0]! % 2).toNat]!,_,_,C.drop 1) (Le.renA [(0,2)]) ?_ ?_)
   ·exact ⟨hk,by dsimp only;rw [List.length_append,hm]; rfl,by dsimp only;rw [List.length_drop]; omega,hst⟩
   ·dsimp only;rw [List.length_append]; simp only [List.length_singleton]; omega
  ·have hop : ¬ pts[a.toNat]!.op = 11 := by assumption
   have hC0 : C = [] := List.eq_nil_of_length_eq_zero (by omega)
   subst hC0
   have hst := Kl hop hout (Rq (by omega)) hw2
   rw [hat] at hst
   have hk := hk 1 (by omega)
   (refine bE (pts[a.toNat]!.next[1]!,_,_,[]) (Le.renA [(0,2)]) ?_ ?_)
   ·exact ⟨hk,by dsimp only;rw [List.length_append,hm]; rfl,hC,hst⟩
   ·dsimp only;rw [List.length_append]; simp only [List.length_singleton]; omega
 ·have hw2 : out.length = n + 1 ∧ wm pts n 0 cs = (out.take n, false) := by
   rcases hw with h|h
   ·omega
   ·exact h
  repeat' (first|(apply aF;(apply iU (d := 59) (l := 0) (h := n);rfl;rfl;rfl;exact rG rfl (by omega);exact if_pos (by omega);rfl))|refine aE ?_|(refine aK ?_ ?_ <;> intro hc hq <;> try (exfalso;omega))|fail)
  refine aS (Le.cut (i := 0) (n * 1) rfl) ?_
  refine aS (Le.frzD (d := 6) (i := 0) rfl rfl) ?_
  rw [hw2.2,eV cI (e := 1)]
  refine aD (l := [.imm (n - 0) (flat cI (out.take n)),bv false]) rfl ⟨?_,(by exact Pur.pf)⟩
  rw [fF (by rw [List.length_take]; omega)]
  rfl
theorem L8 {p:Prg}{cs:List Int}{n:Int}{x0 x1 x2:Operand}(ha0:ev (lk tsl) x0 = some (b8 p)) (ha1:ev (lk tsl) x1 = some (sl cI cs)) (ha2:ev (lk tsl) x2 = some (iv n)) (hmc:MC Tryz.prog 69 [b8 p,sl cI cs,iv n] [] 0 (fun _:Unit => True) (fun _ => .tup [.optr 1 0,iv 5,iv 0]) (fun _ => [(1,some ([.v (.pointer none),.imm 0 [],.imm 0 [],.imm 0 []]))])) (hM:Nat.ble (nidl + 2) aX = true) (hN:Nat.blt d N = true){md':Md}[hmd:MdA md (fP [x0,x1,x2] ++ []) (List.map Sum.inr (List.map Prod.fst ([((nidl + 1),some ([.v (.pointer none),.imm 0 [],.imm 0 [],.imm 0 []]))]:List (Nat × Option (List AV)))) ++ [.inl d]) md'] (kk:RW Tryz.prog N all Q md' rest ⟨(d,.tup [.optr (nidl + 1) 0,iv 5,iv 0]) :: tsl,gR hsl [((nidl + 1),some ([.v (.pointer none),.imm 0 [],.imm 0 [],.imm 0 []]))],nidl + 2,z0⟩):RW Tryz.prog N all Q md (⟨some d,.call ⟨.value (.func 69),#[x0,x1,x2],tys⟩,ty,pos,af,none⟩ :: rest) ⟨tsl,hsl,nidl,z0⟩:=by
 exact aZ (l := [x0,x1,x2]) [] 2 [((nidl + 1),some ([.v (.pointer none),.imm 0 [],.imm 0 [],.imm 0 []]))] hmc (avs := [b8 p,sl cI cs,iv n]) (by simp only [evL,ha0,ha1,ha2]) rfl hM hN (md' := md') (hmd := hmd) kk
theorem Le.nilMid {ts:List (Nat × AV)}{hs:List (Nat × Option (List AV))}{n:Nat}{z0:Lo}{i:Nat}(c1:List AV){c2:List AV}(hi:aU hs i = some (c1 ++ .v (.slice none 0 0) :: c2)) :
  Le ⟨ts,hs,n,z0⟩ ⟨ts,(i,some (c1 ++ .imm 0 [] :: c2)) :: hs,n,z0⟩ :=
 Le.cells hi (by simp) fun w bad ι b β h => tX (fun y hy => by have := m5 (av := .v (.slice none 0 0)) hy;exact this) c1 c2 b β h
theorem PJ {ts:List Int}{pts:List Pnt}{a last:Nat}{l:List Nat}{s:Mc}:hO ts pts (a :: l) s last = if (eE ts s pts[a]!).2 = -1 then hO ts pts l (eE ts s pts[a]!).1 a else ((eE ts s pts[a]!).1,(eE ts s pts[a]!).2,a):=by
 rw [hO]
 by_cases h : cE ts s pts[a]! = true
 ·rw [if_pos h,xG h,if_neg (show ¬ (2 : Int) = -1 by decide)]
 ·have h2 : cE ts s pts[a]! = false := by simpa using h
  rw [if_neg h,tA h2]
theorem QN {ts:List Int}{nt:Nat}{s:Mc}(h:OkS nt s){x:Pnt}(hx:PtN x):OkS nt (eE ts s x).1:=by
 unfold eE;split
 ·exact h
 ·exact h.do hx
theorem M7 {ts:List Int}{s:Mc}{x:Pnt}:(eE ts s x).1.read.length ≤ s.read.length + 1:=by
 unfold eE;split
 ·dsimp only;omega
 ·exact CF
theorem R4 {ts:List Int}{s:Mc}{x:Pnt}(ho:x.op = 6) (hz:a7 s.cells s.slots[x.y.toNat]!.ptr false = 0) (hu:cE ts s x = false) (ht:ts[x.x.toNat]! = 1):(eE ts s x).2 = -1:=by
 rw [tA hu]
 unfold bT
 rw [if_neg (show ¬ x.op = 1 by omega),if_neg (show ¬ x.op = 2 by omega),if_neg (show ¬ x.op = 3 by omega),if_neg (show ¬ (x.op = 4 ∨ x.op = 5) by omega),if_pos ho,if_pos hz]
 unfold bK
 rw [if_neg (fun h => by have := h.1;omega)]
theorem O6 (p:Prg) (cs:List Int) (n:Int) (hl:p.types.length ≤ 1000000) (hs:aT p.body ≤ 1000000) (hr:Bz p n = false):MC Tryz.prog 69 [b8 p,sl cI cs,iv n] [] 0 (fun _:Unit => True) (fun _ => .tup [.optr 1 0,iv 5,iv 0]) (fun _ => [(1,some ([.v (.pointer none),.imm 0 [],.imm 0 [],.imm 0 []]))]):=by
 have hg := jL p hl hs
 unfold Bz at hr
 by_cases hv : bD p = true
 ·rw [if_pos hv] at hg
  rw [hv] at hr
  have hnn : ¬ (0 ≤ n ∧ n ≤ 150) := fun h => by rw [decide_eq_true h.1,decide_eq_true h.2] at hr;cases hr
  refine aV Tryz.func69 Tryz.ntmps69 ?_
  repeat' (first|(apply aF;first|(apply aA (k := 72);rfl;exact hg;exact Pur.pf;rfl)|(apply aA (k := 54);rfl;(apply dO);(rfl);rfl))|refine aE ?_|(refine aK ?_ ?_ <;> intro hc hq <;> try (exfalso;omega))|fail)
  ·(refine aD rfl ?_; refine aR () trivial ?_ ⟨sE ?_, trivial⟩)
   ·rfl
   ·rfl
 ·rw [if_neg hv] at hg
  refine aV Tryz.func69 Tryz.ntmps69 ?_
  repeat' (first|(apply aF;(apply aA (k := 72);rfl;exact hg;exact Pur.pf;rfl))|refine aE ?_|fail)
  (refine aD rfl ?_; refine aR () trivial ?_ ⟨sE ?_,trivial⟩)
  ·rfl
  ·rfl
theorem Qa (p:Prg) (cs:List Int) (n:Nat) (q:Mc × Int × Nat) (hqq:q = dT p.types (aB p) cs n) (hv:bD p = true) (hl:p.types.length ≤ 1000000) (hs:aT p.body ≤ 1000000) (hn:n ≤ 150) (hcl:cs.length ≤ 1000000):MC Tryz.prog 69 [b8 p,sl cI cs,iv (n:Int)] [] 0 (fun _:Unit => True) (fun _ => .tup [.optr 2 0,iv q.2.1,iv (q.2.2:Int)]) (fun _ => [(2,some (mO p.types p.body (aB p) 1 3 q.1)),(1,some (flat dK q.1.slots)),(3,some (flat cI q.1.read))]):=by
 have hg := jL p hl hs
 rw [if_pos hv] at hg
 have w := WG.of_valid hv
 have wa := WA.of_valid hv
 have hru := OX p.types p.body (aB p) cs n w wa (by omega) hcl
 have htl := w.tl
 have hpl := w.pl
 have hL := De w wa n 0 cs w.p0
 have hLl := tV (pts := aB p) n 0 cs
 unfold dT at hqq
 unfold wm at hru
 obtain ⟨L,hLe⟩ : ∃ L,L = (dN (aB p) n 0 cs).1 := ⟨_,rfl⟩
 obtain ⟨dn,hdn⟩ : ∃ dn,dn = (dN (aB p) n 0 cs).2 := ⟨_,rfl⟩
 rw [← hLe,← hdn] at hru
 rw [← hLe] at hqq hL hLl
 have hgx : ∀ i,i < L.length → (L.map (fun a : Nat => (a : Int)))[i]! = (L[i]! : Int) := fun i h => by rw [bC _ _ (by rw [List.length_map]; exact h),List.getElem_map,bC _ _ h]
 have hml : (L.map (fun a : Nat => (a : Int))).length = L.length := List.length_map _
 generalize (L.map (fun a : Nat => (a : Int))) = LI at *
 generalize hP : aB p = pts at *
 refine aV Tryz.func69 Tryz.ntmps69 ?_
 repeat' (first|(apply aF;first|(apply aA (k := 72);rfl;exact hg;exact Pur.pf;rfl)|(with_reducible apply aY (d := 40))|(apply aA (k := 54);rfl;(apply dO);(rfl);rfl))|refine aE ?_|(refine aK ?_ ?_ <;> intro hc hq <;> try (exfalso;omega))|fail)
 refine bZ ?_
 rw [show (List.replicate p.types.length ([Value.bool false,Value.int .i64 0,Value.int .i64 0,Value.int .i64 0].map AV.v)).flatten = flat dK (List.replicate p.types.length gP) from wT rfl]
 apply mT
 case hl => rfl
 case hf => exact (rfl:_=some [_,_,AV.v (.slice none 0 0),AV.v (.slice none 0 0)])
 case hN => rfl
 repeat' (first|(apply aF;(with_reducible apply aY (d := 43)))|refine aE ?_|fail)
 refine bZ (c8 ?_ (Le.nilMid (i := 2) [_,_] rfl))
 refine c8 ?_ (Le.nilCell (i := 2) 1 [_,_,_] rfl (by decide) (by decide))
 repeat' (first|(apply aF;(apply aA (k := 139);rfl;exact hru;exact Pur.pf;rfl))|refine aE ?_|fail)
 refine aH (σ := Nat × Mc × Nat) [9,11,49,50] [] (fun k => [(51,iv (k.1 : Int)),(14,iv (k.2.2 : Int))]) (fun k => [(2,some (mO p.types p.body pts 1 3 k.2.1)),(1,some (flat dK k.2.1.slots)),(3,some (flat cI k.2.1.read))]) (fun k => k.1 ≤ L.length ∧ hO p.types pts (L.drop k.1) k.2.1 k.2.2 = q ∧ OkS p.types.length k.2.1 ∧ k.2.1.read.length ≤ k.1) (fun k => L.length - k.1) (0,mc0 p.types.length,0) ⟨Nat.zero_le _,hqq.symm,OkS.mc0 _,Nat.le_refl _⟩ ?_
 rintro ⟨i,s,last⟩ ⟨hi,hf,hok,hrd⟩
 dsimp only at hi hf hok hrd ⊢
 by_cases hiL : i < L.length
 ·have hap := hL L[i]! (aW _ _ hiL)
  have hop := w.op L[i]! hap
  have hwx := w.x L[i]! hap
  have hwy := w.y L[i]! hap
  have hA := wa.a L[i]! hap
  have hg2 := hgx i hiL
  have hdr : L.drop i = L[i]! :: L.drop (i + 1) := by rw [List.drop_eq_getElem_cons hiL,bC _ _ hiL]
  rw [hdr,PJ] at hf
  have hpt : PtN pts[L[i]!]! := ⟨fun h => hA.n (.inr h)⟩
  have hdo := QN (ts := p.types) hok hpt
  have hdr2 := M7 (ts := p.types) (s := s) (x := pts[L[i]!]!)
  by_cases h6 : pts[L[i]!]!.op = 6 ∧ a7 s.cells s.slots[(pts[L[i]!]!).y.toNat]!.ptr false = 0 ∧ cE p.types s pts[L[i]!]! = false
  ·have hm6 := PO p.types p.body pts s pts[L[i]!]! htl hok.m hok.l h6.1 (by omega) (by omega) (by omega) h6.2.1 h6.2.2
   repeat' (first|(apply aF;(with_reducible apply aY (d := 16)))|refine aE ?_|(refine aK ?_ ?_ <;> intro hc hq <;> try (exfalso;omega))|fail)
   refine bZ ?_
   rw [hg2]
   repeat' (first|(apply aF;(apply M8 (ts := p.types) (bd := p.body) (pts := pts) (s := s) (x := pts[L[i]!]!);rfl;rfl;rfl;rfl;rfl;rfl;exact hm6;rfl;rfl))|refine aE ?_|(refine aK ?_ ?_ <;> intro hc hq <;> try (exfalso;omega))|fail)
   ·exfalso
    have h9 : ¬ (eE p.types s pts[L[i]!]!).2 = -1 := by assumption
    exact h9 (R4 h6.1 h6.2.1 h6.2.2 (hA.t6 h6.1).1)
   ·(refine bE (i + 1, (eE p.types s pts[L[i]!]!).1, L[i]!) (Le.renA [(1, 1), (2, 2), (3, 6)]) ?_ ?_)
    ·refine ⟨by dsimp only; omega, ?_, hdo, by dsimp only; omega⟩
     dsimp only
     rw [if_pos (by assumption)] at hf
     exact hf
    ·dsimp only;omega
  ·have hmd := Ro p.types p.body pts s pts[L[i]!]! htl hok.m hok.l hop (by omega) (fun h => by omega) (fun h h2 => by omega) (fun h => hA.n (.inr h)) h6
   repeat' (first|(apply aF;(with_reducible apply aY (d := 16)))|refine aE ?_|(refine aK ?_ ?_ <;> intro hc hq <;> try (exfalso;omega))|fail)
   refine bZ ?_
   rw [hg2]
   repeat' (first|(apply aF;(apply Ol (ts := p.types) (bd := p.body) (pts := pts) (s := s) (x := pts[L[i]!]!);rfl;rfl;rfl;rfl;rfl;rfl;exact hmd;rfl;rfl))|refine aE ?_|(refine aK ?_ ?_ <;> intro hc hq <;> try (exfalso;omega))|fail)
   ·have h9 : ¬ (eE p.types s pts[L[i]!]!).2 = -1 := by assumption
    rw [if_neg h9] at hf
    rw [← hf]
    (refine aD rfl ?_; refine aR () trivial ?_ ⟨sE ?_,⟨sE ?_,⟨sE ?_,trivial⟩⟩⟩)
    ·rfl
    ·rfl
    ·rfl
    ·rfl
   ·(refine bE (i + 1, (eE p.types s pts[L[i]!]!).1, L[i]!) (Le.renA [(1, 1), (2, 2), (3, 3)]) ?_ ?_)
    ·refine ⟨by dsimp only; omega, ?_, hdo, by dsimp only; omega⟩
     dsimp only
     rw [if_pos (by assumption)] at hf
     exact hf
    ·dsimp only;omega
 ·repeat' (first | refine aE ?_ | (refine aK ?_ ?_ <;> intro hc hq <;> try (exfalso; omega))|fail)
  have hie : i = L.length := by omega
  have hq2 : q = (s,1,last) := by rw [← hf,hie,List.drop_length]; rfl
  rw [hq2]
  (refine aD rfl ?_; refine aR () trivial ?_ ⟨sE ?_,⟨sE ?_,⟨sE ?_,trivial⟩⟩⟩)
  ·rfl
  ·rfl
  ·rfl
  ·rfl
theorem KF {p:Prg}{cs:List Int}{n:Int}{q:Mc × Int × Nat}{x0 x1 x2:Operand}(ha0:ev (lk tsl) x0 = some (b8 p)) (ha1:ev (lk tsl) x1 = some (sl cI cs)) (ha2:ev (lk tsl) x2 = some (iv n)) (hmc:MC Tryz.prog 69 [b8 p,sl cI cs,iv n] [] 0 (fun _:Unit => True) (fun _ => .tup [.optr 2 0,iv q.2.1,iv (q.2.2:Int)]) (fun _ => [(2,some (mO p.types p.body (aB p) 1 3 q.1)),(1,some (flat dK q.1.slots)),(3,some (flat cI q.1.read))])) (hM:Nat.ble (nidl + 4) aX = true) (hN:Nat.blt d N = true){md':Md}[hmd:MdA md (fP [x0,x1,x2] ++ []) (List.map Sum.inr (List.map Prod.fst ([((nidl + 2),some (mO p.types p.body (aB p) (nidl + 1) (nidl + 3) q.1)),((nidl + 1),some (flat dK q.1.slots)),((nidl + 3),some (flat cI q.1.read))]:List (Nat × Option (List AV)))) ++ [.inl d]) md'] (kk:RW Tryz.prog N all Q md' rest ⟨(d,.tup [.optr (nidl + 2) 0,iv q.2.1,iv (q.2.2:Int)]) :: tsl,gR hsl [((nidl + 2),some (mO p.types p.body (aB p) (nidl + 1) (nidl + 3) q.1)),((nidl + 1),some (flat dK q.1.slots)),((nidl + 3),some (flat cI q.1.read))],nidl + 4,z0⟩):RW Tryz.prog N all Q md (⟨some d,.call ⟨.value (.func 69),#[x0,x1,x2],tys⟩,ty,pos,af,none⟩ :: rest) ⟨tsl,hsl,nidl,z0⟩:=by
 exact aZ (l := [x0,x1,x2]) [] 4 [((nidl + 2),some (mO p.types p.body (aB p) (nidl + 1) (nidl + 3) q.1)),((nidl + 1),some (flat dK q.1.slots)),((nidl + 3),some (flat cI q.1.read))] hmc (avs := [b8 p,sl cI cs,iv n]) (by simp only [evL,ha0,ha1,ha2]) rfl hM hN (md' := md') (hmd := hmd) kk
theorem xI (p:Prg) (cs:List Int) (most:Int) (hl:p.types.length ≤ 1000000) (hs:aT p.body ≤ 1000000) (hcl:cs.length ≤ 1000000):PC Tryz.prog 35 [b8 p,sl cI cs,iv most] (fun r => r = .tup (if Bz p most = true then [iv (dT p.types (aB p) cs most.toNat).2.1,iv (dT p.types (aB p) cs most.toNat).2.2] else [iv 5,iv 0])):=by
 by_cases h : Bz p most = true
 ·have h' := h
  unfold Bz at h'
  simp only [Bool.and_eq_true,decide_eq_true_eq] at h'
  obtain ⟨hv,h0,h1⟩ := h'
  have hru := Qa p cs most.toNat _ rfl hv hl hs (by omega) hcl
  have hok := Qj (cs := cs) (n := most.toNat) hv
  have hrl := DN (ts := p.types) (pts := aB p) (cs := cs) (n := most.toNat) (by omega)
  have htl := (WG.of_valid hv).tl
  rw [Int.toNat_of_nonneg h0] at hru
  rw [if_pos h]
  have hon := Int.toNat_of_nonneg h0
  have hm := hok.m
  have hml := hm.l
  have hsl := hok.l
  generalize dT p.types (aB p) cs most.toNat = q at *
  refine aC Tryz.func35 Tryz.ntmps35 ?_
  repeat' (first|(apply aF;(apply KF (p := p) (cs := cs) (n := most) (q := q);rfl;rfl;rfl;exact hru;rfl;rfl))|refine aE ?_|fail)
  exact aD (l := [iv q.2.1,iv q.2.2]) rfl ⟨rfl,rfl⟩
 ·rw [if_neg h]
  have h2 : Bz p most = false := by simpa using h
  refine aC Tryz.func35 Tryz.ntmps35 ?_
  repeat' (first|(apply aF;(apply L8 (p := p) (cs := cs) (n := most);rfl;rfl;rfl;exact O6 p cs most hl hs h2;rfl;rfl))|refine aE ?_|fail)
  exact aD (l := [iv 5,iv 0]) rfl ⟨rfl,rfl⟩
def CX (p : Prg) (cs : List Int) (n : Int) : Int := if Bz p n = true then (dT p.types (aB p) cs n.toNat).2.1 else 5
def P4 (p : Prg) (cs : List Int) (n : Int) : Int := if Bz p n = true then ((dT p.types (aB p) cs n.toNat).2.2 : Int) else 0
theorem OB (p:Prg) (cs:List Int) (n:Int) (hl:p.types.length ≤ 1000000) (hs:aT p.body ≤ 1000000) (hcl:cs.length ≤ 1000000):PC Tryz.prog 35 [b8 p,sl cI cs,iv n] (fun r => r = .tup [iv (CX p cs n),iv (P4 p cs n)]):=by
 have h := xI p cs n hl hs hcl
 unfold CX P4
 split
 ·rename_i h2;rw [if_pos h2] at h;exact h
 ·rename_i h2;rw [if_neg h2] at h;exact h
theorem O4 (p:Prg) (cs:List Int) (n:Int) (hl:p.types.length ≤ 1000000) (hs:aT p.body ≤ 1000000) (hcl:cs.length ≤ 1000000):PC Tryz.prog 84 [b8 p,sl cI cs,iv n] (fun r => r = .tup [iv (CX p cs n),iv (P4 p cs n)]):=by
 have h := xO p cs n hl hs hcl
 unfold CX P4
 split
 ·rename_i h2;rw [if_pos h2] at h;exact h
 ·rename_i h2;rw [if_neg h2] at h;exact h
theorem Bv {p:Prg}{n:Int}:Bz p n = true ↔ bD p = true ∧ 0 ≤ n ∧ n ≤ 150:=by
 unfold Bz;simp only [Bool.and_eq_true,decide_eq_true_eq]
def xQ (n l : Nat) : List Int := (List.range l).map fun i => ((n / 2 ^ i % 2 : Nat) : Int)
theorem tY (n l:Nat):(xQ n l).length = l := by unfold xQ;rw [List.length_map,List.length_range]
theorem CU (n l:Nat):xQ n (l + 1) = xQ n l ++ [((n / 2 ^ l % 2:Nat):Int)]:=by
 unfold xQ;rw [List.range_succ,List.map_append]; rfl
def oI (p : Prg) (l n : Nat) : Bool := decide (CX p (xQ n l) 80 ≠ 0) && decide (CX p (xQ n l) 80 ≠ 1)
def C0 (p : Prg) (l k : Nat) : Nat := ((List.range k).filter (oI p l)).length
theorem Nr {p:Prg}{l k:Nat}(h:oI p l k = true):C0 p l (k + 1) = C0 p l k + 1:=by
 unfold C0;rw [List.range_succ,List.filter_append,List.length_append]; simp [h]
theorem IL {p:Prg}{l k:Nat}(h:oI p l k = false):C0 p l (k + 1) = C0 p l k:=by
 unfold C0;rw [List.range_succ,List.filter_append,List.length_append]; simp [h]
theorem Qc {p:Prg}{l k:Nat}:C0 p l k ≤ k:=by
 unfold C0;exact Nat.le_trans (List.length_filter_le _ _) (by rw [List.length_range]; exact Nat.le_refl _)
theorem CL (n l:Nat) (hl:l ≤ 100) (hn:n ≤ 1000000):PC Tryz.prog 229 [iv (n:Int),iv (l:Int)] (fun r => r = sl cI (xQ n l)):=by
 refine aC Tryz.func229 Tryz.ntmps229 ?_
 repeat' (first|refine aE ?_|fail)
 refine aH (σ := Nat × Nat × List Int × Nat) [1] [] (fun k => [(6,iv (k.1 : Int)),(0,iv (k.2.1 : Int)),(5,.own 0 0 k.2.2.2 1)]) (fun k => [(0,some (flat cI k.2.2.1))]) (fun k => k.1 ≤ l ∧ k.2.1 = n / 2 ^ k.1 ∧ k.2.2.1 = xQ n k.1 ∧ k.2.2.2 = k.1) (fun k => l - k.1) (0,n,[],0) ⟨Nat.zero_le _,by simp,rfl,rfl⟩ ?_
 rintro ⟨i,n',xs,m⟩ ⟨hi,hn',hxs,hm⟩
 dsimp only at hi hn' hxs hm ⊢
 have hnl : n' ≤ 1000000 := by rw [hn']; exact Nat.le_trans (Nat.div_le_self _ _) hn
 have hxl : xs.length = m := by rw [hxs,tY,hm]
 repeat' (first|(apply aF;(apply aJ (t := _);rfl;rfl;rfl;exact (rfl:_=some [_]);rfl;rfl))|refine aE ?_|(refine aK ?_ ?_ <;> intro hc hq <;> try (exfalso;omega))|fail)
 ·(refine bE (i + 1, n' / 2, _, m + 1) (Le.renA [(0, 2)]) ?_ ?_)
  ·refine ⟨by dsimp only; omega, ?_, ?_, by dsimp only; omega⟩
   ·dsimp only;rw [hn',Nat.pow_succ,Nat.div_div_eq_div_mul]
   ·dsimp only;rw [CU,← hxs,← hn']; rfl
  ·dsimp only;omega
 ·(refine aS (Le.frzD (d := 4) (i := 0) rfl rfl) ?_; refine aD rfl ?_)
  refine ⟨?_,(by (exact bB _ _))⟩
  have hie : i = l := by omega
  simp only [aO,sl]
  rw [← hxl,hxs,hie]
theorem HH (l:Nat) (hl:l ≤ 10):PC Tryz.prog 227 [iv (l:Int)] (fun r => r = iv ((2 ^ l:Nat):Int)):=by
 refine aC Tryz.func227 Tryz.ntmps227 ?_
 repeat' (first|refine aE ?_|fail)
 refine aH (σ := Nat) [0] [] (fun k => [(4,iv (k : Int)),(3,iv ((2 ^ k : Nat) : Int))]) (fun k => []) (fun k => k ≤ l) (fun k => l - k) (0) (Nat.zero_le _) ?_
 rintro k hk
 have hp : 2 ^ k ≤ 2 ^ 10 := Nat.pow_le_pow_right (by decide) (by omega)
 repeat' (first|refine aE ?_|(refine aK ?_ ?_ <;> intro hc hq <;> try (exfalso;omega))|fail)
 ·have hw : IntKind.i64.wrap (((2 ^ k : Nat) : Int) * 2) = ((2 ^ (k + 1) : Nat) : Int) := by
   rw [show (((2 ^ k : Nat) : Int) * 2) = ((2 ^ (k + 1) : Nat) : Int) by rw [Nat.pow_succ,Int.natCast_mul]; rfl]
   exact qN (Sm.pow (by omega)).pf
  rw [hw]
  (refine bE (k + 1) (Le.renA []) ?_ ?_)
  ·omega
  ·omega
 ·refine aD rfl ⟨?_, rfl⟩
  rw [show l = k by omega]; rfl
def s8 (p : Prg) (l : Int) : Bool := bD p && (decide (0 ≤ l) && decide (l ≤ 6))
theorem pJ {p:Prg}{l:Int}:s8 p l = true ↔ bD p = true ∧ 0 ≤ l ∧ l ≤ 6 := by unfold s8;simp only [Bool.and_eq_true,decide_eq_true_eq]
theorem yS (p:Prg) (l:Int) (hl:p.types.length ≤ 1000000) (hs:aT p.body ≤ 1000000):PC Tryz.prog 178 [b8 p,iv l] (fun r => r = bv (s8 p l)):=by
 have hval := fX p hl (by omega)
 refine aC Tryz.func178 Tryz.ntmps178 ?_
 repeat' (first|(apply aF;(apply aA (k := 61);rfl;exact hval;exact Pur.pf;rfl))|refine aE ?_|(refine bS ?_ ?_ <;> intro hg hq <;> try (exfalso;omega))|fail)
 all_goals (refine aD rfl ⟨?_,rfl⟩; simp only [aO,AV.v.injEq,Value.bool.injEq]; unfold s8;grind)
theorem H4:PC Tryz.prog 262 [] (fun r => r = iv 80):=by
 refine aC Tryz.func262 Tryz.ntmps262 ?_
 repeat' (first|refine aE ?_|fail)
 exact aD rfl ⟨rfl,rfl⟩
theorem G2 (p:Prg) (cs:List Int) (hl:p.types.length ≤ 1000000) (hs:aT p.body ≤ 1000000) (hcl:cs.length ≤ 1000000):PC Tryz.prog 228 [b8 p,sl cI cs] (fun r => r = .tup [bv (decide (CX p cs 80 ≠ 0) && decide (CX p cs 80 ≠ 1)),iv (P4 p cs 80)]):=by
 have h := O4 p cs 80 hl hs hcl
 have hm := H4
 generalize CX p cs 80 = e at *
 generalize P4 p cs 80 = a at *
 refine aC Tryz.func228 Tryz.ntmps228 ?_
 repeat' (first|(apply aF;first|(apply aA (k := 84);rfl;exact h;exact Pur.pf;rfl)|(apply aA (k := 262);rfl;exact hm;(rfl);rfl))|refine aE ?_|(refine bS ?_ ?_ <;> intro hg hq <;> try (exfalso;omega))|refine bQ ?_|fail)
 ·refine aD (l := [bv _, iv a]) ?_ ⟨rfl, rfl⟩
  have hd : (decide (e ≠ 0) && decide (e ≠ 1)) = !decide (e = 1) := by simp_all
  rw [hd]; rfl
 ·refine aD (l := [bv _, iv a]) ?_ ⟨rfl, rfl⟩
  have hd : (decide (e ≠ 0) && decide (e ≠ 1)) = false := by simp_all
  rw [hd]; rfl
theorem Dw (l:Int):PC Tryz.prog 257 [iv l] (fun r => r = bv (decide (0 ≤ l) && decide (l ≤ 6))):=by
 have hw := dO l 0 6
 refine aC Tryz.func257 Tryz.ntmps257 ?_
 repeat' (first|(apply aF;(apply aA (k := 54);rfl;exact hw;(rfl);rfl))|refine aE ?_|fail)
 exact aD rfl ⟨rfl,rfl⟩
theorem Bk (n l:Nat) (hl:l ≤ 60) (hn:n ≤ 1000000):PC Tryz.prog 258 [iv (n:Int),iv (l:Int)] (fun r => r = sl cI (xQ n l)):=by
 have : Sm n := ⟨by omega⟩
 refine aC Tryz.func258 Tryz.ntmps258 ?_
 repeat' (first|refine aE ?_|fail)
 refine AW.le ?_ (Le.nilOwn (d := 5) 1 rfl (by decide))
 refine aH (σ := Nat × List Int × Nat) [0,7] [] (fun k => [(8,iv (k.1 : Int)),(5,.own 0 0 k.2.2 1)]) (fun k => [(0,some (flat cI k.2.1))]) (fun k => k.1 ≤ l ∧ k.2.1 = xQ n k.1 ∧ k.2.2 = k.1) (fun k => l - k.1) (0,[],0) ⟨Nat.zero_le _,rfl,rfl⟩ ?_
 rintro ⟨i,xs,m⟩ ⟨hi,hxs,hm⟩
 dsimp only at hi hxs hm ⊢
 have hxl : xs.length = m := by rw [hxs,tY,hm]
 repeat' (first|(apply aF;(apply aJ (t := _);rfl;rfl;rfl;exact (rfl:_=some [_]);rfl;rfl))|refine aE ?_|(refine aK ?_ ?_ <;> intro hc hq <;> try (exfalso;omega))|fail)
 ·(refine bE (i + 1, _, m + 1) (Le.renA [(0, 2)]) ?_ ?_)
  ·refine ⟨by dsimp only; omega, ?_, by dsimp only; omega⟩
   have hz : n >>> (i : Int).toNat &&& 1 = n / 2 ^ i % 2 := by rw [Int.toNat_natCast,Nat.shiftRight_eq_div_pow]; exact Nat.and_one_is_mod _
   dsimp only;rw [CU,← hxs,← hz]
  ·dsimp only;omega
 ·refine aS (Le.frzD (d := 4) (i := 0) rfl rfl) ?_
  refine aD rfl ⟨?_,(by (exact bB _ _))⟩
  have hie : i = l := by omega
  simp only [aO,sl]
  rw [← hxl,hxs,hie]
theorem Qk (a b c:Int) (h0:0 ≤ c) (h1:c ≤ 100):MC Tryz.prog 221 [iv a,iv b,.optr 0 0] [(0,some [iv c])] 1 (fun _:Unit => True) (fun _ => .tup []) (fun _ => [(0,some [iv (c + 1)])]):=by
 refine aV Tryz.func221 Tryz.ntmps221 ?_
 repeat' (first|refine aE ?_|fail)
 refine A8 (l := []) rfl ?_
 exact aR () trivial rfl ⟨.inr rfl,trivial⟩
theorem Jh (p:Prg) (l:Int) (hl:p.types.length ≤ 1000000) (hs:aT p.body ≤ 1000000):MC Tryz.prog 220 [b8 p,iv l,.clos (.func 221) [] [.optr 0 0]] [(0,some [iv 0])] 1 (fun _:Unit => True) (fun _ => bv (s8 p l)) (fun _ => [(0,some [iv (if s8 p l = true then (C0 p l.toNat (2 ^ l.toNat):Int) else 0)])]):=by
 have hv0 := kY p hl (by omega)
 have hil := Dw l
 by_cases h : s8 p l = true
 ·obtain ⟨hv, h0, h1⟩ := pJ.1 h
  rw [hv] at hv0
  rw [h,if_pos rfl]
  obtain ⟨L,rfl⟩ := Int.eq_ofNat_of_zero_le h0
  rw [show (decide (0 ≤ (L : Int)) && decide ((L : Int) ≤ 6)) = true by rw [decide_eq_true h0,decide_eq_true h1]; rfl] at hil
  have hp : 2 ^ L ≤ 2 ^ 6 := Nat.pow_le_pow_right (by decide) (by omega)
  rw [Int.toNat_natCast]
  refine aV Tryz.func220 Tryz.ntmps220 ?_
  repeat' (first|(apply aF;first|(apply aA (k := 39);rfl;exact hv0;exact Pur.pf;rfl)|(apply aA (k := 257);rfl;exact hil;(rfl);rfl)|(apply g6;rfl;rfl;infer_instance;omega;rfl;(case' kk => intro hsm)))|refine aE ?_|fail)
  rw [Int.toNat_natCast]
  generalize hT : 2 ^ L = T at *
  refine aH (σ := Nat × Nat) [1,2,3,19] [] (fun s => [(20,iv (s.1 : Int))]) (fun s => [(0,some [iv (s.2 : Int)]),(1,some [sl cI p.types,sl aN p.body])]) (fun s => s.1 ≤ T ∧ s.2 = C0 p L s.1) (fun s => T - s.1) (0,0) ⟨Nat.zero_le _,rfl⟩ ?_
  rintro ⟨k,c⟩ ⟨hk,hc⟩
  dsimp only at hk hc ⊢
  have hcb := Qc (p := p) (l := L) (k := k)
  have hch1 := Nr (p := p) (l := L) (k := k)
  have hcs1 := IL (p := p) (l := L) (k := k)
  rw [← hc] at hcb hch1 hcs1
  have hch := Bk k L (by omega) (by omega)
  have hru := OB p (xQ k L) 80 hl hs (by rw [tY]; omega)
  have hbd : oI p L k = (decide (CX p (xQ k L) 80 ≠ 0) && decide (CX p (xQ k L) 80 ≠ 1)) := rfl
  generalize CX p (xQ k L) 80 = e at hru hbd
  generalize P4 p (xQ k L) 80 = a at hru
  repeat' (first|(apply aF;first|(apply aA (k := 258);rfl;exact hch;(rfl);rfl)|(apply aA (k := 35);rfl;exact hru;exact Pur.pf;rfl))|refine aE ?_|(refine aK ?_ ?_ <;> intro hc hq <;> try (exfalso;omega))|(refine bS ?_ ?_ <;> intro hg hq <;> try (exfalso;omega))|refine bQ ?_|fail)
  ·have hbt : oI p L k = true := by rw [hbd]; simp_all
   refine FX (k := 221) (avs := [iv (k : Int),iv a]) (avs0 := [iv (k : Int),iv a,.optr 0 0]) (rr' := .tup []) [0] 1 [(0,some [iv ((c : Int) + 1)])] (Qk (k : Int) a (c : Int) (by omega) (by omega)) rfl rfl rfl rfl ⟨⟨_,_,rfl,rfl,RnL.purI inferInstance⟩,trivial⟩ rfl (RnL.cons (RnV.purI inferInstance) (RnL.cons (RnV.purI inferInstance) (RnL.cons (RnV.optr rfl) .nil))) rfl (RnV.purI inferInstance) rfl ⟨⟨0,_,rfl,rfl,RnL.purI inferInstance⟩,trivial⟩ rfl ?_
   repeat' (first|refine aE ?_|fail)
   (apply bE (k + 1,c + 1);focus (refine Le.of (nL ?_) (kD ?_) (Nat.le_refl 2) rfl <;> repeat' (first|exact trivial|refine And.intro rfl ?_|refine And.intro (.inr rfl) ?_)))
   ·exact ⟨by dsimp only;omega,(hch1 hbt).symm⟩
   ·dsimp only;omega
  ·have hbf : oI p L k = false := by rw [hbd]; simp_all
   (apply bE (k + 1,c);focus (refine Le.of (nL ?_) (kD ?_) (Nat.le_refl 2) rfl <;> repeat' (first|exact trivial|refine And.intro rfl ?_|refine And.intro (.inr rfl) ?_)))
   ·exact ⟨by dsimp only;omega,(hcs1 hbf).symm⟩
   ·dsimp only;omega
  ·have hbf : oI p L k = false := by rw [hbd]; simp_all
   (apply bE (k + 1,c);focus (refine Le.of (nL ?_) (kD ?_) (Nat.le_refl 2) rfl <;> repeat' (first|exact trivial|refine And.intro rfl ?_|refine And.intro (.inr rfl) ?_)))
   ·exact ⟨by dsimp only;omega,(hcs1 hbf).symm⟩
   ·dsimp only;omega
  all_goals
   obtain rfl : k = T := by omega
   obtain rfl : c = C0 p L k := by assumption
   refine aD rfl ?_
   exact aR () trivial rfl ⟨.inr rfl,trivial⟩
 ·have h2 : s8 p l = false := by simpa using h
  rw [h2,if_neg (by decide)]
  by_cases hv : bD p = true
  ·have hil2 : (decide (0 ≤ l) && decide (l ≤ 6)) = false := by unfold s8 at h2; rw [hv] at h2; simpa using h2
   rw [hv] at hv0
   rw [hil2] at hil
   refine aV Tryz.func220 Tryz.ntmps220 ?_
   repeat' (first|(apply aF;first|(apply aA (k := 39);rfl;exact hv0;exact Pur.pf;rfl)|(apply aA (k := 257);rfl;exact hil;(rfl);rfl))|refine aE ?_|fail)
   refine aD rfl ?_
   exact aR () trivial rfl ⟨.inr rfl,trivial⟩
  ·have hv2 : bD p = false := by simpa using hv
   rw [hv2] at hv0
   refine aV Tryz.func220 Tryz.ntmps220 ?_
   repeat' (first|(apply aF;(apply aA (k := 39);rfl;exact hv0;exact Pur.pf;rfl))|refine aE ?_|fail)
   refine aD rfl ?_
   exact aR () trivial rfl ⟨.inr rfl,trivial⟩
end Go.Proofs.YtahdccneecdmmaaGreat
