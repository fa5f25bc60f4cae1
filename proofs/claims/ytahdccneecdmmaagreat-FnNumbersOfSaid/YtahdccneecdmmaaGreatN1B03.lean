/-
 A part of the proofs over this program: rules and contracts of its functions (the contracts).
-/
import Derived.Test.YtahdccneecdmmaaGreatN1B02
import Derived.Test.YtahdccneecdmmaaGreatRows
import Derived.WalkKit
import Derived.ProofKit
import Derived.OpenShut
import Derived.Carry
import Derived.ChangeSlices
set_option linter.unusedVariables false
set_option linter.unusedSimpArgs false
set_option maxHeartbeats 8000000
set_option maxRecDepth 4000
attribute [local irreducible] Go.AL.RW Go.AL.AW Go.AL.Stop
namespace Go.Proofs.YtahdccneecdmmaaGreat
open Go.AL Go.RowKit
variable {N : Nat} {Q : Exit → AS → Prop} {all : Array Oper} {rest : List Oper} {tsl : List (Nat × AV)} {hsl : List (Nat × Option (List AV))} {nidl : Nat} {z0 : Lo} {md : Md} {d : Nat} {ty : TypeId} {pos : String} {af : Array Edge} {tys : Array TypeId}
theorem w6 (m:List Cl) (hm:OkM m) (v:Int):PC Tryz.prog 240 [sl bP m,iv v] (fun r => r = .tup [sl bP (m ++ [Ac v]),.agg [iv m.length,iv 0]]):=by
 have hml := hm.l
 refine aC Tryz.func240 Tryz.ntmps240 ?_
 repeat' (first|(apply aD;first|(apply eI;rfl;exact gD m hm;rfl;rfl)|(apply aJ (t := _);rfl;rfl;rfl;(first|exact (rfl:_=some [_,_])|exact (rfl:_=some [_,_,_,_]));rfl;rfl))|refine aE ?_|fail)
 have e2 : AV.imm (m.length + 1) (((flat bP m).drop 0).take (m.length * 4) ++ [iv v, bv true, iv 1, .imm 1 [iv 0, bv true]]) = sl bP (m ++ [Ac v]) := by
  have e : ((flat bP m).drop 0).take (m.length * 4) ++ [iv v,bv true,iv 1,.imm 1 [iv 0,bv true]] = flat bP (m ++ [Ac v]) := gM rfl rfl
  rw [e]; exact iK (by rw [List.length_append]; rfl)
 refine aS (Le.frzD (d := 4) (i := 5) rfl rfl) ?_
 refine aB (l := [AV.imm (m.length + 1) (((flat bP m).drop 0).take (m.length * 4) ++ [iv v,bv true,iv 1,.imm 1 [iv 0,bv true]]),.agg [iv m.length,iv 0]]) rfl ?_
 rw [e2]
 exact ⟨rfl,by exact Pur.pf⟩
theorem xM (m:List Cl) (hm:OkM m) (v:Int):PC Tryz.prog 198 [sl bP m,iv v] (fun r => r = .tup (if 0 ≤ v ∧ v ≤ 9 ∧ m.length < 200 then [sl bP (m ++ [Ac v]),.agg [iv m.length,iv 0],bv true] else [sl bP [],.agg [iv 0,iv 0],bv false])):=by
 have hml := hm.l
 have hcv := eH m hm
 have hnc := w6 m hm v
 refine aC Tryz.func198 Tryz.ntmps198 ?_
 repeat' (first|(apply aD;first|(apply aA (k := 239);rfl;exact hcv;exact Pur.pf;rfl)|(apply aA (k := 240);rfl;exact hnc;exact Pur.pf;rfl)|(apply aA (k := 54);rfl;(apply bQ);(rfl);rfl))|refine aE ?_|(refine aM ?_ ?_ <;> intro hc hq <;> try (exfalso;omega))|(refine bS ?_ ?_ <;> intro hg hq <;> try (exfalso;omega))|refine cE ?_|fail)
 ·refine aS (Le.nilImm (d := 4) rfl) ?_
  exact aB (l := [sl bP [],.agg [iv 0,iv 0],bv false]) rfl ⟨by rw [if_neg (by omega)]; rfl,rfl⟩
 ·exact aB (l := [sl bP (m ++ [Ac v]),.agg [iv m.length,iv 0],bv true]) rfl ⟨by rw [if_pos (by omega)]; rfl,by exact Pur.pf⟩
 ·refine aS (Le.nilImm (d := 4) rfl) ?_
  exact aB (l := [sl bP [],.agg [iv 0,iv 0],bv false]) rfl ⟨by rw [if_neg (by omega)]; rfl,rfl⟩
theorem z9 {m:List Cl}{j:Nat}{t:Int}{r:List Tg}{n:Nat}{x0 x1 x2:Operand}{i0 i1:Nat}(ha0:ev (lk tsl) x0 = some (.own i0 0 n 4)) (ha1:ev (lk tsl) x1 = some (.agg [iv (j:Int),iv t])) (ha2:ev (lk tsl) x2 = some (bv true)) (hH0:aN hsl i0 = some (flat dP (cL m j (.own i1 0 m[j]!.stk.length 2)))) (hH1:aN hsl i1 = some (flat bV m[j]!.stk)) (hdd:Go.AL.distinct [i0,i1] = true) (hmc:MC Tryz.prog 242 [.own 0 0 n 4,.agg [iv (j:Int),iv t],bv true] [(0,some (flat dP (cL m j (.own 1 0 m[j]!.stk.length 2)))),(1,some (flat bV m[j]!.stk))] 2 (fun _:Unit => True) (fun _ => iv 0) (fun _ => [(0,some (flat dP (cL m j (.own 1 0 r.length 2)))),(1,some (flat bV r))])) (hM:Nat.ble (nidl + 0) aU = true) (hN:Nat.blt d N = true){md':Md}[hmd:MdA md (dV [x0,x1,x2] ++ [.inr i0,.inr i1]) (List.map Sum.inr (List.map Prod.fst ([(i0,some (flat dP (cL m j (.own i1 0 r.length 2)))),(i1,some (flat bV r))]:List (Nat × Option (List AV)))) ++ [.inl d]) md'] (kk:RW Tryz.prog N all Q md' rest ⟨(d,iv 0) :: tsl,eS hsl [(i0,some (flat dP (cL m j (.own i1 0 r.length 2)))),(i1,some (flat bV r))],nidl + 0,z0⟩):RW Tryz.prog N all Q md (⟨some d,.call ⟨.value (.func 242),#[x0,x1,x2],tys⟩,ty,pos,af,none⟩ :: rest) ⟨tsl,hsl,nidl,z0⟩:=by
 exact aT (l := [x0,x1,x2]) [i0,i1] 2 [(i0,some (flat dP (cL m j (.own i1 0 r.length 2)))),(i1,some (flat bV r))] hmc (avs := [.own i0 0 n 4,.agg [iv (j : Int),iv t],bv true]) (by simp only [evL,ha0,ha1,ha2]) hdd hM hN (md' := md') (hmd := hmd) kk
theorem B9 (m:List Cl) (j:Nat) (t:Int) (r:List Tg) (k n:Nat) (hm:OkM m) (hn:n = m.length) (hj:j < m.length) (hk:bR m[j]!.stk t = (k:Int)) (hal:m[j]!.alive = true) (hu:m[j]!.stk[k]!.uq = true) (hre:m[j]!.stk.take (k + 1) = r) (hrk:k + 1 = r.length):MC Tryz.prog 242 [.own 0 0 n 4,.agg [iv (j:Int),iv t],bv true] [(0,some (flat dP (cL m j (.own 1 0 m[j]!.stk.length 2)))),(1,some (flat bV m[j]!.stk))] 2 (fun _:Unit => True) (fun _ => iv 0) (fun _ => [(0,some (flat dP (cL m j (.own 1 0 r.length 2)))),(1,some (flat bV r))]):=by
 have h := nU m j t k n hm hn hj hk hal hu
 rw [hre,hrk] at h
 exact h
theorem Fi (m:List Cl) (hm:OkM m) (j k:Nat) (t:Int) (r:List Tg) (hj:j < m.length) (hkk:bR m[j]!.stk t = (k:Int)) (hk:a8 m ⟨(j:Int),t⟩ false = 0) (hr:r = gQ m[j]!.stk k false):PC Tryz.prog 200 [sl bP m,.agg [iv (j:Int),iv t],bv false] (fun z => z = .tup [sl bP (kJ m m j false r),Bx (mC m j r),iv (k6 m j r)]):=by
 have hml := hm.l
 obtain ⟨h1,h2,h3,h4,hu⟩ := e5 hk
 have hc := ((eU m).1 hm).2 j hj
 have hb := eW m[j]!.stk t
 have hrl : r.length ≤ 200 := by rw [hr]; exact Nat.le_trans tchS_sub.length_le hc.l.2
 have hnx := hc.n
 obtain ⟨_,e2,_⟩ := yZ hk (r := r) (by rw [hr]; show _ = gQ m[j]!.stk (bR m[j]!.stk t).toNat false;rw [hkk]; rfl)
 have e2' : AT m ⟨(j : Int),t⟩ false = kJ m m j false r := e2
 have hok := hm.ln ⟨(j : Int),t⟩ false
 rw [e2'] at hok
 have hto := vI m j t r k m.length hm rfl hj hkk h3 hr
 have hog := eY (m := m) (j := j) (X := .own (0 + 1 + 1 + 3 + 3) 0 r.length 2) hj
 have hol := cF (m := m) (j := j) (X := .own (0 + 1 + 1 + 3 + 3) 0 r.length 2)
 have hol2 := cF (m := m) (j := j) (X := .own (0 + 1 + 1 + 3 + 4 + 1) 0 (r.length + 1) 2)
 have hm2 : (m.set j { m[j]! with next := m[j]!.next + 1 }).length = m.length := List.length_set
 refine aC Tryz.func200 Tryz.ntmps200 ?_
 repeat' (first|(apply aD;first|(apply k8 (j := j);rfl;exact nZ m j hm hj;rfl;rfl)|(apply pZ (m := m) (j := j) (t := t) (r := r) (n := m.length);rfl;rfl;rfl;rfl;rfl;rfl;exact hto;rfl;rfl)|(with_reducible apply a5 (d := 32)))|refine aE ?_|fail)
 refine b8 ?_
 rw [hog]
 dsimp only
 by_cases hf : oK m j r
 ·have eM : kJ m m j false r = m := by unfold kJ; rw [if_pos hf]
  have eP : mC m j r = ⟨0,0⟩ := by unfold mC;rw [if_pos hf]
  have eK : k6 m j r = 4 := by unfold k6;rw [if_pos hf]
  rw [eM,eP,eK]
  unfold oK at hf
  repeat' (first|(apply aD;first|(apply eI;rfl;exact gD m hm;rfl;rfl)|(with_reducible apply a5 (d := 44)))|refine aE ?_|(refine aM ?_ ?_ <;> intro hc hq <;> try (exfalso;omega))|(refine bS ?_ ?_ <;> intro hg hq <;> try (exfalso;omega))|fail)
  ·refine aS (Le.frzD (d := 6) (i := 10) rfl rfl) ?_
   exact aB (l := [sl bP m,.agg [iv 0,iv 0],iv 4]) rfl ⟨rfl,by exact Pur.pf⟩
  ·exfalso
   have h : ¬ (cL m j (.own (0 + 1 + 1 + 3 + 3) 0 r.length 2))[j]!.next = 1000 := by assumption
   rw [hog] at h
   dsimp only at h
   omega
  ·refine aS (Le.frzD (d := 6) (i := 10) rfl rfl) ?_
   exact aB (l := [sl bP m,.agg [iv 0,iv 0],iv 4]) rfl ⟨rfl,by exact Pur.pf⟩
 ·have eM : kJ m m j false r = m.set j (psh { m[j]! with stk := r } false) := by unfold kJ; rw [if_neg hf]
  have eP : mC m j r = ⟨j,m[j]!.next⟩ := by unfold mC;rw [if_neg hf]
  have eK : k6 m j r = 0 := by unfold k6;rw [if_neg hf]
  rw [eM] at hok
  rw [eM,eP,eK]
  unfold oK at hf
  have hown := gD _ hok
  repeat' (first|(apply aD;first|(with_reducible apply a5 (d := 41))|(with_reducible apply a5 (d := 54)))|refine aE ?_|(refine aM ?_ ?_ <;> intro hc hq <;> try (exfalso;omega))|(refine bS ?_ ?_ <;> intro hg hq <;> try (exfalso;omega))|fail)
  ·exfalso
   have h : (cL m j (.own (0 + 1 + 1 + 3 + 3) 0 r.length 2))[j]!.next = 1000 := by assumption
   rw [hog] at h
   dsimp only at h
   omega
  ·refine b8 ?_
   rw [hog]
   dsimp only
   repeat' (first|(apply aD;first|(apply bH;rfl;rfl;rfl;rfl;rfl;(rw [aI,cF]; simp only [List.length_append,List.length_cons,List.length_nil]; omega);(first|exact rW hj|exact yO hj))|(apply c8;rfl;rfl;rfl;rfl;rfl;(rw [aI]; omega);(rfl);omega;omega;(exact DR (by (omega)));rfl;rfl)|(apply aJ (t := _);rfl;rfl;rfl;(exact (rfl:_=some [_,_]));rfl;rfl))|refine aE ?_|fail)
   refine AW.le ?_ (Le.cls (o := 3) (q := 0 + 1 + 1 + 3 + 4 + 1) (j := j) (k := r.length + 1) (m := m.set j { m[j]! with next := m[j]!.next + 1 }) (r := r ++ [⟨m[j]!.next,false⟩]) rfl rfl (by (rw [List.length_append]; rfl)) (by omega) (by decide))
   refine AW.le ?_ (Le.frzD (d := 9) (i := 3) rfl rfl)
   have e : (m.set j { m[j]! with next := m[j]!.next + 1 }).set j { (m.set j { m[j]! with next := m[j]!.next + 1 })[j]! with stk := r ++ [⟨m[j]!.next, false⟩] } = m.set j (psh { m[j]! with stk := r } false) := by
    rw [mJ hj,set_set]; rfl
   rw [e,iK (f := bP) (xs := m.set j (psh { m[j]! with stk := r } false)) (by rw [List.length_set])]
   repeat' (first|(apply aD;(apply eI;rfl;exact hown;rfl;rfl))|refine aE ?_|refine cE ?_|fail)
   refine aS (Le.frzD (d := 6) (i := 12) rfl rfl) ?_
   exact aB (l := [sl bP (m.set j (psh { m[j]! with stk := r } false)),.agg [iv (j : Int),iv m[j]!.next],iv 0]) rfl ⟨rfl,by exact Pur.pf⟩
  all_goals (exfalso;omega)
theorem E4 (m:List Cl) (hm:OkM m) (j k:Nat) (t:Int) (r:List Tg) (hj:j < m.length) (hkk:bR m[j]!.stk t = (k:Int)) (hk:a8 m ⟨(j:Int),t⟩ true = 0) (hr:r = gQ m[j]!.stk k true):PC Tryz.prog 200 [sl bP m,.agg [iv (j:Int),iv t],bv true] (fun z => z = .tup [sl bP (kJ m m j true r),Bx (mC m j r),iv (k6 m j r)]):=by
 have hml := hm.l
 obtain ⟨h1,h2,h3,h4,hu⟩ := e5 hk
 have hc := ((eU m).1 hm).2 j hj
 have hb := eW m[j]!.stk t
 have hrl : r.length ≤ 200 := by rw [hr]; exact Nat.le_trans tchS_sub.length_le hc.l.2
 have hnx := hc.n
 obtain ⟨_,e2,_⟩ := yZ hk (r := r) (by rw [hr]; show _ = gQ m[j]!.stk (bR m[j]!.stk t).toNat true;rw [hkk]; rfl)
 have e2' : AT m ⟨(j : Int),t⟩ true = kJ m m j true r := e2
 have hok := hm.ln ⟨(j : Int),t⟩ true
 rw [e2'] at hok
 have huk : m[j]!.stk[k]!.uq = true := by
  have h : m[j]!.stk[(bR m[j]!.stk t).toNat]!.uq = true := hu rfl
  rwa [hkk,Int.toNat_natCast] at h
 have hre : m[j]!.stk.take (k + 1) = r := by rw [hr]; unfold gQ;rw [if_pos rfl]
 have hrk : k + 1 = r.length := by rw [← hre,List.length_take]; omega
 have hto := B9 m j t r k m.length hm rfl hj hkk h3 huk hre hrk
 clear hre hrk huk hu hr hkk
 have hog := eY (m := m) (j := j) (X := .own (0 + 1 + 1 + 2) 0 r.length 2) hj
 have hol := cF (m := m) (j := j) (X := .own (0 + 1 + 1 + 2) 0 r.length 2)
 have hol2 := cF (m := m) (j := j) (X := .own (0 + 1 + 1 + 3 + 0 + 1) 0 (r.length + 1) 2)
 have hm2 : (m.set j { m[j]! with next := m[j]!.next + 1 }).length = m.length := List.length_set
 refine aC Tryz.func200 Tryz.ntmps200 ?_
 repeat' (first|(apply aD;first|(apply k8 (j := j);rfl;exact nZ m j hm hj;rfl;rfl)|(apply z9 (m := m) (j := j) (t := t) (r := r) (n := m.length);rfl;rfl;rfl;rfl;rfl;rfl;exact hto;rfl;rfl)|(with_reducible apply a5 (d := 32)))|refine aE ?_|fail)
 refine b8 ?_
 rw [hog]
 dsimp only
 by_cases hf : oK m j r
 ·have eM : kJ m m j true r = m := by unfold kJ; rw [if_pos hf]
  have eP : mC m j r = ⟨0,0⟩ := by unfold mC;rw [if_pos hf]
  have eK : k6 m j r = 4 := by unfold k6;rw [if_pos hf]
  rw [eM,eP,eK]
  unfold oK at hf
  repeat' (first|(apply aD;first|(apply eI;rfl;exact gD m hm;rfl;rfl)|(with_reducible apply a5 (d := 44)))|refine aE ?_|(refine aM ?_ ?_ <;> intro hc hq <;> try (exfalso;omega))|(refine bS ?_ ?_ <;> intro hg hq <;> try (exfalso;omega))|fail)
  ·refine aS (Le.frzD (d := 6) (i := 6) rfl rfl) ?_
   exact aB (l := [sl bP m,.agg [iv 0,iv 0],iv 4]) rfl ⟨rfl,by exact Pur.pf⟩
  ·exfalso
   have h : ¬ (cL m j (.own (0 + 1 + 1 + 2) 0 r.length 2))[j]!.next = 1000 := by assumption
   rw [hog] at h
   dsimp only at h
   omega
  ·refine aS (Le.frzD (d := 6) (i := 6) rfl rfl) ?_
   exact aB (l := [sl bP m,.agg [iv 0,iv 0],iv 4]) rfl ⟨rfl,by exact Pur.pf⟩
 ·have eM : kJ m m j true r = m.set j (psh { m[j]! with stk := r } true) := by unfold kJ; rw [if_neg hf]
  have eP : mC m j r = ⟨j,m[j]!.next⟩ := by unfold mC;rw [if_neg hf]
  have eK : k6 m j r = 0 := by unfold k6;rw [if_neg hf]
  rw [eM] at hok
  rw [eM,eP,eK]
  unfold oK at hf
  have hown := gD _ hok
  repeat' (first|(apply aD;first|(with_reducible apply a5 (d := 41))|(with_reducible apply a5 (d := 54)))|refine aE ?_|(refine aM ?_ ?_ <;> intro hc hq <;> try (exfalso;omega))|(refine bS ?_ ?_ <;> intro hg hq <;> try (exfalso;omega))|fail)
  ·exfalso
   have h : (cL m j (.own (0 + 1 + 1 + 2) 0 r.length 2))[j]!.next = 1000 := by assumption
   rw [hog] at h
   dsimp only at h
   omega
  ·refine b8 ?_
   rw [hog]
   dsimp only
   repeat' (first|(apply aD;first|(apply bH;rfl;rfl;rfl;rfl;rfl;(rw [aI,cF]; simp only [List.length_append,List.length_cons,List.length_nil]; omega);(first|exact rW hj|exact yO hj))|(apply c8;rfl;rfl;rfl;rfl;rfl;(rw [aI]; omega);(rfl);omega;omega;(exact DR (by (omega)));rfl;rfl)|(apply aJ (t := _);rfl;rfl;rfl;(exact (rfl:_=some [_,_]));rfl;rfl))|refine aE ?_|fail)
   refine AW.le ?_ (Le.cls (o := 3) (q := 0 + 1 + 1 + 3 + 0 + 1) (j := j) (k := r.length + 1) (m := m.set j { m[j]! with next := m[j]!.next + 1 }) (r := r ++ [⟨m[j]!.next,true⟩]) rfl rfl (by (rw [List.length_append]; rfl)) (by omega) (by decide))
   refine AW.le ?_ (Le.frzD (d := 9) (i := 3) rfl rfl)
   have e : (m.set j { m[j]! with next := m[j]!.next + 1 }).set j { (m.set j { m[j]! with next := m[j]!.next + 1 })[j]! with stk := r ++ [⟨m[j]!.next, true⟩] } = m.set j (psh { m[j]! with stk := r } true) := by
    rw [mJ hj,set_set]; rfl
   rw [e,iK (f := bP) (xs := m.set j (psh { m[j]! with stk := r } true)) (by rw [List.length_set])]
   repeat' (first|(apply aD;(apply eI;rfl;exact hown;rfl;rfl))|refine aE ?_|refine cE ?_|fail)
   refine aS (Le.frzD (d := 6) (i := 8) rfl rfl) ?_
   exact aB (l := [sl bP (m.set j (psh { m[j]! with stk := r } true)),.agg [iv (j : Int),iv m[j]!.next],iv 0]) rfl ⟨rfl,by exact Pur.pf⟩
  all_goals (exfalso;omega)
theorem Ej (m:List Cl) (hm:OkM m) (x:Pt) (u:Bool):PC Tryz.prog 200 [sl bP m,Bx x,bv u] (fun r => r = .tup [sl bP (AT m x u),Bx (DY m x u),iv (u6 m x u)]):=by
 have hml := hm.l
 by_cases hk : a8 m x u = 0
 ·obtain ⟨c, t⟩ := x
  obtain ⟨h1,h2,h3,h4,hu⟩ := e5 hk
  obtain ⟨j,rfl⟩ := Int.eq_ofNat_of_zero_le (show 0 ≤ c from h1)
  have hj : j < m.length := by have : (j : Int) < m.length := h2;omega
  obtain ⟨k,hkk⟩ := Int.eq_ofNat_of_zero_le (show 0 ≤ bR m[j]!.stk t from h4)
  obtain ⟨r,hr⟩ : ∃ r,r = gQ m[j]!.stk k u := ⟨_,rfl⟩
  obtain ⟨e1,e2,e3⟩ := yZ hk (r := r) (by rw [hr]; show _ = gQ m[j]!.stk (bR m[j]!.stk t).toNat u;rw [hkk]; rfl)
  rw [e1,e2,e3]
  cases u
  ·exact Fi m hm j k t r hj hkk hk hr
  ·exact E4 m hm j k t r hj hkk hk hr
 ·obtain ⟨e1, e2, e3⟩ := HJ hk
  rw [e1,e2,e3]
  refine aC Tryz.func200 Tryz.ntmps200 ?_
  repeat' (first|(apply aD;first|(apply eI;rfl;exact gD m hm;rfl;rfl)|(apply jK (m := m) (x := x) (wr := u) (n := m.length);rfl;rfl;rfl;rfl;exact kH m x u _ hm rfl hk;rfl;rfl))|refine aE ?_|(refine aM ?_ ?_ <;> intro hc hq <;> try (exfalso;omega))|fail)
  refine aS (Le.frzD (d := 6) (i := 3) rfl rfl) ?_
  exact aB (l := [sl bP m,.agg [iv 0,iv 0],iv (a8 m x u)]) rfl ⟨rfl,by exact Pur.pf⟩
abbrev mO (ts : List Int) (bd : List AL.Stmt) (pts : List Pnt) (i1 i2 : Nat) (s : Mc) : List AV := [aG ts bd pts,.own i1 0 ts.length 4,sl bP s.cells,.own i2 0 s.read.length 1]
theorem vM {ts:List Int}{bd:List AL.Stmt}{pts:List Pnt}{s:Mc}{v:Nat}{x0 x1:Operand}{i0 i1 i2:Nat}(ha0:ev (lk tsl) x0 = some (.optr i0 0)) (ha1:ev (lk tsl) x1 = some (iv (v:Int))) (hH0:aN hsl i0 = some (mO ts bd pts i1 i2 s)) (hH1:aN hsl i1 = some (flat cJ s.slots)) (hH2:aN hsl i2 = some (flat cI s.read)) (hdd:Go.AL.distinct [i0,i1,i2] = true) (hmc:MC Tryz.prog 204 [.optr 0 0,iv (v:Int)] [(0,some (mO ts bd pts 1 2 s)),(1,some (flat cJ s.slots)),(2,some (flat cI s.read))] 3 (fun _:Unit => True) (fun _ => iv (kC (a8 s.cells s.slots[v]!.ptr true))) (fun _ => [(0,some ([aG ts bd pts,.own 1 0 ts.length 4,sl bP (l4 s.cells s.slots[v]!.ptr),.own 2 0 s.read.length 1])),(1,some (flat cJ s.slots)),(2,some (flat cI s.read))])) (hM:Nat.ble (nidl + 0) aU = true) (hN:Nat.blt d N = true){md':Md}[hmd:MdA md (dV [x0,x1] ++ [.inr i0,.inr i1,.inr i2]) (List.map Sum.inr (List.map Prod.fst ([(i0,some ([aG ts bd pts,.own i1 0 ts.length 4,sl bP (l4 s.cells s.slots[v]!.ptr),.own i2 0 s.read.length 1])),(i1,some (flat cJ s.slots)),(i2,some (flat cI s.read))]:List (Nat × Option (List AV)))) ++ [.inl d]) md'] (kk:RW Tryz.prog N all Q md' rest ⟨(d,iv (kC (a8 s.cells s.slots[v]!.ptr true))) :: tsl,eS hsl [(i0,some ([aG ts bd pts,.own i1 0 ts.length 4,sl bP (l4 s.cells s.slots[v]!.ptr),.own i2 0 s.read.length 1])),(i1,some (flat cJ s.slots)),(i2,some (flat cI s.read))],nidl + 0,z0⟩):RW Tryz.prog N all Q md (⟨some d,.call ⟨.value (.func 204),#[x0,x1],tys⟩,ty,pos,af,none⟩ :: rest) ⟨tsl,hsl,nidl,z0⟩:=by
 exact aT (l := [x0,x1]) [i0,i1,i2] 3 [(i0,some ([aG ts bd pts,.own i1 0 ts.length 4,sl bP (l4 s.cells s.slots[v]!.ptr),.own i2 0 s.read.length 1])),(i1,some (flat cJ s.slots)),(i2,some (flat cI s.read))] hmc (avs := [.optr i0 0,iv (v : Int)]) (by simp only [evL,ha0,ha1]) hdd hM hN (md' := md') (hmd := hmd) kk
theorem r7 (ts:List Int) (bd:List AL.Stmt) (pts:List Pnt) (s:Mc) (v:Nat) (hm:OkM s.cells) (hsl:s.slots.length = ts.length) (hv:v < ts.length):MC Tryz.prog 204 [.optr 0 0,iv (v:Int)] [(0,some (mO ts bd pts 1 2 s)),(1,some (flat cJ s.slots)),(2,some (flat cI s.read))] 3 (fun _:Unit => True) (fun _ => iv (kC (a8 s.cells s.slots[v]!.ptr true))) (fun _ => [(0,some ([aG ts bd pts,.own 1 0 ts.length 4,sl bP (l4 s.cells s.slots[v]!.ptr),.own 2 0 s.read.length 1])),(1,some (flat cJ s.slots)),(2,some (flat cI s.read))]):=by
 have hfc := vQ s.cells hm s.slots[v]!.ptr
 refine aQ Tryz.func204 Tryz.ntmps204 ?_
 repeat' (first|(apply aD;first|(apply fC;(case hx|hH => rfl);(case hf|hg|hα => infer_instance);(case hk => omega);(case hj => decide);(case hc => exact (rfl:_=[_,_]));(case h0|hN => rfl))|(apply aA (k := 243);rfl;exact hfc;exact Pur.pf;rfl)|(apply aA (k := 201);rfl;(apply mR);(rfl);rfl))|refine aE ?_|(refine aM ?_ ?_ <;> intro hc hq <;> try (exfalso;omega))|refine cE ?_|fail)
 ·have hk : ¬ a8 s.cells s.slots[v]!.ptr true = 0 := by assumption
  (refine aB rfl ?_; refine aO () trivial ?_ ⟨sE ?_,⟨sE ?_,⟨sE ?_,trivial⟩⟩⟩)
  ·show iv (eX _) = iv (kC _)
   unfold kC;rw [if_neg hk]
  ·rfl
  ·rfl
  ·rfl
 ·have hk : a8 s.cells s.slots[v]!.ptr true = 0 := by assumption
  (refine aB rfl ?_; refine aO () trivial ?_ ⟨sE ?_,⟨sE ?_,⟨sE ?_,trivial⟩⟩⟩)
  ·rw [hk]; rfl
  ·rfl
  ·rfl
  ·rfl
theorem GL (ts:List Int) (bd:List AL.Stmt) (pts:List Pnt) (s:Mc) (v:Nat) (y:Sl) (hm:OkM s.cells) (hsl:s.slots.length = ts.length) (hv:v < ts.length):MC Tryz.prog 197 [.optr 0 0,iv (v:Int),H8 y] [(0,some (mO ts bd pts 1 2 s)),(1,some (flat cJ s.slots)),(2,some (flat cI s.read))] 3 (fun _:Unit => True) (fun _ => iv (bO ts s v y).2) (fun _ => [(0,some (mO ts bd pts 1 2 (bO ts s v y).1)),(1,some (flat cJ (bO ts s v y).1.slots)),(2,some (flat cI (bO ts s v y).1.read))]):=by
 have hfr := r7 ts bd pts s v hm hsl hv
 refine aQ Tryz.func197 Tryz.ntmps197 ?_
 repeat' (first|(apply aD;first|(apply vM (ts := ts) (bd := bd) (pts := pts) (s := s) (v := v);rfl;rfl;rfl;rfl;rfl;rfl;exact hfr;rfl;rfl)|(apply bH;rfl;rfl;rfl;rfl;rfl;(rw [aI]; simp only [fP] <;> omega);(exact zH (by (omega)))))|refine aE ?_|(refine aM ?_ ?_ <;> intro hc hq <;> try (exfalso;omega))|(refine bS ?_ ?_ <;> intro hg hq <;> try (exfalso;omega))|refine cE ?_|fail)
 ·have hp : bO ts s v y = (⟨s.slots.set v y, l4 s.cells s.slots[v]!.ptr, s.read⟩, kC (a8 s.cells s.slots[v]!.ptr true)) := if_pos ⟨by assumption, by assumption⟩
  rw [hp]
  (refine aB rfl ?_; refine aO () trivial ?_ ⟨sE ?_,⟨sE ?_,⟨sE ?_,trivial⟩⟩⟩)
  ·rfl
  ·rfl
  ·rfl
  ·rfl
 all_goals (
  have hp : bO ts s v y = (⟨s.slots.set v y, s.cells, s.read⟩, -1) := if_neg (by
   rintro ⟨q1,q2⟩
   first|(exact (by assumption : ¬ ts[v]! = 2) q1)|(rw [(by assumption : s.slots[v]!.set = false)] at q2;exact absurd q2 (by decide)))
  rw [hp]
  (refine aB rfl ?_; refine aO () trivial ?_ ⟨sE ?_,⟨sE ?_,⟨sE ?_,trivial⟩⟩⟩)
  ·rfl
  ·rfl
  ·rfl
  ·rfl)
theorem Fo {ts:List Int}{bd:List AL.Stmt}{pts:List Pnt}{s:Mc}{x0:Operand}{i0 i1 i2:Nat}(ha0:ev (lk tsl) x0 = some (.optr i0 0)) (hH0:aN hsl i0 = some (mO ts bd pts i1 i2 s)) (hH1:aN hsl i1 = some (flat cJ s.slots)) (hH2:aN hsl i2 = some (flat cI s.read)) (hdd:Go.AL.distinct [i0,i1,i2] = true) (hmc:MC Tryz.prog 205 [.optr 0 0] [(0,some (mO ts bd pts 1 2 s)),(1,some (flat cJ s.slots)),(2,some (flat cI s.read))] 3 (fun _:Unit => True) (fun _ => iv (b9 ts ts.length 0 s).2) (fun _ => [(0,some (mO ts bd pts 1 2 (b9 ts ts.length 0 s).1)),(1,some (flat cJ (b9 ts ts.length 0 s).1.slots)),(2,some (flat cI (b9 ts ts.length 0 s).1.read))])) (hM:Nat.ble (nidl + 0) aU = true) (hN:Nat.blt d N = true){md':Md}[hmd:MdA md (dV [x0] ++ [.inr i0,.inr i1,.inr i2]) (List.map Sum.inr (List.map Prod.fst ([(i0,some (mO ts bd pts i1 i2 (b9 ts ts.length 0 s).1)),(i1,some (flat cJ (b9 ts ts.length 0 s).1.slots)),(i2,some (flat cI (b9 ts ts.length 0 s).1.read))]:List (Nat × Option (List AV)))) ++ [.inl d]) md'] (kk:RW Tryz.prog N all Q md' rest ⟨(d,iv (b9 ts ts.length 0 s).2) :: tsl,eS hsl [(i0,some (mO ts bd pts i1 i2 (b9 ts ts.length 0 s).1)),(i1,some (flat cJ (b9 ts ts.length 0 s).1.slots)),(i2,some (flat cI (b9 ts ts.length 0 s).1.read))],nidl + 0,z0⟩):RW Tryz.prog N all Q md (⟨some d,.call ⟨.value (.func 205),#[x0],tys⟩,ty,pos,af,none⟩ :: rest) ⟨tsl,hsl,nidl,z0⟩:=by
 exact aT (l := [x0]) [i0,i1,i2] 3 [(i0,some (mO ts bd pts i1 i2 (b9 ts ts.length 0 s).1)),(i1,some (flat cJ (b9 ts ts.length 0 s).1.slots)),(i2,some (flat cI (b9 ts ts.length 0 s).1.read))] hmc (avs := [.optr i0 0]) (by simp only [evL,ha0]) hdd hM hN (md' := md') (hmd := hmd) kk
theorem Gf (ts:List Int) (bd:List AL.Stmt) (pts:List Pnt) (s:Mc) (hm:OkM s.cells) (hsl:s.slots.length = ts.length) (hl:ts.length ≤ 1048576):MC Tryz.prog 205 [.optr 0 0] [(0,some (mO ts bd pts 1 2 s)),(1,some (flat cJ s.slots)),(2,some (flat cI s.read))] 3 (fun _:Unit => True) (fun _ => iv (b9 ts ts.length 0 s).2) (fun _ => [(0,some (mO ts bd pts 1 2 (b9 ts ts.length 0 s).1)),(1,some (flat cJ (b9 ts ts.length 0 s).1.slots)),(2,some (flat cI (b9 ts ts.length 0 s).1.read))]):=by
 refine aQ Tryz.func205 Tryz.ntmps205 ?_
 repeat' (first|refine aE ?_|fail)
 refine aL (σ := Nat × Mc) [0,13,14] [] (fun k => [(15,iv (k.1 : Int))]) (fun k => [(0,some (mO ts bd pts 1 2 k.2)),(1,some (flat cJ k.2.slots)),(2,some (flat cI k.2.read))]) (fun k => k.1 ≤ ts.length ∧ b9 ts (ts.length - k.1) k.1 k.2 = b9 ts ts.length 0 s ∧ OkM k.2.cells ∧ k.2.slots.length = ts.length) (fun k => ts.length - k.1) (0,s) ⟨Nat.zero_le _,rfl,hm,hsl⟩ ?_
 rintro ⟨v,q⟩ ⟨hv,hf,hmq,hlq⟩
 dsimp only at hv hf hmq hlq ⊢
 by_cases hvn : v < ts.length
 ·have hfr := r7 ts bd pts q v hmq hlq hvn
  repeat' (first|(apply aD;first|(apply vM (ts := ts) (bd := bd) (pts := pts) (s := q) (v := v);rfl;rfl;rfl;rfl;rfl;rfl;exact hfr;rfl;rfl)|(apply bH;rfl;rfl;rfl;rfl;rfl;(rw [aI]; simp only [fP] <;> omega);(exact zH (by (omega)))))|refine aE ?_|(refine aM ?_ ?_ <;> intro hc hq <;> try (exfalso;omega))|(refine bS ?_ ?_ <;> intro hg hq <;> try (exfalso;omega))|fail)
  ·(refine bX (v + 1, q) (Le.renA []) ?_ ?_)
   ·refine ⟨by omega, ?_, hmq, hlq⟩
    dsimp only
    rw [← hf, show ts.length - v = (ts.length - (v + 1)) + 1 by omega, DM (fun h => by
     have h2 : q.slots[v]!.set = false := by assumption
     rw [h2] at h;exact absurd h.2 (by decide))]
   ·dsimp only;omega
  ·have hk : ¬ a8 q.cells q.slots[v]!.ptr true = 0 := fun h => by
    have h2 : ¬ kC (a8 q.cells q.slots[v]!.ptr true) = -1 := by assumption
    rw [h] at h2;exact h2 rfl
   have hq2 : b9 ts ts.length 0 s = (⟨q.slots, l4 q.cells q.slots[v]!.ptr, q.read⟩, eX (a8 q.cells q.slots[v]!.ptr true)) := by
    rw [← hf,show ts.length - v = (ts.length - (v + 1)) + 1 by omega,Hi ⟨by assumption,by assumption⟩ hk]
   rw [hq2]
   (refine aB rfl ?_; refine aO () trivial ?_ ⟨sE ?_,⟨sE ?_,⟨sE ?_,trivial⟩⟩⟩)
   ·show iv (kC _) = iv (eX _)
    unfold kC;rw [if_neg hk]
   ·rfl
   ·rfl
   ·rfl
  ·have hk : a8 q.cells q.slots[v]!.ptr true = 0 := by
    have h2 : kC (a8 q.cells q.slots[v]!.ptr true) = -1 := by assumption
    unfold kC at h2
    by_cases h : a8 q.cells q.slots[v]!.ptr true = 0
    ·exact h
    ·rw [if_neg h] at h2;unfold eX at h2;split at h2 <;> cases h2
   have hls : (q.slots.set v qH).length = q.slots.length := List.length_set
   (refine bX (v + 1,⟨q.slots.set v qH,l4 q.cells q.slots[v]!.ptr,q.read⟩) (Le.renA []) ?_ ?_)
   ·refine ⟨by dsimp only; omega, ?_, hmq.fr _, by show (q.slots.set v qH).length = _; rw [List.length_set]; exact hlq⟩
    dsimp only
    rw [← hf,show ts.length - v = (ts.length - (v + 1)) + 1 by omega,Ga ⟨by assumption,by assumption⟩ hk]
   ·dsimp only;omega
  ·(refine bX (v + 1, q) (Le.renA []) ?_ ?_)
   ·refine ⟨by omega, ?_, hmq, hlq⟩
    dsimp only
    rw [← hf, show ts.length - v = (ts.length - (v + 1)) + 1 by omega, DM (fun h => by
     have h2 : ¬ ts[v]! = 2 := by assumption
     exact h2 h.1)]
   ·dsimp only;omega
 ·have hve : v = ts.length := by omega
  have hq2 : b9 ts ts.length 0 s = (q,0) := by rw [← hf,hve,Nat.sub_self]; rfl
  repeat' (first|refine aE ?_|(refine aM ?_ ?_ <;> intro hc hq <;> try (exfalso;omega))|fail)
  rw [hq2]
  (refine aB rfl ?_; refine aO () trivial ?_ ⟨sE ?_,⟨sE ?_,⟨sE ?_,trivial⟩⟩⟩)
  ·rfl
  ·rfl
  ·rfl
  ·rfl
def cG (ts : List Int) (s : Mc) (x : Pnt) : Mc × Int := if bL ts s x = true then (s,2) else dD ts s x
theorem o8 {ts:List Int}{s:Mc}{x:Pnt}(h:bL ts s x = true):cG ts s x = (s,2) := if_pos h
theorem mE {ts:List Int}{s:Mc}{x:Pnt}(h:bL ts s x = false):cG ts s x = dD ts s x := if_neg (by rw [h]; decide)
theorem eG {ts:List Int}{x:Pnt}{v:Int}(h:v ∈ bF (wS ts x [1,2,3])):0 ≤ v ∧ v < ts.length:=by
 obtain ⟨v',h3,h4,rfl⟩ := eB.1 h
 rw [fG,Bool.and_eq_true,decide_eq_true_eq] at h4
 omega
theorem bG {ts:List Int}{s:Mc}{x:Pnt}(htl:ts.length ≤ 6):bL ts s x = true ↔ ∃ v ∈ bF (wS ts x [1,2,3]),s.slots[v.toNat]!.set = false:=by
 constructor
 ·intro h
  obtain ⟨v,hv,hne,hs⟩ := B6 h
  refine ⟨(v : Int),eB.2 ⟨v,by omega,?_,rfl⟩,hs⟩
  have hb := Dt ts x v
  rw [fG,decide_eq_true hv,Bool.true_and,decide_eq_true_eq]
  simp only [List.mem_cons,List.not_mem_nil,or_false]; omega
 ·rintro ⟨v, hv, hs⟩
  obtain ⟨v',h3,h4,rfl⟩ := eB.1 hv
  rw [fG,Bool.and_eq_true,decide_eq_true_eq,decide_eq_true_eq] at h4
  unfold bL
  refine List.any_eq_true.2 ⟨v',List.mem_range.2 h4.1,?_⟩
  rw [Bool.and_eq_true,decide_eq_true_eq]
  refine ⟨fun e => ?_,by rw [show s.slots[v']!.set = false from hs]; rfl⟩
  have h5 := h4.2
  simp only [List.mem_cons,List.not_mem_nil,or_false] at h5;omega
theorem Gg {ts:List Int}{bd:List AL.Stmt}{pts:List Pnt}{s:Mc}{x:Pnt}{x0 x1:Operand}{i0 i1 i2:Nat}(ha0:ev (lk tsl) x0 = some (.optr i0 0)) (ha1:ev (lk tsl) x1 = some (dK x)) (hH0:aN hsl i0 = some (mO ts bd pts i1 i2 s)) (hH1:aN hsl i1 = some (flat cJ s.slots)) (hH2:aN hsl i2 = some (flat cI s.read)) (hdd:Go.AL.distinct [i0,i1,i2] = true) (hmc:MC Tryz.prog 140 [.optr 0 0,dK x] [(0,some (mO ts bd pts 1 2 s)),(1,some (flat cJ s.slots)),(2,some (flat cI s.read))] 3 (fun _:Unit => True) (fun _ => iv (cG ts s x).2) (fun _ => [(0,some (mO ts bd pts 1 2 (cG ts s x).1)),(1,some (flat cJ (cG ts s x).1.slots)),(2,some (flat cI (cG ts s x).1.read))])) (hM:Nat.ble (nidl + 0) aU = true) (hN:Nat.blt d N = true){md':Md}[hmd:MdA md (dV [x0,x1] ++ [.inr i0,.inr i1,.inr i2]) (List.map Sum.inr (List.map Prod.fst ([(i0,some (mO ts bd pts i1 i2 (cG ts s x).1)),(i1,some (flat cJ (cG ts s x).1.slots)),(i2,some (flat cI (cG ts s x).1.read))]:List (Nat × Option (List AV)))) ++ [.inl d]) md'] (kk:RW Tryz.prog N all Q md' rest ⟨(d,iv (cG ts s x).2) :: tsl,eS hsl [(i0,some (mO ts bd pts i1 i2 (cG ts s x).1)),(i1,some (flat cJ (cG ts s x).1.slots)),(i2,some (flat cI (cG ts s x).1.read))],nidl + 0,z0⟩):RW Tryz.prog N all Q md (⟨some d,.call ⟨.value (.func 140),#[x0,x1],tys⟩,ty,pos,af,none⟩ :: rest) ⟨tsl,hsl,nidl,z0⟩:=by
 exact aT (l := [x0,x1]) [i0,i1,i2] 3 [(i0,some (mO ts bd pts i1 i2 (cG ts s x).1)),(i1,some (flat cJ (cG ts s x).1.slots)),(i2,some (flat cI (cG ts s x).1.read))] hmc (avs := [.optr i0 0,dK x]) (by simp only [evL,ha0,ha1]) hdd hM hN (md' := md') (hmd := hmd) kk
theorem gH {ts:List Int}{bd:List AL.Stmt}{pts:List Pnt}{s:Mc}{v:Int}{y:Sl}{x0 x1 x2:Operand}{i0 i1 i2:Nat}(ha0:ev (lk tsl) x0 = some (.optr i0 0)) (ha1:ev (lk tsl) x1 = some (iv v)) (ha2:ev (lk tsl) x2 = some (H8 y)) (hH0:aN hsl i0 = some (mO ts bd pts i1 i2 s)) (hH1:aN hsl i1 = some (flat cJ s.slots)) (hH2:aN hsl i2 = some (flat cI s.read)) (hdd:Go.AL.distinct [i0,i1,i2] = true) (hmc:MC Tryz.prog 197 [.optr 0 0,iv v,H8 y] [(0,some (mO ts bd pts 1 2 s)),(1,some (flat cJ s.slots)),(2,some (flat cI s.read))] 3 (fun _:Unit => True) (fun _ => iv (bO ts s v.toNat y).2) (fun _ => [(0,some (mO ts bd pts 1 2 (bO ts s v.toNat y).1)),(1,some (flat cJ (bO ts s v.toNat y).1.slots)),(2,some (flat cI (bO ts s v.toNat y).1.read))])) (hM:Nat.ble (nidl + 0) aU = true) (hN:Nat.blt d N = true){md':Md}[hmd:MdA md (dV [x0,x1,x2] ++ [.inr i0,.inr i1,.inr i2]) (List.map Sum.inr (List.map Prod.fst ([(i0,some (mO ts bd pts i1 i2 (bO ts s v.toNat y).1)),(i1,some (flat cJ (bO ts s v.toNat y).1.slots)),(i2,some (flat cI (bO ts s v.toNat y).1.read))]:List (Nat × Option (List AV)))) ++ [.inl d]) md'] (kk:RW Tryz.prog N all Q md' rest ⟨(d,iv (bO ts s v.toNat y).2) :: tsl,eS hsl [(i0,some (mO ts bd pts i1 i2 (bO ts s v.toNat y).1)),(i1,some (flat cJ (bO ts s v.toNat y).1.slots)),(i2,some (flat cI (bO ts s v.toNat y).1.read))],nidl + 0,z0⟩):RW Tryz.prog N all Q md (⟨some d,.call ⟨.value (.func 197),#[x0,x1,x2],tys⟩,ty,pos,af,none⟩ :: rest) ⟨tsl,hsl,nidl,z0⟩:=by
 exact aT (l := [x0,x1,x2]) [i0,i1,i2] 3 [(i0,some (mO ts bd pts i1 i2 (bO ts s v.toNat y).1)),(i1,some (flat cJ (bO ts s v.toNat y).1.slots)),(i2,some (flat cI (bO ts s v.toNat y).1.read))] hmc (avs := [.optr i0 0,iv v,H8 y]) (by simp only [evL,ha0,ha1,ha2]) hdd hM hN (md' := md') (hmd := hmd) kk
theorem jI (ts:List Int) (bd:List AL.Stmt) (pts:List Pnt) (s:Mc) (v:Int) (y:Sl) (hm:OkM s.cells) (hsl:s.slots.length = ts.length) (hv:0 ≤ v ∧ v < ts.length):MC Tryz.prog 197 [.optr 0 0,iv v,H8 y] [(0,some (mO ts bd pts 1 2 s)),(1,some (flat cJ s.slots)),(2,some (flat cI s.read))] 3 (fun _:Unit => True) (fun _ => iv (bO ts s v.toNat y).2) (fun _ => [(0,some (mO ts bd pts 1 2 (bO ts s v.toNat y).1)),(1,some (flat cJ (bO ts s v.toNat y).1.slots)),(2,some (flat cI (bO ts s v.toNat y).1.read))]):=by
 have h := GL ts bd pts s v.toNat y hm hsl (by omega)
 rw [Int.toNat_of_nonneg hv.1] at h
 exact h
theorem Ba {ts:List Int}{bd:List AL.Stmt}{pts:List Pnt}{s:Mc}{v:Int}{x0 x1:Operand}{i0 i1 i2:Nat}(ha0:ev (lk tsl) x0 = some (.optr i0 0)) (ha1:ev (lk tsl) x1 = some (iv v)) (hH0:aN hsl i0 = some (mO ts bd pts i1 i2 s)) (hH1:aN hsl i1 = some (flat cJ s.slots)) (hH2:aN hsl i2 = some (flat cI s.read)) (hdd:Go.AL.distinct [i0,i1,i2] = true) (hmc:MC Tryz.prog 204 [.optr 0 0,iv v] [(0,some (mO ts bd pts 1 2 s)),(1,some (flat cJ s.slots)),(2,some (flat cI s.read))] 3 (fun _:Unit => True) (fun _ => iv (kC (a8 s.cells s.slots[v.toNat]!.ptr true))) (fun _ => [(0,some ([aG ts bd pts,.own 1 0 ts.length 4,sl bP (l4 s.cells s.slots[v.toNat]!.ptr),.own 2 0 s.read.length 1])),(1,some (flat cJ s.slots)),(2,some (flat cI s.read))])) (hM:Nat.ble (nidl + 0) aU = true) (hN:Nat.blt d N = true){md':Md}[hmd:MdA md (dV [x0,x1] ++ [.inr i0,.inr i1,.inr i2]) (List.map Sum.inr (List.map Prod.fst ([(i0,some ([aG ts bd pts,.own i1 0 ts.length 4,sl bP (l4 s.cells s.slots[v.toNat]!.ptr),.own i2 0 s.read.length 1])),(i1,some (flat cJ s.slots)),(i2,some (flat cI s.read))]:List (Nat × Option (List AV)))) ++ [.inl d]) md'] (kk:RW Tryz.prog N all Q md' rest ⟨(d,iv (kC (a8 s.cells s.slots[v.toNat]!.ptr true))) :: tsl,eS hsl [(i0,some ([aG ts bd pts,.own i1 0 ts.length 4,sl bP (l4 s.cells s.slots[v.toNat]!.ptr),.own i2 0 s.read.length 1])),(i1,some (flat cJ s.slots)),(i2,some (flat cI s.read))],nidl + 0,z0⟩):RW Tryz.prog N all Q md (⟨some d,.call ⟨.value (.func 204),#[x0,x1],tys⟩,ty,pos,af,none⟩ :: rest) ⟨tsl,hsl,nidl,z0⟩:=by
 exact aT (l := [x0,x1]) [i0,i1,i2] 3 [(i0,some ([aG ts bd pts,.own i1 0 ts.length 4,sl bP (l4 s.cells s.slots[v.toNat]!.ptr),.own i2 0 s.read.length 1])),(i1,some (flat cJ s.slots)),(i2,some (flat cI s.read))] hmc (avs := [.optr i0 0,iv v]) (by simp only [evL,ha0,ha1]) hdd hM hN (md' := md') (hmd := hmd) kk
theorem Cf (ts:List Int) (bd:List AL.Stmt) (pts:List Pnt) (s:Mc) (v:Int) (hm:OkM s.cells) (hsl:s.slots.length = ts.length) (hv:0 ≤ v ∧ v < ts.length):MC Tryz.prog 204 [.optr 0 0,iv v] [(0,some (mO ts bd pts 1 2 s)),(1,some (flat cJ s.slots)),(2,some (flat cI s.read))] 3 (fun _:Unit => True) (fun _ => iv (kC (a8 s.cells s.slots[v.toNat]!.ptr true))) (fun _ => [(0,some ([aG ts bd pts,.own 1 0 ts.length 4,sl bP (l4 s.cells s.slots[v.toNat]!.ptr),.own 2 0 s.read.length 1])),(1,some (flat cJ s.slots)),(2,some (flat cI s.read))]):=by
 have h := r7 ts bd pts s v.toNat hm hsl (by omega)
 rw [Int.toNat_of_nonneg hv.1] at h
 exact h
theorem HH (ts:List Int) (bd:List AL.Stmt) (pts:List Pnt) (s:Mc) (x:Pnt) (htl:ts.length ≤ 6) (hm:OkM s.cells) (hsl:s.slots.length = ts.length) (ho:x.op = 1) (hx:0 ≤ x.x ∧ x.x < ts.length):MC Tryz.prog 140 [.optr 0 0,dK x] [(0,some (mO ts bd pts 1 2 s)),(1,some (flat cJ s.slots)),(2,some (flat cI s.read))] 3 (fun _:Unit => True) (fun _ => iv (cG ts s x).2) (fun _ => [(0,some (mO ts bd pts 1 2 (cG ts s x).1)),(1,some (flat cJ (cG ts s x).1.slots)),(2,some (flat cI (cG ts s x).1.read))]):=by
 have hus := gE ts bd pts x htl
 have hsm : Sm (wS ts x [1,2,3]) := cA (by omega)
 obtain ⟨L,hL⟩ : ∃ L,L = bF (wS ts x [1,2,3]) := ⟨_,rfl⟩
 have hLl : L.length ≤ 62 := by rw [hL]; exact bW _
 have hmem : ∀ k, k < L.length → 0 ≤ L[k]! ∧ L[k]! < s.slots.length := fun k hk => by
  rw [hsl]; exact eG (by rw [← hL]; exact aV _ _ hk)
 refine aQ Tryz.func140 Tryz.ntmps140 ?_
 repeat' (first|(apply aD;first|(apply aA (k := 158);rfl;exact hus;exact Pur.pf;rfl)|(apply aA (k := 120);rfl;(apply fK <;> (assumption));(rfl);rfl))|refine aE ?_|refine cE ?_|fail)
 rw [← hL]
 refine aL (σ := Nat) [0,3,26,27] [0,1,2,3] (fun k => [(28,iv (k : Int))]) (fun k => []) (fun k => k ≤ L.length ∧ ∀ j,j < k → s.slots[(L[j]!).toNat]!.set = true) (fun k => L.length - k) (0) ⟨Nat.zero_le _,fun j h => absurd h (by omega)⟩ ?_
 rintro k ⟨hk,hall⟩
 by_cases hkn : k < L.length
 ·have hmk := hmem k hkn
  repeat' (first|refine aE ?_|(refine aM ?_ ?_ <;> intro hc hq <;> try (exfalso;omega))|fail)
  ·have hu : bL ts s x = true := (bG htl).2 ⟨L[k]!, by rw [← hL]; exact aV _ _ hkn, by assumption⟩
   rw [o8 hu]
   (refine aB rfl ?_; refine aO () trivial ?_ ⟨sE ?_,⟨sE ?_,⟨sE ?_,trivial⟩⟩⟩)
   ·rfl
   ·rfl
   ·rfl
   ·rfl
  ·(refine bX (k + 1) (Le.renA [(3, 3)]) ?_ ?_)
   ·refine ⟨by omega, fun j hj => ?_⟩
    rcases Nat.lt_or_ge j k with h|h
    ·exact hall j h
    ·rw [show j = k by omega]; assumption
   ·omega
 ·have hu : bL ts s x = false := by
   cases q : bL ts s x with
   | false => rfl
   | true =>
    obtain ⟨v,hv,hs⟩ := (bG htl).1 q
    rw [← hL] at hv
    obtain ⟨j,hj,e⟩ := List.getElem_of_mem hv
    have h1 := hall j (by omega)
    rw [aY _ _ hj,e,hs] at h1;cases h1
  rw [mE hu]
  have hd : dD ts s x = bO ts s x.x.toNat ⟨true,x.n,⟨0,0⟩⟩ := by unfold dD;rw [if_pos ho]
  rw [hd]
  have hp := jI ts bd pts s x.x ⟨true,x.n,⟨0,0⟩⟩ hm hsl hx
  repeat' (first|(apply aD;(apply gH (ts := ts) (bd := bd) (pts := pts) (s := s) (v := x.x) (y := ⟨true,x.n,⟨0,0⟩⟩);rfl;rfl;rfl;rfl;rfl;rfl;rfl;exact hp;rfl;rfl))|refine aE ?_|(refine aM ?_ ?_ <;> intro hc hq <;> try (exfalso;omega))|fail)
  (refine aB rfl ?_; refine aO () trivial ?_ ⟨sE ?_,⟨sE ?_,⟨sE ?_,trivial⟩⟩⟩)
  ·rfl
  ·rfl
  ·rfl
  ·rfl
theorem Ip (ts:List Int) (bd:List AL.Stmt) (pts:List Pnt) (s:Mc) (x:Pnt) (htl:ts.length ≤ 6) (hm:OkM s.cells) (hsl:s.slots.length = ts.length) (ho:x.op = 2) (hn:0 ≤ x.n ∧ x.n ≤ 9) (hx:0 ≤ x.x ∧ x.x < ts.length):MC Tryz.prog 140 [.optr 0 0,dK x] [(0,some (mO ts bd pts 1 2 s)),(1,some (flat cJ s.slots)),(2,some (flat cI s.read))] 3 (fun _:Unit => True) (fun _ => iv (cG ts s x).2) (fun _ => [(0,some (mO ts bd pts 1 2 (cG ts s x).1)),(1,some (flat cJ (cG ts s x).1.slots)),(2,some (flat cI (cG ts s x).1.read))]):=by
 have hus := gE ts bd pts x htl
 have hsm : Sm (wS ts x [1,2,3]) := cA (by omega)
 obtain ⟨L,hL⟩ : ∃ L,L = bF (wS ts x [1,2,3]) := ⟨_,rfl⟩
 have hLl : L.length ≤ 62 := by rw [hL]; exact bW _
 have hmem : ∀ k, k < L.length → 0 ≤ L[k]! ∧ L[k]! < s.slots.length := fun k hk => by
  rw [hsl]; exact eG (by rw [← hL]; exact aV _ _ hk)
 refine aQ Tryz.func140 Tryz.ntmps140 ?_
 repeat' (first|(apply aD;first|(apply aA (k := 158);rfl;exact hus;exact Pur.pf;rfl)|(apply aA (k := 120);rfl;(apply fK <;> (assumption));(rfl);rfl))|refine aE ?_|refine cE ?_|fail)
 rw [← hL]
 refine aL (σ := Nat) [0,3,26,27] [0,1,2,3] (fun k => [(28,iv (k : Int))]) (fun k => []) (fun k => k ≤ L.length ∧ ∀ j,j < k → s.slots[(L[j]!).toNat]!.set = true) (fun k => L.length - k) (0) ⟨Nat.zero_le _,fun j h => absurd h (by omega)⟩ ?_
 rintro k ⟨hk,hall⟩
 by_cases hkn : k < L.length
 ·have hmk := hmem k hkn
  repeat' (first|refine aE ?_|(refine aM ?_ ?_ <;> intro hc hq <;> try (exfalso;omega))|fail)
  ·have hu : bL ts s x = true := (bG htl).2 ⟨L[k]!, by rw [← hL]; exact aV _ _ hkn, by assumption⟩
   rw [o8 hu]
   (refine aB rfl ?_; refine aO () trivial ?_ ⟨sE ?_,⟨sE ?_,⟨sE ?_,trivial⟩⟩⟩)
   ·rfl
   ·rfl
   ·rfl
   ·rfl
  ·(refine bX (k + 1) (Le.renA [(3, 3)]) ?_ ?_)
   ·refine ⟨by omega, fun j hj => ?_⟩
    rcases Nat.lt_or_ge j k with h|h
    ·exact hall j h
    ·rw [show j = k by omega]; assumption
   ·omega
 ·have hu : bL ts s x = false := by
   cases q : bL ts s x with
   | false => rfl
   | true =>
    obtain ⟨v,hv,hs⟩ := (bG htl).1 q
    rw [← hL] at hv
    obtain ⟨j,hj,e⟩ := List.getElem_of_mem hv
    have h1 := hall j (by omega)
    rw [aY _ _ hj,e,hs] at h1;cases h1
  rw [mE hu]
  have hml := hm.l
  have hnc := xM s.cells hm x.n
  by_cases h2 : s.cells.length = 200
  ·rw [if_neg (by omega)] at hnc
   have hd : dD ts s x = (s,1) := by unfold dD;rw [if_neg (show ¬ x.op = 1 by omega),if_pos ho,if_pos h2]
   rw [hd]
   repeat' (first|(apply aD;(apply aA (k := 198);rfl;exact hnc;exact Pur.pf;rfl))|refine aE ?_|(refine aM ?_ ?_ <;> intro hc hq <;> try (exfalso;omega))|refine cE ?_|fail)
   (refine aB rfl ?_; refine aO () trivial ?_ ⟨sE ?_,⟨sE ?_,⟨sE ?_,trivial⟩⟩⟩)
   ·rfl
   ·rfl
   ·rfl
   ·rfl
  ·rw [if_pos (by omega)] at hnc
   have hp := jI ts bd pts ⟨s.slots,s.cells ++ [Ac x.n],s.read⟩ x.x ⟨true,0,⟨s.cells.length,0⟩⟩ (hm.nw hn (by omega)) hsl hx
   have hd : dD ts s x = bO ts ⟨s.slots,s.cells ++ [Ac x.n],s.read⟩ x.x.toNat ⟨true,0,⟨s.cells.length,0⟩⟩ := by unfold dD;rw [if_neg (show ¬ x.op = 1 by omega),if_pos ho,if_neg h2]
   rw [hd]
   repeat' (first|(apply aD;first|(apply aA (k := 198);rfl;exact hnc;exact Pur.pf;rfl)|(apply gH (ts := ts) (bd := bd) (pts := pts) (s := ⟨s.slots,s.cells ++ [Ac x.n],s.read⟩) (v := x.x) (y := ⟨true,0,⟨s.cells.length,0⟩⟩);rfl;rfl;rfl;rfl;rfl;rfl;rfl;exact hp;rfl;rfl))|refine aE ?_|(refine aM ?_ ?_ <;> intro hc hq <;> try (exfalso;omega))|refine cE ?_|fail)
   (refine aB rfl ?_; refine aO () trivial ?_ ⟨sE ?_,⟨sE ?_,⟨sE ?_,trivial⟩⟩⟩)
   ·rfl
   ·rfl
   ·rfl
   ·rfl
theorem HP (ts:List Int) (bd:List AL.Stmt) (pts:List Pnt) (s:Mc) (x:Pnt) (htl:ts.length ≤ 6) (hm:OkM s.cells) (hsl:s.slots.length = ts.length) (ho:x.op = 3) (hx:0 ≤ x.x ∧ x.x < ts.length) (hy:0 ≤ x.y ∧ x.y < ts.length):MC Tryz.prog 140 [.optr 0 0,dK x] [(0,some (mO ts bd pts 1 2 s)),(1,some (flat cJ s.slots)),(2,some (flat cI s.read))] 3 (fun _:Unit => True) (fun _ => iv (cG ts s x).2) (fun _ => [(0,some (mO ts bd pts 1 2 (cG ts s x).1)),(1,some (flat cJ (cG ts s x).1.slots)),(2,some (flat cI (cG ts s x).1.read))]):=by
 have hus := gE ts bd pts x htl
 have hsm : Sm (wS ts x [1,2,3]) := cA (by omega)
 obtain ⟨L,hL⟩ : ∃ L,L = bF (wS ts x [1,2,3]) := ⟨_,rfl⟩
 have hLl : L.length ≤ 62 := by rw [hL]; exact bW _
 have hmem : ∀ k, k < L.length → 0 ≤ L[k]! ∧ L[k]! < s.slots.length := fun k hk => by
  rw [hsl]; exact eG (by rw [← hL]; exact aV _ _ hk)
 refine aQ Tryz.func140 Tryz.ntmps140 ?_
 repeat' (first|(apply aD;first|(apply aA (k := 158);rfl;exact hus;exact Pur.pf;rfl)|(apply aA (k := 120);rfl;(apply fK <;> (assumption));(rfl);rfl))|refine aE ?_|refine cE ?_|fail)
 rw [← hL]
 refine aL (σ := Nat) [0,3,26,27] [0,1,2,3] (fun k => [(28,iv (k : Int))]) (fun k => []) (fun k => k ≤ L.length ∧ ∀ j,j < k → s.slots[(L[j]!).toNat]!.set = true) (fun k => L.length - k) (0) ⟨Nat.zero_le _,fun j h => absurd h (by omega)⟩ ?_
 rintro k ⟨hk,hall⟩
 by_cases hkn : k < L.length
 ·have hmk := hmem k hkn
  repeat' (first|refine aE ?_|(refine aM ?_ ?_ <;> intro hc hq <;> try (exfalso;omega))|fail)
  ·have hu : bL ts s x = true := (bG htl).2 ⟨L[k]!, by rw [← hL]; exact aV _ _ hkn, by assumption⟩
   rw [o8 hu]
   (refine aB rfl ?_; refine aO () trivial ?_ ⟨sE ?_,⟨sE ?_,⟨sE ?_,trivial⟩⟩⟩)
   ·rfl
   ·rfl
   ·rfl
   ·rfl
  ·(refine bX (k + 1) (Le.renA [(3, 3)]) ?_ ?_)
   ·refine ⟨by omega, fun j hj => ?_⟩
    rcases Nat.lt_or_ge j k with h|h
    ·exact hall j h
    ·rw [show j = k by omega]; assumption
   ·omega
 ·have hu : bL ts s x = false := by
   cases q : bL ts s x with
   | false => rfl
   | true =>
    obtain ⟨v,hv,hs⟩ := (bG htl).1 q
    rw [← hL] at hv
    obtain ⟨j,hj,e⟩ := List.getElem_of_mem hv
    have h1 := hall j (by omega)
    rw [aY _ _ hj,e,hs] at h1;cases h1
  rw [mE hu]
  have hd : dD ts s x = bO ts (if D2 ts[x.y.toNat]! = true then ⟨s.slots.set x.y.toNat qH,s.cells,s.read⟩ else s) x.x.toNat s.slots[x.y.toNat]! := by unfold dD;rw [if_neg (show ¬ x.op = 1 by omega),if_neg (show ¬ x.op = 2 by omega),if_pos ho]
  rw [hd]
  have htk := yM ts bd pts x.y hy
  by_cases hk : D2 ts[x.y.toNat]! = true
  ·rw [hk] at htk
   rw [if_pos hk]
   have hp := jI ts bd pts ⟨s.slots.set x.y.toNat qH,s.cells,s.read⟩ x.x s.slots[x.y.toNat]! hm (by show (s.slots.set _ _).length = _; rw [List.length_set]; exact hsl) hx
   repeat' (first|(apply aD;first|(apply aA (k := 199);rfl;exact htk;exact Pur.pf;rfl)|(apply gH (ts := ts) (bd := bd) (pts := pts) (s := ⟨s.slots.set x.y.toNat qH,s.cells,s.read⟩) (v := x.x) (y := s.slots[x.y.toNat]!);rfl;rfl;rfl;rfl;rfl;rfl;rfl;exact hp;rfl;rfl)|(apply bH;rfl;rfl;rfl;rfl;rfl;(case hl => (first|(rw [aI]; simp only [fP] <;> omega)|(simp;done)));(exact zH (by (omega)))))|refine aE ?_|(refine aM ?_ ?_ <;> intro hc hq <;> try (exfalso;omega))|refine cE ?_|fail)
   (refine aB rfl ?_; refine aO () trivial ?_ ⟨sE ?_,⟨sE ?_,⟨sE ?_,trivial⟩⟩⟩)
   ·rfl
   ·rfl
   ·rfl
   ·rfl
  ·have hk2 : D2 ts[x.y.toNat]! = false := by simpa using hk
   rw [hk2] at htk
   rw [if_neg hk]
   have hp := jI ts bd pts s x.x s.slots[x.y.toNat]! hm hsl hx
   repeat' (first|(apply aD;first|(apply aA (k := 199);rfl;exact htk;exact Pur.pf;rfl)|(apply gH (ts := ts) (bd := bd) (pts := pts) (s := s) (v := x.x) (y := s.slots[x.y.toNat]!);rfl;rfl;rfl;rfl;rfl;rfl;rfl;exact hp;rfl;rfl))|refine aE ?_|(refine aM ?_ ?_ <;> intro hc hq <;> try (exfalso;omega))|refine cE ?_|fail)
   (refine aB rfl ?_; refine aO () trivial ?_ ⟨sE ?_,⟨sE ?_,⟨sE ?_,trivial⟩⟩⟩)
   ·rfl
   ·rfl
   ·rfl
   ·rfl
theorem Ht (ts:List Int) (bd:List AL.Stmt) (pts:List Pnt) (s:Mc) (x:Pnt) (htl:ts.length ≤ 6) (hm:OkM s.cells) (hsl:s.slots.length = ts.length) (ho:x.op = 4 ∨ x.op = 5) (hx:0 ≤ x.x ∧ x.x < ts.length) (hy:0 ≤ x.y ∧ x.y < ts.length):MC Tryz.prog 140 [.optr 0 0,dK x] [(0,some (mO ts bd pts 1 2 s)),(1,some (flat cJ s.slots)),(2,some (flat cI s.read))] 3 (fun _:Unit => True) (fun _ => iv (cG ts s x).2) (fun _ => [(0,some (mO ts bd pts 1 2 (cG ts s x).1)),(1,some (flat cJ (cG ts s x).1.slots)),(2,some (flat cI (cG ts s x).1.read))]):=by
 have hus := gE ts bd pts x htl
 have hsm : Sm (wS ts x [1,2,3]) := cA (by omega)
 obtain ⟨L,hL⟩ : ∃ L,L = bF (wS ts x [1,2,3]) := ⟨_,rfl⟩
 have hLl : L.length ≤ 62 := by rw [hL]; exact bW _
 have hmem : ∀ k, k < L.length → 0 ≤ L[k]! ∧ L[k]! < s.slots.length := fun k hk => by
  rw [hsl]; exact eG (by rw [← hL]; exact aV _ _ hk)
 refine aQ Tryz.func140 Tryz.ntmps140 ?_
 repeat' (first|(apply aD;first|(apply aA (k := 158);rfl;exact hus;exact Pur.pf;rfl)|(apply aA (k := 120);rfl;(apply fK <;> (assumption));(rfl);rfl))|refine aE ?_|refine cE ?_|fail)
 rw [← hL]
 refine aL (σ := Nat) [0,3,26,27] [0,1,2,3] (fun k => [(28,iv (k : Int))]) (fun k => []) (fun k => k ≤ L.length ∧ ∀ j,j < k → s.slots[(L[j]!).toNat]!.set = true) (fun k => L.length - k) (0) ⟨Nat.zero_le _,fun j h => absurd h (by omega)⟩ ?_
 rintro k ⟨hk,hall⟩
 by_cases hkn : k < L.length
 ·have hmk := hmem k hkn
  repeat' (first|refine aE ?_|(refine aM ?_ ?_ <;> intro hc hq <;> try (exfalso;omega))|fail)
  ·have hu : bL ts s x = true := (bG htl).2 ⟨L[k]!, by rw [← hL]; exact aV _ _ hkn, by assumption⟩
   rw [o8 hu]
   (refine aB rfl ?_; refine aO () trivial ?_ ⟨sE ?_,⟨sE ?_,⟨sE ?_,trivial⟩⟩⟩)
   ·rfl
   ·rfl
   ·rfl
   ·rfl
  ·(refine bX (k + 1) (Le.renA [(3, 3)]) ?_ ?_)
   ·refine ⟨by omega, fun j hj => ?_⟩
    rcases Nat.lt_or_ge j k with h|h
    ·exact hall j h
    ·rw [show j = k by omega]; assumption
   ·omega
 ·have hu : bL ts s x = false := by
   cases q : bL ts s x with
   | false => rfl
   | true =>
    obtain ⟨v,hv,hs⟩ := (bG htl).1 q
    rw [← hL] at hv
    obtain ⟨j,hj,e⟩ := List.getElem_of_mem hv
    have h1 := hall j (by omega)
    rw [aY _ _ hj,e,hs] at h1;cases h1
  rw [mE hu]
  have hle := Ej s.cells hm s.slots[x.y.toNat]!.ptr (decide (x.op = 5))
  by_cases hk : u6 s.cells s.slots[x.y.toNat]!.ptr (decide (x.op = 5)) = 0
  ·have hp := jI ts bd pts ⟨s.slots, AT s.cells s.slots[x.y.toNat]!.ptr (decide (x.op = 5)), s.read⟩ x.x ⟨true, 0, DY s.cells s.slots[x.y.toNat]!.ptr (decide (x.op = 5))⟩ (hm.ln _ _) hsl hx
   have hd : dD ts s x = bO ts ⟨s.slots,AT s.cells s.slots[x.y.toNat]!.ptr (decide (x.op = 5)),s.read⟩ x.x.toNat ⟨true,0,DY s.cells s.slots[x.y.toNat]!.ptr (decide (x.op = 5))⟩ := by unfold dD;rw [if_neg (show ¬ x.op = 1 by omega),if_neg (show ¬ x.op = 2 by omega),if_neg (show ¬ x.op = 3 by omega),if_pos ho,if_pos hk]
   rw [hd]
   rw [hk] at hle
   repeat' (first|(apply aD;first|(apply fC;(case hx|hH => rfl);(case hf|hg|hα => infer_instance);(case hk => omega);(case hj => decide);(case hc => exact (rfl:_=[_,_]));(case h0|hN => rfl))|(apply aA (k := 200);rfl;exact hle;exact Pur.pf;rfl)|(apply gH (ts := ts) (bd := bd) (pts := pts) (s := ⟨s.slots,AT s.cells s.slots[x.y.toNat]!.ptr (decide (x.op = 5)),s.read⟩) (v := x.x) (y := ⟨true,0,DY s.cells s.slots[x.y.toNat]!.ptr (decide (x.op = 5))⟩);(case ha0|ha1|ha2|hH0|hH1|hH2|hdd => rfl);(case hmc => exact hp);(case hM|hN => rfl)))|refine aE ?_|(refine aM ?_ ?_ <;> intro hc hq <;> try (exfalso;omega))|refine cE ?_|fail)
   all_goals (
    (refine aB rfl ?_; refine aO () trivial ?_ ⟨sE ?_,⟨sE ?_,⟨sE ?_,trivial⟩⟩⟩)
    ·rfl
    ·rfl
    ·rfl
    ·rfl)
  ·have hd : dD ts s x = (s, eX (u6 s.cells s.slots[x.y.toNat]!.ptr (decide (x.op = 5)))) := by unfold dD; rw [if_neg (show ¬ x.op = 1 by omega), if_neg (show ¬ x.op = 2 by omega), if_neg (show ¬ x.op = 3 by omega), if_pos ho, if_neg hk]
   rw [hd]
   repeat' (first|(apply aD;first|(apply fC;(case hx|hH => rfl);(case hf|hg|hα => infer_instance);(case hk => omega);(case hj => decide);(case hc => exact (rfl:_=[_,_]));(case h0|hN => rfl))|(apply aA (k := 200);rfl;exact hle;exact Pur.pf;rfl)|(apply aA (k := 201);rfl;(apply mR);(rfl);rfl))|refine aE ?_|(refine aM ?_ ?_ <;> intro hc hq <;> try (exfalso;omega))|refine cE ?_|fail)
   all_goals (
    (refine aB rfl ?_; refine aO () trivial ?_ ⟨sE ?_,⟨sE ?_,⟨sE ?_,trivial⟩⟩⟩)
    ·rfl
    ·rfl
    ·rfl
    ·rfl)
theorem HE (ts:List Int) (bd:List AL.Stmt) (pts:List Pnt) (s:Mc) (x:Pnt) (htl:ts.length ≤ 6) (hm:OkM s.cells) (hsl:s.slots.length = ts.length) (ho:x.op = 6) (hrl:s.read.length ≤ 1000) (hx:0 ≤ x.x ∧ x.x < ts.length) (hy:0 ≤ x.y ∧ x.y < ts.length) (hz:¬ a8 s.cells s.slots[x.y.toNat]!.ptr false = 0):MC Tryz.prog 140 [.optr 0 0,dK x] [(0,some (mO ts bd pts 1 2 s)),(1,some (flat cJ s.slots)),(2,some (flat cI s.read))] 3 (fun _:Unit => True) (fun _ => iv (cG ts s x).2) (fun _ => [(0,some (mO ts bd pts 1 2 (cG ts s x).1)),(1,some (flat cJ (cG ts s x).1.slots)),(2,some (flat cI (cG ts s x).1.read))]):=by
 have hus := gE ts bd pts x htl
 have hsm : Sm (wS ts x [1,2,3]) := cA (by omega)
 obtain ⟨L,hL⟩ : ∃ L,L = bF (wS ts x [1,2,3]) := ⟨_,rfl⟩
 have hLl : L.length ≤ 62 := by rw [hL]; exact bW _
 have hmem : ∀ k, k < L.length → 0 ≤ L[k]! ∧ L[k]! < s.slots.length := fun k hk => by
  rw [hsl]; exact eG (by rw [← hL]; exact aV _ _ hk)
 refine aQ Tryz.func140 Tryz.ntmps140 ?_
 repeat' (first|(apply aD;first|(apply aA (k := 158);rfl;exact hus;exact Pur.pf;rfl)|(apply aA (k := 120);rfl;(apply fK <;> (assumption));(rfl);rfl))|refine aE ?_|refine cE ?_|fail)
 rw [← hL]
 refine aL (σ := Nat) [0,3,26,27] [0,1,2,3] (fun k => [(28,iv (k : Int))]) (fun k => []) (fun k => k ≤ L.length ∧ ∀ j,j < k → s.slots[(L[j]!).toNat]!.set = true) (fun k => L.length - k) (0) ⟨Nat.zero_le _,fun j h => absurd h (by omega)⟩ ?_
 rintro k ⟨hk,hall⟩
 by_cases hkn : k < L.length
 ·have hmk := hmem k hkn
  repeat' (first|refine aE ?_|(refine aM ?_ ?_ <;> intro hc hq <;> try (exfalso;omega))|fail)
  ·have hu : bL ts s x = true := (bG htl).2 ⟨L[k]!, by rw [← hL]; exact aV _ _ hkn, by assumption⟩
   rw [o8 hu]
   (refine aB rfl ?_; refine aO () trivial ?_ ⟨sE ?_,⟨sE ?_,⟨sE ?_,trivial⟩⟩⟩)
   ·rfl
   ·rfl
   ·rfl
   ·rfl
  ·(refine bX (k + 1) (Le.renA [(3, 3)]) ?_ ?_)
   ·refine ⟨by omega, fun j hj => ?_⟩
    rcases Nat.lt_or_ge j k with h|h
    ·exact hall j h
    ·rw [show j = k by omega]; assumption
   ·omega
 ·have hu : bL ts s x = false := by
   cases q : bL ts s x with
   | false => rfl
   | true =>
    obtain ⟨v,hv,hs⟩ := (bG htl).1 q
    rw [← hL] at hv
    obtain ⟨j,hj,e⟩ := List.getElem_of_mem hv
    have h1 := hall j (by omega)
    rw [aY _ _ hj,e,hs] at h1;cases h1
  rw [mE hu]
  have hrc := l3 s.cells hm s.slots[x.y.toNat]!.ptr
  have hd : dD ts s x = (s,eX (a8 s.cells s.slots[x.y.toNat]!.ptr false)) := by unfold dD;rw [if_neg (show ¬ x.op = 1 by omega),if_neg (show ¬ x.op = 2 by omega),if_neg (show ¬ x.op = 3 by omega),if_neg (show ¬ (x.op = 4 ∨ x.op = 5) by omega),if_pos ho,if_neg hz]
  rw [hd]
  repeat' (first|(apply aD;first|(apply fC;(case hx|hH => rfl);(case hf|hg|hα => infer_instance);(case hk => omega);(case hj => decide);(case hc => exact (rfl:_=[_,_]));(case h0|hN => rfl))|(apply aA (k := 202);rfl;exact hrc;exact Pur.pf;rfl)|(apply aA (k := 201);rfl;(apply mR);(rfl);rfl))|refine aE ?_|(refine aM ?_ ?_ <;> intro hc hq <;> try (exfalso;omega))|refine cE ?_|fail)
  (refine aB rfl ?_; refine aO () trivial ?_ ⟨sE ?_,⟨sE ?_,⟨sE ?_,trivial⟩⟩⟩)
  ·rfl
  ·rfl
  ·rfl
  ·rfl
theorem It (ts:List Int) (bd:List AL.Stmt) (pts:List Pnt) (s:Mc) (x:Pnt) (htl:ts.length ≤ 6) (hm:OkM s.cells) (hsl:s.slots.length = ts.length) (ho:x.op = 7) (hx:0 ≤ x.x ∧ x.x < ts.length) (hy:0 ≤ x.y ∧ x.y < ts.length):MC Tryz.prog 140 [.optr 0 0,dK x] [(0,some (mO ts bd pts 1 2 s)),(1,some (flat cJ s.slots)),(2,some (flat cI s.read))] 3 (fun _:Unit => True) (fun _ => iv (cG ts s x).2) (fun _ => [(0,some (mO ts bd pts 1 2 (cG ts s x).1)),(1,some (flat cJ (cG ts s x).1.slots)),(2,some (flat cI (cG ts s x).1.read))]):=by
 have hus := gE ts bd pts x htl
 have hsm : Sm (wS ts x [1,2,3]) := cA (by omega)
 obtain ⟨L,hL⟩ : ∃ L,L = bF (wS ts x [1,2,3]) := ⟨_,rfl⟩
 have hLl : L.length ≤ 62 := by rw [hL]; exact bW _
 have hmem : ∀ k, k < L.length → 0 ≤ L[k]! ∧ L[k]! < s.slots.length := fun k hk => by
  rw [hsl]; exact eG (by rw [← hL]; exact aV _ _ hk)
 refine aQ Tryz.func140 Tryz.ntmps140 ?_
 repeat' (first|(apply aD;first|(apply aA (k := 158);rfl;exact hus;exact Pur.pf;rfl)|(apply aA (k := 120);rfl;(apply fK <;> (assumption));(rfl);rfl))|refine aE ?_|refine cE ?_|fail)
 rw [← hL]
 refine aL (σ := Nat) [0,3,26,27] [0,1,2,3] (fun k => [(28,iv (k : Int))]) (fun k => []) (fun k => k ≤ L.length ∧ ∀ j,j < k → s.slots[(L[j]!).toNat]!.set = true) (fun k => L.length - k) (0) ⟨Nat.zero_le _,fun j h => absurd h (by omega)⟩ ?_
 rintro k ⟨hk,hall⟩
 by_cases hkn : k < L.length
 ·have hmk := hmem k hkn
  repeat' (first|refine aE ?_|(refine aM ?_ ?_ <;> intro hc hq <;> try (exfalso;omega))|fail)
  ·have hu : bL ts s x = true := (bG htl).2 ⟨L[k]!, by rw [← hL]; exact aV _ _ hkn, by assumption⟩
   rw [o8 hu]
   (refine aB rfl ?_; refine aO () trivial ?_ ⟨sE ?_,⟨sE ?_,⟨sE ?_,trivial⟩⟩⟩)
   ·rfl
   ·rfl
   ·rfl
   ·rfl
  ·(refine bX (k + 1) (Le.renA [(3, 3)]) ?_ ?_)
   ·refine ⟨by omega, fun j hj => ?_⟩
    rcases Nat.lt_or_ge j k with h|h
    ·exact hall j h
    ·rw [show j = k by omega]; assumption
   ·omega
 ·have hu : bL ts s x = false := by
   cases q : bL ts s x with
   | false => rfl
   | true =>
    obtain ⟨v,hv,hs⟩ := (bG htl).1 q
    rw [← hL] at hv
    obtain ⟨j,hj,e⟩ := List.getElem_of_mem hv
    have h1 := hall j (by omega)
    rw [aY _ _ hj,e,hs] at h1;cases h1
  rw [mE hu]
  have hwr := qS s.cells hm s.slots[x.x.toNat]!.ptr s.slots[x.y.toNat]!.num
  have hd : dD ts s x = (⟨s.slots,D1 s.cells s.slots[x.x.toNat]!.ptr s.slots[x.y.toNat]!.num,s.read⟩,kC (Bv s.cells s.slots[x.x.toNat]!.ptr s.slots[x.y.toNat]!.num)) := by unfold dD;rw [if_neg (show ¬ x.op = 1 by omega),if_neg (show ¬ x.op = 2 by omega),if_neg (show ¬ x.op = 3 by omega),if_neg (show ¬ (x.op = 4 ∨ x.op = 5) by omega),if_neg (show ¬ x.op = 6 by omega),if_pos ho]
  rw [hd]
  repeat' (first|(apply aD;first|(apply fC;(case hx|hH => rfl);(case hf|hg|hα => infer_instance);(case hk => omega);(case hj => decide);(case hc => exact (rfl:_=[_,_]));(case h0|hN => rfl))|(apply aA (k := 203);rfl;exact hwr;exact Pur.pf;rfl)|(apply aA (k := 201);rfl;(apply mR);(rfl);rfl))|refine aE ?_|(refine aM ?_ ?_ <;> intro hc hq <;> try (exfalso;omega))|refine cE ?_|fail)
  ·have hk : ¬ Bv s.cells s.slots[x.x.toNat]!.ptr s.slots[x.y.toNat]!.num = 0 := by assumption
   (refine aB rfl ?_; refine aO () trivial ?_ ⟨sE ?_,⟨sE ?_,⟨sE ?_,trivial⟩⟩⟩)
   ·show iv (eX _) = iv (kC _)
    unfold kC;rw [if_neg hk]
   ·rfl
   ·rfl
   ·rfl
  ·have hk : Bv s.cells s.slots[x.x.toNat]!.ptr s.slots[x.y.toNat]!.num = 0 := by assumption
   (refine aB rfl ?_; refine aO () trivial ?_ ⟨sE ?_,⟨sE ?_,⟨sE ?_,trivial⟩⟩⟩)
   ·rw [hk]; rfl
   ·rfl
   ·rfl
   ·rfl
theorem HF (ts:List Int) (bd:List AL.Stmt) (pts:List Pnt) (s:Mc) (x:Pnt) (htl:ts.length ≤ 6) (hm:OkM s.cells) (hsl:s.slots.length = ts.length) (ho:x.op = 8) (hx:0 ≤ x.x ∧ x.x < ts.length):MC Tryz.prog 140 [.optr 0 0,dK x] [(0,some (mO ts bd pts 1 2 s)),(1,some (flat cJ s.slots)),(2,some (flat cI s.read))] 3 (fun _:Unit => True) (fun _ => iv (cG ts s x).2) (fun _ => [(0,some (mO ts bd pts 1 2 (cG ts s x).1)),(1,some (flat cJ (cG ts s x).1.slots)),(2,some (flat cI (cG ts s x).1.read))]):=by
 have hus := gE ts bd pts x htl
 have hsm : Sm (wS ts x [1,2,3]) := cA (by omega)
 obtain ⟨L,hL⟩ : ∃ L,L = bF (wS ts x [1,2,3]) := ⟨_,rfl⟩
 have hLl : L.length ≤ 62 := by rw [hL]; exact bW _
 have hmem : ∀ k, k < L.length → 0 ≤ L[k]! ∧ L[k]! < s.slots.length := fun k hk => by
  rw [hsl]; exact eG (by rw [← hL]; exact aV _ _ hk)
 refine aQ Tryz.func140 Tryz.ntmps140 ?_
 repeat' (first|(apply aD;first|(apply aA (k := 158);rfl;exact hus;exact Pur.pf;rfl)|(apply aA (k := 120);rfl;(apply fK <;> (assumption));(rfl);rfl))|refine aE ?_|refine cE ?_|fail)
 rw [← hL]
 refine aL (σ := Nat) [0,3,26,27] [0,1,2,3] (fun k => [(28,iv (k : Int))]) (fun k => []) (fun k => k ≤ L.length ∧ ∀ j,j < k → s.slots[(L[j]!).toNat]!.set = true) (fun k => L.length - k) (0) ⟨Nat.zero_le _,fun j h => absurd h (by omega)⟩ ?_
 rintro k ⟨hk,hall⟩
 by_cases hkn : k < L.length
 ·have hmk := hmem k hkn
  repeat' (first|refine aE ?_|(refine aM ?_ ?_ <;> intro hc hq <;> try (exfalso;omega))|fail)
  ·have hu : bL ts s x = true := (bG htl).2 ⟨L[k]!, by rw [← hL]; exact aV _ _ hkn, by assumption⟩
   rw [o8 hu]
   (refine aB rfl ?_; refine aO () trivial ?_ ⟨sE ?_,⟨sE ?_,⟨sE ?_,trivial⟩⟩⟩)
   ·rfl
   ·rfl
   ·rfl
   ·rfl
  ·(refine bX (k + 1) (Le.renA [(3, 3)]) ?_ ?_)
   ·refine ⟨by omega, fun j hj => ?_⟩
    rcases Nat.lt_or_ge j k with h|h
    ·exact hall j h
    ·rw [show j = k by omega]; assumption
   ·omega
 ·have hu : bL ts s x = false := by
   cases q : bL ts s x with
   | false => rfl
   | true =>
    obtain ⟨v,hv,hs⟩ := (bG htl).1 q
    rw [← hL] at hv
    obtain ⟨j,hj,e⟩ := List.getElem_of_mem hv
    have h1 := hall j (by omega)
    rw [aY _ _ hj,e,hs] at h1;cases h1
  rw [mE hu]
  have hfr := Cf ts bd pts s x.x hm hsl hx
  have hd : dD ts s x = (⟨s.slots.set x.x.toNat qH,l4 s.cells s.slots[x.x.toNat]!.ptr,s.read⟩,kC (a8 s.cells s.slots[x.x.toNat]!.ptr true)) := by unfold dD;rw [if_neg (show ¬ x.op = 1 by omega),if_neg (show ¬ x.op = 2 by omega),if_neg (show ¬ x.op = 3 by omega),if_neg (show ¬ (x.op = 4 ∨ x.op = 5) by omega),if_neg (show ¬ x.op = 6 by omega),if_neg (show ¬ x.op = 7 by omega),if_pos ho]
  rw [hd]
  repeat' (first|(apply aD;first|(apply Ba (ts := ts) (bd := bd) (pts := pts) (s := s) (v := x.x);rfl;rfl;rfl;rfl;rfl;rfl;exact hfr;rfl;rfl)|(apply bH;rfl;rfl;rfl;rfl;rfl;(rw [aI]; simp only [fP] <;> omega);(exact zH (by (omega)))))|refine aE ?_|(refine aM ?_ ?_ <;> intro hc hq <;> try (exfalso;omega))|refine cE ?_|fail)
  (refine aB rfl ?_; refine aO () trivial ?_ ⟨sE ?_,⟨sE ?_,⟨sE ?_,trivial⟩⟩⟩)
  ·rfl
  ·rfl
  ·rfl
  ·rfl
theorem HI (ts:List Int) (bd:List AL.Stmt) (pts:List Pnt) (s:Mc) (x:Pnt) (htl:ts.length ≤ 6) (hm:OkM s.cells) (hsl:s.slots.length = ts.length) (ho:x.op = 9 ∨ x.op = 10 ∨ x.op = 11):MC Tryz.prog 140 [.optr 0 0,dK x] [(0,some (mO ts bd pts 1 2 s)),(1,some (flat cJ s.slots)),(2,some (flat cI s.read))] 3 (fun _:Unit => True) (fun _ => iv (cG ts s x).2) (fun _ => [(0,some (mO ts bd pts 1 2 (cG ts s x).1)),(1,some (flat cJ (cG ts s x).1.slots)),(2,some (flat cI (cG ts s x).1.read))]):=by
 have hus := gE ts bd pts x htl
 have hsm : Sm (wS ts x [1,2,3]) := cA (by omega)
 obtain ⟨L,hL⟩ : ∃ L,L = bF (wS ts x [1,2,3]) := ⟨_,rfl⟩
 have hLl : L.length ≤ 62 := by rw [hL]; exact bW _
 have hmem : ∀ k, k < L.length → 0 ≤ L[k]! ∧ L[k]! < s.slots.length := fun k hk => by
  rw [hsl]; exact eG (by rw [← hL]; exact aV _ _ hk)
 refine aQ Tryz.func140 Tryz.ntmps140 ?_
 repeat' (first|(apply aD;first|(apply aA (k := 158);rfl;exact hus;exact Pur.pf;rfl)|(apply aA (k := 120);rfl;(apply fK <;> (assumption));(rfl);rfl))|refine aE ?_|refine cE ?_|fail)
 rw [← hL]
 refine aL (σ := Nat) [0,3,26,27] [0,1,2,3] (fun k => [(28,iv (k : Int))]) (fun k => []) (fun k => k ≤ L.length ∧ ∀ j,j < k → s.slots[(L[j]!).toNat]!.set = true) (fun k => L.length - k) (0) ⟨Nat.zero_le _,fun j h => absurd h (by omega)⟩ ?_
 rintro k ⟨hk,hall⟩
 by_cases hkn : k < L.length
 ·have hmk := hmem k hkn
  repeat' (first|refine aE ?_|(refine aM ?_ ?_ <;> intro hc hq <;> try (exfalso;omega))|fail)
  ·have hu : bL ts s x = true := (bG htl).2 ⟨L[k]!, by rw [← hL]; exact aV _ _ hkn, by assumption⟩
   rw [o8 hu]
   (refine aB rfl ?_; refine aO () trivial ?_ ⟨sE ?_,⟨sE ?_,⟨sE ?_,trivial⟩⟩⟩)
   ·rfl
   ·rfl
   ·rfl
   ·rfl
  ·(refine bX (k + 1) (Le.renA [(3, 3)]) ?_ ?_)
   ·refine ⟨by omega, fun j hj => ?_⟩
    rcases Nat.lt_or_ge j k with h|h
    ·exact hall j h
    ·rw [show j = k by omega]; assumption
   ·omega
 ·have hu : bL ts s x = false := by
   cases q : bL ts s x with
   | false => rfl
   | true =>
    obtain ⟨v,hv,hs⟩ := (bG htl).1 q
    rw [← hL] at hv
    obtain ⟨j,hj,e⟩ := List.getElem_of_mem hv
    have h1 := hall j (by omega)
    rw [aY _ _ hj,e,hs] at h1;cases h1
  rw [mE hu]
  by_cases h11 : x.op = 11
  ·have hd : dD ts s x = b9 ts ts.length 0 s := zT h11
   rw [hd]
   have hfi := Gf ts bd pts s hm hsl (by omega)
   repeat' (first|(apply aD;(apply Fo (ts := ts) (bd := bd) (pts := pts) (s := s);rfl;rfl;rfl;rfl;rfl;exact hfi;rfl;rfl))|refine aE ?_|(refine aM ?_ ?_ <;> intro hc hq <;> try (exfalso;omega))|fail)
   (refine aB rfl ?_; refine aO () trivial ?_ ⟨sE ?_,⟨sE ?_,⟨sE ?_,trivial⟩⟩⟩)
   ·rfl
   ·rfl
   ·rfl
   ·rfl
  ·have hd : dD ts s x = (s, -1) := by unfold dD; rw [if_neg (show ¬ x.op = 1 by omega), if_neg (show ¬ x.op = 2 by omega), if_neg (show ¬ x.op = 3 by omega), if_neg (show ¬ (x.op = 4 ∨ x.op = 5) by omega), if_neg (show ¬ x.op = 6 by omega), if_neg (show ¬ x.op = 7 by omega), if_neg (show ¬ x.op = 8 by omega), if_neg (show ¬ x.op = 11 by omega)]
   rw [hd]
   repeat' (first|refine aE ?_|(refine aM ?_ ?_ <;> intro hc hq <;> try (exfalso;omega))|fail)
   (refine aB rfl ?_; refine aO () trivial ?_ ⟨sE ?_,⟨sE ?_,⟨sE ?_,trivial⟩⟩⟩)
   ·rfl
   ·rfl
   ·rfl
   ·rfl
theorem Ho (ts:List Int) (bd:List AL.Stmt) (pts:List Pnt) (s:Mc) (x:Pnt) (htl:ts.length ≤ 6) (hm:OkM s.cells) (hsl:s.slots.length = ts.length) (ho:x.op = 6) (hrl:s.read.length ≤ 1000) (hx:0 ≤ x.x ∧ x.x < ts.length) (hy:0 ≤ x.y ∧ x.y < ts.length) (hz:a8 s.cells s.slots[x.y.toNat]!.ptr false = 0) (hun:bL ts s x = false):MC Tryz.prog 140 [.optr 0 0,dK x] [(0,some (mO ts bd pts 1 2 s)),(1,some (flat cJ s.slots)),(2,some (flat cI s.read))] 3 (fun _:Unit => True) (fun _ => iv (cG ts s x).2) (fun _ => [(0,some (mO ts bd pts 1 5 (cG ts s x).1)),(1,some (flat cJ (cG ts s x).1.slots)),(5,some (flat cI (cG ts s x).1.read))]):=by
 have hus := gE ts bd pts x htl
 have hsm : Sm (wS ts x [1,2,3]) := cA (by omega)
 obtain ⟨L,hL⟩ : ∃ L,L = bF (wS ts x [1,2,3]) := ⟨_,rfl⟩
 have hLl : L.length ≤ 62 := by rw [hL]; exact bW _
 have hmem : ∀ k, k < L.length → 0 ≤ L[k]! ∧ L[k]! < s.slots.length := fun k hk => by
  rw [hsl]; exact eG (by rw [← hL]; exact aV _ _ hk)
 refine aQ Tryz.func140 Tryz.ntmps140 ?_
 repeat' (first|(apply aD;first|(apply aA (k := 158);rfl;exact hus;exact Pur.pf;rfl)|(apply aA (k := 120);rfl;(apply fK <;> (assumption));(rfl);rfl))|refine aE ?_|refine cE ?_|fail)
 rw [← hL]
 refine aL (σ := Nat) [0,3,26,27] [0,1,2,3] (fun k => [(28,iv (k : Int))]) (fun k => []) (fun k => k ≤ L.length ∧ ∀ j,j < k → s.slots[(L[j]!).toNat]!.set = true) (fun k => L.length - k) (0) ⟨Nat.zero_le _,fun j h => absurd h (by omega)⟩ ?_
 rintro k ⟨hk,hall⟩
 by_cases hkn : k < L.length
 ·have hmk := hmem k hkn
  repeat' (first|refine aE ?_|(refine aM ?_ ?_ <;> intro hc hq <;> try (exfalso;omega))|fail)
  ·exfalso
   have hu : bL ts s x = true := (bG htl).2 ⟨L[k]!,by rw [← hL]; exact aV _ _ hkn,by assumption⟩
   rw [hun] at hu;cases hu
  ·(refine bX (k + 1) (Le.renA [(3, 3)]) ?_ ?_)
   ·refine ⟨by omega, fun j hj => ?_⟩
    rcases Nat.lt_or_ge j k with h|h
    ·exact hall j h
    ·rw [show j = k by omega]; assumption
   ·omega
 ·have hu : bL ts s x = false := by
   cases q : bL ts s x with
   | false => rfl
   | true =>
    obtain ⟨v,hv,hs⟩ := (bG htl).1 q
    rw [← hL] at hv
    obtain ⟨j,hj,e⟩ := List.getElem_of_mem hv
    have h1 := hall j (by omega)
    rw [aY _ _ hj,e,hs] at h1;cases h1
  rw [mE hu]
  have hrc := l3 s.cells hm s.slots[x.y.toNat]!.ptr
  have hp := jI ts bd pts ⟨s.slots,n3 s.cells s.slots[x.y.toNat]!.ptr false,s.read ++ [oY s.cells s.slots[x.y.toNat]!.ptr]⟩ x.x ⟨true,oY s.cells s.slots[x.y.toNat]!.ptr,⟨0,0⟩⟩ (hm.tch _ _) hsl hx
  have hd : dD ts s x = bO ts ⟨s.slots,n3 s.cells s.slots[x.y.toNat]!.ptr false,s.read ++ [oY s.cells s.slots[x.y.toNat]!.ptr]⟩ x.x.toNat ⟨true,oY s.cells s.slots[x.y.toNat]!.ptr,⟨0,0⟩⟩ := by unfold dD;rw [if_neg (show ¬ x.op = 1 by omega),if_neg (show ¬ x.op = 2 by omega),if_neg (show ¬ x.op = 3 by omega),if_neg (show ¬ (x.op = 4 ∨ x.op = 5) by omega),if_pos ho,if_pos hz]
  rw [hd]
  rw [hz] at hrc
  repeat' (first|(apply aD;first|(apply fC;(case hx|hH => rfl);(case hf|hg|hα => infer_instance);(case hk => omega);(case hj => decide);(case hc => exact (rfl:_=[_,_]));(case h0|hN => rfl))|(apply aA (k := 202);rfl;exact hrc;exact Pur.pf;rfl)|(with_reducible apply a5 (d := 184))|(apply aJ (t := _);rfl;rfl;rfl;exact (rfl:_=some [_]);rfl;rfl))|refine aE ?_|(refine aM ?_ ?_ <;> intro hc hq <;> try (exfalso;omega))|refine cE ?_|fail)
  refine b8 ?_
  rw [show s.read.length + 1 = (s.read ++ [oY s.cells s.slots[x.y.toNat]!.ptr]).length from by rw [List.length_append]; rfl]
  repeat' (first|(apply aD;(apply gH (ts := ts) (bd := bd) (pts := pts) (s := ⟨s.slots,n3 s.cells s.slots[x.y.toNat]!.ptr false,s.read ++ [oY s.cells s.slots[x.y.toNat]!.ptr]⟩) (v := x.x) (y := ⟨true,oY s.cells s.slots[x.y.toNat]!.ptr,⟨0,0⟩⟩);rfl;rfl;rfl;rfl;rfl;rfl;rfl;exact hp;rfl;rfl))|refine aE ?_|fail)
  (refine aB rfl ?_; refine aO () trivial ?_ ⟨sE ?_,⟨sE ?_,⟨sE ?_,trivial⟩⟩⟩)
  ·rfl
  ·rfl
  ·rfl
  ·rfl
theorem HY (ts:List Int) (bd:List AL.Stmt) (pts:List Pnt) (s:Mc) (x:Pnt) (htl:ts.length ≤ 6) (hm:OkM s.cells) (hsl:s.slots.length = ts.length) (hun:bL ts s x = true):MC Tryz.prog 140 [.optr 0 0,dK x] [(0,some (mO ts bd pts 1 2 s)),(1,some (flat cJ s.slots)),(2,some (flat cI s.read))] 3 (fun _:Unit => True) (fun _ => iv (cG ts s x).2) (fun _ => [(0,some (mO ts bd pts 1 2 (cG ts s x).1)),(1,some (flat cJ (cG ts s x).1.slots)),(2,some (flat cI (cG ts s x).1.read))]):=by
 have hus := gE ts bd pts x htl
 have hsm : Sm (wS ts x [1,2,3]) := cA (by omega)
 obtain ⟨L,hL⟩ : ∃ L,L = bF (wS ts x [1,2,3]) := ⟨_,rfl⟩
 have hLl : L.length ≤ 62 := by rw [hL]; exact bW _
 have hmem : ∀ k, k < L.length → 0 ≤ L[k]! ∧ L[k]! < s.slots.length := fun k hk => by
  rw [hsl]; exact eG (by rw [← hL]; exact aV _ _ hk)
 refine aQ Tryz.func140 Tryz.ntmps140 ?_
 repeat' (first|(apply aD;first|(apply aA (k := 158);rfl;exact hus;exact Pur.pf;rfl)|(apply aA (k := 120);rfl;(apply fK <;> (assumption));(rfl);rfl))|refine aE ?_|refine cE ?_|fail)
 rw [← hL]
 refine aL (σ := Nat) [0,3,26,27] [0,1,2,3] (fun k => [(28,iv (k : Int))]) (fun k => []) (fun k => k ≤ L.length ∧ ∀ j,j < k → s.slots[(L[j]!).toNat]!.set = true) (fun k => L.length - k) (0) ⟨Nat.zero_le _,fun j h => absurd h (by omega)⟩ ?_
 rintro k ⟨hk,hall⟩
 by_cases hkn : k < L.length
 ·have hmk := hmem k hkn
  repeat' (first|refine aE ?_|(refine aM ?_ ?_ <;> intro hc hq <;> try (exfalso;omega))|fail)
  ·have hu : bL ts s x = true := (bG htl).2 ⟨L[k]!, by rw [← hL]; exact aV _ _ hkn, by assumption⟩
   rw [o8 hu]
   (refine aB rfl ?_; refine aO () trivial ?_ ⟨sE ?_,⟨sE ?_,⟨sE ?_,trivial⟩⟩⟩)
   ·rfl
   ·rfl
   ·rfl
   ·rfl
  ·(refine bX (k + 1) (Le.renA [(3, 3)]) ?_ ?_)
   ·refine ⟨by omega, fun j hj => ?_⟩
    rcases Nat.lt_or_ge j k with h|h
    ·exact hall j h
    ·rw [show j = k by omega]; assumption
   ·omega
 ·have hu : bL ts s x = false := by
   cases q : bL ts s x with
   | false => rfl
   | true =>
    obtain ⟨v,hv,hs⟩ := (bG htl).1 q
    rw [← hL] at hv
    obtain ⟨j,hj,e⟩ := List.getElem_of_mem hv
    have h1 := hall j (by omega)
    rw [aY _ _ hj,e,hs] at h1;cases h1
  rw [mE hu]
  rw [hun] at hu;cases hu
theorem FD {ts:List Int}{bd:List AL.Stmt}{pts:List Pnt}{s:Mc}{x:Pnt}{x0 x1:Operand}{i0 i1 i2:Nat}(ha0:ev (lk tsl) x0 = some (.optr i0 0)) (ha1:ev (lk tsl) x1 = some (dK x)) (hH0:aN hsl i0 = some (mO ts bd pts i1 i2 s)) (hH1:aN hsl i1 = some (flat cJ s.slots)) (hH2:aN hsl i2 = some (flat cI s.read)) (hdd:Go.AL.distinct [i0,i1,i2] = true) (hmc:MC Tryz.prog 140 [.optr 0 0,dK x] [(0,some (mO ts bd pts 1 2 s)),(1,some (flat cJ s.slots)),(2,some (flat cI s.read))] 3 (fun _:Unit => True) (fun _ => iv (cG ts s x).2) (fun _ => [(0,some (mO ts bd pts 1 5 (cG ts s x).1)),(1,some (flat cJ (cG ts s x).1.slots)),(5,some (flat cI (cG ts s x).1.read))])) (hM:Nat.ble (nidl + 3) aU = true) (hN:Nat.blt d N = true){md':Md}[hmd:MdA md (dV [x0,x1] ++ [.inr i0,.inr i1,.inr i2]) (List.map Sum.inr (List.map Prod.fst ([(i0,some (mO ts bd pts i1 (nidl + 2) (cG ts s x).1)),(i1,some (flat cJ (cG ts s x).1.slots)),((nidl + 2),some (flat cI (cG ts s x).1.read)),(i2,none)]:List (Nat × Option (List AV)))) ++ [.inl d]) md'] (kk:RW Tryz.prog N all Q md' rest ⟨(d,iv (cG ts s x).2) :: tsl,eS hsl [(i0,some (mO ts bd pts i1 (nidl + 2) (cG ts s x).1)),(i1,some (flat cJ (cG ts s x).1.slots)),((nidl + 2),some (flat cI (cG ts s x).1.read)),(i2,none)],nidl + 3,z0⟩):RW Tryz.prog N all Q md (⟨some d,.call ⟨.value (.func 140),#[x0,x1],tys⟩,ty,pos,af,none⟩ :: rest) ⟨tsl,hsl,nidl,z0⟩:=by
 exact aT (l := [x0,x1]) [i0,i1,i2] 6 [(i0,some (mO ts bd pts i1 (nidl + 2) (cG ts s x).1)),(i1,some (flat cJ (cG ts s x).1.slots)),((nidl + 2),some (flat cI (cG ts s x).1.read)),(i2,none)] hmc (avs := [.optr i0 0,dK x]) (by simp only [evL,ha0,ha1]) hdd hM hN (md' := md') (hmd := hmd) kk
theorem HK (ts:List Int) (bd:List AL.Stmt) (pts:List Pnt) (s:Mc) (x:Pnt) (htl:ts.length ≤ 6) (hm:OkM s.cells) (hsl:s.slots.length = ts.length) (hop:1 ≤ x.op ∧ x.op ≤ 11) (hrl:s.read.length ≤ 1000)
  (hx : x.op ≤ 8 → 0 ≤ x.x ∧ x.x < ts.length) (hy : 3 ≤ x.op → x.op ≤ 7 → 0 ≤ x.y ∧ x.y < ts.length) (hn : x.op = 2 → 0 ≤ x.n ∧ x.n ≤ 9) (h6 : ¬ (x.op = 6 ∧ a8 s.cells s.slots[x.y.toNat]!.ptr false = 0 ∧ bL ts s x = false)) : MC Tryz.prog 140 [.optr 0 0,dK x] [(0,some (mO ts bd pts 1 2 s)),(1,some (flat cJ s.slots)),(2,some (flat cI s.read))] 3 (fun _ : Unit => True) (fun _ => iv (cG ts s x).2) (fun _ => [(0,some (mO ts bd pts 1 2 (cG ts s x).1)),(1,some (flat cJ (cG ts s x).1.slots)),(2,some (flat cI (cG ts s x).1.read))]) := by
 by_cases h1 : x.op = 1
 ·exact HH ts bd pts s x htl hm hsl h1 (hx (by omega))
 by_cases h2 : x.op = 2
 ·exact Ip ts bd pts s x htl hm hsl h2 (hn h2) (hx (by omega))
 by_cases h3 : x.op = 3
 ·exact HP ts bd pts s x htl hm hsl h3 (hx (by omega)) (hy (by omega) (by omega))
 by_cases h4 : x.op = 4 ∨ x.op = 5
 ·exact Ht ts bd pts s x htl hm hsl h4 (hx (by omega)) (hy (by omega) (by omega))
 by_cases h6' : x.op = 6
 ·by_cases hu : bL ts s x = true
  ·exact HY ts bd pts s x htl hm hsl hu
  ·exact HE ts bd pts s x htl hm hsl h6' hrl (hx (by omega)) (hy (by omega) (by omega)) (fun q => h6 ⟨h6',q,by simpa using hu⟩)
 by_cases h7 : x.op = 7
 ·exact It ts bd pts s x htl hm hsl h7 (hx (by omega)) (hy (by omega) (by omega))
 by_cases h8 : x.op = 8
 ·exact HF ts bd pts s x htl hm hsl h8 (hx (by omega))
 ·exact HI ts bd pts s x htl hm hsl (by omega)
theorem xA (x:Pnt) (h:x.next.length ≤ 1048576):PC Tryz.prog 91 [dK x] (fun r => r = bv (decide (x.next.length = 2))):=by
 refine aC Tryz.func91 Tryz.ntmps91 ?_
 repeat' (first|refine aE ?_|fail)
 refine aB rfl ⟨?_,rfl⟩
 simp only [aP,AV.v.injEq,Value.bool.injEq,decide_eq_decide]; omega
theorem Ie {pts:List Pnt}{a:Nat}{C:List Int}(h:pts[a]!.next.length = 2) (hC:0 < C.length):fQ pts a C = ((pts[a]!.next[(C[0]! % 2).toNat]!).toNat,C.drop 1):=by
 cases C with
 | nil => simp at hC
 | cons c C => unfold fQ;rw [if_pos h]; rfl
theorem Il {pts:List Pnt}{a:Nat}(h:pts[a]!.next.length = 2):fQ pts a [] = ((pts[a]!.next[1]!).toNat,[]) := by unfold fQ;rw [if_pos h]
theorem BI {pts:List Pnt}{n a b:Nat}{out C C2:List Int}{q:List Int × Bool}(h:¬ pts[a]!.op = 11) (ho:out.length ≤ n) (hs:fQ pts a C = (b,C2)) (hq:q = (out ++ (wm pts (n - out.length) a C).1,(wm pts (n - out.length) a C).2)) :
  ((out ++ [(a : Int)]).length ≤ n ∧ q = ((out ++ [(a : Int)]) ++ (wm pts (n - (out ++ [(a : Int)]).length) b C2).1,(wm pts (n - (out ++ [(a : Int)]).length) b C2).2)) ∨ ((out ++ [(a : Int)]).length = n + 1 ∧ q = ((out ++ [(a : Int)]).take n,false)) := by
 have hl : (out ++ [(a : Int)]).length = out.length + 1 := by rw [List.length_append]; rfl
 rcases Nat.lt_or_ge out.length n with h1|h1
 ·exact .inl ⟨by omega,E8 h h1 hs hq⟩
 ·refine .inr ⟨by omega, ?_⟩
  have e : out.length = n := by omega
  rw [hq,e,Nat.sub_self,Hc h,← e,List.take_left' rfl,List.append_nil]
theorem Gb (ts:List Int) (bd:List AL.Stmt) (pts:List Pnt) (cs:List Int) (n:Nat) (w:WG ts pts) (wa:WA ts pts) (hn:n ≤ 1000) (hcl:cs.length ≤ 1048576):PC Tryz.prog 139 [aG ts bd pts,sl cI cs,iv (n:Int)] (fun r => r = .tup [sl cI (wm pts n 0 cs).1,bv (wm pts n 0 cs).2]):=by
 have hpl := w.pl
 have hp0 := w.p0
 refine aC Tryz.func139 Tryz.ntmps139 ?_
 repeat' (first|(apply aD;(apply rQ (d := 8) (e := 1);rfl;rfl))|refine aE ?_|fail)
 refine aL (σ := Int × List Int × Nat × List Int) [0,2] [] (fun k => [(9,iv k.1),(1,sl cI k.2.2.2),(8,.own 0 0 k.2.2.1 1)]) (fun k => [(0,some (flat cI k.2.1))]) (fun k => (0 ≤ k.1 ∧ k.1 < pts.length) ∧ k.2.2.1 = k.2.1.length ∧ k.2.2.2.length ≤ 1048576 ∧ ((k.2.1.length ≤ n ∧ wm pts n 0 cs = (k.2.1 ++ (wm pts (n - k.2.1.length) k.1.toNat k.2.2.2).1,(wm pts (n - k.2.1.length) k.1.toNat k.2.2.2).2)) ∨ (k.2.1.length = n + 1 ∧ wm pts n 0 cs = (k.2.1.take n,false)))) (fun k => n + 1 - k.2.1.length) (0,[],0,cs) ⟨⟨Int.le_refl _,by show (0 : Int) < _; omega⟩,rfl,hcl,.inl ⟨Nat.zero_le _,rfl⟩⟩ ?_
 rintro ⟨a,out,m,C⟩ ⟨⟨ha0,ha⟩,hm,hC,hw⟩
 dsimp only at ha0 ha hm hC hw ⊢
 by_cases hout : out.length ≤ n
 ·have hw2 : wm pts n 0 cs = (out ++ (wm pts (n - out.length) a.toNat C).1, (wm pts (n - out.length) a.toNat C).2) := by
   rcases hw with h|h
   ·exact h.2
   ·omega
  have hat : (a.toNat : Int) = a := Int.toNat_of_nonneg ha0
  have hnx := w.nx a.toNat (by omega)
  have hnl := w.nl a.toNat (by omega)
  have hn1 := wa.n a.toNat (by omega)
  have hk : ∀ k,k < pts[a.toNat]!.next.length → 0 ≤ pts[a.toNat]!.next[k]! ∧ pts[a.toNat]!.next[k]! < pts.length := fun k h => hnx _ (aV _ _ h)
  have hch := xA pts[a.toNat]! (by omega)
  repeat' (first|(apply aD;first|(apply aA (k := 91);rfl;exact hch;exact Pur.pf;rfl)|(apply FQ;rfl;rfl;rfl)|(apply aJ (t := _);rfl;rfl;rfl;exact (rfl:_=some [_]);rfl;rfl))|refine aE ?_|(refine aM ?_ ?_ <;> intro hc hq <;> try (exfalso;omega))|refine cE ?_|fail)
  ·have hop : pts[a.toNat]!.op = 11 := by assumption
   have e : wm pts n 0 cs = (out ++ [a],true) := by rw [hw2,Hz hop,hat]
   rw [e]
   (refine aS (Le.frzD (d := 6) (i := 2) rfl rfl) ?_; refine aB rfl ?_)
   refine ⟨?_,(by exact Pur.pf)⟩
   simp only [aP,sl]
   rw [hm,List.length_append]; rfl
  ·have hop : ¬ pts[a.toNat]!.op = 11 := by assumption
   have hst := BI hop hout (H6 (by omega)) hw2
   rw [hat] at hst
   have hk := hk 0 (by omega)
   (refine bX (pts[a.toNat]!.next[0]!,_,_,C) (Le.renA [(0,2)]) ?_ ?_)
   ·exact ⟨hk,by dsimp only;rw [List.length_append,hm]; rfl,hC,hst⟩
   ·dsimp only;rw [List.length_append]; simp only [List.length_singleton]; omega
  ·have hop : ¬ pts[a.toNat]!.op = 11 := by assumption
   have hC0 : 0 < C.length := by omega
   have hst := BI hop hout (Ie (by omega) hC0) hw2
   rw [hat] at hst
   have hk := hk (C[0]! % 2).toNat (by omega)
   have hCe : List.take (C.length - Int.toNat 1) (List.drop (Int.toNat 1) C) = C.drop 1 := List.take_of_length_le (by rw [List.length_drop]; exact Nat.le_refl _)
   rw [hCe]
   (refine bX (pts[a.toNat]!.next[(C[0]! % 2).toNat]!,_,_,C.drop 1) (Le.renA [(0,2)]) ?_ ?_)
   ·exact ⟨hk,by dsimp only;rw [List.length_append,hm]; rfl,by dsimp only;rw [List.length_drop]; omega,hst⟩
   ·dsimp only;rw [List.length_append]; simp only [List.length_singleton]; omega
  ·have hop : ¬ pts[a.toNat]!.op = 11 := by assumption
   have hC0 : C = [] := List.eq_nil_of_length_eq_zero (by omega)
   subst hC0
   have hst := BI hop hout (Il (by omega)) hw2
   rw [hat] at hst
   have hk := hk 1 (by omega)
   (refine bX (pts[a.toNat]!.next[1]!,_,_,[]) (Le.renA [(0,2)]) ?_ ?_)
   ·exact ⟨hk,by dsimp only;rw [List.length_append,hm]; rfl,hC,hst⟩
   ·dsimp only;rw [List.length_append]; simp only [List.length_singleton]; omega
 ·have hw2 : out.length = n + 1 ∧ wm pts n 0 cs = (out.take n, false) := by
   rcases hw with h|h
   ·omega
   ·exact h
  repeat' (first|(apply aD;(apply eO (d := 59) (l := 0) (h := n);rfl;rfl;rfl;exact lG rfl (by omega);exact if_pos (by omega);rfl))|refine aE ?_|(refine aM ?_ ?_ <;> intro hc hq <;> try (exfalso;omega))|fail)
  refine aS (Le.cut (i := 0) (n * 1) rfl) ?_
  refine aS (Le.frzD (d := 6) (i := 0) rfl rfl) ?_
  rw [hw2.2,cT cI (e := 1)]
  refine aB (l := [.imm (n - 0) (flat cI (out.take n)),bv false]) rfl ⟨?_,(by exact Pur.pf)⟩
  rw [iK (by rw [List.length_take]; omega)]
  rfl
theorem D7 {p:Prg}{cs:List Int}{n:Int}{x0 x1 x2:Operand}(ha0:ev (lk tsl) x0 = some (bE p)) (ha1:ev (lk tsl) x1 = some (sl cI cs)) (ha2:ev (lk tsl) x2 = some (iv n)) (hmc:MC Tryz.prog 69 [bE p,sl cI cs,iv n] [] 0 (fun _:Unit => True) (fun _ => .tup [.optr 1 0,iv 5,iv 0]) (fun _ => [(1,some ([.v (.pointer none),.imm 0 [],.imm 0 [],.imm 0 []]))])) (hM:Nat.ble (nidl + 2) aU = true) (hN:Nat.blt d N = true){md':Md}[hmd:MdA md (dV [x0,x1,x2] ++ []) (List.map Sum.inr (List.map Prod.fst ([((nidl + 1),some ([.v (.pointer none),.imm 0 [],.imm 0 [],.imm 0 []]))]:List (Nat × Option (List AV)))) ++ [.inl d]) md'] (kk:RW Tryz.prog N all Q md' rest ⟨(d,.tup [.optr (nidl + 1) 0,iv 5,iv 0]) :: tsl,eS hsl [((nidl + 1),some ([.v (.pointer none),.imm 0 [],.imm 0 [],.imm 0 []]))],nidl + 2,z0⟩):RW Tryz.prog N all Q md (⟨some d,.call ⟨.value (.func 69),#[x0,x1,x2],tys⟩,ty,pos,af,none⟩ :: rest) ⟨tsl,hsl,nidl,z0⟩:=by
 exact aT (l := [x0,x1,x2]) [] 2 [((nidl + 1),some ([.v (.pointer none),.imm 0 [],.imm 0 [],.imm 0 []]))] hmc (avs := [bE p,sl cI cs,iv n]) (by simp only [evL,ha0,ha1,ha2]) rfl hM hN (md' := md') (hmd := hmd) kk
theorem Le.nilMid {ts:List (Nat × AV)}{hs:List (Nat × Option (List AV))}{n:Nat}{z0:Lo}{i:Nat}(c1:List AV){c2:List AV}(hi:aN hs i = some (c1 ++ .v (.slice none 0 0) :: c2)) :
  Le ⟨ts,hs,n,z0⟩ ⟨ts,(i,some (c1 ++ .imm 0 [] :: c2)) :: hs,n,z0⟩ :=
 Le.cells hi (by simp) fun w bad ι b β h => mL (fun y hy => by have := j3 (av := .v (.slice none 0 0)) hy;exact this) c1 c2 b β h
theorem Hq {ts:List Int}{pts:List Pnt}{a last:Nat}{l:List Nat}{s:Mc}:fO ts pts (a :: l) s last = if (cG ts s pts[a]!).2 = -1 then fO ts pts l (cG ts s pts[a]!).1 a else ((cG ts s pts[a]!).1,(cG ts s pts[a]!).2,a):=by
 rw [fO]
 by_cases h : bL ts s pts[a]! = true
 ·rw [if_pos h,o8 h,if_neg (show ¬ (2 : Int) = -1 by decide)]
 ·have h2 : bL ts s pts[a]! = false := by simpa using h
  rw [if_neg h,mE h2]
theorem HR {ts:List Int}{nt:Nat}{s:Mc}(h:OkS nt s){x:Pnt}(hx:PtN x):OkS nt (cG ts s x).1:=by
 unfold cG;split
 ·exact h
 ·exact h.do hx
theorem Fa {ts:List Int}{s:Mc}{x:Pnt}:(cG ts s x).1.read.length ≤ s.read.length + 1:=by
 unfold cG;split
 ·dsimp only;omega
 ·exact tI
theorem ID {ts:List Int}{s:Mc}{x:Pnt}(ho:x.op = 6) (hz:a8 s.cells s.slots[x.y.toNat]!.ptr false = 0) (hu:bL ts s x = false) (ht:ts[x.x.toNat]! = 1):(cG ts s x).2 = -1:=by
 rw [mE hu]
 unfold dD
 rw [if_neg (show ¬ x.op = 1 by omega),if_neg (show ¬ x.op = 2 by omega),if_neg (show ¬ x.op = 3 by omega),if_neg (show ¬ (x.op = 4 ∨ x.op = 5) by omega),if_pos ho,if_pos hz]
 unfold bO
 rw [if_neg (fun h => by have := h.1;omega)]
theorem GS (p:Prg) (cs:List Int) (n:Int) (hl:p.types.length ≤ 1048576) (hs:aK p.body ≤ 1048576) (hr:DZ p n = false):MC Tryz.prog 69 [bE p,sl cI cs,iv n] [] 0 (fun _:Unit => True) (fun _ => .tup [.optr 1 0,iv 5,iv 0]) (fun _ => [(1,some ([.v (.pointer none),.imm 0 [],.imm 0 [],.imm 0 []]))]):=by
 have hg := qD p hl hs
 unfold DZ at hr
 by_cases hv : bK p = true
 ·rw [if_pos hv] at hg
  rw [hv] at hr
  have hnn : ¬ (0 ≤ n ∧ n ≤ 150) := fun h => by rw [decide_eq_true h.1,decide_eq_true h.2] at hr;cases hr
  refine aQ Tryz.func69 Tryz.ntmps69 ?_
  repeat' (first|(apply aD;first|(apply aA (k := 72);rfl;exact hg;exact Pur.pf;rfl)|(apply aA (k := 54);rfl;(apply bQ);(rfl);rfl))|refine aE ?_|(refine aM ?_ ?_ <;> intro hc hq <;> try (exfalso;omega))|fail)
  ·(refine aB rfl ?_; refine aO () trivial ?_ ⟨sE ?_, trivial⟩)
   ·rfl
   ·rfl
 ·rw [if_neg hv] at hg
  refine aQ Tryz.func69 Tryz.ntmps69 ?_
  repeat' (first|(apply aD;(apply aA (k := 72);rfl;exact hg;exact Pur.pf;rfl))|refine aE ?_|fail)
  (refine aB rfl ?_; refine aO () trivial ?_ ⟨sE ?_,trivial⟩)
  ·rfl
  ·rfl
theorem GX (p:Prg) (cs:List Int) (n:Nat) (q:Mc × Int × Nat) (hqq:q = iF p.types (aR p) cs n) (hv:bK p = true) (hl:p.types.length ≤ 1048576) (hs:aK p.body ≤ 1048576) (hn:n ≤ 150) (hcl:cs.length ≤ 1048576):MC Tryz.prog 69 [bE p,sl cI cs,iv (n:Int)] [] 0 (fun _:Unit => True) (fun _ => .tup [.optr 2 0,iv q.2.1,iv (q.2.2:Int)]) (fun _ => [(2,some (mO p.types p.body (aR p) 1 3 q.1)),(1,some (flat cJ q.1.slots)),(3,some (flat cI q.1.read))]):=by
 have hg := qD p hl hs
 rw [if_pos hv] at hg
 have w := WG.of_valid hv
 have wa := WA.of_valid hv
 have hru := Gb p.types p.body (aR p) cs n w wa (by omega) hcl
 have htl := w.tl
 have hpl := w.pl
 have hL := C5 w wa n 0 cs w.p0
 have hLl := qX (pts := aR p) n 0 cs
 unfold iF at hqq
 unfold wm at hru
 obtain ⟨L,hLe⟩ : ∃ L,L = (dS (aR p) n 0 cs).1 := ⟨_,rfl⟩
 obtain ⟨dn,hdn⟩ : ∃ dn,dn = (dS (aR p) n 0 cs).2 := ⟨_,rfl⟩
 rw [← hLe,← hdn] at hru
 rw [← hLe] at hqq hL hLl
 have hgx : ∀ i,i < L.length → (L.map (fun a : Nat => (a : Int)))[i]! = (L[i]! : Int) := fun i h => by rw [aY _ _ (by rw [List.length_map]; exact h),List.getElem_map,aY _ _ h]
 have hml : (L.map (fun a : Nat => (a : Int))).length = L.length := List.length_map _
 generalize (L.map (fun a : Nat => (a : Int))) = LI at *
 generalize hP : aR p = pts at *
 refine aQ Tryz.func69 Tryz.ntmps69 ?_
 repeat' (first|(apply aD;first|(apply aA (k := 72);rfl;exact hg;exact Pur.pf;rfl)|(with_reducible apply a5 (d := 40))|(apply aA (k := 54);rfl;(apply bQ);(rfl);rfl))|refine aE ?_|(refine aM ?_ ?_ <;> intro hc hq <;> try (exfalso;omega))|fail)
 refine b8 ?_
 rw [show (List.replicate p.types.length ([Value.bool false,Value.int .i64 0,Value.int .i64 0,Value.int .i64 0].map AV.v)).flatten = flat cJ (List.replicate p.types.length qH) from DS rfl]
 apply n4
 case hl => rfl
 case hf => exact (rfl:_=some [_,_,AV.v (.slice none 0 0),AV.v (.slice none 0 0)])
 case hN => rfl
 repeat' (first|(apply aD;(with_reducible apply a5 (d := 43)))|refine aE ?_|fail)
 refine b8 (fV ?_ (Le.nilMid (i := 2) [_,_] rfl))
 refine fV ?_ (Le.nilCell (i := 2) 1 [_,_,_] rfl (by decide) (by decide))
 repeat' (first|(apply aD;(apply aA (k := 139);rfl;exact hru;exact Pur.pf;rfl))|refine aE ?_|fail)
 refine aL (σ := Nat × Mc × Nat) [9,11,49,50] [] (fun k => [(51,iv (k.1 : Int)),(14,iv (k.2.2 : Int))]) (fun k => [(2,some (mO p.types p.body pts 1 3 k.2.1)),(1,some (flat cJ k.2.1.slots)),(3,some (flat cI k.2.1.read))]) (fun k => k.1 ≤ L.length ∧ fO p.types pts (L.drop k.1) k.2.1 k.2.2 = q ∧ OkS p.types.length k.2.1 ∧ k.2.1.read.length ≤ k.1) (fun k => L.length - k.1) (0,mc0 p.types.length,0) ⟨Nat.zero_le _,hqq.symm,OkS.mc0 _,Nat.le_refl _⟩ ?_
 rintro ⟨i,s,last⟩ ⟨hi,hf,hok,hrd⟩
 dsimp only at hi hf hok hrd ⊢
 by_cases hiL : i < L.length
 ·have hap := hL L[i]! (aV _ _ hiL)
  have hop := w.op L[i]! hap
  have hwx := w.x L[i]! hap
  have hwy := w.y L[i]! hap
  have hA := wa.a L[i]! hap
  have hg2 := hgx i hiL
  have hdr : L.drop i = L[i]! :: L.drop (i + 1) := by rw [List.drop_eq_getElem_cons hiL,aY _ _ hiL]
  rw [hdr,Hq] at hf
  have hpt : PtN pts[L[i]!]! := ⟨fun h => hA.n (.inr h)⟩
  have hdo := HR (ts := p.types) hok hpt
  have hdr2 := Fa (ts := p.types) (s := s) (x := pts[L[i]!]!)
  by_cases h6 : pts[L[i]!]!.op = 6 ∧ a8 s.cells s.slots[(pts[L[i]!]!).y.toNat]!.ptr false = 0 ∧ bL p.types s pts[L[i]!]! = false
  ·have hm6 := Ho p.types p.body pts s pts[L[i]!]! htl hok.m hok.l h6.1 (by omega) (by omega) (by omega) h6.2.1 h6.2.2
   repeat' (first|(apply aD;(with_reducible apply a5 (d := 16)))|refine aE ?_|(refine aM ?_ ?_ <;> intro hc hq <;> try (exfalso;omega))|fail)
   refine b8 ?_
   rw [hg2]
   repeat' (first|(apply aD;(apply FD (ts := p.types) (bd := p.body) (pts := pts) (s := s) (x := pts[L[i]!]!);rfl;rfl;rfl;rfl;rfl;rfl;exact hm6;rfl;rfl))|refine aE ?_|(refine aM ?_ ?_ <;> intro hc hq <;> try (exfalso;omega))|fail)
   ·exfalso
    have h9 : ¬ (cG p.types s pts[L[i]!]!).2 = -1 := by assumption
    exact h9 (ID h6.1 h6.2.1 h6.2.2 (hA.t6 h6.1).1)
   ·(refine bX (i + 1, (cG p.types s pts[L[i]!]!).1, L[i]!) (Le.renA [(1, 1), (2, 2), (3, 6)]) ?_ ?_)
    ·refine ⟨by dsimp only; omega, ?_, hdo, by dsimp only; omega⟩
     dsimp only
     rw [if_pos (by assumption)] at hf
     exact hf
    ·dsimp only;omega
  ·have hmd := HK p.types p.body pts s pts[L[i]!]! htl hok.m hok.l hop (by omega) (fun h => by omega) (fun h h2 => by omega) (fun h => hA.n (.inr h)) h6
   repeat' (first|(apply aD;(with_reducible apply a5 (d := 16)))|refine aE ?_|(refine aM ?_ ?_ <;> intro hc hq <;> try (exfalso;omega))|fail)
   refine b8 ?_
   rw [hg2]
   repeat' (first|(apply aD;(apply Gg (ts := p.types) (bd := p.body) (pts := pts) (s := s) (x := pts[L[i]!]!);rfl;rfl;rfl;rfl;rfl;rfl;exact hmd;rfl;rfl))|refine aE ?_|(refine aM ?_ ?_ <;> intro hc hq <;> try (exfalso;omega))|fail)
   ·have h9 : ¬ (cG p.types s pts[L[i]!]!).2 = -1 := by assumption
    rw [if_neg h9] at hf
    rw [← hf]
    (refine aB rfl ?_; refine aO () trivial ?_ ⟨sE ?_,⟨sE ?_,⟨sE ?_,trivial⟩⟩⟩)
    ·rfl
    ·rfl
    ·rfl
    ·rfl
   ·(refine bX (i + 1, (cG p.types s pts[L[i]!]!).1, L[i]!) (Le.renA [(1, 1), (2, 2), (3, 3)]) ?_ ?_)
    ·refine ⟨by dsimp only; omega, ?_, hdo, by dsimp only; omega⟩
     dsimp only
     rw [if_pos (by assumption)] at hf
     exact hf
    ·dsimp only;omega
 ·repeat' (first | refine aE ?_ | (refine aM ?_ ?_ <;> intro hc hq <;> try (exfalso; omega))|fail)
  have hie : i = L.length := by omega
  have hq2 : q = (s,1,last) := by rw [← hf,hie,List.drop_length]; rfl
  rw [hq2]
  (refine aB rfl ?_; refine aO () trivial ?_ ⟨sE ?_,⟨sE ?_,⟨sE ?_,trivial⟩⟩⟩)
  ·rfl
  ·rfl
  ·rfl
  ·rfl
theorem BJ {p:Prg}{cs:List Int}{n:Int}{q:Mc × Int × Nat}{x0 x1 x2:Operand}(ha0:ev (lk tsl) x0 = some (bE p)) (ha1:ev (lk tsl) x1 = some (sl cI cs)) (ha2:ev (lk tsl) x2 = some (iv n)) (hmc:MC Tryz.prog 69 [bE p,sl cI cs,iv n] [] 0 (fun _:Unit => True) (fun _ => .tup [.optr 2 0,iv q.2.1,iv (q.2.2:Int)]) (fun _ => [(2,some (mO p.types p.body (aR p) 1 3 q.1)),(1,some (flat cJ q.1.slots)),(3,some (flat cI q.1.read))])) (hM:Nat.ble (nidl + 4) aU = true) (hN:Nat.blt d N = true){md':Md}[hmd:MdA md (dV [x0,x1,x2] ++ []) (List.map Sum.inr (List.map Prod.fst ([((nidl + 2),some (mO p.types p.body (aR p) (nidl + 1) (nidl + 3) q.1)),((nidl + 1),some (flat cJ q.1.slots)),((nidl + 3),some (flat cI q.1.read))]:List (Nat × Option (List AV)))) ++ [.inl d]) md'] (kk:RW Tryz.prog N all Q md' rest ⟨(d,.tup [.optr (nidl + 2) 0,iv q.2.1,iv (q.2.2:Int)]) :: tsl,eS hsl [((nidl + 2),some (mO p.types p.body (aR p) (nidl + 1) (nidl + 3) q.1)),((nidl + 1),some (flat cJ q.1.slots)),((nidl + 3),some (flat cI q.1.read))],nidl + 4,z0⟩):RW Tryz.prog N all Q md (⟨some d,.call ⟨.value (.func 69),#[x0,x1,x2],tys⟩,ty,pos,af,none⟩ :: rest) ⟨tsl,hsl,nidl,z0⟩:=by
 exact aT (l := [x0,x1,x2]) [] 4 [((nidl + 2),some (mO p.types p.body (aR p) (nidl + 1) (nidl + 3) q.1)),((nidl + 1),some (flat cJ q.1.slots)),((nidl + 3),some (flat cI q.1.read))] hmc (avs := [bE p,sl cI cs,iv n]) (by simp only [evL,ha0,ha1,ha2]) rfl hM hN (md' := md') (hmd := hmd) kk
theorem oX (p:Prg) (cs:List Int) (most:Int) (hl:p.types.length ≤ 1048576) (hs:aK p.body ≤ 1048576) (hcl:cs.length ≤ 1048576):PC Tryz.prog 27 [bE p,sl cI cs,iv most] (fun r => r = .tup (if DZ p most = true then [sl cJ (iF p.types (aR p) cs most.toNat).1.slots,iv (iF p.types (aR p) cs most.toNat).2.1] else [sl cJ [],iv 5])):=by
 by_cases h : DZ p most = true
 ·have h' := h
  unfold DZ at h'
  simp only [Bool.and_eq_true,decide_eq_true_eq] at h'
  obtain ⟨hv,h0,h1⟩ := h'
  have hru := GX p cs most.toNat _ rfl hv hl hs (by omega) hcl
  have hok := BF (cs := cs) (n := most.toNat) hv
  have hrl := wX (ts := p.types) (pts := aR p) (cs := cs) (n := most.toNat) (by omega)
  have htl := (WG.of_valid hv).tl
  rw [Int.toNat_of_nonneg h0] at hru
  rw [if_pos h]
  have hon := Int.toNat_of_nonneg h0
  have hm := hok.m
  have hml := hm.l
  have hsl := hok.l
  generalize iF p.types (aR p) cs most.toNat = q at *
  refine aC Tryz.func27 Tryz.ntmps27 ?_
  repeat' (first|(apply aD;(apply BJ (p := p) (cs := cs) (n := most) (q := q);rfl;rfl;rfl;exact hru;rfl;rfl))|refine aE ?_|fail)
  refine aS (Le.frzD (d := 6) (i := 2) rfl rfl) ?_
  refine aB (l := [.imm p.types.length (flat cJ q.1.slots),iv q.2.1]) rfl ?_
  rw [iK hsl.symm]
  exact ⟨rfl,by exact Pur.pf⟩
 ·rw [if_neg h]
  have h2 : DZ p most = false := by simpa using h
  refine aC Tryz.func27 Tryz.ntmps27 ?_
  repeat' (first|(apply aD;(apply D7 (p := p) (cs := cs) (n := most);rfl;rfl;rfl;exact GS p cs most hl hs h2;rfl;rfl))|refine aE ?_|fail)
  exact aB (l := [sl cJ [],iv 5]) rfl ⟨rfl,rfl⟩
theorem At (bs:List UInt8) (p:Nat) (hb:bs.length ≤ 2000) (hp:p ≤ 10000):MC Tryz.prog 138 [.optr 0 0] [(0,some (cK bs p))] 1 (fun x:List Int × Nat => x.1.length ≤ 8 ∧ x.2 ≤ 20000) (fun x => sl cI x.1) (fun x => [(0,some (cK bs x.2))]):=by
 have hn := oP bs p [4,2,6,0,8] 0 8 (by decide) (by decide)
 refine aQ Tryz.func138 Tryz.ntmps138 ?_
 repeat' (first|(apply aD;(apply g7;rfl;rfl;rfl;rfl;infer_instance;rfl;(rfl);assumption;omega;(decide);(decide);rfl;rfl))|refine aE ?_|fail)
 refine aL (σ := Int × List Int × Nat × Nat) [0] [] (fun k => [(4,iv k.1),(3,.own 1 0 k.2.2.1 1)]) (fun k => [(0,some (cK bs k.2.2.2)),(1,some (flat cI k.2.1))]) (fun k => (0 ≤ k.1 ∧ k.1 + k.2.1.length ≤ 8) ∧ k.2.2.1 = k.2.1.length ∧ k.2.2.2 ≤ 10001 + k.2.1.length) (fun k => k.1.toNat) (eA bs p [4,2,6,0,8],[],0,p + 1) ⟨⟨hn.1,by show _ + ((0 : Nat) : Int) ≤ 8;omega⟩,rfl,by dsimp only;omega⟩ ?_
 rintro ⟨i,xs,m,p'⟩ ⟨⟨hi,hx⟩,hm,hp'⟩
 dsimp only at hi hx hm hp' ⊢
 repeat' (first|(apply aD;first|(apply aJ (t := _);rfl;rfl;rfl;(first|exact (rfl:_=some [_])|exact (rfl:_=some [_,_,_,_,_,_]));rfl;rfl)|(apply BD;rfl;rfl;infer_instance;rfl;(rfl);assumption;omega;(decide);(decide);rfl;rfl))|refine aE ?_|(refine aM ?_ ?_ <;> intro hc hq <;> try (exfalso;omega))|fail)
 ·(refine bX (i - 1, xs ++ [eA bs p' [0, 1, 0, 1, -1, 2]], m + 1, p' + 1) (Le.renA [(1, 5)]) ?_ ?_)
  ·refine ⟨⟨by dsimp only; omega, ?_⟩, by dsimp only; rw [List.length_append, hm]; rfl, ?_⟩
   ·dsimp only;rw [List.length_append]; simp only [List.length_singleton]; omega
   ·dsimp only;rw [List.length_append]; simp only [List.length_singleton]; omega
  ·dsimp only;omega
 ·refine aS (Le.frzD (d := 2) (i := 1) rfl rfl) ?_
  refine aB rfl ?_
  refine aO (xs,p') ⟨by dsimp only;omega,by dsimp only;omega⟩ ?_ ⟨.inr rfl,trivial⟩
  show AV.imm m (flat cI xs) = sl cI xs
  rw [hm]
theorem Ar {P:Program}{N:Nat}{Q:Exit → AS → Prop}{all:Array Oper}{rest:List Oper}{ts:List (Nat × AV)}{hs:List (Nat × Option (List AV))}{n:Nat}{z0:Lo}{ty:TypeId}{pos:String}{af:Array Edge}{d:Nat}{args:Array Operand}{tys:Array TypeId}
  {k : FuncId} {p0 : List Int × Nat → Prop} {i p : Nat} {bs : List UInt8} (h : MC P k [.optr 0 0] [(0,some (cK bs p))] 1 p0 (fun x => sl cI x.1) (fun x => [(0,some (cK bs x.2))])) [hc : CaT P k] (ha : evL (lk ts) args.toList = some [.optr i 0])
  (hH : aN hs i = some (cK bs p)) (hM : Nat.ble (n + 0) aU = true) (hN : Nat.blt d N = true) (kk : ∀ x,p0 x → RW P N all Q .txt rest ⟨(d,sl cI x.1) :: ts,(i,some (cK bs x.2)) :: hs,n + 0,z0⟩) :
  RW P N all Q .txt (⟨some d,.call ⟨.value (.func k),args,tys⟩,ty,pos,af,none⟩ :: rest) ⟨ts,hs,n,z0⟩ :=
 sZ (σ := List Int × Nat) [i] 1 (fun x : List Int × Nat => [(i, some (cK bs x.2))]) h ha rfl ⟨⟨_, _, rfl, hH, RnL.purI inferInstance⟩, trivial⟩ rfl (RnL.cons (RnV.optr rfl) .nil) (by simpa using hM)
  (fun x _ => RnV.purI inferInstance) (fun x _ => by simp [mB]) (fun x _ => ⟨⟨0,_,rfl,rfl,RnL.purI inferInstance⟩,trivial⟩) hN kk
theorem Fq (bs:List UInt8) (hb:bs.length ≤ 1048576):PC Tryz.prog 68 [sl cU bs] (fun r => ∃ (q:Prg) (cs:List Int) (n:Int),r = .tup [bE q,sl cI cs,iv n] ∧ aK q.body ≤ 20000 ∧ q.types.length ≤ 1000 ∧ cs.length ≤ 8 ∧ -1 ≤ n ∧ n ≤ 151):=by
 have hb2 : (bs.take 2000).length ≤ 2000 := by rw [List.length_take]; omega
 refine aC Tryz.func68 Tryz.ntmps68 ?_
 repeat' (first|(apply aD;first|(apply eE (k := 94);exact B3 (bs.take 2000) 0 hb2 (by decide);rfl;rfl;rfl;rfl;rfl;(rintro ⟨q,p1⟩ ⟨hq1,hq2,hq3⟩);(dsimp only at hq1 hq2 hq3))|(apply eE (k := 93);exact oI (bs.take 2000) p1 q hb2 (by omega) (by omega) (by omega);rfl;exact Pur.pf;rfl;rfl;rfl;(rintro ⟨q2,p2⟩ ⟨hr1,hr2,hr3⟩);(dsimp only at hr1 hr2 hr3))|(apply Ar (k := 138);exact At (bs.take 2000) p2 hb2 (by omega);rfl;rfl;rfl;rfl;(rintro ⟨cs,p3⟩ ⟨hc1,hc2⟩);(dsimp only at hc1 hc2);(have hn9 := oP (bs.take 2000) p3 [100,150,60,5,0,151,-1] (-1) 151 (by decide) (by decide)))|(first|(apply gX;rfl;(apply jE <;> (assumption));rfl;rfl)|(apply g7;rfl;rfl;rfl;rfl;infer_instance;rfl;(rfl);assumption;omega;(decide);(decide);rfl;rfl)))|refine aE ?_|refine cE ?_|fail)
 exact aB (l := [bE q2,sl cI cs,iv (eA (bs.take 2000) p3 [100,150,60,5,0,151,-1])]) rfl ⟨⟨q2,cs,_,rfl,by omega,by omega,hc1,hn9.1,hn9.2⟩,Pur.pf⟩
theorem Ai (bs:List UInt8) (hb:bs.length ≤ 1048576):PC Tryz.prog 17 [sl cU bs] (fun r => ∃ (q:Prg) (cs:List Int) (n:Int),r = .tup [bE q,sl cI cs,iv n] ∧ aK q.body ≤ 20000 ∧ q.types.length ≤ 1000 ∧ cs.length ≤ 8 ∧ -1 ≤ n ∧ n ≤ 151):=by
 refine aC Tryz.func17 Tryz.ntmps17 ?_
 repeat' (first|(apply aD;(apply cV (k := 68);rfl;exact Fq bs hb;exact Pur.pf;rfl;(rintro _ ⟨q,cs,n,rfl,h1,h2,h3,h4,h5⟩ _)))|refine aE ?_|fail)
 exact aB (l := [bE q,sl cI cs,iv n]) rfl ⟨⟨q,cs,n,rfl,h1,h2,h3,h4,h5⟩,Pur.pf⟩
def Iv (p : Prg) (cs : List Int) (n : Int) : Int := if DZ p n = true then (iF p.types (aR p) cs n.toNat).2.1 else 5
theorem Cu {p:Prg}{n:Int}:DZ p n = true ↔ bK p = true ∧ 0 ≤ n ∧ n ≤ 150:=by
 unfold DZ;simp only [Bool.and_eq_true,decide_eq_true_eq]
end Go.Proofs.YtahdccneecdmmaaGreat
namespace Go.Proofs.YtahdccneecdmmaaGreat
open Go.AL Go.ChangeShapes Go.WideShapes Go.ChangeAt Go.RowKit
theorem pO {w:World}{bad:Nat → Prop}{ι:Pl}{b:Nat}:∀ (bs:List UInt8) (o:Nat),¬ bad b → (∀ j,j < bs.length → w.cell? ⟨b,o + j,none⟩ = some (.int .u8 ((bs[j]!).toNat:Int))) → RdC w bad ι (flat cU bs) b o
 | [],_,_,_ => by simp only [flat,List.flatMap_nil,RdC]
 | x :: bs, o, hb, h => by
  have h0 := h 0 (by simp)
  have e : flat cU (x :: bs) = .v (.int .u8 (x.toNat : Int)) :: flat cU bs := rfl
  rw [e]
  simp only [RdC]
  refine ⟨⟨.int .u8 (x.toNat : Int),by simpa using h0,rfl,by simp only [Rd]⟩,pO bs (o + 1) hb fun j hj => ?_⟩
  have := h (j + 1) (by simpa using hj)
  rw [show o + 1 + j = o + (j + 1) from by omega]
  simpa using this
theorem rJ {P:Program}{k:FuncId}{bs ms:List UInt8}(h:PC P k [sl cU bs,sl cU ms] (fun r => r = bv true)){W:World}{v v':Value}(hv:Rd W (fun _ => False) (fun _ => none) (sl cU bs) v) (hv':Rd W (fun _ => False) (fun _ => none) (sl cU ms) v') :
  Calls P k #[v,v'] W fun e W' => e = .returned (.bool true) ∧ Below W.heap.size W W' := by
 let C : Ctx := { N := 0,w0 := W,W0 := fun _ => False,X := fun _ => False,ι0 := fun _ => none,xlt := fun _ h => h.elim }
 have hbad : ∀ b, ¬ aF C.X (fun _ => none) (aN []) b := by
  rintro b (h | ⟨id,cs,β,h1,h2⟩)
  ·exact h
  ·cases h2
 have g : HG C (fun _ => none) (fun j => 0 ≤ j) (aN []) W :=
  ⟨fun id cs h => by simp [aN] at h,fun id id' cs cs' b β β' h => by simp [aN] at h,Fr.refl _ _,fun _ _ h => h,fun _ _ => rfl⟩
 have hcar : Carry W (fun _ => False) (fun _ => none) W (aF C.X (fun _ => none) (aN [])) (fun _ => none) := ⟨fun b o x _ h2 => ⟨hbad b,h2⟩,fun _ _ h => h,fun _ => Nat.le_refl _⟩
 have ha : RdV W (aF C.X (fun _ => none) (aN [])) (fun _ => none) [sl cU bs, sl cU ms] [v, v'] := by
  simp only [RdV]
  exact ⟨v,[v'],rfl,Rd.carry hcar _ _ hv,v',[],rfl,Rd.carry hcar _ _ hv',rfl⟩
 refine (h C _ W [v,v'] rfl rfl g ha).mono ?_
 rintro e W' ⟨v'',r,H',ι',rfl,⟨rfl,_⟩,h4,h5⟩
 simp only [Rd] at h4
 subst h4
 have f := h5.fr
 exact ⟨rfl,f.os,f.tape,f.output,f.size,fun b hb => f.block b hb (fun h => h)⟩
theorem HX:laidOutB Tryz.prog = true := by kernel_rfl
theorem Hl:Tryz.prog.cellsOf 5 = 1 := by kernel_rfl
theorem uA {H:Type}{enc:TypeId × Value → H}{W:World}{base:Nat}{v0:Value}{d0:DataW H}{p:List MemPlace}(hval:Value.okWide Tryz.prog W .any base 22 v0) (h0:DataW.Trod enc Tryz.prog W 0 (fun _ => true) true 22 v0 d0 p) :
  ∃ bs : List UInt8,Rd W (fun _ => False) (fun _ => none) (sl cU bs) v0 := by
 obtain ⟨a0,len,cap,rfl⟩ := okWide_slice Tryz.underlying22 hval
 obtain ⟨fuel,hf⟩ := h0
 rcases open_ints Tryz.underlying22 Tryz.underlying5 Hl hf with ⟨hcs,hx⟩ | ⟨a,len',cap',zs,hcs,_,hl,hm,hz,hx,hcell,hwz⟩
 ·simp [Value.cells] at hcs
  obtain ⟨rfl,rfl,rfl⟩ := hcs
  refine ⟨[],?_⟩
  simp only [Rd]
  exact ⟨none,0,rfl,.inl rfl⟩
 ·simp [Value.cells] at hcs
  obtain ⟨rfl,rfl,rfl⟩ := hcs
  simp only [if_true] at hz
  refine ⟨(zs.take len).map fun n => UInt8.ofNat n.toNat,?_⟩
  have hlen : ((zs.take len).map fun n => UInt8.ofNat n.toNat).length = len := by simp;omega
  simp only [Rd]
  refine ⟨some a,cap,by rw [hlen],?_⟩
  by_cases h00 : len = 0
  ·exact .inl (by rw [hlen]; exact h00)
  ·obtain ⟨b, off, spot⟩ := a
   have hspot : spot = none := by simpa [Addr.add] using World.cell?_spot (hcell 0 (by omega))
   subst hspot
   refine .inr ⟨b,off,by rw [hlen]; exact hl,rfl,.inr ⟨fun h => h,pO _ _ (fun h => h) fun j hj => ?_⟩⟩
   rw [hlen] at hj
   have hcj := hcell j (by omega)
   rw [Addr.add_lit] at hcj
   rw [hcj]
   have e : zs.getD j 0 = zs[j]'(by omega) := by simp [List.getD,List.getElem?_eq_getElem (show j < zs.length by omega)]
   have hw := hwz (zs[j]'(by omega)) (List.getElem_mem _)
   have hr : 0 ≤ zs[j]'(by omega) ∧ zs[j]'(by omega) ≤ 255 := by simpa [Lit.wf,IntKind.min,IntKind.max,IntKind.signed,IntKind.bits] using hw
   rw [e,aY _ _ (by rw [hlen]; exact hj)]
   simp only [List.getElem_map,List.getElem_take]
   congr 2
   simp only [UInt8.toNat_ofNat']
   omega
end Go.Proofs.YtahdccneecdmmaaGreat
