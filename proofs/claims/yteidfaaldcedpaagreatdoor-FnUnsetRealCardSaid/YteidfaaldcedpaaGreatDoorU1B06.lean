/-
 A part of the proofs over this program: rules and contracts of its functions (the contracts).
-/
import Derived.Test.YteidfaaldcedpaaGreatDoorU1B05
set_option linter.unusedVariables false
set_option linter.unusedSimpArgs false
set_option maxHeartbeats 8000000
set_option maxRecDepth 4000
attribute [local irreducible] Go.AL.RW Go.AL.AW Go.AL.Stop
namespace Go.Proofs.YteidfaaldcedpaaGreatDoor
open Go.AL Go.RowKit
variable {N : Nat} {Q : Exit → AS → Prop} {all : Array Oper} {rest : List Oper} {tsl : List (Nat × AV)} {hsl : List (Nat × Option (List AV))} {nidl : Nat} {z0 : Lo} {md : Md} {d : Nat} {ty : TypeId} {pos : String} {af : Array Edge} {tys : Array TypeId}
theorem iM {m:List Cl}{x0:Operand}(ha0:ev (lk tsl) x0 = some (sl bO m)) (hmc:MC Tryz.prog 154 [sl bO m] [] 0 (fun _:Unit => True) (fun _ => .own 1 0 m.length 4) (fun _ => [(1,some (flat bO m))])) (hM:Nat.ble (nidl + 2) a6 = true) (hN:Nat.blt d N = true){md':Md}[hmd:MdA md (fF [x0] ++ []) (List.map Sum.inr (List.map Prod.fst ([((nidl + 1),some (flat bO m))]:List (Nat × Option (List AV)))) ++ [.inl d]) md'] (kk:RW Tryz.prog N all Q md' rest ⟨(d,.own (nidl + 1) 0 m.length 4) :: tsl,gD hsl [((nidl + 1),some (flat bO m))],nidl + 2,z0⟩):RW Tryz.prog N all Q md (⟨some d,.call ⟨.value (.func 154),#[x0],tys⟩,ty,pos,af,none⟩ :: rest) ⟨tsl,hsl,nidl,z0⟩:=by
 exact aX (l := [x0]) [] 2 [((nidl + 1),some (flat bO m))] hmc (avs := [sl bO m]) (by simp only [evL,ha0]) rfl hM hN (md' := md') (hmd := hmd) kk
theorem qI {m:List Cl}{j:Nat}{x0:Operand}(ha0:ev (lk tsl) x0 = some (sl bO m)) (hmc:MC Tryz.prog 154 [sl bO m] [] 0 (fun _:Unit => True) (fun _ => .own 1 0 m.length 4) (fun _ => [(1,some (flat eY (dA m j (.own 2 0 m[j]!.stk.length 2)))),(2,some (flat cD m[j]!.stk))])) (hM:Nat.ble (nidl + 3) a6 = true) (hN:Nat.blt d N = true){md':Md}[hmd:MdA md (fF [x0] ++ []) (List.map Sum.inr (List.map Prod.fst ([((nidl + 1),some (flat eY (dA m j (.own (nidl + 2) 0 m[j]!.stk.length 2)))),((nidl + 2),some (flat cD m[j]!.stk))]:List (Nat × Option (List AV)))) ++ [.inl d]) md'] (kk:RW Tryz.prog N all Q md' rest ⟨(d,.own (nidl + 1) 0 m.length 4) :: tsl,gD hsl [((nidl + 1),some (flat eY (dA m j (.own (nidl + 2) 0 m[j]!.stk.length 2)))),((nidl + 2),some (flat cD m[j]!.stk))],nidl + 3,z0⟩):RW Tryz.prog N all Q md (⟨some d,.call ⟨.value (.func 154),#[x0],tys⟩,ty,pos,af,none⟩ :: rest) ⟨tsl,hsl,nidl,z0⟩:=by
 exact aX (l := [x0]) [] 3 [((nidl + 1),some (flat eY (dA m j (.own (nidl + 2) 0 m[j]!.stk.length 2)))),((nidl + 2),some (flat cD m[j]!.stk))] hmc (avs := [sl bO m]) (by simp only [evL,ha0]) rfl hM hN (md' := md') (hmd := hmd) kk
theorem nO {α:Type}[Inhabited α] (l:List α) (k:Nat):l.set k l[k]! = l:=by
 rcases Nat.lt_or_ge k l.length with h|h
 ·rw [aY _ _ h]; simp
 ·exact List.set_eq_of_length_le h
theorem EN {m:List Cl}{i:Nat}(hi:i < m.length):gW (flat bO m) (0 + i * 4 + 3) [sl cD m[i]!.stk] = flat bO m:=by
 have h := Dt (xs := m) (k := i) (s := m[i]!.stk) hi
 rw [show m.set i { m[i]! with stk := m[i]!.stk } = m from nO m i] at h
 exact h
theorem Ej {m:List Cl}{i j:Nat}{X:AV}(hi:i < m.length) (h:i ≠ j):(dA m j X)[i]! = s9 m[i]!:=by
 unfold dA
 rw [aY _ _ (by rw [List.length_set,List.length_map]; exact hi),List.getElem_set_ne (fun e => h e.symm),List.getElem_map,aY _ _ hi]
theorem Nb {m:List Cl}{i j:Nat}{X:AV}(h:i < m.length ∧ i ≠ j):gW (flat eY (dA m j X)) (0 + i * 4 + 3) [sl cD m[i]!.stk] = flat eY (dA m j X):=by
 have hl := c7 (m := m) (j := j) (X := X)
 have e : (dA m j X).set i { (dA m j X)[i]! with av := sl cD m[i]!.stk } = dA m j X := by
  rw [Ej h.1 h.2]
  have : ({ s9 m[i]! with av := sl cD m[i]!.stk } : Co) = (dA m j X)[i]! := by rw [Ej h.1 h.2]; rfl
  rw [this]; exact nO _ _
 rw [← e]
 have := eI (f := eY) (xs := dA m j X) (k := i) (j := 3) (new := [sl cD m[i]!.stk]) (y := { (dA m j X)[i]! with av := sl cD m[i]!.stk }) (by rw [hl]; exact h.1) (by simp) rfl
 rw [e] at this ⊢
 exact this
theorem pW {mp:List (Nat × Nat)}{lo:Lo}:∀ {cs:List AV},bR cs = true → All2 (HD mp lo) cs cs
 | [],_ => .nil
 | c :: cs, h => by
  simp only [bR,Bool.and_eq_true] at h
  exact .cons (.inl ⟨rfl,h.1⟩) (pW h.2)
theorem wO {α β:Type}{R:α → β → Prop}:∀ {a:List α}{b:List β}{c:List α}{d:List β},All2 R a b → All2 R c d → All2 R (a ++ c) (b ++ d)
 | _,_,_,_,.nil,h => h
 | _,_,_,_,.cons h1 h2,h => .cons h1 (wO h2 h)
theorem EP {mp:List (Nat × Nat)}{lo:Lo}{m:List Cl}{j k i i':Nat}(h:j < m.length) (hr:Qf mp lo (.own i 0 k 2) = some (.own i' 0 k 2)):All2 (HD mp lo) (flat eY (dA m j (.own i 0 k 2))) (flat eY (dA m j (.own i' 0 k 2))):=by
 rw [jY h,jY h]
 exact wO (pW (inferInstance : Pur (flat bO _)).pf) (wO (pW (inferInstance : Pur [iv _,bv _,iv _]).pf) (.cons (.inr hr) (pW (inferInstance : Pur (flat bO _)).pf)))
theorem kV (m:List Cl) (hm:OkM m):MC Tryz.prog 154 [sl bO m] [] 0 (fun _:Unit => True) (fun _ => .own 1 0 m.length 4) (fun _ => [(1,some (flat bO m))]):=by
 have hml := hm.l
 have hcc := Bu m (by omega)
 refine aU Tryz.func154 Tryz.ntmps154 ?_
 repeat' (first|(apply aF;(apply yO;rfl;exact hcc;rfl;rfl))|refine aE ?_|fail)
 refine aH (σ := Nat) [3,8,9] [] (fun k => [(10,iv (k : Int))]) (fun k => [(1,some (flat bO m))]) (fun k => k ≤ m.length) (fun k => m.length - k) (0) (Nat.zero_le _) ?_
 rintro i hi
 by_cases hin : i < m.length
 ·have hst : m[i]!.stk.length ≤ 200 := (((cQ m).1 hm).2 i hin).l.2
  have hct := Cz m[i]!.stk (by omega)
  repeat' (first|(apply aF;first|(apply rD;rfl;exact hct;rfl;rfl)|(with_reducible apply aZ (d := 20)))|refine aE ?_|(refine aK ?_ ?_ <;> intro hc hq <;> try (exfalso;omega))|fail)
  refine bY (cX ?_ (Le.frzD (d := 19) (i := 4) rfl rfl))
  repeat' (first|(apply aF;(apply bC;rfl;rfl;rfl;rfl;rfl;(rw [aI]; simp only [gB] <;> omega);(exact EN (by (assumption)))))|refine aE ?_|fail)
  (apply bB (i + 1);focus (refine Le.ren [(1,1)] rfl (by decide) ?_ ?_ <;> repeat' (first|exact trivial|refine And.intro ⟨_,rfl,?_⟩ ?_|refine And.intro ⟨_,_,rfl,rfl,?_⟩ ?_|exact Or.inr rfl|refine Or.inl ⟨?_,(by first|rfl|exact bD _ _)⟩|rfl)))
  ·omega
  ·omega
 ·repeat' (first | refine aE ?_ | (refine aK ?_ ?_ <;> intro hc hq <;> try (exfalso; omega))|fail)
  (refine aC rfl ?_; refine aP () trivial ?_ ⟨sE ?_,trivial⟩)
  ·rfl
  ·rfl
theorem vN (m:List Cl) (j:Nat) (hm:OkM m) (hj:j < m.length):MC Tryz.prog 154 [sl bO m] [] 0 (fun _:Unit => True) (fun _ => .own 1 0 m.length 4) (fun _ => [(1,some (flat eY (dA m j (.own 2 0 m[j]!.stk.length 2)))),(2,some (flat cD m[j]!.stk))]):=by
 have hml := hm.l
 have hcc := Bu m (by omega)
 refine aU Tryz.func154 Tryz.ntmps154 ?_
 repeat' (first|(apply aF;(apply yO;rfl;exact hcc;rfl;rfl))|refine aE ?_|fail)
 refine AW.le ?_ (Le.bump 1)
 refine aH (σ := Nat × Bool) [3,8,9] [] (fun k => [(10,iv (k.1 : Int))]) (fun k => [(1,some (cond k.2 (flat eY (dA m j (.own 2 0 m[j]!.stk.length 2))) (flat bO m))),(2,cond k.2 (some (flat cD m[j]!.stk)) none)]) (fun k => k.1 ≤ m.length ∧ k.2 = decide (j < k.1)) (fun k => m.length - k.1) (0,false) ⟨Nat.zero_le _,by simp⟩ ?_
 rintro ⟨i,b⟩ ⟨hi,hb⟩
 dsimp only at hi hb ⊢
 by_cases hin : i < m.length
 ·have hst : m[i]!.stk.length ≤ 200 := (((cQ m).1 hm).2 i hin).l.2
  have hct := Cz m[i]!.stk (by omega)
  by_cases hij : j < i
  ·rw [decide_eq_true hij] at hb; subst hb
   simp only [cond_true]
   have hol := c7 (m := m) (j := j) (X := .own 2 0 m[j]!.stk.length 2)
   have hon := Ej (m := m) (i := i) (j := j) (X := .own 2 0 m[j]!.stk.length 2) hin (by omega)
   repeat' (first|(apply aF;(with_reducible apply aZ (d := 5)))|refine aE ?_|(refine aK ?_ ?_ <;> intro hc hq <;> try (exfalso;omega))|fail)
   refine bY ?_
   rw [hon]
   dsimp only [s9]
   repeat' (first|(apply aF;first|(apply rD;rfl;exact hct;rfl;rfl)|(with_reducible apply aZ (d := 20)))|refine aE ?_|fail)
   refine bY (cX ?_ (Le.frzD (d := 19) (i := 5) rfl rfl))
   repeat' (first|(apply aF;(apply bC;rfl;rfl;rfl;rfl;rfl;(rw [aI]; simp only [gB] <;> omega);(exact Nb (by (omega)))))|refine aE ?_|fail)
   (apply bB (i + 1,true);focus (refine Le.ren [(1,1),(2,2)] rfl (by decide) ?_ ?_ <;> repeat' (first|exact trivial|refine And.intro ⟨_,rfl,?_⟩ ?_|refine And.intro ⟨_,_,rfl,rfl,?_⟩ ?_|exact Or.inr rfl|refine Or.inl ⟨?_,(by first|rfl|exact bD _ _)⟩|rfl)))
   ·exact Or.inr (EP hj rfl)
   ·exact ⟨by dsimp only;omega,by dsimp only;rw [decide_eq_true (by omega)]⟩
   ·dsimp only;omega
  ·rw [decide_eq_false hij] at hb; subst hb
   simp only [cond_false]
   repeat' (first|(apply aF;first|(apply rD;rfl;exact hct;rfl;rfl)|(with_reducible apply aZ (d := 20)))|refine aE ?_|(refine aK ?_ ?_ <;> intro hc hq <;> try (exfalso;omega))|fail)
   by_cases hie : i = j
   ·subst hie
    refine bY ?_
    repeat' (first|(apply aF;(apply bC;rfl;rfl;rfl;rfl;rfl;(rw [aI]; simp only [gB] <;> omega);(exact A6 (by (assumption)))))|refine aE ?_|fail)
    (apply bB (i + 1,true);focus (refine Le.ren [(1,1),(2,5)] rfl (by decide) ?_ ?_ <;> repeat' (first|exact trivial|refine And.intro ⟨_,rfl,?_⟩ ?_|refine And.intro ⟨_,_,rfl,rfl,?_⟩ ?_|exact Or.inr rfl|refine Or.inl ⟨?_,(by first|rfl|exact bD _ _)⟩|rfl)))
    ·exact Or.inr (EP hin rfl)
    ·exact ⟨by dsimp only;omega,by dsimp only;rw [decide_eq_true (by omega)]⟩
    ·dsimp only;omega
   ·refine bY (cX ?_ (Le.frzD (d := 19) (i := 5) rfl rfl))
    repeat' (first|(apply aF;(apply bC;rfl;rfl;rfl;rfl;rfl;(rw [aI]; simp only [gB] <;> omega);(exact EN (by (assumption)))))|refine aE ?_|fail)
    (apply bB (i + 1,false);focus (refine Le.ren [(1,1)] rfl (by decide) ?_ ?_ <;> repeat' (first|exact trivial|refine And.intro ⟨_,rfl,?_⟩ ?_|refine And.intro ⟨_,_,rfl,rfl,?_⟩ ?_|exact Or.inr rfl|refine Or.inl ⟨?_,(by first|rfl|exact bD _ _)⟩|rfl)))
    ·exact ⟨by dsimp only;omega,by dsimp only;rw [decide_eq_false (by omega)]⟩
    ·dsimp only;omega
 ·rw [decide_eq_true (by omega)] at hb; subst hb
  simp only [cond_true]
  repeat' (first|refine aE ?_|(refine aK ?_ ?_ <;> intro hc hq <;> try (exfalso;omega))|fail)
  (refine aC rfl ?_; refine aP () trivial ?_ ⟨sE ?_,⟨sE ?_,trivial⟩⟩)
  ·rfl
  ·rfl
  ·rfl
theorem oE {m:List Cl}{x:Pt}{wr:Bool}{n:Nat}{x0 x1 x2:Operand}{i0:Nat}(ha0:ev (lk tsl) x0 = some (.own i0 0 n 4)) (ha1:ev (lk tsl) x1 = some (nS x)) (ha2:ev (lk tsl) x2 = some (bv wr)) (hH0:aT hsl i0 = some (flat bO m)) (hmc:MC Tryz.prog 155 [.own 0 0 n 4,nS x,bv wr] [(0,some (flat bO m))] 1 (fun _:Unit => True) (fun _ => iv (a8 m x wr)) (fun _ => [(0,some (flat bO m))])) (hM:Nat.ble (nidl + 0) a6 = true) (hN:Nat.blt d N = true){md':Md}[hmd:MdA md (fF [x0,x1,x2] ++ [.inr i0]) (List.map Sum.inr (List.map Prod.fst ([(i0,some (flat bO m))]:List (Nat × Option (List AV)))) ++ [.inl d]) md'] (kk:RW Tryz.prog N all Q md' rest ⟨(d,iv (a8 m x wr)) :: tsl,gD hsl [(i0,some (flat bO m))],nidl + 0,z0⟩):RW Tryz.prog N all Q md (⟨some d,.call ⟨.value (.func 155),#[x0,x1,x2],tys⟩,ty,pos,af,none⟩ :: rest) ⟨tsl,hsl,nidl,z0⟩:=by
 exact aX (l := [x0,x1,x2]) [i0] 1 [(i0,some (flat bO m))] hmc (avs := [.own i0 0 n 4,nS x,bv wr]) (by simp only [evL,ha0,ha1,ha2]) rfl hM hN (md' := md') (hmd := hmd) kk
theorem xH {m:List Cl}{j:Nat}{t:Int}{k n:Nat}{x0 x1 x2:Operand}{i0 i1:Nat}(ha0:ev (lk tsl) x0 = some (.own i0 0 n 4)) (ha1:ev (lk tsl) x1 = some (.agg [iv (j:Int),iv t])) (ha2:ev (lk tsl) x2 = some (bv true)) (hH0:aT hsl i0 = some (flat eY (dA m j (.own i1 0 m[j]!.stk.length 2)))) (hH1:aT hsl i1 = some (flat cD m[j]!.stk)) (hdd:Go.AL.distinct [i0,i1] = true) (hmc:MC Tryz.prog 155 [.own 0 0 n 4,.agg [iv (j:Int),iv t],bv true] [(0,some (flat eY (dA m j (.own 1 0 m[j]!.stk.length 2)))),(1,some (flat cD m[j]!.stk))] 2 (fun _:Unit => True) (fun _ => iv 0) (fun _ => [(0,some (flat eY (dA m j (.own 1 0 (k + 1) 2)))),(1,some (flat cD (m[j]!.stk.take (k + 1))))])) (hM:Nat.ble (nidl + 0) a6 = true) (hN:Nat.blt d N = true){md':Md}[hmd:MdA md (fF [x0,x1,x2] ++ [.inr i0,.inr i1]) (List.map Sum.inr (List.map Prod.fst ([(i0,some (flat eY (dA m j (.own i1 0 (k + 1) 2)))),(i1,some (flat cD (m[j]!.stk.take (k + 1))))]:List (Nat × Option (List AV)))) ++ [.inl d]) md'] (kk:RW Tryz.prog N all Q md' rest ⟨(d,iv 0) :: tsl,gD hsl [(i0,some (flat eY (dA m j (.own i1 0 (k + 1) 2)))),(i1,some (flat cD (m[j]!.stk.take (k + 1))))],nidl + 0,z0⟩):RW Tryz.prog N all Q md (⟨some d,.call ⟨.value (.func 155),#[x0,x1,x2],tys⟩,ty,pos,af,none⟩ :: rest) ⟨tsl,hsl,nidl,z0⟩:=by
 exact aX (l := [x0,x1,x2]) [i0,i1] 2 [(i0,some (flat eY (dA m j (.own i1 0 (k + 1) 2)))),(i1,some (flat cD (m[j]!.stk.take (k + 1))))] hmc (avs := [.own i0 0 n 4,.agg [iv (j : Int),iv t],bv true]) (by simp only [evL,ha0,ha1,ha2]) hdd hM hN (md' := md') (hmd := hmd) kk
theorem LdL.app {D:List Nat}{H:Nat → Option (List AV)}:∀ {a b c d:List AV},LdL D H a b → LdL D H c d → bR a = true → LdL D H (a ++ c) (a ++ d)
 | [],_,_,_,_,h,_ => h
 | x :: a, b, c, d, h1, h, hp => by
  simp only [bR,Bool.and_eq_true] at hp
  exact .cons (.pur hp.1) (LdL.app (a := a) (b := a) (.pur hp.2) h hp.2)
theorem P4 {D:List Nat}{H:Nat → Option (List AV)}{m:List Cl}{j i k:Nat}{r:List Tg}(hi:i ∈ D) (hH:H i = some (flat cD r)) (hk:k = r.length) (hj:j < m.length):LdL D H (flat eY (dA m j (.own i 0 k 2))) (flat bO (m.set j { m[j]! with stk := r })):=by
 subst hk
 rw [← B6,jY hj,jY hj]
 have p1 : bR (flat bO (m.take j)) = true := (inferInstance : Pur (flat bO _)).pf
 have p2 : bR [iv m[j]!.val,bv m[j]!.alive,iv m[j]!.next] = true := rfl
 exact LdL.app (.pur p1) (LdL.app (.pur p2) (.cons (.own hi hH (.pur (inferInstance : Pur (flat cD r)).pf)) (.pur (inferInstance : Pur (flat bO _)).pf)) p2) p1
theorem Fm {D:List Nat}{H:Nat → Option (List AV)}{m:List Cl}{j i:Nat}(hi:i ∈ D) (hH:H i = some (flat cD m[j]!.stk)) (hj:j < m.length):LdL D H (flat eY (dA m j (.own i 0 m[j]!.stk.length 2))) (flat bO m):=by
 have h := P4 (m := m) (r := m[j]!.stk) hi hH rfl hj
 rwa [show m.set j { m[j]! with stk := m[j]!.stk } = m from nO m j] at h
theorem OJ {m:List Cl}{x:Pt}{wr:Bool}(h:0 ≤ x.cell) (h2:x.cell < m.length) (h3:m[x.cell.toNat]!.alive = true) (h4:0 ≤ cA m[x.cell.toNat]!.stk x.tag) (hw:wr = true) (h5:m[x.cell.toNat]!.stk[(cA m[x.cell.toNat]!.stk x.tag).toNat]!.uq = false):a8 m x wr = 3:=by
 unfold a8;rw [if_neg (by omega),if_neg (by rw [h3]; decide),if_neg (by omega),if_pos ⟨hw,h5⟩]
theorem pF (m:List Cl) (x:Pt) (wr:Bool) (n:Nat) (hm:OkM m) (hn:n = m.length) (hk:a8 m x wr ≠ 0):MC Tryz.prog 155 [.own 0 0 n 4,nS x,bv wr] [(0,some (flat bO m))] 1 (fun _:Unit => True) (fun _ => iv (a8 m x wr)) (fun _ => [(0,some (flat bO m))]):=by
 subst hn
 have hml := hm.l
 have hcv := iG m hm
 have hst : 0 ≤ x.cell → x.cell < m.length → m[x.cell.toNat]!.stk.length ≤ 200 := fun h1 h2 => (((cQ m).1 hm).2 x.cell.toNat (by omega)).l.2
 have hbd := eX m[x.cell.toNat]!.stk x.tag
 have hidx := fun h => y0 m[x.cell.toNat]!.stk x.cell x.tag h
 refine aU Tryz.func155 Tryz.ntmps155 ?_
 repeat' (first|(apply aF;first|(apply qO (k := 152);(case ha => rfl);(case hl => (repeat' (first|exact oB|apply l3|exact n0 rfl inferInstance)));(case h => exact hcv);(case hfr|hN => rfl);(case hmd => infer_instance))|((apply fP 4);(case hx|hH|hc|hN => rfl))|(apply aA (k := 180);rfl;(exact (hidx (by have := hst (by omega) (by omega);omega)));exact Pur.pf;rfl)|(with_reducible apply aZ (d := 75))|(apply aA (k := 47);rfl;(apply cY);(rfl);rfl))|refine aE ?_|(refine aK ?_ ?_ <;> intro hc hq <;> try (exfalso;omega))|(refine bK ?_ ?_ <;> intro hg hq <;> try (exfalso;omega))|fail)
 ·(refine aC rfl ?_; refine aP () trivial ?_ ⟨sE ?_, trivial⟩)
  ·rw [Eu (by omega)]; rfl
  ·rfl
 ·(refine aC rfl ?_; refine aP () trivial ?_ ⟨sE ?_, trivial⟩)
  ·rw [Ko (by omega) (by omega) (by assumption)]; rfl
  ·rfl
 ·(refine aC rfl ?_; refine aP () trivial ?_ ⟨sE ?_, trivial⟩)
  ·rw [Lf (by omega) (by omega) (by assumption) (by assumption)]; rfl
  ·rfl
 ·(refine aC rfl ?_; refine aP () trivial ?_ ⟨sE ?_, trivial⟩)
  ·rw [OJ (by omega) (by omega) (by assumption) (by assumption) (by assumption) (by assumption)]; rfl
  ·rfl
 ·exfalso
  have hw : wr = true := by assumption
  have hu : m[x.cell.toNat]!.stk[(cA m[x.cell.toNat]!.stk x.tag).toNat]!.uq = true := by assumption
  subst hw
  refine hk ?_
  rw [AI,if_pos (tA (by omega) (by omega) (by assumption) (by assumption)),if_neg (by rw [hu]; decide)]
 ·exfalso
  have hw : wr = false := by assumption
  subst hw
  exact hk (tA (by omega) (by omega) (by assumption) (by assumption))
theorem vV (m:List Cl) (j:Nat) (t:Int) (k n:Nat) (hm:OkM m) (hn:n = m.length) (hj:j < m.length) (hk:cA m[j]!.stk t = (k:Int)) (hal:m[j]!.alive = true) (hu:m[j]!.stk[k]!.uq = true):MC Tryz.prog 155 [.own 0 0 n 4,.agg [iv (j:Int),iv t],bv true] [(0,some (flat eY (dA m j (.own 1 0 m[j]!.stk.length 2)))),(1,some (flat cD m[j]!.stk))] 2 (fun _:Unit => True) (fun _ => iv 0) (fun _ => [(0,some (flat eY (dA m j (.own 1 0 (k + 1) 2)))),(1,some (flat cD (m[j]!.stk.take (k + 1))))]):=by
 subst hn
 have hml := hm.l
 have hcv := iG m hm
 have hst : m[j]!.stk.length ≤ 200 := (((cQ m).1 hm).2 j hj).l.2
 have hbd := eX m[j]!.stk t
 rw [hk] at hbd
 have hidx := y0 m[j]!.stk (j : Int) t (by omega)
 rw [hk] at hidx
 have hog := iJ (m := m) (j := j) (X := .own 1 0 m[j]!.stk.length 2) hj
 have hol := c7 (m := m) (j := j) (X := .own 1 0 m[j]!.stk.length 2)
 refine aU Tryz.func155 Tryz.ntmps155 ?_
 repeat' (first|(apply aF;first|(apply m7 (k := 152) (D := [0,1]) (h := hcv);rfl;exact .cons (.own (by simp) rfl (Fm (by simp) rfl hj)) .nil;rfl;rfl)|(with_reducible apply aZ (d := 35))|(apply aA (k := 47);rfl;(apply cY);(rfl);rfl))|refine aE ?_|(refine aK ?_ ?_ <;> intro hc hq <;> try (exfalso;omega))|fail)
 all_goals (try (exfalso;omega))
 ·exfalso
  have h : (dA m j (.own 1 0 m[j]!.stk.length 2))[j]!.alive = false := by assumption
  rw [hog] at h;simp only [hal] at h;cases h
 refine bY ?_
 rw [hog]
 dsimp only
 repeat' (first|(apply aF;first|((apply fP 4);(case hx|hH|hc|hN => rfl))|(apply m7 (k := 180) (D := [1]) (h := hidx);rfl;exact .cons (.own (by simp) rfl (.pur (inferInstance : Pur (flat cD _)).pf)) (.cons (.pur rfl) .nil);rfl;rfl)|(with_reducible apply aZ (d := 68)))|refine aE ?_|fail)
 refine bY ?_
 rw [hog]
 dsimp only
 repeat' (first|(apply aF;(with_reducible apply aZ (d := 81)))|refine aE ?_|(refine aK ?_ ?_ <;> intro hc hq <;> try (exfalso;omega))|fail)
 ·exfalso
  have h : m[j]!.stk[k]!.uq = false := by assumption
  rw [hu] at h;cases h
 refine bY ?_
 rw [hog]
 dsimp only
 repeat' (first|(apply aF;first|(apply gR (d := 83) (l := 0) (h := k + 1);rfl;rfl;rfl;exact rH rfl (by omega);exact if_pos (by omega);rfl)|(apply bC;rfl;rfl;rfl;rfl;rfl;(rw [aI]; simp only [gB] <;> omega);(exact u9 (by (assumption)))))|refine aE ?_|fail)
 refine aO (Le.cut (i := 1) ((k + 1) * 2) rfl) ?_
 (refine aC rfl ?_; refine aP () trivial ?_ ⟨sE ?_,⟨sE ?_,trivial⟩⟩)
 ·rfl
 ·rfl
 ·rw [dL cD (e := 2)]
theorem Hw {xs:List Tg}{k n:Nat}{x0:Operand}{i0:Nat}(ha0:ev (lk tsl) x0 = some (.own i0 (0 + k * 2) n 2)) (hH0:aT hsl i0 = some (flat cD xs)) (hmc:MC Tryz.prog 179 [.own 0 (0 + k * 2) n 2] [(0,some (flat cD xs))] 1 (fun _:Unit => True) (fun _ => .own 2 0 n 2) (fun _ => [(0,some (flat cD xs)),(2,some (flat cD (xs.drop k)))])) (hM:Nat.ble (nidl + 2) a6 = true) (hN:Nat.blt d N = true){md':Md}[hmd:MdA md (fF [x0] ++ [.inr i0]) (List.map Sum.inr (List.map Prod.fst ([(i0,some (flat cD xs)),((nidl + 1),some (flat cD (xs.drop k)))]:List (Nat × Option (List AV)))) ++ [.inl d]) md'] (kk:RW Tryz.prog N all Q md' rest ⟨(d,.own (nidl + 1) 0 n 2) :: tsl,gD hsl [(i0,some (flat cD xs)),((nidl + 1),some (flat cD (xs.drop k)))],nidl + 2,z0⟩):RW Tryz.prog N all Q md (⟨some d,.call ⟨.value (.func 179),#[x0],tys⟩,ty,pos,af,none⟩ :: rest) ⟨tsl,hsl,nidl,z0⟩:=by
 exact aX (l := [x0]) [i0] 3 [(i0,some (flat cD xs)),((nidl + 1),some (flat cD (xs.drop k)))] hmc (avs := [.own i0 (0 + k * 2) n 2]) (by simp only [evL,ha0]) rfl hM hN (md' := md') (hmd := hmd) kk
theorem KW (xs:List Tg) (k n:Nat) (hn:n = xs.length - k) (hl:xs.length ≤ 1048576):MC Tryz.prog 179 [.own 0 (0 + k * 2) n 2] [(0,some (flat cD xs))] 1 (fun _:Unit => True) (fun _ => .own 2 0 n 2) (fun _ => [(0,some (flat cD xs)),(2,some (flat cD (xs.drop k)))]):=by
 subst hn
 refine aU Tryz.func179 Tryz.ntmps179 ?_
 repeat' (first|(apply aF;first|(apply Gj;rfl;rfl;(intro b hb))|(apply bZ;rfl;rfl;rfl;rfl;rfl;(decide);exact FV rfl rfl;omega;omega;(exact qH rfl);rfl;rfl))|refine aE ?_|(refine aK ?_ ?_ <;> intro hc hq <;> try (exfalso;omega))|fail)
 ·have h0 : xs.length - k = 0 := hb (by assumption)
  have h1 : xs.drop k = [] := List.drop_eq_nil_of_le (by omega)
  refine aO (Le.bump 1) ?_
  refine aO (Le.nilOwn (d := 2) 2 rfl (by decide)) ?_
  (refine aC rfl ?_; refine aP () trivial ?_ ⟨sE ?_,⟨sE ?_,trivial⟩⟩)
  ·show AV.own 2 0 0 2 = _; rw [h0]
  ·rfl
  ·rw [h1]; rfl
 ·(refine aC rfl ?_; refine aP () trivial ?_ ⟨sE ?_, ⟨sE ?_, trivial⟩⟩)
  ·show AV.own 2 0 (0 + (xs.length - k)) 2 = _
   rw [Nat.zero_add]
  ·rfl
  ·rfl
theorem yN {m:List Cl}{j:Nat}{t:Int}{r:List Tg}{n:Nat}{x0 x1 x2:Operand}{i0 i1:Nat}(ha0:ev (lk tsl) x0 = some (.own i0 0 n 4)) (ha1:ev (lk tsl) x1 = some (.agg [iv (j:Int),iv t])) (ha2:ev (lk tsl) x2 = some (bv false)) (hH0:aT hsl i0 = some (flat eY (dA m j (.own i1 0 m[j]!.stk.length 2)))) (hH1:aT hsl i1 = some (flat cD m[j]!.stk)) (hdd:Go.AL.distinct [i0,i1] = true) (hmc:MC Tryz.prog 155 [.own 0 0 n 4,.agg [iv (j:Int),iv t],bv false] [(0,some (flat eY (dA m j (.own 1 0 m[j]!.stk.length 2)))),(1,some (flat cD m[j]!.stk))] 2 (fun _:Unit => True) (fun _ => iv 0) (fun _ => [(0,some (flat eY (dA m j (.own 5 0 r.length 2)))),(5,some (flat cD r))])) (hM:Nat.ble (nidl + 4) a6 = true) (hN:Nat.blt d N = true){md':Md}[hmd:MdA md (fF [x0,x1,x2] ++ [.inr i0,.inr i1]) (List.map Sum.inr (List.map Prod.fst ([(i0,some (flat eY (dA m j (.own (nidl + 3) 0 r.length 2)))),((nidl + 3),some (flat cD r)),(i1,none)]:List (Nat × Option (List AV)))) ++ [.inl d]) md'] (kk:RW Tryz.prog N all Q md' rest ⟨(d,iv 0) :: tsl,gD hsl [(i0,some (flat eY (dA m j (.own (nidl + 3) 0 r.length 2)))),((nidl + 3),some (flat cD r)),(i1,none)],nidl + 4,z0⟩):RW Tryz.prog N all Q md (⟨some d,.call ⟨.value (.func 155),#[x0,x1,x2],tys⟩,ty,pos,af,none⟩ :: rest) ⟨tsl,hsl,nidl,z0⟩:=by
 exact aX (l := [x0,x1,x2]) [i0,i1] 6 [(i0,some (flat eY (dA m j (.own (nidl + 3) 0 r.length 2)))),((nidl + 3),some (flat cD r)),(i1,none)] hmc (avs := [.own i0 0 n 4,.agg [iv (j : Int),iv t],bv false]) (by simp only [evL,ha0,ha1,ha2]) hdd hM hN (md' := md') (hmd := hmd) kk
theorem Bs (m:List Cl) (j:Nat) (t:Int) (r:List Tg) (k n:Nat) (hm:OkM m) (hn:n = m.length) (hj:j < m.length) (hk:cA m[j]!.stk t = (k:Int)) (hal:m[j]!.alive = true) (hr:r = gV m[j]!.stk k false):MC Tryz.prog 155 [.own 0 0 n 4,.agg [iv (j:Int),iv t],bv false] [(0,some (flat eY (dA m j (.own 1 0 m[j]!.stk.length 2)))),(1,some (flat cD m[j]!.stk))] 2 (fun _:Unit => True) (fun _ => iv 0) (fun _ => [(0,some (flat eY (dA m j (.own 5 0 r.length 2)))),(5,some (flat cD r))]):=by
 subst hn
 have hml := hm.l
 have hcv := iG m hm
 have hst : m[j]!.stk.length ≤ 200 := (((cQ m).1 hm).2 j hj).l.2
 have hbd := eX m[j]!.stk t
 rw [hk] at hbd
 have hidx := y0 m[j]!.stk (j : Int) t (by omega)
 rw [hk] at hidx
 have hog := iJ (m := m) (j := j) (X := .own 1 0 m[j]!.stk.length 2) hj
 have hol := c7 (m := m) (j := j) (X := .own 1 0 m[j]!.stk.length 2)
 refine aU Tryz.func155 Tryz.ntmps155 ?_
 repeat' (first|(apply aF;first|(apply m7 (k := 152) (D := [0,1]) (h := hcv);rfl;exact .cons (.own (by simp) rfl (Fm (by simp) rfl hj)) .nil;rfl;rfl)|(with_reducible apply aZ (d := 35))|(apply aA (k := 47);rfl;(apply cY);(rfl);rfl))|refine aE ?_|(refine aK ?_ ?_ <;> intro hc hq <;> try (exfalso;omega))|fail)
 all_goals (try (exfalso;omega))
 ·exfalso
  have h : (dA m j (.own 1 0 m[j]!.stk.length 2))[j]!.alive = false := by assumption
  rw [hog] at h;simp only [hal] at h;cases h
 refine bY ?_
 rw [hog]
 dsimp only
 repeat' (first|(apply aF;first|((apply fP 4);(case hx|hH|hc|hN => rfl))|(apply m7 (k := 180) (D := [1]) (h := hidx);rfl;exact .cons (.own (by simp) rfl (.pur (inferInstance : Pur (flat cD _)).pf)) (.cons (.pur rfl) .nil);rfl;rfl)|(with_reducible apply aZ (d := 41)))|refine aE ?_|fail)
 refine bY ?_
 rw [hog]
 dsimp only
 repeat' (first|(apply aF;first|(apply gR (d := 43) (l := k + 1) (h := m[j]!.stk.length);rfl;rfl;exact rH rfl (by omega);rfl;exact if_pos (by omega);rfl)|(apply Hw;rfl;rfl;exact KW _ _ _ rfl (by omega);rfl;rfl)|(apply Ng;rfl;rfl;rfl;exact Qh _ _ (by rw [List.length_drop]) (by omega);rfl;rfl)|(with_reducible apply aZ (d := 51)))|refine aE ?_|fail)
 refine bY ?_
 rw [hog]
 dsimp only
 have hfl : (flat cD m[j]!.stk).length = m[j]!.stk.length * 2 := aI cD _
 have hsl : (shr (List.drop (k + 1) m[j]!.stk)).length ≤ 200 := Nat.le_trans (List.length_filter_le _ _) (by rw [List.length_drop]; omega)
 repeat' (first|(apply aF;first|(apply gR (d := 53) (l := 0) (h := k + 1);rfl;rfl;rfl;exact rH rfl (by omega);exact if_pos (by omega);rfl)|(apply bZ;rfl;rfl;rfl;rfl;rfl;(rw [hfl]; omega);exact FV (k := 0) rfl rfl;omega;omega;rfl;rfl;rfl)|(apply bC;rfl;rfl;rfl;rfl;rfl;(rw [aI]; simp only [gB] <;> omega);(exact u9 (by (assumption)))))|refine aE ?_|fail)
 have hre : r = m[j]!.stk.take (k + 1) ++ shr (m[j]!.stk.drop (k + 1)) := by rw [hr]; rfl
 have hrl : r.length = k + 1 + (shr (List.drop (k + 1) m[j]!.stk)).length := by rw [hre,List.length_append,List.length_take]; omega
 (refine aC rfl ?_; refine aP () trivial ?_ ⟨sE ?_,⟨sE ?_,trivial⟩⟩)
 ·rfl
 ·refine congrArg some ?_
  show flat eY (dA m j (AV.own 5 0 (k + 1 - 0 + (shr (List.drop (k + 1) m[j]!.stk)).length) 2)) = _
  rw [hrl]; rfl
 ·refine congrArg some ?_
  show (List.drop 0 (flat cD m[j]!.stk)).take ((k + 1) * 2) ++ flat cD (List.drop 0 (shr (List.drop (k + 1) m[j]!.stk))) = _
  rw [List.drop_zero,List.drop_zero,dL cD (e := 2),cE,← hre]
theorem NU {m:List Cl}{j:Nat}{X:AV}{v:Int}(h:j < m.length):gW (flat eY (dA m j X)) (0 + j * 4 + 0) [iv v] = flat eY (dA (m.set j { m[j]! with val := v }) j X):=by
 have e : dA (m.set j { m[j]! with val := v }) j X = (dA m j X).set j ⟨v, m[j]!.alive, m[j]!.next, X⟩ := by
  have e2 : (m.set j { m[j]! with val := v })[j]! = { m[j]! with val := v } := by rw [aY _ _ (by rw [List.length_set]; exact h),List.getElem_set_self]
  unfold dA
  rw [e2,List.map_set,List.set_set,List.set_set]; rfl
 rw [e]
 exact eI (by rw [c7]; exact h) (by simp) (by rw [iJ h]; rfl)
theorem Nh {m:List Cl}{j:Nat}{X:AV}{b:Bool}(h:j < m.length):gW (flat eY (dA m j X)) (0 + j * 4 + 1) [.v (.bool b)] = flat eY (dA (m.set j { m[j]! with alive := b }) j X):=by
 have e : dA (m.set j { m[j]! with alive := b }) j X = (dA m j X).set j ⟨m[j]!.val, b, m[j]!.next, X⟩ := by
  have e2 : (m.set j { m[j]! with alive := b })[j]! = { m[j]! with alive := b } := by rw [aY _ _ (by rw [List.length_set]; exact h),List.getElem_set_self]
  unfold dA
  rw [e2,List.map_set,List.set_set,List.set_set]; rfl
 rw [e]
 exact eI (by rw [c7]; exact h) (by simp) (by rw [iJ h]; rfl)
theorem r9 (m:List Cl) (hm:OkM m) (x:Pt):PC Tryz.prog 119 [sl bO m,nS x] (fun r => r = .tup [sl bO (dQ m x false),iv (pC m x),iv (a8 m x false)]):=by
 have hml := hm.l
 by_cases hk : a8 m x false = 0
 ·obtain ⟨c, t⟩ := x
  obtain ⟨h1,h2,h3,h4,_⟩ := dM hk
  obtain ⟨j,rfl⟩ := Int.eq_ofNat_of_zero_le (show 0 ≤ c from h1)
  have hj : j < m.length := by have : (j : Int) < m.length := h2;omega
  obtain ⟨k,hkk⟩ := Int.eq_ofNat_of_zero_le (show 0 ≤ cA m[j]!.stk t from h4)
  obtain ⟨r,hr⟩ : ∃ r,r = gV m[j]!.stk k false := ⟨_,rfl⟩
  have hto := Bs m j t r k m.length hm rfl hj hkk h3 hr
  have hog := iJ (m := m) (j := j) (X := .own (0 + 1 + 3 + 3) 0 r.length 2) hj
  have hol := c7 (m := m) (j := j) (X := .own (0 + 1 + 3 + 3) 0 r.length 2)
  refine aB Tryz.func119 Tryz.ntmps119 ?_
  repeat' (first|(apply aF;first|(apply qI (j := j);rfl;exact vN m j hm hj;rfl;rfl)|(apply yN (m := m) (j := j) (t := t) (r := r) (n := m.length);rfl;rfl;rfl;rfl;rfl;rfl;exact hto;rfl;rfl))|refine aE ?_|refine bH ?_|fail)
  refine aO (Le.cls (o := 2) (q := 7) (j := j) (k := r.length) (m := m) (r := r) rfl rfl rfl hj (by decide)) ?_
  refine aO (Le.frzD (d := 4) (i := 2) rfl rfl) ?_
  rw [hog]
  refine aC (l := [.imm m.length (flat bO (m.set j { m[j]! with stk := r })),iv m[j]!.val,iv 0]) rfl ?_
  have eM : dQ m ⟨j, t⟩ false = m.set j { m[j]! with stk := r } := by
   unfold dQ uL;rw [if_pos hk]; dsimp only
   rw [Int.toNat_natCast,hkk,Int.toNat_natCast,hr]
  have eN : pC m ⟨j,t⟩ = m[j]!.val := by unfold pC;rw [if_pos hk]; rfl
  rw [eM,eN,hk,eW (by rw [List.length_set])]
  exact ⟨rfl,by exact Pur.pf⟩
 ·refine aB Tryz.func119 Tryz.ntmps119 ?_
  repeat' (first|(apply aF;first|(apply iM;rfl;exact kV m hm;rfl;rfl)|(apply oE (m := m) (x := x) (wr := false) (n := m.length);rfl;rfl;rfl;rfl;exact pF m x false _ hm rfl hk;rfl;rfl))|refine aE ?_|(refine aK ?_ ?_ <;> intro hc hq <;> try (exfalso;omega))|fail)
  (refine aO (Le.frzD (d := 4) (i := 2) rfl rfl) ?_; refine aC rfl ?_)
  refine ⟨?_,by exact Pur.pf⟩
  simp only [aM]
  unfold dQ pC;rw [if_neg hk,if_neg hk]
theorem C1 (m:List Cl) (hm:OkM m) (x:Pt):PC Tryz.prog 156 [sl bO m,nS x] (fun r => r = .tup [sl bO (k6 m x),iv (a8 m x true)]):=by
 have hml := hm.l
 by_cases hk : a8 m x true = 0
 ·obtain ⟨c, t⟩ := x
  obtain ⟨h1,h2,h3,h4,hu⟩ := dM hk
  obtain ⟨j,rfl⟩ := Int.eq_ofNat_of_zero_le (show 0 ≤ c from h1)
  have hj : j < m.length := by have : (j : Int) < m.length := h2;omega
  obtain ⟨k,hkk⟩ := Int.eq_ofNat_of_zero_le (show 0 ≤ cA m[j]!.stk t from h4)
  have huk : m[j]!.stk[k]!.uq = true := by
   have h : m[j]!.stk[(cA m[j]!.stk t).toNat]!.uq = true := hu rfl
   rwa [hkk,Int.toNat_natCast] at h
  have htw := vV m j t k m.length hm rfl hj hkk h3 huk
  have hrl : (m[j]!.stk.take (k + 1)).length = k + 1 := by
   have hb := eX m[j]!.stk t
   rw [List.length_take]; omega
  have hol := c7 (m := m) (j := j) (X := .own (0 + 1 + 2) 0 (k + 1) 2)
  have hls : (m.set j { m[j]! with alive := false }).length = m.length := List.length_set
  refine aB Tryz.func156 Tryz.ntmps156 ?_
  repeat' (first|(apply aF;first|(apply qI (j := j);rfl;exact vN m j hm hj;rfl;rfl)|(apply xH (m := m) (j := j) (t := t) (k := k) (n := m.length);rfl;rfl;rfl;rfl;rfl;rfl;exact htw;rfl;rfl)|(apply bC;rfl;rfl;rfl;rfl;rfl;(rw [aI]; simp only [List.length_append,List.length_cons,List.length_nil]; omega);exact Nh hj))|refine aE ?_|fail)
  refine aO (Le.cls (o := 2) (q := 3) (j := j) (k := k + 1) (m := m.set j { m[j]! with alive := false }) (r := m[j]!.stk.take (k + 1)) rfl rfl hrl.symm (by rw [hls]; exact hj) (by decide)) ?_
  refine aO (Le.frzD (d := 4) (i := 2) rfl rfl) ?_
  rw [lV hj,set_set]
  refine aC (l := [.imm m.length (flat bO (m.set j { m[j]! with alive := false,stk := m[j]!.stk.take (k + 1) })),iv 0]) rfl ?_
  have eM : k6 m ⟨j, t⟩ = m.set j { m[j]! with alive := false, stk := m[j]!.stk.take (k + 1) } := by
   unfold k6 uL;rw [if_pos hk]; dsimp only
   rw [Int.toNat_natCast,hkk,Int.toNat_natCast]; unfold gV;rw [if_pos rfl]
  rw [eM,hk,eW (by rw [List.length_set])]
  exact ⟨rfl,by exact Pur.pf⟩
 ·refine aB Tryz.func156 Tryz.ntmps156 ?_
  repeat' (first|(apply aF;first|(apply iM;rfl;exact kV m hm;rfl;rfl)|(apply oE (m := m) (x := x) (wr := true) (n := m.length);rfl;rfl;rfl;rfl;exact pF m x true _ hm rfl hk;rfl;rfl))|refine aE ?_|(refine aK ?_ ?_ <;> intro hc hq <;> try (exfalso;omega))|fail)
  (refine aO (Le.frzD (d := 4) (i := 2) rfl rfl) ?_; refine aC rfl ?_)
  refine ⟨?_,by exact Pur.pf⟩
  simp only [aM]
  unfold k6;rw [if_neg hk]
theorem Ab (m:List Cl) (hm:OkM m) (x:Pt) (v:Int):PC Tryz.prog 120 [sl bO m,nS x,iv v] (fun r => r = .tup [sl bO (yL m x v),iv (yR m x v)]):=by
 have hml := hm.l
 by_cases hv : 0 ≤ v ∧ v ≤ 9
 case neg =>
  have hwk : yR m x v = 4 := by unfold yR;rw [if_neg hv]
  have e : yL m x v = m := by unfold yL;rw [if_neg (by rw [hwk]; decide)]
  refine aB Tryz.func120 Tryz.ntmps120 ?_
  repeat' (first|(apply aF;first|(apply iM;rfl;exact kV m hm;rfl;rfl)|(apply aA (k := 47);rfl;(apply cY);(rfl);rfl))|refine aE ?_|(refine aK ?_ ?_ <;> intro hc hq <;> try (exfalso;omega))|fail)
  all_goals (try (exfalso;omega))
  all_goals (
   (refine aO (Le.frzD (d := 6) (i := 2) rfl rfl) ?_; refine aC rfl ?_)
   refine ⟨?_,by exact Pur.pf⟩
   simp only [aM]
   rw [e,hwk])
 case pos =>
 have hwk : yR m x v = a8 m x true := by unfold yR;rw [if_pos hv]
 by_cases hk : a8 m x true = 0
 ·obtain ⟨c, t⟩ := x
  obtain ⟨h1,h2,h3,h4,hu⟩ := dM hk
  obtain ⟨j,rfl⟩ := Int.eq_ofNat_of_zero_le (show 0 ≤ c from h1)
  have hj : j < m.length := by have : (j : Int) < m.length := h2;omega
  obtain ⟨k,hkk⟩ := Int.eq_ofNat_of_zero_le (show 0 ≤ cA m[j]!.stk t from h4)
  have huk : m[j]!.stk[k]!.uq = true := by
   have h : m[j]!.stk[(cA m[j]!.stk t).toNat]!.uq = true := hu rfl
   rwa [hkk,Int.toNat_natCast] at h
  have htw := vV m j t k m.length hm rfl hj hkk h3 huk
  have hrl : (m[j]!.stk.take (k + 1)).length = k + 1 := by
   have hb := eX m[j]!.stk t
   rw [List.length_take]; omega
  have hol := c7 (m := m) (j := j) (X := .own (0 + 1 + 2) 0 (k + 1) 2)
  have hls : (m.set j { m[j]! with val := v }).length = m.length := List.length_set
  refine aB Tryz.func120 Tryz.ntmps120 ?_
  repeat' (first|(apply aF;first|(apply qI (j := j);rfl;exact vN m j hm hj;rfl;rfl)|(apply xH (m := m) (j := j) (t := t) (k := k) (n := m.length);rfl;rfl;rfl;rfl;rfl;rfl;exact htw;rfl;rfl)|(apply bC;rfl;rfl;rfl;rfl;rfl;(rw [aI]; simp only [List.length_append,List.length_cons,List.length_nil]; omega);exact NU hj)|(apply aA (k := 47);rfl;(apply cY);(rfl);rfl))|refine aE ?_|(refine aK ?_ ?_ <;> intro hc hq <;> try (exfalso;omega))|fail)
  refine aO (Le.cls (o := 2) (q := 3) (j := j) (k := k + 1) (m := m.set j { m[j]! with val := v }) (r := m[j]!.stk.take (k + 1)) rfl rfl hrl.symm (by rw [hls]; exact hj) (by decide)) ?_
  refine aO (Le.frzD (d := 6) (i := 2) rfl rfl) ?_
  rw [lV hj,set_set]
  refine aC (l := [.imm m.length (flat bO (m.set j { m[j]! with val := v,stk := m[j]!.stk.take (k + 1) })),iv 0]) rfl ?_
  have eM : yL m ⟨j, t⟩ v = m.set j { m[j]! with val := v, stk := m[j]!.stk.take (k + 1) } := by
   unfold yL uL;rw [hwk,if_pos hk]; dsimp only
   rw [Int.toNat_natCast,hkk,Int.toNat_natCast]; unfold gV;rw [if_pos rfl]
  rw [eM,hwk,hk,eW (by rw [List.length_set])]
  exact ⟨rfl,by exact Pur.pf⟩
 ·refine aB Tryz.func120 Tryz.ntmps120 ?_
  repeat' (first|(apply aF;first|(apply iM;rfl;exact kV m hm;rfl;rfl)|(apply oE (m := m) (x := x) (wr := true) (n := m.length);rfl;rfl;rfl;rfl;exact pF m x true _ hm rfl hk;rfl;rfl)|(apply aA (k := 47);rfl;(apply cY);(rfl);rfl))|refine aE ?_|(refine aK ?_ ?_ <;> intro hc hq <;> try (exfalso;omega))|fail)
  (refine aO (Le.frzD (d := 6) (i := 2) rfl rfl) ?_; refine aC rfl ?_)
  refine ⟨?_,by exact Pur.pf⟩
  simp only [aM]
  unfold yL;rw [hwk,if_neg hk]
theorem DU (m:List Cl) (hm:OkM m) (v:Int):PC Tryz.prog 153 [sl bO m,iv v] (fun r => r = .tup [sl bO (m ++ [xC v]),.agg [iv m.length,iv 0]]):=by
 have hml := hm.l
 refine aB Tryz.func153 Tryz.ntmps153 ?_
 repeat' (first|(apply aF;first|(apply iM;rfl;exact kV m hm;rfl;rfl)|(apply aJ (t := _);rfl;rfl;rfl;(first|exact (rfl:_=some [_,_])|exact (rfl:_=some [_,_,_,_]));rfl;rfl))|refine aE ?_|fail)
 have e2 : AV.imm (m.length + 1) (((flat bO m).drop 0).take (m.length * 4) ++ [iv v, bv true, iv 1, .imm 1 [iv 0, bv true]]) = sl bO (m ++ [xC v]) := by
  have e : ((flat bO m).drop 0).take (m.length * 4) ++ [iv v,bv true,iv 1,.imm 1 [iv 0,bv true]] = flat bO (m ++ [xC v]) := fJ rfl rfl
  rw [e]; exact eW (by rw [List.length_append]; rfl)
 refine aO (Le.frzD (d := 4) (i := 5) rfl rfl) ?_
 refine aC (l := [AV.imm (m.length + 1) (((flat bO m).drop 0).take (m.length * 4) ++ [iv v,bv true,iv 1,.imm 1 [iv 0,bv true]]),.agg [iv m.length,iv 0]]) rfl ?_
 rw [e2]
 exact ⟨rfl,by exact Pur.pf⟩
theorem Dr (m:List Cl) (hm:OkM m) (v:Int):PC Tryz.prog 115 [sl bO m,iv v] (fun r => r = .tup (if 0 ≤ v ∧ v ≤ 9 ∧ m.length < 200 then [sl bO (m ++ [xC v]),.agg [iv m.length,iv 0],bv true] else [sl bO [],.agg [iv 0,iv 0],bv false])):=by
 have hml := hm.l
 have hcv := iG m hm
 have hnc := DU m hm v
 refine aB Tryz.func115 Tryz.ntmps115 ?_
 repeat' (first|(apply aF;first|(apply aA (k := 152);rfl;exact hcv;exact Pur.pf;rfl)|(apply aA (k := 153);rfl;exact hnc;exact Pur.pf;rfl)|(apply aA (k := 47);rfl;(apply cY);(rfl);rfl))|refine aE ?_|(refine aK ?_ ?_ <;> intro hc hq <;> try (exfalso;omega))|(refine bK ?_ ?_ <;> intro hg hq <;> try (exfalso;omega))|refine bH ?_|fail)
 ·refine aO (Le.nilImm (d := 4) rfl) ?_
  exact aC (l := [sl bO [],.agg [iv 0,iv 0],bv false]) rfl ⟨by rw [if_neg (by omega)]; rfl,rfl⟩
 ·exact aC (l := [sl bO (m ++ [xC v]),.agg [iv m.length,iv 0],bv true]) rfl ⟨by rw [if_pos (by omega)]; rfl,by exact Pur.pf⟩
 ·refine aO (Le.nilImm (d := 4) rfl) ?_
  exact aC (l := [sl bO [],.agg [iv 0,iv 0],bv false]) rfl ⟨by rw [if_neg (by omega)]; rfl,rfl⟩
theorem Hx {m:List Cl}{j:Nat}{t:Int}{r:List Tg}{n:Nat}{x0 x1 x2:Operand}{i0 i1:Nat}(ha0:ev (lk tsl) x0 = some (.own i0 0 n 4)) (ha1:ev (lk tsl) x1 = some (.agg [iv (j:Int),iv t])) (ha2:ev (lk tsl) x2 = some (bv true)) (hH0:aT hsl i0 = some (flat eY (dA m j (.own i1 0 m[j]!.stk.length 2)))) (hH1:aT hsl i1 = some (flat cD m[j]!.stk)) (hdd:Go.AL.distinct [i0,i1] = true) (hmc:MC Tryz.prog 155 [.own 0 0 n 4,.agg [iv (j:Int),iv t],bv true] [(0,some (flat eY (dA m j (.own 1 0 m[j]!.stk.length 2)))),(1,some (flat cD m[j]!.stk))] 2 (fun _:Unit => True) (fun _ => iv 0) (fun _ => [(0,some (flat eY (dA m j (.own 1 0 r.length 2)))),(1,some (flat cD r))])) (hM:Nat.ble (nidl + 0) a6 = true) (hN:Nat.blt d N = true){md':Md}[hmd:MdA md (fF [x0,x1,x2] ++ [.inr i0,.inr i1]) (List.map Sum.inr (List.map Prod.fst ([(i0,some (flat eY (dA m j (.own i1 0 r.length 2)))),(i1,some (flat cD r))]:List (Nat × Option (List AV)))) ++ [.inl d]) md'] (kk:RW Tryz.prog N all Q md' rest ⟨(d,iv 0) :: tsl,gD hsl [(i0,some (flat eY (dA m j (.own i1 0 r.length 2)))),(i1,some (flat cD r))],nidl + 0,z0⟩):RW Tryz.prog N all Q md (⟨some d,.call ⟨.value (.func 155),#[x0,x1,x2],tys⟩,ty,pos,af,none⟩ :: rest) ⟨tsl,hsl,nidl,z0⟩:=by
 exact aX (l := [x0,x1,x2]) [i0,i1] 2 [(i0,some (flat eY (dA m j (.own i1 0 r.length 2)))),(i1,some (flat cD r))] hmc (avs := [.own i0 0 n 4,.agg [iv (j : Int),iv t],bv true]) (by simp only [evL,ha0,ha1,ha2]) hdd hM hN (md' := md') (hmd := hmd) kk
theorem HV (m:List Cl) (j:Nat) (t:Int) (r:List Tg) (k n:Nat) (hm:OkM m) (hn:n = m.length) (hj:j < m.length) (hk:cA m[j]!.stk t = (k:Int)) (hal:m[j]!.alive = true) (hu:m[j]!.stk[k]!.uq = true) (hre:m[j]!.stk.take (k + 1) = r) (hrk:k + 1 = r.length):MC Tryz.prog 155 [.own 0 0 n 4,.agg [iv (j:Int),iv t],bv true] [(0,some (flat eY (dA m j (.own 1 0 m[j]!.stk.length 2)))),(1,some (flat cD m[j]!.stk))] 2 (fun _:Unit => True) (fun _ => iv 0) (fun _ => [(0,some (flat eY (dA m j (.own 1 0 r.length 2)))),(1,some (flat cD r))]):=by
 have h := vV m j t k n hm hn hj hk hal hu
 rw [hre,hrk] at h
 exact h
theorem LK (m:List Cl) (hm:OkM m) (j k:Nat) (t:Int) (r:List Tg) (hj:j < m.length) (hkk:cA m[j]!.stk t = (k:Int)) (hk:a8 m ⟨(j:Int),t⟩ false = 0) (hr:r = gV m[j]!.stk k false):PC Tryz.prog 117 [sl bO m,.agg [iv (j:Int),iv t],bv false] (fun z => z = .tup [sl bO (j9 m m j false r),nS (kA m j r),iv (kD m j r)]):=by
 have hml := hm.l
 obtain ⟨h1,h2,h3,h4,hu⟩ := dM hk
 have hc := ((cQ m).1 hm).2 j hj
 have hb := eX m[j]!.stk t
 have hrl : r.length ≤ 200 := by rw [hr]; exact Nat.le_trans tchS_sub.length_le hc.l.2
 have hnx := hc.n
 obtain ⟨_,e2,_⟩ := xV hk (r := r) (by rw [hr]; show _ = gV m[j]!.stk (cA m[j]!.stk t).toNat false;rw [hkk]; rfl)
 have e2' : nA m ⟨(j : Int),t⟩ false = j9 m m j false r := e2
 have hok := hm.ln ⟨(j : Int),t⟩ false
 rw [e2'] at hok
 have hto := Bs m j t r k m.length hm rfl hj hkk h3 hr
 have hog := iJ (m := m) (j := j) (X := .own (0 + 1 + 1 + 3 + 3) 0 r.length 2) hj
 have hol := c7 (m := m) (j := j) (X := .own (0 + 1 + 1 + 3 + 3) 0 r.length 2)
 have hol2 := c7 (m := m) (j := j) (X := .own (0 + 1 + 1 + 3 + 4 + 1) 0 (r.length + 1) 2)
 have hm2 : (m.set j { m[j]! with next := m[j]!.next + 1 }).length = m.length := List.length_set
 refine aB Tryz.func117 Tryz.ntmps117 ?_
 repeat' (first|(apply aF;first|(apply qI (j := j);rfl;exact vN m j hm hj;rfl;rfl)|(apply yN (m := m) (j := j) (t := t) (r := r) (n := m.length);rfl;rfl;rfl;rfl;rfl;rfl;exact hto;rfl;rfl)|(with_reducible apply aZ (d := 32)))|refine aE ?_|fail)
 refine bY ?_
 rw [hog]
 dsimp only
 by_cases hf : oZ m j r
 ·have eM : j9 m m j false r = m := by unfold j9; rw [if_pos hf]
  have eP : kA m j r = ⟨0,0⟩ := by unfold kA;rw [if_pos hf]
  have eK : kD m j r = 4 := by unfold kD;rw [if_pos hf]
  rw [eM,eP,eK]
  unfold oZ at hf
  repeat' (first|(apply aF;first|(apply iM;rfl;exact kV m hm;rfl;rfl)|(with_reducible apply aZ (d := 44)))|refine aE ?_|(refine aK ?_ ?_ <;> intro hc hq <;> try (exfalso;omega))|(refine bK ?_ ?_ <;> intro hg hq <;> try (exfalso;omega))|fail)
  ·refine aO (Le.frzD (d := 6) (i := 10) rfl rfl) ?_
   exact aC (l := [sl bO m,.agg [iv 0,iv 0],iv 4]) rfl ⟨rfl,by exact Pur.pf⟩
  ·exfalso
   have h : ¬ (dA m j (.own (0 + 1 + 1 + 3 + 3) 0 r.length 2))[j]!.next = 1000 := by assumption
   rw [hog] at h
   dsimp only at h
   omega
  ·refine aO (Le.frzD (d := 6) (i := 10) rfl rfl) ?_
   exact aC (l := [sl bO m,.agg [iv 0,iv 0],iv 4]) rfl ⟨rfl,by exact Pur.pf⟩
 ·have eM : j9 m m j false r = m.set j (psh { m[j]! with stk := r } false) := by unfold j9; rw [if_neg hf]
  have eP : kA m j r = ⟨j,m[j]!.next⟩ := by unfold kA;rw [if_neg hf]
  have eK : kD m j r = 0 := by unfold kD;rw [if_neg hf]
  rw [eM] at hok
  rw [eM,eP,eK]
  unfold oZ at hf
  have hown := kV _ hok
  repeat' (first|(apply aF;first|(with_reducible apply aZ (d := 41))|(with_reducible apply aZ (d := 54)))|refine aE ?_|(refine aK ?_ ?_ <;> intro hc hq <;> try (exfalso;omega))|(refine bK ?_ ?_ <;> intro hg hq <;> try (exfalso;omega))|fail)
  ·exfalso
   have h : (dA m j (.own (0 + 1 + 1 + 3 + 3) 0 r.length 2))[j]!.next = 1000 := by assumption
   rw [hog] at h
   dsimp only at h
   omega
  ·refine bY ?_
   rw [hog]
   dsimp only
   repeat' (first|(apply aF;first|(apply bC;rfl;rfl;rfl;rfl;rfl;(rw [aI,c7]; simp only [List.length_append,List.length_cons,List.length_nil]; omega);(first|exact u9 hj|exact Ai hj))|(apply bZ;rfl;rfl;rfl;rfl;rfl;(rw [aI]; omega);(rfl);omega;omega;(exact tW (by (omega)));rfl;rfl)|(apply aJ (t := _);rfl;rfl;rfl;(exact (rfl:_=some [_,_]));rfl;rfl))|refine aE ?_|fail)
   refine AW.le ?_ (Le.cls (o := 3) (q := 0 + 1 + 1 + 3 + 4 + 1) (j := j) (k := r.length + 1) (m := m.set j { m[j]! with next := m[j]!.next + 1 }) (r := r ++ [⟨m[j]!.next,false⟩]) rfl rfl (by (rw [List.length_append]; rfl)) (by omega) (by decide))
   refine AW.le ?_ (Le.frzD (d := 9) (i := 3) rfl rfl)
   have e : (m.set j { m[j]! with next := m[j]!.next + 1 }).set j { (m.set j { m[j]! with next := m[j]!.next + 1 })[j]! with stk := r ++ [⟨m[j]!.next, false⟩] } = m.set j (psh { m[j]! with stk := r } false) := by
    rw [lV hj,set_set]; rfl
   rw [e,eW (f := bO) (xs := m.set j (psh { m[j]! with stk := r } false)) (by rw [List.length_set])]
   repeat' (first|(apply aF;(apply iM;rfl;exact hown;rfl;rfl))|refine aE ?_|refine bH ?_|fail)
   refine aO (Le.frzD (d := 6) (i := 12) rfl rfl) ?_
   exact aC (l := [sl bO (m.set j (psh { m[j]! with stk := r } false)),.agg [iv (j : Int),iv m[j]!.next],iv 0]) rfl ⟨rfl,by exact Pur.pf⟩
  all_goals (exfalso;omega)
theorem LZ (m:List Cl) (hm:OkM m) (j k:Nat) (t:Int) (r:List Tg) (hj:j < m.length) (hkk:cA m[j]!.stk t = (k:Int)) (hk:a8 m ⟨(j:Int),t⟩ true = 0) (hr:r = gV m[j]!.stk k true):PC Tryz.prog 117 [sl bO m,.agg [iv (j:Int),iv t],bv true] (fun z => z = .tup [sl bO (j9 m m j true r),nS (kA m j r),iv (kD m j r)]):=by
 have hml := hm.l
 obtain ⟨h1,h2,h3,h4,hu⟩ := dM hk
 have hc := ((cQ m).1 hm).2 j hj
 have hb := eX m[j]!.stk t
 have hrl : r.length ≤ 200 := by rw [hr]; exact Nat.le_trans tchS_sub.length_le hc.l.2
 have hnx := hc.n
 obtain ⟨_,e2,_⟩ := xV hk (r := r) (by rw [hr]; show _ = gV m[j]!.stk (cA m[j]!.stk t).toNat true;rw [hkk]; rfl)
 have e2' : nA m ⟨(j : Int),t⟩ true = j9 m m j true r := e2
 have hok := hm.ln ⟨(j : Int),t⟩ true
 rw [e2'] at hok
 have huk : m[j]!.stk[k]!.uq = true := by
  have h : m[j]!.stk[(cA m[j]!.stk t).toNat]!.uq = true := hu rfl
  rwa [hkk,Int.toNat_natCast] at h
 have hre : m[j]!.stk.take (k + 1) = r := by rw [hr]; unfold gV;rw [if_pos rfl]
 have hrk : k + 1 = r.length := by rw [← hre,List.length_take]; omega
 have hto := HV m j t r k m.length hm rfl hj hkk h3 huk hre hrk
 clear hre hrk huk hu hr hkk
 have hog := iJ (m := m) (j := j) (X := .own (0 + 1 + 1 + 2) 0 r.length 2) hj
 have hol := c7 (m := m) (j := j) (X := .own (0 + 1 + 1 + 2) 0 r.length 2)
 have hol2 := c7 (m := m) (j := j) (X := .own (0 + 1 + 1 + 3 + 0 + 1) 0 (r.length + 1) 2)
 have hm2 : (m.set j { m[j]! with next := m[j]!.next + 1 }).length = m.length := List.length_set
 refine aB Tryz.func117 Tryz.ntmps117 ?_
 repeat' (first|(apply aF;first|(apply qI (j := j);rfl;exact vN m j hm hj;rfl;rfl)|(apply Hx (m := m) (j := j) (t := t) (r := r) (n := m.length);rfl;rfl;rfl;rfl;rfl;rfl;exact hto;rfl;rfl)|(with_reducible apply aZ (d := 32)))|refine aE ?_|fail)
 refine bY ?_
 rw [hog]
 dsimp only
 by_cases hf : oZ m j r
 ·have eM : j9 m m j true r = m := by unfold j9; rw [if_pos hf]
  have eP : kA m j r = ⟨0,0⟩ := by unfold kA;rw [if_pos hf]
  have eK : kD m j r = 4 := by unfold kD;rw [if_pos hf]
  rw [eM,eP,eK]
  unfold oZ at hf
  repeat' (first|(apply aF;first|(apply iM;rfl;exact kV m hm;rfl;rfl)|(with_reducible apply aZ (d := 44)))|refine aE ?_|(refine aK ?_ ?_ <;> intro hc hq <;> try (exfalso;omega))|(refine bK ?_ ?_ <;> intro hg hq <;> try (exfalso;omega))|fail)
  ·refine aO (Le.frzD (d := 6) (i := 6) rfl rfl) ?_
   exact aC (l := [sl bO m,.agg [iv 0,iv 0],iv 4]) rfl ⟨rfl,by exact Pur.pf⟩
  ·exfalso
   have h : ¬ (dA m j (.own (0 + 1 + 1 + 2) 0 r.length 2))[j]!.next = 1000 := by assumption
   rw [hog] at h
   dsimp only at h
   omega
  ·refine aO (Le.frzD (d := 6) (i := 6) rfl rfl) ?_
   exact aC (l := [sl bO m,.agg [iv 0,iv 0],iv 4]) rfl ⟨rfl,by exact Pur.pf⟩
 ·have eM : j9 m m j true r = m.set j (psh { m[j]! with stk := r } true) := by unfold j9; rw [if_neg hf]
  have eP : kA m j r = ⟨j,m[j]!.next⟩ := by unfold kA;rw [if_neg hf]
  have eK : kD m j r = 0 := by unfold kD;rw [if_neg hf]
  rw [eM] at hok
  rw [eM,eP,eK]
  unfold oZ at hf
  have hown := kV _ hok
  repeat' (first|(apply aF;first|(with_reducible apply aZ (d := 41))|(with_reducible apply aZ (d := 54)))|refine aE ?_|(refine aK ?_ ?_ <;> intro hc hq <;> try (exfalso;omega))|(refine bK ?_ ?_ <;> intro hg hq <;> try (exfalso;omega))|fail)
  ·exfalso
   have h : (dA m j (.own (0 + 1 + 1 + 2) 0 r.length 2))[j]!.next = 1000 := by assumption
   rw [hog] at h
   dsimp only at h
   omega
  ·refine bY ?_
   rw [hog]
   dsimp only
   repeat' (first|(apply aF;first|(apply bC;rfl;rfl;rfl;rfl;rfl;(rw [aI,c7]; simp only [List.length_append,List.length_cons,List.length_nil]; omega);(first|exact u9 hj|exact Ai hj))|(apply bZ;rfl;rfl;rfl;rfl;rfl;(rw [aI]; omega);(rfl);omega;omega;(exact tW (by (omega)));rfl;rfl)|(apply aJ (t := _);rfl;rfl;rfl;(exact (rfl:_=some [_,_]));rfl;rfl))|refine aE ?_|fail)
   refine AW.le ?_ (Le.cls (o := 3) (q := 0 + 1 + 1 + 3 + 0 + 1) (j := j) (k := r.length + 1) (m := m.set j { m[j]! with next := m[j]!.next + 1 }) (r := r ++ [⟨m[j]!.next,true⟩]) rfl rfl (by (rw [List.length_append]; rfl)) (by omega) (by decide))
   refine AW.le ?_ (Le.frzD (d := 9) (i := 3) rfl rfl)
   have e : (m.set j { m[j]! with next := m[j]!.next + 1 }).set j { (m.set j { m[j]! with next := m[j]!.next + 1 })[j]! with stk := r ++ [⟨m[j]!.next, true⟩] } = m.set j (psh { m[j]! with stk := r } true) := by
    rw [lV hj,set_set]; rfl
   rw [e,eW (f := bO) (xs := m.set j (psh { m[j]! with stk := r } true)) (by rw [List.length_set])]
   repeat' (first|(apply aF;(apply iM;rfl;exact hown;rfl;rfl))|refine aE ?_|refine bH ?_|fail)
   refine aO (Le.frzD (d := 6) (i := 8) rfl rfl) ?_
   exact aC (l := [sl bO (m.set j (psh { m[j]! with stk := r } true)),.agg [iv (j : Int),iv m[j]!.next],iv 0]) rfl ⟨rfl,by exact Pur.pf⟩
  all_goals (exfalso;omega)
theorem LX (m:List Cl) (hm:OkM m) (x:Pt) (u:Bool):PC Tryz.prog 117 [sl bO m,nS x,bv u] (fun r => r = .tup [sl bO (nA m x u),nS (sZ m x u),iv (m5 m x u)]):=by
 have hml := hm.l
 by_cases hk : a8 m x u = 0
 ·obtain ⟨c, t⟩ := x
  obtain ⟨h1,h2,h3,h4,hu⟩ := dM hk
  obtain ⟨j,rfl⟩ := Int.eq_ofNat_of_zero_le (show 0 ≤ c from h1)
  have hj : j < m.length := by have : (j : Int) < m.length := h2;omega
  obtain ⟨k,hkk⟩ := Int.eq_ofNat_of_zero_le (show 0 ≤ cA m[j]!.stk t from h4)
  obtain ⟨r,hr⟩ : ∃ r,r = gV m[j]!.stk k u := ⟨_,rfl⟩
  obtain ⟨e1,e2,e3⟩ := xV hk (r := r) (by rw [hr]; show _ = gV m[j]!.stk (cA m[j]!.stk t).toNat u;rw [hkk]; rfl)
  rw [e1,e2,e3]
  cases u
  ·exact LK m hm j k t r hj hkk hk hr
  ·exact LZ m hm j k t r hj hkk hk hr
 ·obtain ⟨e1, e2, e3⟩ := Ii hk
  rw [e1,e2,e3]
  refine aB Tryz.func117 Tryz.ntmps117 ?_
  repeat' (first|(apply aF;first|(apply iM;rfl;exact kV m hm;rfl;rfl)|(apply oE (m := m) (x := x) (wr := u) (n := m.length);rfl;rfl;rfl;rfl;exact pF m x u _ hm rfl hk;rfl;rfl))|refine aE ?_|(refine aK ?_ ?_ <;> intro hc hq <;> try (exfalso;omega))|fail)
  refine aO (Le.frzD (d := 6) (i := 3) rfl rfl) ?_
  exact aC (l := [sl bO m,.agg [iv 0,iv 0],iv (a8 m x u)]) rfl ⟨rfl,by exact Pur.pf⟩
abbrev mO (ts : List Int) (bd : List AL.Stmt) (pts : List Pnt) (i1 i2 : Nat) (s : Mc) : List AV := [aG ts bd pts,.own i1 0 ts.length 4,sl bO s.cells,.own i2 0 s.read.length 1]
theorem CG {ts:List Int}{bd:List AL.Stmt}{pts:List Pnt}{s:Mc}{v:Nat}{x0 x1:Operand}{i0 i1 i2:Nat}(ha0:ev (lk tsl) x0 = some (.optr i0 0)) (ha1:ev (lk tsl) x1 = some (iv (v:Int))) (hH0:aT hsl i0 = some (mO ts bd pts i1 i2 s)) (hH1:aT hsl i1 = some (flat dC s.slots)) (hH2:aT hsl i2 = some (flat cI s.read)) (hdd:Go.AL.distinct [i0,i1,i2] = true) (hmc:MC Tryz.prog 121 [.optr 0 0,iv (v:Int)] [(0,some (mO ts bd pts 1 2 s)),(1,some (flat dC s.slots)),(2,some (flat cI s.read))] 3 (fun _:Unit => True) (fun _ => iv (mE (a8 s.cells s.slots[v]!.ptr true))) (fun _ => [(0,some ([aG ts bd pts,.own 1 0 ts.length 4,sl bO (k6 s.cells s.slots[v]!.ptr),.own 2 0 s.read.length 1])),(1,some (flat dC s.slots)),(2,some (flat cI s.read))])) (hM:Nat.ble (nidl + 0) a6 = true) (hN:Nat.blt d N = true){md':Md}[hmd:MdA md (fF [x0,x1] ++ [.inr i0,.inr i1,.inr i2]) (List.map Sum.inr (List.map Prod.fst ([(i0,some ([aG ts bd pts,.own i1 0 ts.length 4,sl bO (k6 s.cells s.slots[v]!.ptr),.own i2 0 s.read.length 1])),(i1,some (flat dC s.slots)),(i2,some (flat cI s.read))]:List (Nat × Option (List AV)))) ++ [.inl d]) md'] (kk:RW Tryz.prog N all Q md' rest ⟨(d,iv (mE (a8 s.cells s.slots[v]!.ptr true))) :: tsl,gD hsl [(i0,some ([aG ts bd pts,.own i1 0 ts.length 4,sl bO (k6 s.cells s.slots[v]!.ptr),.own i2 0 s.read.length 1])),(i1,some (flat dC s.slots)),(i2,some (flat cI s.read))],nidl + 0,z0⟩):RW Tryz.prog N all Q md (⟨some d,.call ⟨.value (.func 121),#[x0,x1],tys⟩,ty,pos,af,none⟩ :: rest) ⟨tsl,hsl,nidl,z0⟩:=by
 exact aX (l := [x0,x1]) [i0,i1,i2] 3 [(i0,some ([aG ts bd pts,.own i1 0 ts.length 4,sl bO (k6 s.cells s.slots[v]!.ptr),.own i2 0 s.read.length 1])),(i1,some (flat dC s.slots)),(i2,some (flat cI s.read))] hmc (avs := [.optr i0 0,iv (v : Int)]) (by simp only [evL,ha0,ha1]) hdd hM hN (md' := md') (hmd := hmd) kk
theorem Ao (ts:List Int) (bd:List AL.Stmt) (pts:List Pnt) (s:Mc) (v:Nat) (hm:OkM s.cells) (hsl:s.slots.length = ts.length) (hv:v < ts.length):MC Tryz.prog 121 [.optr 0 0,iv (v:Int)] [(0,some (mO ts bd pts 1 2 s)),(1,some (flat dC s.slots)),(2,some (flat cI s.read))] 3 (fun _:Unit => True) (fun _ => iv (mE (a8 s.cells s.slots[v]!.ptr true))) (fun _ => [(0,some ([aG ts bd pts,.own 1 0 ts.length 4,sl bO (k6 s.cells s.slots[v]!.ptr),.own 2 0 s.read.length 1])),(1,some (flat dC s.slots)),(2,some (flat cI s.read))]):=by
 have hfc := C1 s.cells hm s.slots[v]!.ptr
 refine aU Tryz.func121 Tryz.ntmps121 ?_
 repeat' (first|(apply aF;first|(apply jN;(case hx|hH => rfl);(case hf|hg|hα => infer_instance);(case hk => omega);(case hj => decide);(case hc => exact (rfl:_=[_,_]));(case h0|hN => rfl))|(apply aA (k := 156);rfl;exact hfc;exact Pur.pf;rfl)|(apply aA (k := 118);rfl;(apply tN);(rfl);rfl))|refine aE ?_|(refine aK ?_ ?_ <;> intro hc hq <;> try (exfalso;omega))|refine bH ?_|fail)
 ·have hk : ¬ a8 s.cells s.slots[v]!.ptr true = 0 := by assumption
  (refine aC rfl ?_; refine aP () trivial ?_ ⟨sE ?_,⟨sE ?_,⟨sE ?_,trivial⟩⟩⟩)
  ·show iv (dZ _) = iv (mE _)
   unfold mE;rw [if_neg hk]
  ·rfl
  ·rfl
  ·rfl
 ·have hk : a8 s.cells s.slots[v]!.ptr true = 0 := by assumption
  (refine aC rfl ?_; refine aP () trivial ?_ ⟨sE ?_,⟨sE ?_,⟨sE ?_,trivial⟩⟩⟩)
  ·rw [hk]; rfl
  ·rfl
  ·rfl
  ·rfl
theorem Qg (ts:List Int) (bd:List AL.Stmt) (pts:List Pnt) (s:Mc) (v:Nat) (y:Sl) (hm:OkM s.cells) (hsl:s.slots.length = ts.length) (hv:v < ts.length):MC Tryz.prog 114 [.optr 0 0,iv (v:Int),Ke y] [(0,some (mO ts bd pts 1 2 s)),(1,some (flat dC s.slots)),(2,some (flat cI s.read))] 3 (fun _:Unit => True) (fun _ => iv (bS ts s v y).2) (fun _ => [(0,some (mO ts bd pts 1 2 (bS ts s v y).1)),(1,some (flat dC (bS ts s v y).1.slots)),(2,some (flat cI (bS ts s v y).1.read))]):=by
 have hfr := Ao ts bd pts s v hm hsl hv
 refine aU Tryz.func114 Tryz.ntmps114 ?_
 repeat' (first|(apply aF;first|(apply CG (ts := ts) (bd := bd) (pts := pts) (s := s) (v := v);rfl;rfl;rfl;rfl;rfl;rfl;exact hfr;rfl;rfl)|(apply bC;rfl;rfl;rfl;rfl;rfl;(rw [aI]; simp only [gB] <;> omega);(exact xO (by (omega)))))|refine aE ?_|(refine aK ?_ ?_ <;> intro hc hq <;> try (exfalso;omega))|(refine bK ?_ ?_ <;> intro hg hq <;> try (exfalso;omega))|refine bH ?_|fail)
 ·have hp : bS ts s v y = (⟨s.slots.set v y, k6 s.cells s.slots[v]!.ptr, s.read⟩, mE (a8 s.cells s.slots[v]!.ptr true)) := if_pos ⟨by assumption, by assumption⟩
  rw [hp]
  (refine aC rfl ?_; refine aP () trivial ?_ ⟨sE ?_,⟨sE ?_,⟨sE ?_,trivial⟩⟩⟩)
  ·rfl
  ·rfl
  ·rfl
  ·rfl
 all_goals (
  have hp : bS ts s v y = (⟨s.slots.set v y, s.cells, s.read⟩, -1) := if_neg (by
   rintro ⟨q1,q2⟩
   first|(exact (by assumption : ¬ ts[v]! = 2) q1)|(rw [(by assumption : s.slots[v]!.set = false)] at q2;exact absurd q2 (by decide)))
  rw [hp]
  (refine aC rfl ?_; refine aP () trivial ?_ ⟨sE ?_,⟨sE ?_,⟨sE ?_,trivial⟩⟩⟩)
  ·rfl
  ·rfl
  ·rfl
  ·rfl)
theorem L5 {ts:List Int}{bd:List AL.Stmt}{pts:List Pnt}{s:Mc}{x0:Operand}{i0 i1 i2:Nat}(ha0:ev (lk tsl) x0 = some (.optr i0 0)) (hH0:aT hsl i0 = some (mO ts bd pts i1 i2 s)) (hH1:aT hsl i1 = some (flat dC s.slots)) (hH2:aT hsl i2 = some (flat cI s.read)) (hdd:Go.AL.distinct [i0,i1,i2] = true) (hmc:MC Tryz.prog 122 [.optr 0 0] [(0,some (mO ts bd pts 1 2 s)),(1,some (flat dC s.slots)),(2,some (flat cI s.read))] 3 (fun _:Unit => True) (fun _ => iv (cL ts ts.length 0 s).2) (fun _ => [(0,some (mO ts bd pts 1 2 (cL ts ts.length 0 s).1)),(1,some (flat dC (cL ts ts.length 0 s).1.slots)),(2,some (flat cI (cL ts ts.length 0 s).1.read))])) (hM:Nat.ble (nidl + 0) a6 = true) (hN:Nat.blt d N = true){md':Md}[hmd:MdA md (fF [x0] ++ [.inr i0,.inr i1,.inr i2]) (List.map Sum.inr (List.map Prod.fst ([(i0,some (mO ts bd pts i1 i2 (cL ts ts.length 0 s).1)),(i1,some (flat dC (cL ts ts.length 0 s).1.slots)),(i2,some (flat cI (cL ts ts.length 0 s).1.read))]:List (Nat × Option (List AV)))) ++ [.inl d]) md'] (kk:RW Tryz.prog N all Q md' rest ⟨(d,iv (cL ts ts.length 0 s).2) :: tsl,gD hsl [(i0,some (mO ts bd pts i1 i2 (cL ts ts.length 0 s).1)),(i1,some (flat dC (cL ts ts.length 0 s).1.slots)),(i2,some (flat cI (cL ts ts.length 0 s).1.read))],nidl + 0,z0⟩):RW Tryz.prog N all Q md (⟨some d,.call ⟨.value (.func 122),#[x0],tys⟩,ty,pos,af,none⟩ :: rest) ⟨tsl,hsl,nidl,z0⟩:=by
 exact aX (l := [x0]) [i0,i1,i2] 3 [(i0,some (mO ts bd pts i1 i2 (cL ts ts.length 0 s).1)),(i1,some (flat dC (cL ts ts.length 0 s).1.slots)),(i2,some (flat cI (cL ts ts.length 0 s).1.read))] hmc (avs := [.optr i0 0]) (by simp only [evL,ha0]) hdd hM hN (md' := md') (hmd := hmd) kk
theorem PE (ts:List Int) (bd:List AL.Stmt) (pts:List Pnt) (s:Mc) (hm:OkM s.cells) (hsl:s.slots.length = ts.length) (hl:ts.length ≤ 1048576):MC Tryz.prog 122 [.optr 0 0] [(0,some (mO ts bd pts 1 2 s)),(1,some (flat dC s.slots)),(2,some (flat cI s.read))] 3 (fun _:Unit => True) (fun _ => iv (cL ts ts.length 0 s).2) (fun _ => [(0,some (mO ts bd pts 1 2 (cL ts ts.length 0 s).1)),(1,some (flat dC (cL ts ts.length 0 s).1.slots)),(2,some (flat cI (cL ts ts.length 0 s).1.read))]):=by
 refine aU Tryz.func122 Tryz.ntmps122 ?_
 repeat' (first|refine aE ?_|fail)
 refine aH (σ := Nat × Mc) [0,13,14] [] (fun k => [(15,iv (k.1 : Int))]) (fun k => [(0,some (mO ts bd pts 1 2 k.2)),(1,some (flat dC k.2.slots)),(2,some (flat cI k.2.read))]) (fun k => k.1 ≤ ts.length ∧ cL ts (ts.length - k.1) k.1 k.2 = cL ts ts.length 0 s ∧ OkM k.2.cells ∧ k.2.slots.length = ts.length) (fun k => ts.length - k.1) (0,s) ⟨Nat.zero_le _,rfl,hm,hsl⟩ ?_
 rintro ⟨v,q⟩ ⟨hv,hf,hmq,hlq⟩
 dsimp only at hv hf hmq hlq ⊢
 by_cases hvn : v < ts.length
 ·have hfr := Ao ts bd pts q v hmq hlq hvn
  repeat' (first|(apply aF;first|(apply CG (ts := ts) (bd := bd) (pts := pts) (s := q) (v := v);rfl;rfl;rfl;rfl;rfl;rfl;exact hfr;rfl;rfl)|(apply bC;rfl;rfl;rfl;rfl;rfl;(rw [aI]; simp only [gB] <;> omega);(exact xO (by (omega)))))|refine aE ?_|(refine aK ?_ ?_ <;> intro hc hq <;> try (exfalso;omega))|(refine bK ?_ ?_ <;> intro hg hq <;> try (exfalso;omega))|fail)
  ·(refine bB (v + 1, q) (Le.renA []) ?_ ?_)
   ·refine ⟨by omega, ?_, hmq, hlq⟩
    dsimp only
    rw [← hf, show ts.length - v = (ts.length - (v + 1)) + 1 by omega, A5 (fun h => by
     have h2 : q.slots[v]!.set = false := by assumption
     rw [h2] at h;exact absurd h.2 (by decide))]
   ·dsimp only;omega
  ·have hk : ¬ a8 q.cells q.slots[v]!.ptr true = 0 := fun h => by
    have h2 : ¬ mE (a8 q.cells q.slots[v]!.ptr true) = -1 := by assumption
    rw [h] at h2;exact h2 rfl
   have hq2 : cL ts ts.length 0 s = (⟨q.slots, k6 q.cells q.slots[v]!.ptr, q.read⟩, dZ (a8 q.cells q.slots[v]!.ptr true)) := by
    rw [← hf,show ts.length - v = (ts.length - (v + 1)) + 1 by omega,Ic ⟨by assumption,by assumption⟩ hk]
   rw [hq2]
   (refine aC rfl ?_; refine aP () trivial ?_ ⟨sE ?_,⟨sE ?_,⟨sE ?_,trivial⟩⟩⟩)
   ·show iv (mE _) = iv (dZ _)
    unfold mE;rw [if_neg hk]
   ·rfl
   ·rfl
   ·rfl
  ·have hk : a8 q.cells q.slots[v]!.ptr true = 0 := by
    have h2 : mE (a8 q.cells q.slots[v]!.ptr true) = -1 := by assumption
    unfold mE at h2
    by_cases h : a8 q.cells q.slots[v]!.ptr true = 0
    ·exact h
    ·rw [if_neg h] at h2;unfold dZ at h2;split at h2 <;> cases h2
   have hls : (q.slots.set v lN).length = q.slots.length := List.length_set
   (refine bB (v + 1,⟨q.slots.set v lN,k6 q.cells q.slots[v]!.ptr,q.read⟩) (Le.renA []) ?_ ?_)
   ·refine ⟨by dsimp only; omega, ?_, hmq.fr _, by show (q.slots.set v lN).length = _; rw [List.length_set]; exact hlq⟩
    dsimp only
    rw [← hf,show ts.length - v = (ts.length - (v + 1)) + 1 by omega,H7 ⟨by assumption,by assumption⟩ hk]
   ·dsimp only;omega
  ·(refine bB (v + 1, q) (Le.renA []) ?_ ?_)
   ·refine ⟨by omega, ?_, hmq, hlq⟩
    dsimp only
    rw [← hf, show ts.length - v = (ts.length - (v + 1)) + 1 by omega, A5 (fun h => by
     have h2 : ¬ ts[v]! = 2 := by assumption
     exact h2 h.1)]
   ·dsimp only;omega
 ·have hve : v = ts.length := by omega
  have hq2 : cL ts ts.length 0 s = (q,0) := by rw [← hf,hve,Nat.sub_self]; rfl
  repeat' (first|refine aE ?_|(refine aK ?_ ?_ <;> intro hc hq <;> try (exfalso;omega))|fail)
  rw [hq2]
  (refine aC rfl ?_; refine aP () trivial ?_ ⟨sE ?_,⟨sE ?_,⟨sE ?_,trivial⟩⟩⟩)
  ·rfl
  ·rfl
  ·rfl
  ·rfl
def dS (ts : List Int) (s : Mc) (x : Pnt) : Mc × Int := if cG ts s x = true then (s,2) else cM ts s x
theorem w5 {ts:List Int}{s:Mc}{x:Pnt}(h:cG ts s x = true):dS ts s x = (s,2) := if_pos h
theorem s7 {ts:List Int}{s:Mc}{x:Pnt}(h:cG ts s x = false):dS ts s x = cM ts s x := if_neg (by rw [h]; decide)
theorem iK {ts:List Int}{x:Pnt}{v:Int}(h:v ∈ a7 (wS ts x [1,2,3])):0 ≤ v ∧ v < ts.length:=by
 obtain ⟨v',h3,h4,rfl⟩ := cJ.1 h
 rw [cC,Bool.and_eq_true,decide_eq_true_eq] at h4
 omega
theorem cF {ts:List Int}{s:Mc}{x:Pnt}(htl:ts.length ≤ 6):cG ts s x = true ↔ ∃ v ∈ a7 (wS ts x [1,2,3]),s.slots[v.toNat]!.set = false:=by
 constructor
 ·intro h
  obtain ⟨v,hv,hne,hs⟩ := CK h
  refine ⟨(v : Int),cJ.2 ⟨v,by omega,?_,rfl⟩,hs⟩
  have hb := pV ts x v
  rw [cC,decide_eq_true hv,Bool.true_and,decide_eq_true_eq]
  simp only [List.mem_cons,List.not_mem_nil,or_false]; omega
 ·rintro ⟨v, hv, hs⟩
  obtain ⟨v',h3,h4,rfl⟩ := cJ.1 hv
  rw [cC,Bool.and_eq_true,decide_eq_true_eq,decide_eq_true_eq] at h4
  unfold cG
  refine List.any_eq_true.2 ⟨v',List.mem_range.2 h4.1,?_⟩
  rw [Bool.and_eq_true,decide_eq_true_eq]
  refine ⟨fun e => ?_,by rw [show s.slots[v']!.set = false from hs]; rfl⟩
  have h5 := h4.2
  simp only [List.mem_cons,List.not_mem_nil,or_false] at h5;omega
theorem O9 {ts:List Int}{bd:List AL.Stmt}{pts:List Pnt}{s:Mc}{x:Pnt}{x0 x1:Operand}{i0 i1 i2:Nat}(ha0:ev (lk tsl) x0 = some (.optr i0 0)) (ha1:ev (lk tsl) x1 = some (dJ x)) (hH0:aT hsl i0 = some (mO ts bd pts i1 i2 s)) (hH1:aT hsl i1 = some (flat dC s.slots)) (hH2:aT hsl i2 = some (flat cI s.read)) (hdd:Go.AL.distinct [i0,i1,i2] = true) (hmc:MC Tryz.prog 73 [.optr 0 0,dJ x] [(0,some (mO ts bd pts 1 2 s)),(1,some (flat dC s.slots)),(2,some (flat cI s.read))] 3 (fun _:Unit => True) (fun _ => iv (dS ts s x).2) (fun _ => [(0,some (mO ts bd pts 1 2 (dS ts s x).1)),(1,some (flat dC (dS ts s x).1.slots)),(2,some (flat cI (dS ts s x).1.read))])) (hM:Nat.ble (nidl + 0) a6 = true) (hN:Nat.blt d N = true){md':Md}[hmd:MdA md (fF [x0,x1] ++ [.inr i0,.inr i1,.inr i2]) (List.map Sum.inr (List.map Prod.fst ([(i0,some (mO ts bd pts i1 i2 (dS ts s x).1)),(i1,some (flat dC (dS ts s x).1.slots)),(i2,some (flat cI (dS ts s x).1.read))]:List (Nat × Option (List AV)))) ++ [.inl d]) md'] (kk:RW Tryz.prog N all Q md' rest ⟨(d,iv (dS ts s x).2) :: tsl,gD hsl [(i0,some (mO ts bd pts i1 i2 (dS ts s x).1)),(i1,some (flat dC (dS ts s x).1.slots)),(i2,some (flat cI (dS ts s x).1.read))],nidl + 0,z0⟩):RW Tryz.prog N all Q md (⟨some d,.call ⟨.value (.func 73),#[x0,x1],tys⟩,ty,pos,af,none⟩ :: rest) ⟨tsl,hsl,nidl,z0⟩:=by
 exact aX (l := [x0,x1]) [i0,i1,i2] 3 [(i0,some (mO ts bd pts i1 i2 (dS ts s x).1)),(i1,some (flat dC (dS ts s x).1.slots)),(i2,some (flat cI (dS ts s x).1.read))] hmc (avs := [.optr i0 0,dJ x]) (by simp only [evL,ha0,ha1]) hdd hM hN (md' := md') (hmd := hmd) kk
theorem k8 {ts:List Int}{bd:List AL.Stmt}{pts:List Pnt}{s:Mc}{v:Int}{y:Sl}{x0 x1 x2:Operand}{i0 i1 i2:Nat}(ha0:ev (lk tsl) x0 = some (.optr i0 0)) (ha1:ev (lk tsl) x1 = some (iv v)) (ha2:ev (lk tsl) x2 = some (Ke y)) (hH0:aT hsl i0 = some (mO ts bd pts i1 i2 s)) (hH1:aT hsl i1 = some (flat dC s.slots)) (hH2:aT hsl i2 = some (flat cI s.read)) (hdd:Go.AL.distinct [i0,i1,i2] = true) (hmc:MC Tryz.prog 114 [.optr 0 0,iv v,Ke y] [(0,some (mO ts bd pts 1 2 s)),(1,some (flat dC s.slots)),(2,some (flat cI s.read))] 3 (fun _:Unit => True) (fun _ => iv (bS ts s v.toNat y).2) (fun _ => [(0,some (mO ts bd pts 1 2 (bS ts s v.toNat y).1)),(1,some (flat dC (bS ts s v.toNat y).1.slots)),(2,some (flat cI (bS ts s v.toNat y).1.read))])) (hM:Nat.ble (nidl + 0) a6 = true) (hN:Nat.blt d N = true){md':Md}[hmd:MdA md (fF [x0,x1,x2] ++ [.inr i0,.inr i1,.inr i2]) (List.map Sum.inr (List.map Prod.fst ([(i0,some (mO ts bd pts i1 i2 (bS ts s v.toNat y).1)),(i1,some (flat dC (bS ts s v.toNat y).1.slots)),(i2,some (flat cI (bS ts s v.toNat y).1.read))]:List (Nat × Option (List AV)))) ++ [.inl d]) md'] (kk:RW Tryz.prog N all Q md' rest ⟨(d,iv (bS ts s v.toNat y).2) :: tsl,gD hsl [(i0,some (mO ts bd pts i1 i2 (bS ts s v.toNat y).1)),(i1,some (flat dC (bS ts s v.toNat y).1.slots)),(i2,some (flat cI (bS ts s v.toNat y).1.read))],nidl + 0,z0⟩):RW Tryz.prog N all Q md (⟨some d,.call ⟨.value (.func 114),#[x0,x1,x2],tys⟩,ty,pos,af,none⟩ :: rest) ⟨tsl,hsl,nidl,z0⟩:=by
 exact aX (l := [x0,x1,x2]) [i0,i1,i2] 3 [(i0,some (mO ts bd pts i1 i2 (bS ts s v.toNat y).1)),(i1,some (flat dC (bS ts s v.toNat y).1.slots)),(i2,some (flat cI (bS ts s v.toNat y).1.read))] hmc (avs := [.optr i0 0,iv v,Ke y]) (by simp only [evL,ha0,ha1,ha2]) hdd hM hN (md' := md') (hmd := hmd) kk
theorem n6 (ts:List Int) (bd:List AL.Stmt) (pts:List Pnt) (s:Mc) (v:Int) (y:Sl) (hm:OkM s.cells) (hsl:s.slots.length = ts.length) (hv:0 ≤ v ∧ v < ts.length):MC Tryz.prog 114 [.optr 0 0,iv v,Ke y] [(0,some (mO ts bd pts 1 2 s)),(1,some (flat dC s.slots)),(2,some (flat cI s.read))] 3 (fun _:Unit => True) (fun _ => iv (bS ts s v.toNat y).2) (fun _ => [(0,some (mO ts bd pts 1 2 (bS ts s v.toNat y).1)),(1,some (flat dC (bS ts s v.toNat y).1.slots)),(2,some (flat cI (bS ts s v.toNat y).1.read))]):=by
 have h := Qg ts bd pts s v.toNat y hm hsl (by omega)
 rw [Int.toNat_of_nonneg hv.1] at h
 exact h
theorem Gx {ts:List Int}{bd:List AL.Stmt}{pts:List Pnt}{s:Mc}{v:Int}{x0 x1:Operand}{i0 i1 i2:Nat}(ha0:ev (lk tsl) x0 = some (.optr i0 0)) (ha1:ev (lk tsl) x1 = some (iv v)) (hH0:aT hsl i0 = some (mO ts bd pts i1 i2 s)) (hH1:aT hsl i1 = some (flat dC s.slots)) (hH2:aT hsl i2 = some (flat cI s.read)) (hdd:Go.AL.distinct [i0,i1,i2] = true) (hmc:MC Tryz.prog 121 [.optr 0 0,iv v] [(0,some (mO ts bd pts 1 2 s)),(1,some (flat dC s.slots)),(2,some (flat cI s.read))] 3 (fun _:Unit => True) (fun _ => iv (mE (a8 s.cells s.slots[v.toNat]!.ptr true))) (fun _ => [(0,some ([aG ts bd pts,.own 1 0 ts.length 4,sl bO (k6 s.cells s.slots[v.toNat]!.ptr),.own 2 0 s.read.length 1])),(1,some (flat dC s.slots)),(2,some (flat cI s.read))])) (hM:Nat.ble (nidl + 0) a6 = true) (hN:Nat.blt d N = true){md':Md}[hmd:MdA md (fF [x0,x1] ++ [.inr i0,.inr i1,.inr i2]) (List.map Sum.inr (List.map Prod.fst ([(i0,some ([aG ts bd pts,.own i1 0 ts.length 4,sl bO (k6 s.cells s.slots[v.toNat]!.ptr),.own i2 0 s.read.length 1])),(i1,some (flat dC s.slots)),(i2,some (flat cI s.read))]:List (Nat × Option (List AV)))) ++ [.inl d]) md'] (kk:RW Tryz.prog N all Q md' rest ⟨(d,iv (mE (a8 s.cells s.slots[v.toNat]!.ptr true))) :: tsl,gD hsl [(i0,some ([aG ts bd pts,.own i1 0 ts.length 4,sl bO (k6 s.cells s.slots[v.toNat]!.ptr),.own i2 0 s.read.length 1])),(i1,some (flat dC s.slots)),(i2,some (flat cI s.read))],nidl + 0,z0⟩):RW Tryz.prog N all Q md (⟨some d,.call ⟨.value (.func 121),#[x0,x1],tys⟩,ty,pos,af,none⟩ :: rest) ⟨tsl,hsl,nidl,z0⟩:=by
 exact aX (l := [x0,x1]) [i0,i1,i2] 3 [(i0,some ([aG ts bd pts,.own i1 0 ts.length 4,sl bO (k6 s.cells s.slots[v.toNat]!.ptr),.own i2 0 s.read.length 1])),(i1,some (flat dC s.slots)),(i2,some (flat cI s.read))] hmc (avs := [.optr i0 0,iv v]) (by simp only [evL,ha0,ha1]) hdd hM hN (md' := md') (hmd := hmd) kk
theorem IX (ts:List Int) (bd:List AL.Stmt) (pts:List Pnt) (s:Mc) (v:Int) (hm:OkM s.cells) (hsl:s.slots.length = ts.length) (hv:0 ≤ v ∧ v < ts.length):MC Tryz.prog 121 [.optr 0 0,iv v] [(0,some (mO ts bd pts 1 2 s)),(1,some (flat dC s.slots)),(2,some (flat cI s.read))] 3 (fun _:Unit => True) (fun _ => iv (mE (a8 s.cells s.slots[v.toNat]!.ptr true))) (fun _ => [(0,some ([aG ts bd pts,.own 1 0 ts.length 4,sl bO (k6 s.cells s.slots[v.toNat]!.ptr),.own 2 0 s.read.length 1])),(1,some (flat dC s.slots)),(2,some (flat cI s.read))]):=by
 have h := Ao ts bd pts s v.toNat hm hsl (by omega)
 rw [Int.toNat_of_nonneg hv.1] at h
 exact h
theorem QG (ts:List Int) (bd:List AL.Stmt) (pts:List Pnt) (s:Mc) (x:Pnt) (htl:ts.length ≤ 6) (hm:OkM s.cells) (hsl:s.slots.length = ts.length) (ho:x.op = 1) (hx:0 ≤ x.x ∧ x.x < ts.length):MC Tryz.prog 73 [.optr 0 0,dJ x] [(0,some (mO ts bd pts 1 2 s)),(1,some (flat dC s.slots)),(2,some (flat cI s.read))] 3 (fun _:Unit => True) (fun _ => iv (dS ts s x).2) (fun _ => [(0,some (mO ts bd pts 1 2 (dS ts s x).1)),(1,some (flat dC (dS ts s x).1.slots)),(2,some (flat cI (dS ts s x).1.read))]):=by
 have hus := gK ts bd pts x htl
 have hsm : Sm (wS ts x [1,2,3]) := b0 (by omega)
 obtain ⟨L,hL⟩ : ∃ L,L = a7 (wS ts x [1,2,3]) := ⟨_,rfl⟩
 have hLl : L.length ≤ 62 := by rw [hL]; exact cK _
 have hmem : ∀ k, k < L.length → 0 ≤ L[k]! ∧ L[k]! < s.slots.length := fun k hk => by
  rw [hsl]; exact iK (by rw [← hL]; exact aS _ _ hk)
 refine aU Tryz.func73 Tryz.ntmps73 ?_
 repeat' (first|(apply aF;first|(apply aA (k := 67);rfl;exact hus;exact Pur.pf;rfl)|(apply aA (k := 21);rfl;(apply fR <;> (assumption));(rfl);rfl))|refine aE ?_|refine bH ?_|fail)
 rw [← hL]
 refine aH (σ := Nat) [0,3,26,27] [0,1,2,3] (fun k => [(28,iv (k : Int))]) (fun k => []) (fun k => k ≤ L.length ∧ ∀ j,j < k → s.slots[(L[j]!).toNat]!.set = true) (fun k => L.length - k) (0) ⟨Nat.zero_le _,fun j h => absurd h (by omega)⟩ ?_
 rintro k ⟨hk,hall⟩
 by_cases hkn : k < L.length
 ·have hmk := hmem k hkn
  repeat' (first|refine aE ?_|(refine aK ?_ ?_ <;> intro hc hq <;> try (exfalso;omega))|fail)
  ·have hu : cG ts s x = true := (cF htl).2 ⟨L[k]!, by rw [← hL]; exact aS _ _ hkn, by assumption⟩
   rw [w5 hu]
   (refine aC rfl ?_; refine aP () trivial ?_ ⟨sE ?_,⟨sE ?_,⟨sE ?_,trivial⟩⟩⟩)
   ·rfl
   ·rfl
   ·rfl
   ·rfl
  ·(refine bB (k + 1) (Le.renA [(3, 3)]) ?_ ?_)
   ·refine ⟨by omega, fun j hj => ?_⟩
    rcases Nat.lt_or_ge j k with h|h
    ·exact hall j h
    ·rw [show j = k by omega]; assumption
   ·omega
 ·have hu : cG ts s x = false := by
   cases q : cG ts s x with
   | false => rfl
   | true =>
    obtain ⟨v,hv,hs⟩ := (cF htl).1 q
    rw [← hL] at hv
    obtain ⟨j,hj,e⟩ := List.getElem_of_mem hv
    have h1 := hall j (by omega)
    rw [aY _ _ hj,e,hs] at h1;cases h1
  rw [s7 hu]
  have hd : cM ts s x = bS ts s x.x.toNat ⟨true,x.n,⟨0,0⟩⟩ := by unfold cM;rw [if_pos ho]
  rw [hd]
  have hp := n6 ts bd pts s x.x ⟨true,x.n,⟨0,0⟩⟩ hm hsl hx
  repeat' (first|(apply aF;(apply k8 (ts := ts) (bd := bd) (pts := pts) (s := s) (v := x.x) (y := ⟨true,x.n,⟨0,0⟩⟩);rfl;rfl;rfl;rfl;rfl;rfl;rfl;exact hp;rfl;rfl))|refine aE ?_|(refine aK ?_ ?_ <;> intro hc hq <;> try (exfalso;omega))|fail)
  (refine aC rfl ?_; refine aP () trivial ?_ ⟨sE ?_,⟨sE ?_,⟨sE ?_,trivial⟩⟩⟩)
  ·rfl
  ·rfl
  ·rfl
  ·rfl
theorem QE (ts:List Int) (bd:List AL.Stmt) (pts:List Pnt) (s:Mc) (x:Pnt) (htl:ts.length ≤ 6) (hm:OkM s.cells) (hsl:s.slots.length = ts.length) (ho:x.op = 2) (hn:0 ≤ x.n ∧ x.n ≤ 9) (hx:0 ≤ x.x ∧ x.x < ts.length):MC Tryz.prog 73 [.optr 0 0,dJ x] [(0,some (mO ts bd pts 1 2 s)),(1,some (flat dC s.slots)),(2,some (flat cI s.read))] 3 (fun _:Unit => True) (fun _ => iv (dS ts s x).2) (fun _ => [(0,some (mO ts bd pts 1 2 (dS ts s x).1)),(1,some (flat dC (dS ts s x).1.slots)),(2,some (flat cI (dS ts s x).1.read))]):=by
 have hus := gK ts bd pts x htl
 have hsm : Sm (wS ts x [1,2,3]) := b0 (by omega)
 obtain ⟨L,hL⟩ : ∃ L,L = a7 (wS ts x [1,2,3]) := ⟨_,rfl⟩
 have hLl : L.length ≤ 62 := by rw [hL]; exact cK _
 have hmem : ∀ k, k < L.length → 0 ≤ L[k]! ∧ L[k]! < s.slots.length := fun k hk => by
  rw [hsl]; exact iK (by rw [← hL]; exact aS _ _ hk)
 refine aU Tryz.func73 Tryz.ntmps73 ?_
 repeat' (first|(apply aF;first|(apply aA (k := 67);rfl;exact hus;exact Pur.pf;rfl)|(apply aA (k := 21);rfl;(apply fR <;> (assumption));(rfl);rfl))|refine aE ?_|refine bH ?_|fail)
 rw [← hL]
 refine aH (σ := Nat) [0,3,26,27] [0,1,2,3] (fun k => [(28,iv (k : Int))]) (fun k => []) (fun k => k ≤ L.length ∧ ∀ j,j < k → s.slots[(L[j]!).toNat]!.set = true) (fun k => L.length - k) (0) ⟨Nat.zero_le _,fun j h => absurd h (by omega)⟩ ?_
 rintro k ⟨hk,hall⟩
 by_cases hkn : k < L.length
 ·have hmk := hmem k hkn
  repeat' (first|refine aE ?_|(refine aK ?_ ?_ <;> intro hc hq <;> try (exfalso;omega))|fail)
  ·have hu : cG ts s x = true := (cF htl).2 ⟨L[k]!, by rw [← hL]; exact aS _ _ hkn, by assumption⟩
   rw [w5 hu]
   (refine aC rfl ?_; refine aP () trivial ?_ ⟨sE ?_,⟨sE ?_,⟨sE ?_,trivial⟩⟩⟩)
   ·rfl
   ·rfl
   ·rfl
   ·rfl
  ·(refine bB (k + 1) (Le.renA [(3, 3)]) ?_ ?_)
   ·refine ⟨by omega, fun j hj => ?_⟩
    rcases Nat.lt_or_ge j k with h|h
    ·exact hall j h
    ·rw [show j = k by omega]; assumption
   ·omega
 ·have hu : cG ts s x = false := by
   cases q : cG ts s x with
   | false => rfl
   | true =>
    obtain ⟨v,hv,hs⟩ := (cF htl).1 q
    rw [← hL] at hv
    obtain ⟨j,hj,e⟩ := List.getElem_of_mem hv
    have h1 := hall j (by omega)
    rw [aY _ _ hj,e,hs] at h1;cases h1
  rw [s7 hu]
  have hml := hm.l
  have hnc := Dr s.cells hm x.n
  by_cases h2 : s.cells.length = 200
  ·rw [if_neg (by omega)] at hnc
   have hd : cM ts s x = (s,1) := by unfold cM;rw [if_neg (show ¬ x.op = 1 by omega),if_pos ho,if_pos h2]
   rw [hd]
   repeat' (first|(apply aF;(apply aA (k := 115);rfl;exact hnc;exact Pur.pf;rfl))|refine aE ?_|(refine aK ?_ ?_ <;> intro hc hq <;> try (exfalso;omega))|refine bH ?_|fail)
   (refine aC rfl ?_; refine aP () trivial ?_ ⟨sE ?_,⟨sE ?_,⟨sE ?_,trivial⟩⟩⟩)
   ·rfl
   ·rfl
   ·rfl
   ·rfl
  ·rw [if_pos (by omega)] at hnc
   have hp := n6 ts bd pts ⟨s.slots,s.cells ++ [xC x.n],s.read⟩ x.x ⟨true,0,⟨s.cells.length,0⟩⟩ (hm.nw hn (by omega)) hsl hx
   have hd : cM ts s x = bS ts ⟨s.slots,s.cells ++ [xC x.n],s.read⟩ x.x.toNat ⟨true,0,⟨s.cells.length,0⟩⟩ := by unfold cM;rw [if_neg (show ¬ x.op = 1 by omega),if_pos ho,if_neg h2]
   rw [hd]
   repeat' (first|(apply aF;first|(apply aA (k := 115);rfl;exact hnc;exact Pur.pf;rfl)|(apply k8 (ts := ts) (bd := bd) (pts := pts) (s := ⟨s.slots,s.cells ++ [xC x.n],s.read⟩) (v := x.x) (y := ⟨true,0,⟨s.cells.length,0⟩⟩);rfl;rfl;rfl;rfl;rfl;rfl;rfl;exact hp;rfl;rfl))|refine aE ?_|(refine aK ?_ ?_ <;> intro hc hq <;> try (exfalso;omega))|refine bH ?_|fail)
   (refine aC rfl ?_; refine aP () trivial ?_ ⟨sE ?_,⟨sE ?_,⟨sE ?_,trivial⟩⟩⟩)
   ·rfl
   ·rfl
   ·rfl
   ·rfl
theorem Q0 (ts:List Int) (bd:List AL.Stmt) (pts:List Pnt) (s:Mc) (x:Pnt) (htl:ts.length ≤ 6) (hm:OkM s.cells) (hsl:s.slots.length = ts.length) (ho:x.op = 3) (hx:0 ≤ x.x ∧ x.x < ts.length) (hy:0 ≤ x.y ∧ x.y < ts.length):MC Tryz.prog 73 [.optr 0 0,dJ x] [(0,some (mO ts bd pts 1 2 s)),(1,some (flat dC s.slots)),(2,some (flat cI s.read))] 3 (fun _:Unit => True) (fun _ => iv (dS ts s x).2) (fun _ => [(0,some (mO ts bd pts 1 2 (dS ts s x).1)),(1,some (flat dC (dS ts s x).1.slots)),(2,some (flat cI (dS ts s x).1.read))]):=by
 have hus := gK ts bd pts x htl
 have hsm : Sm (wS ts x [1,2,3]) := b0 (by omega)
 obtain ⟨L,hL⟩ : ∃ L,L = a7 (wS ts x [1,2,3]) := ⟨_,rfl⟩
 have hLl : L.length ≤ 62 := by rw [hL]; exact cK _
 have hmem : ∀ k, k < L.length → 0 ≤ L[k]! ∧ L[k]! < s.slots.length := fun k hk => by
  rw [hsl]; exact iK (by rw [← hL]; exact aS _ _ hk)
 refine aU Tryz.func73 Tryz.ntmps73 ?_
 repeat' (first|(apply aF;first|(apply aA (k := 67);rfl;exact hus;exact Pur.pf;rfl)|(apply aA (k := 21);rfl;(apply fR <;> (assumption));(rfl);rfl))|refine aE ?_|refine bH ?_|fail)
 rw [← hL]
 refine aH (σ := Nat) [0,3,26,27] [0,1,2,3] (fun k => [(28,iv (k : Int))]) (fun k => []) (fun k => k ≤ L.length ∧ ∀ j,j < k → s.slots[(L[j]!).toNat]!.set = true) (fun k => L.length - k) (0) ⟨Nat.zero_le _,fun j h => absurd h (by omega)⟩ ?_
 rintro k ⟨hk,hall⟩
 by_cases hkn : k < L.length
 ·have hmk := hmem k hkn
  repeat' (first|refine aE ?_|(refine aK ?_ ?_ <;> intro hc hq <;> try (exfalso;omega))|fail)
  ·have hu : cG ts s x = true := (cF htl).2 ⟨L[k]!, by rw [← hL]; exact aS _ _ hkn, by assumption⟩
   rw [w5 hu]
   (refine aC rfl ?_; refine aP () trivial ?_ ⟨sE ?_,⟨sE ?_,⟨sE ?_,trivial⟩⟩⟩)
   ·rfl
   ·rfl
   ·rfl
   ·rfl
  ·(refine bB (k + 1) (Le.renA [(3, 3)]) ?_ ?_)
   ·refine ⟨by omega, fun j hj => ?_⟩
    rcases Nat.lt_or_ge j k with h|h
    ·exact hall j h
    ·rw [show j = k by omega]; assumption
   ·omega
 ·have hu : cG ts s x = false := by
   cases q : cG ts s x with
   | false => rfl
   | true =>
    obtain ⟨v,hv,hs⟩ := (cF htl).1 q
    rw [← hL] at hv
    obtain ⟨j,hj,e⟩ := List.getElem_of_mem hv
    have h1 := hall j (by omega)
    rw [aY _ _ hj,e,hs] at h1;cases h1
  rw [s7 hu]
  have hd : cM ts s x = bS ts (if wZ ts[x.y.toNat]! = true then ⟨s.slots.set x.y.toNat lN,s.cells,s.read⟩ else s) x.x.toNat s.slots[x.y.toNat]! := by unfold cM;rw [if_neg (show ¬ x.op = 1 by omega),if_neg (show ¬ x.op = 2 by omega),if_pos ho]
  rw [hd]
  have htk := Aw ts bd pts x.y hy
  by_cases hk : wZ ts[x.y.toNat]! = true
  ·rw [hk] at htk
   rw [if_pos hk]
   have hp := n6 ts bd pts ⟨s.slots.set x.y.toNat lN,s.cells,s.read⟩ x.x s.slots[x.y.toNat]! hm (by show (s.slots.set _ _).length = _; rw [List.length_set]; exact hsl) hx
   repeat' (first|(apply aF;first|(apply aA (k := 116);rfl;exact htk;exact Pur.pf;rfl)|(apply k8 (ts := ts) (bd := bd) (pts := pts) (s := ⟨s.slots.set x.y.toNat lN,s.cells,s.read⟩) (v := x.x) (y := s.slots[x.y.toNat]!);rfl;rfl;rfl;rfl;rfl;rfl;rfl;exact hp;rfl;rfl)|(apply bC;rfl;rfl;rfl;rfl;rfl;(case hl => (first|(rw [aI]; simp only [gB] <;> omega)|(simp;done)));(exact xO (by (omega)))))|refine aE ?_|(refine aK ?_ ?_ <;> intro hc hq <;> try (exfalso;omega))|refine bH ?_|fail)
   (refine aC rfl ?_; refine aP () trivial ?_ ⟨sE ?_,⟨sE ?_,⟨sE ?_,trivial⟩⟩⟩)
   ·rfl
   ·rfl
   ·rfl
   ·rfl
  ·have hk2 : wZ ts[x.y.toNat]! = false := by simpa using hk
   rw [hk2] at htk
   rw [if_neg hk]
   have hp := n6 ts bd pts s x.x s.slots[x.y.toNat]! hm hsl hx
   repeat' (first|(apply aF;first|(apply aA (k := 116);rfl;exact htk;exact Pur.pf;rfl)|(apply k8 (ts := ts) (bd := bd) (pts := pts) (s := s) (v := x.x) (y := s.slots[x.y.toNat]!);rfl;rfl;rfl;rfl;rfl;rfl;rfl;exact hp;rfl;rfl))|refine aE ?_|(refine aK ?_ ?_ <;> intro hc hq <;> try (exfalso;omega))|refine bH ?_|fail)
   (refine aC rfl ?_; refine aP () trivial ?_ ⟨sE ?_,⟨sE ?_,⟨sE ?_,trivial⟩⟩⟩)
   ·rfl
   ·rfl
   ·rfl
   ·rfl
theorem Pm (ts:List Int) (bd:List AL.Stmt) (pts:List Pnt) (s:Mc) (x:Pnt) (htl:ts.length ≤ 6) (hm:OkM s.cells) (hsl:s.slots.length = ts.length) (ho:x.op = 4 ∨ x.op = 5) (hx:0 ≤ x.x ∧ x.x < ts.length) (hy:0 ≤ x.y ∧ x.y < ts.length):MC Tryz.prog 73 [.optr 0 0,dJ x] [(0,some (mO ts bd pts 1 2 s)),(1,some (flat dC s.slots)),(2,some (flat cI s.read))] 3 (fun _:Unit => True) (fun _ => iv (dS ts s x).2) (fun _ => [(0,some (mO ts bd pts 1 2 (dS ts s x).1)),(1,some (flat dC (dS ts s x).1.slots)),(2,some (flat cI (dS ts s x).1.read))]):=by
 have hus := gK ts bd pts x htl
 have hsm : Sm (wS ts x [1,2,3]) := b0 (by omega)
 obtain ⟨L,hL⟩ : ∃ L,L = a7 (wS ts x [1,2,3]) := ⟨_,rfl⟩
 have hLl : L.length ≤ 62 := by rw [hL]; exact cK _
 have hmem : ∀ k, k < L.length → 0 ≤ L[k]! ∧ L[k]! < s.slots.length := fun k hk => by
  rw [hsl]; exact iK (by rw [← hL]; exact aS _ _ hk)
 refine aU Tryz.func73 Tryz.ntmps73 ?_
 repeat' (first|(apply aF;first|(apply aA (k := 67);rfl;exact hus;exact Pur.pf;rfl)|(apply aA (k := 21);rfl;(apply fR <;> (assumption));(rfl);rfl))|refine aE ?_|refine bH ?_|fail)
 rw [← hL]
 refine aH (σ := Nat) [0,3,26,27] [0,1,2,3] (fun k => [(28,iv (k : Int))]) (fun k => []) (fun k => k ≤ L.length ∧ ∀ j,j < k → s.slots[(L[j]!).toNat]!.set = true) (fun k => L.length - k) (0) ⟨Nat.zero_le _,fun j h => absurd h (by omega)⟩ ?_
 rintro k ⟨hk,hall⟩
 by_cases hkn : k < L.length
 ·have hmk := hmem k hkn
  repeat' (first|refine aE ?_|(refine aK ?_ ?_ <;> intro hc hq <;> try (exfalso;omega))|fail)
  ·have hu : cG ts s x = true := (cF htl).2 ⟨L[k]!, by rw [← hL]; exact aS _ _ hkn, by assumption⟩
   rw [w5 hu]
   (refine aC rfl ?_; refine aP () trivial ?_ ⟨sE ?_,⟨sE ?_,⟨sE ?_,trivial⟩⟩⟩)
   ·rfl
   ·rfl
   ·rfl
   ·rfl
  ·(refine bB (k + 1) (Le.renA [(3, 3)]) ?_ ?_)
   ·refine ⟨by omega, fun j hj => ?_⟩
    rcases Nat.lt_or_ge j k with h|h
    ·exact hall j h
    ·rw [show j = k by omega]; assumption
   ·omega
 ·have hu : cG ts s x = false := by
   cases q : cG ts s x with
   | false => rfl
   | true =>
    obtain ⟨v,hv,hs⟩ := (cF htl).1 q
    rw [← hL] at hv
    obtain ⟨j,hj,e⟩ := List.getElem_of_mem hv
    have h1 := hall j (by omega)
    rw [aY _ _ hj,e,hs] at h1;cases h1
  rw [s7 hu]
  have hle := LX s.cells hm s.slots[x.y.toNat]!.ptr (decide (x.op = 5))
  by_cases hk : m5 s.cells s.slots[x.y.toNat]!.ptr (decide (x.op = 5)) = 0
  ·have hp := n6 ts bd pts ⟨s.slots, nA s.cells s.slots[x.y.toNat]!.ptr (decide (x.op = 5)), s.read⟩ x.x ⟨true, 0, sZ s.cells s.slots[x.y.toNat]!.ptr (decide (x.op = 5))⟩ (hm.ln _ _) hsl hx
   have hd : cM ts s x = bS ts ⟨s.slots,nA s.cells s.slots[x.y.toNat]!.ptr (decide (x.op = 5)),s.read⟩ x.x.toNat ⟨true,0,sZ s.cells s.slots[x.y.toNat]!.ptr (decide (x.op = 5))⟩ := by unfold cM;rw [if_neg (show ¬ x.op = 1 by omega),if_neg (show ¬ x.op = 2 by omega),if_neg (show ¬ x.op = 3 by omega),if_pos ho,if_pos hk]
   rw [hd]
   rw [hk] at hle
   repeat' (first|(apply aF;first|(apply jN;(case hx|hH => rfl);(case hf|hg|hα => infer_instance);(case hk => omega);(case hj => decide);(case hc => exact (rfl:_=[_,_]));(case h0|hN => rfl))|(apply aA (k := 117);rfl;exact hle;exact Pur.pf;rfl)|(apply k8 (ts := ts) (bd := bd) (pts := pts) (s := ⟨s.slots,nA s.cells s.slots[x.y.toNat]!.ptr (decide (x.op = 5)),s.read⟩) (v := x.x) (y := ⟨true,0,sZ s.cells s.slots[x.y.toNat]!.ptr (decide (x.op = 5))⟩);(case ha0|ha1|ha2|hH0|hH1|hH2|hdd => rfl);(case hmc => exact hp);(case hM|hN => rfl)))|refine aE ?_|(refine aK ?_ ?_ <;> intro hc hq <;> try (exfalso;omega))|refine bH ?_|fail)
   all_goals (
    (refine aC rfl ?_; refine aP () trivial ?_ ⟨sE ?_,⟨sE ?_,⟨sE ?_,trivial⟩⟩⟩)
    ·rfl
    ·rfl
    ·rfl
    ·rfl)
  ·have hd : cM ts s x = (s, dZ (m5 s.cells s.slots[x.y.toNat]!.ptr (decide (x.op = 5)))) := by unfold cM; rw [if_neg (show ¬ x.op = 1 by omega), if_neg (show ¬ x.op = 2 by omega), if_neg (show ¬ x.op = 3 by omega), if_pos ho, if_neg hk]
   rw [hd]
   repeat' (first|(apply aF;first|(apply jN;(case hx|hH => rfl);(case hf|hg|hα => infer_instance);(case hk => omega);(case hj => decide);(case hc => exact (rfl:_=[_,_]));(case h0|hN => rfl))|(apply aA (k := 117);rfl;exact hle;exact Pur.pf;rfl)|(apply aA (k := 118);rfl;(apply tN);(rfl);rfl))|refine aE ?_|(refine aK ?_ ?_ <;> intro hc hq <;> try (exfalso;omega))|refine bH ?_|fail)
   all_goals (
    (refine aC rfl ?_; refine aP () trivial ?_ ⟨sE ?_,⟨sE ?_,⟨sE ?_,trivial⟩⟩⟩)
    ·rfl
    ·rfl
    ·rfl
    ·rfl)
theorem QW (ts:List Int) (bd:List AL.Stmt) (pts:List Pnt) (s:Mc) (x:Pnt) (htl:ts.length ≤ 6) (hm:OkM s.cells) (hsl:s.slots.length = ts.length) (ho:x.op = 6) (hrl:s.read.length ≤ 1000) (hx:0 ≤ x.x ∧ x.x < ts.length) (hy:0 ≤ x.y ∧ x.y < ts.length) (hz:¬ a8 s.cells s.slots[x.y.toNat]!.ptr false = 0):MC Tryz.prog 73 [.optr 0 0,dJ x] [(0,some (mO ts bd pts 1 2 s)),(1,some (flat dC s.slots)),(2,some (flat cI s.read))] 3 (fun _:Unit => True) (fun _ => iv (dS ts s x).2) (fun _ => [(0,some (mO ts bd pts 1 2 (dS ts s x).1)),(1,some (flat dC (dS ts s x).1.slots)),(2,some (flat cI (dS ts s x).1.read))]):=by
 have hus := gK ts bd pts x htl
 have hsm : Sm (wS ts x [1,2,3]) := b0 (by omega)
 obtain ⟨L,hL⟩ : ∃ L,L = a7 (wS ts x [1,2,3]) := ⟨_,rfl⟩
 have hLl : L.length ≤ 62 := by rw [hL]; exact cK _
 have hmem : ∀ k, k < L.length → 0 ≤ L[k]! ∧ L[k]! < s.slots.length := fun k hk => by
  rw [hsl]; exact iK (by rw [← hL]; exact aS _ _ hk)
 refine aU Tryz.func73 Tryz.ntmps73 ?_
 repeat' (first|(apply aF;first|(apply aA (k := 67);rfl;exact hus;exact Pur.pf;rfl)|(apply aA (k := 21);rfl;(apply fR <;> (assumption));(rfl);rfl))|refine aE ?_|refine bH ?_|fail)
 rw [← hL]
 refine aH (σ := Nat) [0,3,26,27] [0,1,2,3] (fun k => [(28,iv (k : Int))]) (fun k => []) (fun k => k ≤ L.length ∧ ∀ j,j < k → s.slots[(L[j]!).toNat]!.set = true) (fun k => L.length - k) (0) ⟨Nat.zero_le _,fun j h => absurd h (by omega)⟩ ?_
 rintro k ⟨hk,hall⟩
 by_cases hkn : k < L.length
 ·have hmk := hmem k hkn
  repeat' (first|refine aE ?_|(refine aK ?_ ?_ <;> intro hc hq <;> try (exfalso;omega))|fail)
  ·have hu : cG ts s x = true := (cF htl).2 ⟨L[k]!, by rw [← hL]; exact aS _ _ hkn, by assumption⟩
   rw [w5 hu]
   (refine aC rfl ?_; refine aP () trivial ?_ ⟨sE ?_,⟨sE ?_,⟨sE ?_,trivial⟩⟩⟩)
   ·rfl
   ·rfl
   ·rfl
   ·rfl
  ·(refine bB (k + 1) (Le.renA [(3, 3)]) ?_ ?_)
   ·refine ⟨by omega, fun j hj => ?_⟩
    rcases Nat.lt_or_ge j k with h|h
    ·exact hall j h
    ·rw [show j = k by omega]; assumption
   ·omega
 ·have hu : cG ts s x = false := by
   cases q : cG ts s x with
   | false => rfl
   | true =>
    obtain ⟨v,hv,hs⟩ := (cF htl).1 q
    rw [← hL] at hv
    obtain ⟨j,hj,e⟩ := List.getElem_of_mem hv
    have h1 := hall j (by omega)
    rw [aY _ _ hj,e,hs] at h1;cases h1
  rw [s7 hu]
  have hrc := r9 s.cells hm s.slots[x.y.toNat]!.ptr
  have hd : cM ts s x = (s,dZ (a8 s.cells s.slots[x.y.toNat]!.ptr false)) := by unfold cM;rw [if_neg (show ¬ x.op = 1 by omega),if_neg (show ¬ x.op = 2 by omega),if_neg (show ¬ x.op = 3 by omega),if_neg (show ¬ (x.op = 4 ∨ x.op = 5) by omega),if_pos ho,if_neg hz]
  rw [hd]
  repeat' (first|(apply aF;first|(apply jN;(case hx|hH => rfl);(case hf|hg|hα => infer_instance);(case hk => omega);(case hj => decide);(case hc => exact (rfl:_=[_,_]));(case h0|hN => rfl))|(apply aA (k := 119);rfl;exact hrc;exact Pur.pf;rfl)|(apply aA (k := 118);rfl;(apply tN);(rfl);rfl))|refine aE ?_|(refine aK ?_ ?_ <;> intro hc hq <;> try (exfalso;omega))|refine bH ?_|fail)
  (refine aC rfl ?_; refine aP () trivial ?_ ⟨sE ?_,⟨sE ?_,⟨sE ?_,trivial⟩⟩⟩)
  ·rfl
  ·rfl
  ·rfl
  ·rfl
theorem QC (ts:List Int) (bd:List AL.Stmt) (pts:List Pnt) (s:Mc) (x:Pnt) (htl:ts.length ≤ 6) (hm:OkM s.cells) (hsl:s.slots.length = ts.length) (ho:x.op = 7) (hx:0 ≤ x.x ∧ x.x < ts.length) (hy:0 ≤ x.y ∧ x.y < ts.length):MC Tryz.prog 73 [.optr 0 0,dJ x] [(0,some (mO ts bd pts 1 2 s)),(1,some (flat dC s.slots)),(2,some (flat cI s.read))] 3 (fun _:Unit => True) (fun _ => iv (dS ts s x).2) (fun _ => [(0,some (mO ts bd pts 1 2 (dS ts s x).1)),(1,some (flat dC (dS ts s x).1.slots)),(2,some (flat cI (dS ts s x).1.read))]):=by
 have hus := gK ts bd pts x htl
 have hsm : Sm (wS ts x [1,2,3]) := b0 (by omega)
 obtain ⟨L,hL⟩ : ∃ L,L = a7 (wS ts x [1,2,3]) := ⟨_,rfl⟩
 have hLl : L.length ≤ 62 := by rw [hL]; exact cK _
 have hmem : ∀ k, k < L.length → 0 ≤ L[k]! ∧ L[k]! < s.slots.length := fun k hk => by
  rw [hsl]; exact iK (by rw [← hL]; exact aS _ _ hk)
 refine aU Tryz.func73 Tryz.ntmps73 ?_
 repeat' (first|(apply aF;first|(apply aA (k := 67);rfl;exact hus;exact Pur.pf;rfl)|(apply aA (k := 21);rfl;(apply fR <;> (assumption));(rfl);rfl))|refine aE ?_|refine bH ?_|fail)
 rw [← hL]
 refine aH (σ := Nat) [0,3,26,27] [0,1,2,3] (fun k => [(28,iv (k : Int))]) (fun k => []) (fun k => k ≤ L.length ∧ ∀ j,j < k → s.slots[(L[j]!).toNat]!.set = true) (fun k => L.length - k) (0) ⟨Nat.zero_le _,fun j h => absurd h (by omega)⟩ ?_
 rintro k ⟨hk,hall⟩
 by_cases hkn : k < L.length
 ·have hmk := hmem k hkn
  repeat' (first|refine aE ?_|(refine aK ?_ ?_ <;> intro hc hq <;> try (exfalso;omega))|fail)
  ·have hu : cG ts s x = true := (cF htl).2 ⟨L[k]!, by rw [← hL]; exact aS _ _ hkn, by assumption⟩
   rw [w5 hu]
   (refine aC rfl ?_; refine aP () trivial ?_ ⟨sE ?_,⟨sE ?_,⟨sE ?_,trivial⟩⟩⟩)
   ·rfl
   ·rfl
   ·rfl
   ·rfl
  ·(refine bB (k + 1) (Le.renA [(3, 3)]) ?_ ?_)
   ·refine ⟨by omega, fun j hj => ?_⟩
    rcases Nat.lt_or_ge j k with h|h
    ·exact hall j h
    ·rw [show j = k by omega]; assumption
   ·omega
 ·have hu : cG ts s x = false := by
   cases q : cG ts s x with
   | false => rfl
   | true =>
    obtain ⟨v,hv,hs⟩ := (cF htl).1 q
    rw [← hL] at hv
    obtain ⟨j,hj,e⟩ := List.getElem_of_mem hv
    have h1 := hall j (by omega)
    rw [aY _ _ hj,e,hs] at h1;cases h1
  rw [s7 hu]
  have hwr := Ab s.cells hm s.slots[x.x.toNat]!.ptr s.slots[x.y.toNat]!.num
  have hd : cM ts s x = (⟨s.slots,yL s.cells s.slots[x.x.toNat]!.ptr s.slots[x.y.toNat]!.num,s.read⟩,mE (yR s.cells s.slots[x.x.toNat]!.ptr s.slots[x.y.toNat]!.num)) := by unfold cM;rw [if_neg (show ¬ x.op = 1 by omega),if_neg (show ¬ x.op = 2 by omega),if_neg (show ¬ x.op = 3 by omega),if_neg (show ¬ (x.op = 4 ∨ x.op = 5) by omega),if_neg (show ¬ x.op = 6 by omega),if_pos ho]
  rw [hd]
  repeat' (first|(apply aF;first|(apply jN;(case hx|hH => rfl);(case hf|hg|hα => infer_instance);(case hk => omega);(case hj => decide);(case hc => exact (rfl:_=[_,_]));(case h0|hN => rfl))|(apply aA (k := 120);rfl;exact hwr;exact Pur.pf;rfl)|(apply aA (k := 118);rfl;(apply tN);(rfl);rfl))|refine aE ?_|(refine aK ?_ ?_ <;> intro hc hq <;> try (exfalso;omega))|refine bH ?_|fail)
  ·have hk : ¬ yR s.cells s.slots[x.x.toNat]!.ptr s.slots[x.y.toNat]!.num = 0 := by assumption
   (refine aC rfl ?_; refine aP () trivial ?_ ⟨sE ?_,⟨sE ?_,⟨sE ?_,trivial⟩⟩⟩)
   ·show iv (dZ _) = iv (mE _)
    unfold mE;rw [if_neg hk]
   ·rfl
   ·rfl
   ·rfl
  ·have hk : yR s.cells s.slots[x.x.toNat]!.ptr s.slots[x.y.toNat]!.num = 0 := by assumption
   (refine aC rfl ?_; refine aP () trivial ?_ ⟨sE ?_,⟨sE ?_,⟨sE ?_,trivial⟩⟩⟩)
   ·rw [hk]; rfl
   ·rfl
   ·rfl
   ·rfl
theorem QI (ts:List Int) (bd:List AL.Stmt) (pts:List Pnt) (s:Mc) (x:Pnt) (htl:ts.length ≤ 6) (hm:OkM s.cells) (hsl:s.slots.length = ts.length) (ho:x.op = 8) (hx:0 ≤ x.x ∧ x.x < ts.length):MC Tryz.prog 73 [.optr 0 0,dJ x] [(0,some (mO ts bd pts 1 2 s)),(1,some (flat dC s.slots)),(2,some (flat cI s.read))] 3 (fun _:Unit => True) (fun _ => iv (dS ts s x).2) (fun _ => [(0,some (mO ts bd pts 1 2 (dS ts s x).1)),(1,some (flat dC (dS ts s x).1.slots)),(2,some (flat cI (dS ts s x).1.read))]):=by
 have hus := gK ts bd pts x htl
 have hsm : Sm (wS ts x [1,2,3]) := b0 (by omega)
 obtain ⟨L,hL⟩ : ∃ L,L = a7 (wS ts x [1,2,3]) := ⟨_,rfl⟩
 have hLl : L.length ≤ 62 := by rw [hL]; exact cK _
 have hmem : ∀ k, k < L.length → 0 ≤ L[k]! ∧ L[k]! < s.slots.length := fun k hk => by
  rw [hsl]; exact iK (by rw [← hL]; exact aS _ _ hk)
 refine aU Tryz.func73 Tryz.ntmps73 ?_
 repeat' (first|(apply aF;first|(apply aA (k := 67);rfl;exact hus;exact Pur.pf;rfl)|(apply aA (k := 21);rfl;(apply fR <;> (assumption));(rfl);rfl))|refine aE ?_|refine bH ?_|fail)
 rw [← hL]
 refine aH (σ := Nat) [0,3,26,27] [0,1,2,3] (fun k => [(28,iv (k : Int))]) (fun k => []) (fun k => k ≤ L.length ∧ ∀ j,j < k → s.slots[(L[j]!).toNat]!.set = true) (fun k => L.length - k) (0) ⟨Nat.zero_le _,fun j h => absurd h (by omega)⟩ ?_
 rintro k ⟨hk,hall⟩
 by_cases hkn : k < L.length
 ·have hmk := hmem k hkn
  repeat' (first|refine aE ?_|(refine aK ?_ ?_ <;> intro hc hq <;> try (exfalso;omega))|fail)
  ·have hu : cG ts s x = true := (cF htl).2 ⟨L[k]!, by rw [← hL]; exact aS _ _ hkn, by assumption⟩
   rw [w5 hu]
   (refine aC rfl ?_; refine aP () trivial ?_ ⟨sE ?_,⟨sE ?_,⟨sE ?_,trivial⟩⟩⟩)
   ·rfl
   ·rfl
   ·rfl
   ·rfl
  ·(refine bB (k + 1) (Le.renA [(3, 3)]) ?_ ?_)
   ·refine ⟨by omega, fun j hj => ?_⟩
    rcases Nat.lt_or_ge j k with h|h
    ·exact hall j h
    ·rw [show j = k by omega]; assumption
   ·omega
 ·have hu : cG ts s x = false := by
   cases q : cG ts s x with
   | false => rfl
   | true =>
    obtain ⟨v,hv,hs⟩ := (cF htl).1 q
    rw [← hL] at hv
    obtain ⟨j,hj,e⟩ := List.getElem_of_mem hv
    have h1 := hall j (by omega)
    rw [aY _ _ hj,e,hs] at h1;cases h1
  rw [s7 hu]
  have hfr := IX ts bd pts s x.x hm hsl hx
  have hd : cM ts s x = (⟨s.slots.set x.x.toNat lN,k6 s.cells s.slots[x.x.toNat]!.ptr,s.read⟩,mE (a8 s.cells s.slots[x.x.toNat]!.ptr true)) := by unfold cM;rw [if_neg (show ¬ x.op = 1 by omega),if_neg (show ¬ x.op = 2 by omega),if_neg (show ¬ x.op = 3 by omega),if_neg (show ¬ (x.op = 4 ∨ x.op = 5) by omega),if_neg (show ¬ x.op = 6 by omega),if_neg (show ¬ x.op = 7 by omega),if_pos ho]
  rw [hd]
  repeat' (first|(apply aF;first|(apply Gx (ts := ts) (bd := bd) (pts := pts) (s := s) (v := x.x);rfl;rfl;rfl;rfl;rfl;rfl;exact hfr;rfl;rfl)|(apply bC;rfl;rfl;rfl;rfl;rfl;(rw [aI]; simp only [gB] <;> omega);(exact xO (by (omega)))))|refine aE ?_|(refine aK ?_ ?_ <;> intro hc hq <;> try (exfalso;omega))|refine bH ?_|fail)
  (refine aC rfl ?_; refine aP () trivial ?_ ⟨sE ?_,⟨sE ?_,⟨sE ?_,trivial⟩⟩⟩)
  ·rfl
  ·rfl
  ·rfl
  ·rfl
theorem Q9 (ts:List Int) (bd:List AL.Stmt) (pts:List Pnt) (s:Mc) (x:Pnt) (htl:ts.length ≤ 6) (hm:OkM s.cells) (hsl:s.slots.length = ts.length) (ho:x.op = 9 ∨ x.op = 10 ∨ x.op = 11):MC Tryz.prog 73 [.optr 0 0,dJ x] [(0,some (mO ts bd pts 1 2 s)),(1,some (flat dC s.slots)),(2,some (flat cI s.read))] 3 (fun _:Unit => True) (fun _ => iv (dS ts s x).2) (fun _ => [(0,some (mO ts bd pts 1 2 (dS ts s x).1)),(1,some (flat dC (dS ts s x).1.slots)),(2,some (flat cI (dS ts s x).1.read))]):=by
 have hus := gK ts bd pts x htl
 have hsm : Sm (wS ts x [1,2,3]) := b0 (by omega)
 obtain ⟨L,hL⟩ : ∃ L,L = a7 (wS ts x [1,2,3]) := ⟨_,rfl⟩
 have hLl : L.length ≤ 62 := by rw [hL]; exact cK _
 have hmem : ∀ k, k < L.length → 0 ≤ L[k]! ∧ L[k]! < s.slots.length := fun k hk => by
  rw [hsl]; exact iK (by rw [← hL]; exact aS _ _ hk)
 refine aU Tryz.func73 Tryz.ntmps73 ?_
 repeat' (first|(apply aF;first|(apply aA (k := 67);rfl;exact hus;exact Pur.pf;rfl)|(apply aA (k := 21);rfl;(apply fR <;> (assumption));(rfl);rfl))|refine aE ?_|refine bH ?_|fail)
 rw [← hL]
 refine aH (σ := Nat) [0,3,26,27] [0,1,2,3] (fun k => [(28,iv (k : Int))]) (fun k => []) (fun k => k ≤ L.length ∧ ∀ j,j < k → s.slots[(L[j]!).toNat]!.set = true) (fun k => L.length - k) (0) ⟨Nat.zero_le _,fun j h => absurd h (by omega)⟩ ?_
 rintro k ⟨hk,hall⟩
 by_cases hkn : k < L.length
 ·have hmk := hmem k hkn
  repeat' (first|refine aE ?_|(refine aK ?_ ?_ <;> intro hc hq <;> try (exfalso;omega))|fail)
  ·have hu : cG ts s x = true := (cF htl).2 ⟨L[k]!, by rw [← hL]; exact aS _ _ hkn, by assumption⟩
   rw [w5 hu]
   (refine aC rfl ?_; refine aP () trivial ?_ ⟨sE ?_,⟨sE ?_,⟨sE ?_,trivial⟩⟩⟩)
   ·rfl
   ·rfl
   ·rfl
   ·rfl
  ·(refine bB (k + 1) (Le.renA [(3, 3)]) ?_ ?_)
   ·refine ⟨by omega, fun j hj => ?_⟩
    rcases Nat.lt_or_ge j k with h|h
    ·exact hall j h
    ·rw [show j = k by omega]; assumption
   ·omega
 ·have hu : cG ts s x = false := by
   cases q : cG ts s x with
   | false => rfl
   | true =>
    obtain ⟨v,hv,hs⟩ := (cF htl).1 q
    rw [← hL] at hv
    obtain ⟨j,hj,e⟩ := List.getElem_of_mem hv
    have h1 := hall j (by omega)
    rw [aY _ _ hj,e,hs] at h1;cases h1
  rw [s7 hu]
  by_cases h11 : x.op = 11
  ·have hd : cM ts s x = cL ts ts.length 0 s := JG h11
   rw [hd]
   have hfi := PE ts bd pts s hm hsl (by omega)
   repeat' (first|(apply aF;(apply L5 (ts := ts) (bd := bd) (pts := pts) (s := s);rfl;rfl;rfl;rfl;rfl;exact hfi;rfl;rfl))|refine aE ?_|(refine aK ?_ ?_ <;> intro hc hq <;> try (exfalso;omega))|fail)
   (refine aC rfl ?_; refine aP () trivial ?_ ⟨sE ?_,⟨sE ?_,⟨sE ?_,trivial⟩⟩⟩)
   ·rfl
   ·rfl
   ·rfl
   ·rfl
  ·have hd : cM ts s x = (s, -1) := by unfold cM; rw [if_neg (show ¬ x.op = 1 by omega), if_neg (show ¬ x.op = 2 by omega), if_neg (show ¬ x.op = 3 by omega), if_neg (show ¬ (x.op = 4 ∨ x.op = 5) by omega), if_neg (show ¬ x.op = 6 by omega), if_neg (show ¬ x.op = 7 by omega), if_neg (show ¬ x.op = 8 by omega), if_neg (show ¬ x.op = 11 by omega)]
   rw [hd]
   repeat' (first|refine aE ?_|(refine aK ?_ ?_ <;> intro hc hq <;> try (exfalso;omega))|fail)
   (refine aC rfl ?_; refine aP () trivial ?_ ⟨sE ?_,⟨sE ?_,⟨sE ?_,trivial⟩⟩⟩)
   ·rfl
   ·rfl
   ·rfl
   ·rfl
theorem PV (ts:List Int) (bd:List AL.Stmt) (pts:List Pnt) (s:Mc) (x:Pnt) (htl:ts.length ≤ 6) (hm:OkM s.cells) (hsl:s.slots.length = ts.length) (ho:x.op = 6) (hrl:s.read.length ≤ 1000) (hx:0 ≤ x.x ∧ x.x < ts.length) (hy:0 ≤ x.y ∧ x.y < ts.length) (hz:a8 s.cells s.slots[x.y.toNat]!.ptr false = 0) (hun:cG ts s x = false):MC Tryz.prog 73 [.optr 0 0,dJ x] [(0,some (mO ts bd pts 1 2 s)),(1,some (flat dC s.slots)),(2,some (flat cI s.read))] 3 (fun _:Unit => True) (fun _ => iv (dS ts s x).2) (fun _ => [(0,some (mO ts bd pts 1 5 (dS ts s x).1)),(1,some (flat dC (dS ts s x).1.slots)),(5,some (flat cI (dS ts s x).1.read))]):=by
 have hus := gK ts bd pts x htl
 have hsm : Sm (wS ts x [1,2,3]) := b0 (by omega)
 obtain ⟨L,hL⟩ : ∃ L,L = a7 (wS ts x [1,2,3]) := ⟨_,rfl⟩
 have hLl : L.length ≤ 62 := by rw [hL]; exact cK _
 have hmem : ∀ k, k < L.length → 0 ≤ L[k]! ∧ L[k]! < s.slots.length := fun k hk => by
  rw [hsl]; exact iK (by rw [← hL]; exact aS _ _ hk)
 refine aU Tryz.func73 Tryz.ntmps73 ?_
 repeat' (first|(apply aF;first|(apply aA (k := 67);rfl;exact hus;exact Pur.pf;rfl)|(apply aA (k := 21);rfl;(apply fR <;> (assumption));(rfl);rfl))|refine aE ?_|refine bH ?_|fail)
 rw [← hL]
 refine aH (σ := Nat) [0,3,26,27] [0,1,2,3] (fun k => [(28,iv (k : Int))]) (fun k => []) (fun k => k ≤ L.length ∧ ∀ j,j < k → s.slots[(L[j]!).toNat]!.set = true) (fun k => L.length - k) (0) ⟨Nat.zero_le _,fun j h => absurd h (by omega)⟩ ?_
 rintro k ⟨hk,hall⟩
 by_cases hkn : k < L.length
 ·have hmk := hmem k hkn
  repeat' (first|refine aE ?_|(refine aK ?_ ?_ <;> intro hc hq <;> try (exfalso;omega))|fail)
  ·exfalso
   have hu : cG ts s x = true := (cF htl).2 ⟨L[k]!,by rw [← hL]; exact aS _ _ hkn,by assumption⟩
   rw [hun] at hu;cases hu
  ·(refine bB (k + 1) (Le.renA [(3, 3)]) ?_ ?_)
   ·refine ⟨by omega, fun j hj => ?_⟩
    rcases Nat.lt_or_ge j k with h|h
    ·exact hall j h
    ·rw [show j = k by omega]; assumption
   ·omega
 ·have hu : cG ts s x = false := by
   cases q : cG ts s x with
   | false => rfl
   | true =>
    obtain ⟨v,hv,hs⟩ := (cF htl).1 q
    rw [← hL] at hv
    obtain ⟨j,hj,e⟩ := List.getElem_of_mem hv
    have h1 := hall j (by omega)
    rw [aY _ _ hj,e,hs] at h1;cases h1
  rw [s7 hu]
  have hrc := r9 s.cells hm s.slots[x.y.toNat]!.ptr
  have hp := n6 ts bd pts ⟨s.slots,dQ s.cells s.slots[x.y.toNat]!.ptr false,s.read ++ [pC s.cells s.slots[x.y.toNat]!.ptr]⟩ x.x ⟨true,pC s.cells s.slots[x.y.toNat]!.ptr,⟨0,0⟩⟩ (hm.tch _ _) hsl hx
  have hd : cM ts s x = bS ts ⟨s.slots,dQ s.cells s.slots[x.y.toNat]!.ptr false,s.read ++ [pC s.cells s.slots[x.y.toNat]!.ptr]⟩ x.x.toNat ⟨true,pC s.cells s.slots[x.y.toNat]!.ptr,⟨0,0⟩⟩ := by unfold cM;rw [if_neg (show ¬ x.op = 1 by omega),if_neg (show ¬ x.op = 2 by omega),if_neg (show ¬ x.op = 3 by omega),if_neg (show ¬ (x.op = 4 ∨ x.op = 5) by omega),if_pos ho,if_pos hz]
  rw [hd]
  rw [hz] at hrc
  repeat' (first|(apply aF;first|(apply jN;(case hx|hH => rfl);(case hf|hg|hα => infer_instance);(case hk => omega);(case hj => decide);(case hc => exact (rfl:_=[_,_]));(case h0|hN => rfl))|(apply aA (k := 119);rfl;exact hrc;exact Pur.pf;rfl)|(with_reducible apply aZ (d := 184))|(apply aJ (t := _);rfl;rfl;rfl;exact (rfl:_=some [_]);rfl;rfl))|refine aE ?_|(refine aK ?_ ?_ <;> intro hc hq <;> try (exfalso;omega))|refine bH ?_|fail)
  refine bY ?_
  rw [show s.read.length + 1 = (s.read ++ [pC s.cells s.slots[x.y.toNat]!.ptr]).length from by rw [List.length_append]; rfl]
  repeat' (first|(apply aF;(apply k8 (ts := ts) (bd := bd) (pts := pts) (s := ⟨s.slots,dQ s.cells s.slots[x.y.toNat]!.ptr false,s.read ++ [pC s.cells s.slots[x.y.toNat]!.ptr]⟩) (v := x.x) (y := ⟨true,pC s.cells s.slots[x.y.toNat]!.ptr,⟨0,0⟩⟩);rfl;rfl;rfl;rfl;rfl;rfl;rfl;exact hp;rfl;rfl))|refine aE ?_|fail)
  (refine aC rfl ?_; refine aP () trivial ?_ ⟨sE ?_,⟨sE ?_,⟨sE ?_,trivial⟩⟩⟩)
  ·rfl
  ·rfl
  ·rfl
  ·rfl
theorem Rp (ts:List Int) (bd:List AL.Stmt) (pts:List Pnt) (s:Mc) (x:Pnt) (htl:ts.length ≤ 6) (hm:OkM s.cells) (hsl:s.slots.length = ts.length) (hun:cG ts s x = true):MC Tryz.prog 73 [.optr 0 0,dJ x] [(0,some (mO ts bd pts 1 2 s)),(1,some (flat dC s.slots)),(2,some (flat cI s.read))] 3 (fun _:Unit => True) (fun _ => iv (dS ts s x).2) (fun _ => [(0,some (mO ts bd pts 1 2 (dS ts s x).1)),(1,some (flat dC (dS ts s x).1.slots)),(2,some (flat cI (dS ts s x).1.read))]):=by
 have hus := gK ts bd pts x htl
 have hsm : Sm (wS ts x [1,2,3]) := b0 (by omega)
 obtain ⟨L,hL⟩ : ∃ L,L = a7 (wS ts x [1,2,3]) := ⟨_,rfl⟩
 have hLl : L.length ≤ 62 := by rw [hL]; exact cK _
 have hmem : ∀ k, k < L.length → 0 ≤ L[k]! ∧ L[k]! < s.slots.length := fun k hk => by
  rw [hsl]; exact iK (by rw [← hL]; exact aS _ _ hk)
 refine aU Tryz.func73 Tryz.ntmps73 ?_
 repeat' (first|(apply aF;first|(apply aA (k := 67);rfl;exact hus;exact Pur.pf;rfl)|(apply aA (k := 21);rfl;(apply fR <;> (assumption));(rfl);rfl))|refine aE ?_|refine bH ?_|fail)
 rw [← hL]
 refine aH (σ := Nat) [0,3,26,27] [0,1,2,3] (fun k => [(28,iv (k : Int))]) (fun k => []) (fun k => k ≤ L.length ∧ ∀ j,j < k → s.slots[(L[j]!).toNat]!.set = true) (fun k => L.length - k) (0) ⟨Nat.zero_le _,fun j h => absurd h (by omega)⟩ ?_
 rintro k ⟨hk,hall⟩
 by_cases hkn : k < L.length
 ·have hmk := hmem k hkn
  repeat' (first|refine aE ?_|(refine aK ?_ ?_ <;> intro hc hq <;> try (exfalso;omega))|fail)
  ·have hu : cG ts s x = true := (cF htl).2 ⟨L[k]!, by rw [← hL]; exact aS _ _ hkn, by assumption⟩
   rw [w5 hu]
   (refine aC rfl ?_; refine aP () trivial ?_ ⟨sE ?_,⟨sE ?_,⟨sE ?_,trivial⟩⟩⟩)
   ·rfl
   ·rfl
   ·rfl
   ·rfl
  ·(refine bB (k + 1) (Le.renA [(3, 3)]) ?_ ?_)
   ·refine ⟨by omega, fun j hj => ?_⟩
    rcases Nat.lt_or_ge j k with h|h
    ·exact hall j h
    ·rw [show j = k by omega]; assumption
   ·omega
 ·have hu : cG ts s x = false := by
   cases q : cG ts s x with
   | false => rfl
   | true =>
    obtain ⟨v,hv,hs⟩ := (cF htl).1 q
    rw [← hL] at hv
    obtain ⟨j,hj,e⟩ := List.getElem_of_mem hv
    have h1 := hall j (by omega)
    rw [aY _ _ hj,e,hs] at h1;cases h1
  rw [s7 hu]
  rw [hun] at hu;cases hu
end Go.Proofs.YteidfaaldcedpaaGreatDoor
