/-
 A part of the proofs over this program: rules and contracts of its functions (the contracts).
-/
import Derived.Test.YtahdccneecdmmaaGreatQ6B05
set_option linter.unusedVariables false
set_option linter.unusedSimpArgs false
set_option maxHeartbeats 8000000
set_option maxRecDepth 4000
attribute [local irreducible] Go.AL.RW Go.AL.AW Go.AL.Stop
namespace Go.Proofs.YtahdccneecdmmaaGreat
open Go.AL Go.RowKit
variable {N : Nat} {Q : Exit → AS → Prop} {all : Array Oper} {rest : List Oper} {tsl : List (Nat × AV)} {hsl : List (Nat × Option (List AV))} {nidl : Nat} {z0 : Lo} {md : Md} {d : Nat} {ty : TypeId} {pos : String} {af : Array Edge} {tys : Array TypeId}
theorem iK {m:List Cl}{x0:Operand}(ha0:ev (lk tsl) x0 = some (sl bJ m)) (hmc:MC Tryz.prog 241 [sl bJ m] [] 0 (fun _:Unit => True) (fun _ => .own 1 0 m.length 4) (fun _ => [(1,some (flat bJ m))])) (hM:Nat.ble (nidl + 2) a6 = true) (hN:Nat.blt d N = true){md':Md}[hmd:MdA md (fI [x0] ++ []) (List.map Sum.inr (List.map Prod.fst ([((nidl + 1),some (flat bJ m))]:List (Nat × Option (List AV)))) ++ [.inl d]) md'] (kk:RW Tryz.prog N all Q md' rest ⟨(d,.own (nidl + 1) 0 m.length 4) :: tsl,gE hsl [((nidl + 1),some (flat bJ m))],nidl + 2,z0⟩):RW Tryz.prog N all Q md (⟨some d,.call ⟨.value (.func 241),#[x0],tys⟩,ty,pos,af,none⟩ :: rest) ⟨tsl,hsl,nidl,z0⟩:=by
 exact aX (l := [x0]) [] 2 [((nidl + 1),some (flat bJ m))] hmc (avs := [sl bJ m]) (by simp only [evL,ha0]) rfl hM hN (md' := md') (hmd := hmd) kk
theorem pZ {m:List Cl}{j:Nat}{x0:Operand}(ha0:ev (lk tsl) x0 = some (sl bJ m)) (hmc:MC Tryz.prog 241 [sl bJ m] [] 0 (fun _:Unit => True) (fun _ => .own 1 0 m.length 4) (fun _ => [(1,some (flat e7 (dB m j (.own 2 0 m[j]!.stk.length 2)))),(2,some (flat cG m[j]!.stk))])) (hM:Nat.ble (nidl + 3) a6 = true) (hN:Nat.blt d N = true){md':Md}[hmd:MdA md (fI [x0] ++ []) (List.map Sum.inr (List.map Prod.fst ([((nidl + 1),some (flat e7 (dB m j (.own (nidl + 2) 0 m[j]!.stk.length 2)))),((nidl + 2),some (flat cG m[j]!.stk))]:List (Nat × Option (List AV)))) ++ [.inl d]) md'] (kk:RW Tryz.prog N all Q md' rest ⟨(d,.own (nidl + 1) 0 m.length 4) :: tsl,gE hsl [((nidl + 1),some (flat e7 (dB m j (.own (nidl + 2) 0 m[j]!.stk.length 2)))),((nidl + 2),some (flat cG m[j]!.stk))],nidl + 3,z0⟩):RW Tryz.prog N all Q md (⟨some d,.call ⟨.value (.func 241),#[x0],tys⟩,ty,pos,af,none⟩ :: rest) ⟨tsl,hsl,nidl,z0⟩:=by
 exact aX (l := [x0]) [] 3 [((nidl + 1),some (flat e7 (dB m j (.own (nidl + 2) 0 m[j]!.stk.length 2)))),((nidl + 2),some (flat cG m[j]!.stk))] hmc (avs := [sl bJ m]) (by simp only [evL,ha0]) rfl hM hN (md' := md') (hmd := hmd) kk
theorem mQ {α:Type}[Inhabited α] (l:List α) (k:Nat):l.set k l[k]! = l:=by
 rcases Nat.lt_or_ge k l.length with h|h
 ·rw [aZ _ _ h]; simp
 ·exact List.set_eq_of_length_le h
theorem Fo {m:List Cl}{i:Nat}(hi:i < m.length):g6 (flat bJ m) (0 + i * 4 + 3) [sl cG m[i]!.stk] = flat bJ m:=by
 have h := Dt (xs := m) (k := i) (s := m[i]!.stk) hi
 rw [show m.set i { m[i]! with stk := m[i]!.stk } = m from mQ m i] at h
 exact h
theorem Ey {m:List Cl}{i j:Nat}{X:AV}(hi:i < m.length) (h:i ≠ j):(dB m j X)[i]! = tD m[i]!:=by
 unfold dB
 rw [aZ _ _ (by rw [List.length_set,List.length_map]; exact hi),List.getElem_set_ne (fun e => h e.symm),List.getElem_map,aZ _ _ hi]
theorem M0 {m:List Cl}{i j:Nat}{X:AV}(h:i < m.length ∧ i ≠ j):g6 (flat e7 (dB m j X)) (0 + i * 4 + 3) [sl cG m[i]!.stk] = flat e7 (dB m j X):=by
 have hl := c7 (m := m) (j := j) (X := X)
 have e : (dB m j X).set i { (dB m j X)[i]! with av := sl cG m[i]!.stk } = dB m j X := by
  rw [Ey h.1 h.2]
  have : ({ tD m[i]! with av := sl cG m[i]!.stk } : Co) = (dB m j X)[i]! := by rw [Ey h.1 h.2]; rfl
  rw [this]; exact mQ _ _
 rw [← e]
 have := eR (f := e7) (xs := dB m j X) (k := i) (j := 3) (new := [sl cG m[i]!.stk]) (y := { (dB m j X)[i]! with av := sl cG m[i]!.stk }) (by rw [hl]; exact h.1) (by simp) rfl
 rw [e] at this ⊢
 exact this
theorem pW {mp:List (Nat × Nat)}{lo:Lo}:∀ {cs:List AV},bR cs = true → All2 (Hs mp lo) cs cs
 | [],_ => .nil
 | c :: cs, h => by
  simp only [bR,Bool.and_eq_true] at h
  exact .cons (.inl ⟨rfl,h.1⟩) (pW h.2)
theorem vR {α β:Type}{R:α → β → Prop}:∀ {a:List α}{b:List β}{c:List α}{d:List β},All2 R a b → All2 R c d → All2 R (a ++ c) (b ++ d)
 | _,_,_,_,.nil,h => h
 | _,_,_,_,.cons h1 h2,h => .cons h1 (vR h2 h)
theorem Fl {mp:List (Nat × Nat)}{lo:Lo}{m:List Cl}{j k i i':Nat}(h:j < m.length) (hr:Qm mp lo (.own i 0 k 2) = some (.own i' 0 k 2)):All2 (Hs mp lo) (flat e7 (dB m j (.own i 0 k 2))) (flat e7 (dB m j (.own i' 0 k 2))):=by
 rw [j1 h,j1 h]
 exact vR (pW (inferInstance : Pur (flat bJ _)).pf) (vR (pW (inferInstance : Pur [iv _,bv _,iv _]).pf) (.cons (.inr hr) (pW (inferInstance : Pur (flat bJ _)).pf)))
theorem kX (m:List Cl) (hm:OkM m):MC Tryz.prog 241 [sl bJ m] [] 0 (fun _:Unit => True) (fun _ => .own 1 0 m.length 4) (fun _ => [(1,some (flat bJ m))]):=by
 have hml := hm.l
 have hcc := Bq m (by omega)
 refine aW Tryz.func241 Tryz.ntmps241 ?_
 repeat' (first|(apply aF;(apply yO;rfl;exact hcc;rfl;rfl))|refine aE ?_|fail)
 refine aH (σ := Nat) [3,8,9] [] (fun k => [(10,iv (k : Int))]) (fun k => [(1,some (flat bJ m))]) (fun k => k ≤ m.length) (fun k => m.length - k) (0) (Nat.zero_le _) ?_
 rintro i hi
 by_cases hin : i < m.length
 ·have hst : m[i]!.stk.length ≤ 200 := (((cX m).1 hm).2 i hin).l.2
  have hct := CA m[i]!.stk (by omega)
  repeat' (first|(apply aF;first|(apply rT;rfl;exact hct;rfl;rfl)|(with_reducible apply aY (d := 20)))|refine aE ?_|(refine aK ?_ ?_ <;> intro hc hq <;> try (exfalso;omega))|fail)
  refine bY (c5 ?_ (Le.frzD (d := 19) (i := 4) rfl rfl))
  repeat' (first|(apply aF;(apply bD;rfl;rfl;rfl;rfl;rfl;(rw [aI]; simp only [gA] <;> omega);(exact Fo (by (assumption)))))|refine aE ?_|fail)
  (apply bC (i + 1);focus (refine Le.ren [(1,1)] rfl (by decide) ?_ ?_ <;> repeat' (first|exact trivial|refine And.intro ⟨_,rfl,?_⟩ ?_|refine And.intro ⟨_,_,rfl,rfl,?_⟩ ?_|exact Or.inr rfl|refine Or.inl ⟨?_,(by first|rfl|exact bF _ _)⟩|rfl)))
  ·omega
  ·omega
 ·repeat' (first | refine aE ?_ | (refine aK ?_ ?_ <;> intro hc hq <;> try (exfalso; omega))|fail)
  (refine aC rfl ?_; refine aS () trivial ?_ ⟨sE ?_,trivial⟩)
  ·rfl
  ·rfl
theorem u6 (m:List Cl) (j:Nat) (hm:OkM m) (hj:j < m.length):MC Tryz.prog 241 [sl bJ m] [] 0 (fun _:Unit => True) (fun _ => .own 1 0 m.length 4) (fun _ => [(1,some (flat e7 (dB m j (.own 2 0 m[j]!.stk.length 2)))),(2,some (flat cG m[j]!.stk))]):=by
 have hml := hm.l
 have hcc := Bq m (by omega)
 refine aW Tryz.func241 Tryz.ntmps241 ?_
 repeat' (first|(apply aF;(apply yO;rfl;exact hcc;rfl;rfl))|refine aE ?_|fail)
 refine AW.le ?_ (Le.bump 1)
 refine aH (σ := Nat × Bool) [3,8,9] [] (fun k => [(10,iv (k.1 : Int))]) (fun k => [(1,some (cond k.2 (flat e7 (dB m j (.own 2 0 m[j]!.stk.length 2))) (flat bJ m))),(2,cond k.2 (some (flat cG m[j]!.stk)) none)]) (fun k => k.1 ≤ m.length ∧ k.2 = decide (j < k.1)) (fun k => m.length - k.1) (0,false) ⟨Nat.zero_le _,by simp⟩ ?_
 rintro ⟨i,b⟩ ⟨hi,hb⟩
 dsimp only at hi hb ⊢
 by_cases hin : i < m.length
 ·have hst : m[i]!.stk.length ≤ 200 := (((cX m).1 hm).2 i hin).l.2
  have hct := CA m[i]!.stk (by omega)
  by_cases hij : j < i
  ·rw [decide_eq_true hij] at hb; subst hb
   simp only [cond_true]
   have hol := c7 (m := m) (j := j) (X := .own 2 0 m[j]!.stk.length 2)
   have hon := Ey (m := m) (i := i) (j := j) (X := .own 2 0 m[j]!.stk.length 2) hin (by omega)
   repeat' (first|(apply aF;(with_reducible apply aY (d := 5)))|refine aE ?_|(refine aK ?_ ?_ <;> intro hc hq <;> try (exfalso;omega))|fail)
   refine bY ?_
   rw [hon]
   dsimp only [tD]
   repeat' (first|(apply aF;first|(apply rT;rfl;exact hct;rfl;rfl)|(with_reducible apply aY (d := 20)))|refine aE ?_|fail)
   refine bY (c5 ?_ (Le.frzD (d := 19) (i := 5) rfl rfl))
   repeat' (first|(apply aF;(apply bD;rfl;rfl;rfl;rfl;rfl;(rw [aI]; simp only [gA] <;> omega);(exact M0 (by (omega)))))|refine aE ?_|fail)
   (apply bC (i + 1,true);focus (refine Le.ren [(1,1),(2,2)] rfl (by decide) ?_ ?_ <;> repeat' (first|exact trivial|refine And.intro ⟨_,rfl,?_⟩ ?_|refine And.intro ⟨_,_,rfl,rfl,?_⟩ ?_|exact Or.inr rfl|refine Or.inl ⟨?_,(by first|rfl|exact bF _ _)⟩|rfl)))
   ·exact Or.inr (Fl hj rfl)
   ·exact ⟨by dsimp only;omega,by dsimp only;rw [decide_eq_true (by omega)]⟩
   ·dsimp only;omega
  ·rw [decide_eq_false hij] at hb; subst hb
   simp only [cond_false]
   repeat' (first|(apply aF;first|(apply rT;rfl;exact hct;rfl;rfl)|(with_reducible apply aY (d := 20)))|refine aE ?_|(refine aK ?_ ?_ <;> intro hc hq <;> try (exfalso;omega))|fail)
   by_cases hie : i = j
   ·subst hie
    refine bY ?_
    repeat' (first|(apply aF;(apply bD;rfl;rfl;rfl;rfl;rfl;(rw [aI]; simp only [gA] <;> omega);(exact Bb (by (assumption)))))|refine aE ?_|fail)
    (apply bC (i + 1,true);focus (refine Le.ren [(1,1),(2,5)] rfl (by decide) ?_ ?_ <;> repeat' (first|exact trivial|refine And.intro ⟨_,rfl,?_⟩ ?_|refine And.intro ⟨_,_,rfl,rfl,?_⟩ ?_|exact Or.inr rfl|refine Or.inl ⟨?_,(by first|rfl|exact bF _ _)⟩|rfl)))
    ·exact Or.inr (Fl hin rfl)
    ·exact ⟨by dsimp only;omega,by dsimp only;rw [decide_eq_true (by omega)]⟩
    ·dsimp only;omega
   ·refine bY (c5 ?_ (Le.frzD (d := 19) (i := 5) rfl rfl))
    repeat' (first|(apply aF;(apply bD;rfl;rfl;rfl;rfl;rfl;(rw [aI]; simp only [gA] <;> omega);(exact Fo (by (assumption)))))|refine aE ?_|fail)
    (apply bC (i + 1,false);focus (refine Le.ren [(1,1)] rfl (by decide) ?_ ?_ <;> repeat' (first|exact trivial|refine And.intro ⟨_,rfl,?_⟩ ?_|refine And.intro ⟨_,_,rfl,rfl,?_⟩ ?_|exact Or.inr rfl|refine Or.inl ⟨?_,(by first|rfl|exact bF _ _)⟩|rfl)))
    ·exact ⟨by dsimp only;omega,by dsimp only;rw [decide_eq_false (by omega)]⟩
    ·dsimp only;omega
 ·rw [decide_eq_true (by omega)] at hb; subst hb
  simp only [cond_true]
  repeat' (first|refine aE ?_|(refine aK ?_ ?_ <;> intro hc hq <;> try (exfalso;omega))|fail)
  (refine aC rfl ?_; refine aS () trivial ?_ ⟨sE ?_,⟨sE ?_,trivial⟩⟩)
  ·rfl
  ·rfl
  ·rfl
theorem oA {m:List Cl}{x:Pt}{wr:Bool}{n:Nat}{x0 x1 x2:Operand}{i0:Nat}(ha0:ev (lk tsl) x0 = some (.own i0 0 n 4)) (ha1:ev (lk tsl) x1 = some (n6 x)) (ha2:ev (lk tsl) x2 = some (bv wr)) (hH0:aV hsl i0 = some (flat bJ m)) (hmc:MC Tryz.prog 242 [.own 0 0 n 4,n6 x,bv wr] [(0,some (flat bJ m))] 1 (fun _:Unit => True) (fun _ => iv (a7 m x wr)) (fun _ => [(0,some (flat bJ m))])) (hM:Nat.ble (nidl + 0) a6 = true) (hN:Nat.blt d N = true){md':Md}[hmd:MdA md (fI [x0,x1,x2] ++ [.inr i0]) (List.map Sum.inr (List.map Prod.fst ([(i0,some (flat bJ m))]:List (Nat × Option (List AV)))) ++ [.inl d]) md'] (kk:RW Tryz.prog N all Q md' rest ⟨(d,iv (a7 m x wr)) :: tsl,gE hsl [(i0,some (flat bJ m))],nidl + 0,z0⟩):RW Tryz.prog N all Q md (⟨some d,.call ⟨.value (.func 242),#[x0,x1,x2],tys⟩,ty,pos,af,none⟩ :: rest) ⟨tsl,hsl,nidl,z0⟩:=by
 exact aX (l := [x0,x1,x2]) [i0] 1 [(i0,some (flat bJ m))] hmc (avs := [.own i0 0 n 4,n6 x,bv wr]) (by simp only [evL,ha0,ha1,ha2]) rfl hM hN (md' := md') (hmd := hmd) kk
theorem y9 {m:List Cl}{j:Nat}{t:Int}{k n:Nat}{x0 x1 x2:Operand}{i0 i1:Nat}(ha0:ev (lk tsl) x0 = some (.own i0 0 n 4)) (ha1:ev (lk tsl) x1 = some (.agg [iv (j:Int),iv t])) (ha2:ev (lk tsl) x2 = some (bv true)) (hH0:aV hsl i0 = some (flat e7 (dB m j (.own i1 0 m[j]!.stk.length 2)))) (hH1:aV hsl i1 = some (flat cG m[j]!.stk)) (hdd:Go.AL.distinct [i0,i1] = true) (hmc:MC Tryz.prog 242 [.own 0 0 n 4,.agg [iv (j:Int),iv t],bv true] [(0,some (flat e7 (dB m j (.own 1 0 m[j]!.stk.length 2)))),(1,some (flat cG m[j]!.stk))] 2 (fun _:Unit => True) (fun _ => iv 0) (fun _ => [(0,some (flat e7 (dB m j (.own 1 0 (k + 1) 2)))),(1,some (flat cG (m[j]!.stk.take (k + 1))))])) (hM:Nat.ble (nidl + 0) a6 = true) (hN:Nat.blt d N = true){md':Md}[hmd:MdA md (fI [x0,x1,x2] ++ [.inr i0,.inr i1]) (List.map Sum.inr (List.map Prod.fst ([(i0,some (flat e7 (dB m j (.own i1 0 (k + 1) 2)))),(i1,some (flat cG (m[j]!.stk.take (k + 1))))]:List (Nat × Option (List AV)))) ++ [.inl d]) md'] (kk:RW Tryz.prog N all Q md' rest ⟨(d,iv 0) :: tsl,gE hsl [(i0,some (flat e7 (dB m j (.own i1 0 (k + 1) 2)))),(i1,some (flat cG (m[j]!.stk.take (k + 1))))],nidl + 0,z0⟩):RW Tryz.prog N all Q md (⟨some d,.call ⟨.value (.func 242),#[x0,x1,x2],tys⟩,ty,pos,af,none⟩ :: rest) ⟨tsl,hsl,nidl,z0⟩:=by
 exact aX (l := [x0,x1,x2]) [i0,i1] 2 [(i0,some (flat e7 (dB m j (.own i1 0 (k + 1) 2)))),(i1,some (flat cG (m[j]!.stk.take (k + 1))))] hmc (avs := [.own i0 0 n 4,.agg [iv (j : Int),iv t],bv true]) (by simp only [evL,ha0,ha1,ha2]) hdd hM hN (md' := md') (hmd := hmd) kk
theorem LdL.app {D:List Nat}{H:Nat → Option (List AV)}:∀ {a b c d:List AV},LdL D H a b → LdL D H c d → bR a = true → LdL D H (a ++ c) (a ++ d)
 | [],_,_,_,_,h,_ => h
 | x :: a, b, c, d, h1, h, hp => by
  simp only [bR,Bool.and_eq_true] at hp
  exact .cons (.pur hp.1) (LdL.app (a := a) (b := a) (.pur hp.2) h hp.2)
theorem Qf {D:List Nat}{H:Nat → Option (List AV)}{m:List Cl}{j i k:Nat}{r:List Tg}(hi:i ∈ D) (hH:H i = some (flat cG r)) (hk:k = r.length) (hj:j < m.length):LdL D H (flat e7 (dB m j (.own i 0 k 2))) (flat bJ (m.set j { m[j]! with stk := r })):=by
 subst hk
 rw [← B2,j1 hj,j1 hj]
 have p1 : bR (flat bJ (m.take j)) = true := (inferInstance : Pur (flat bJ _)).pf
 have p2 : bR [iv m[j]!.val,bv m[j]!.alive,iv m[j]!.next] = true := rfl
 exact LdL.app (.pur p1) (LdL.app (.pur p2) (.cons (.own hi hH (.pur (inferInstance : Pur (flat cG r)).pf)) (.pur (inferInstance : Pur (flat bJ _)).pf)) p2) p1
theorem FR {D:List Nat}{H:Nat → Option (List AV)}{m:List Cl}{j i:Nat}(hi:i ∈ D) (hH:H i = some (flat cG m[j]!.stk)) (hj:j < m.length):LdL D H (flat e7 (dB m j (.own i 0 m[j]!.stk.length 2))) (flat bJ m):=by
 have h := Qf (m := m) (r := m[j]!.stk) hi hH rfl hj
 rwa [show m.set j { m[j]! with stk := m[j]!.stk } = m from mQ m j] at h
theorem Pk {m:List Cl}{x:Pt}{wr:Bool}(h:0 ≤ x.cell) (h2:x.cell < m.length) (h3:m[x.cell.toNat]!.alive = true) (h4:0 ≤ b8 m[x.cell.toNat]!.stk x.tag) (hw:wr = true) (h5:m[x.cell.toNat]!.stk[(b8 m[x.cell.toNat]!.stk x.tag).toNat]!.uq = false):a7 m x wr = 3:=by
 unfold a7;rw [if_neg (by omega),if_neg (by rw [h3]; decide),if_neg (by omega),if_pos ⟨hw,h5⟩]
theorem qS (m:List Cl) (x:Pt) (wr:Bool) (n:Nat) (hm:OkM m) (hn:n = m.length) (hk:a7 m x wr ≠ 0):MC Tryz.prog 242 [.own 0 0 n 4,n6 x,bv wr] [(0,some (flat bJ m))] 1 (fun _:Unit => True) (fun _ => iv (a7 m x wr)) (fun _ => [(0,some (flat bJ m))]):=by
 subst hn
 have hml := hm.l
 have hcv := iL m hm
 have hst : 0 ≤ x.cell → x.cell < m.length → m[x.cell.toNat]!.stk.length ≤ 200 := fun h1 h2 => (((cX m).1 hm).2 x.cell.toNat (by omega)).l.2
 have hbd := dY m[x.cell.toNat]!.stk x.tag
 have hidx := fun h => z8 m[x.cell.toNat]!.stk x.cell x.tag h
 refine aW Tryz.func242 Tryz.ntmps242 ?_
 repeat' (first|(apply aF;first|(apply qB (k := 239);(case ha => rfl);(case hl => (repeat' (first|exact oD|apply lN|exact nX rfl inferInstance)));(case h => exact hcv);(case hfr|hN => rfl);(case hmd => infer_instance))|((apply fP 4);(case hx|hH|hc|hN => rfl))|(apply aA (k := 267);rfl;(exact (hidx (by have := hst (by omega) (by omega);omega)));exact Pur.pf;rfl)|(with_reducible apply aY (d := 75))|(apply aA (k := 54);rfl;(apply dT);(rfl);rfl))|refine aE ?_|(refine aK ?_ ?_ <;> intro hc hq <;> try (exfalso;omega))|(refine bQ ?_ ?_ <;> intro hg hq <;> try (exfalso;omega))|fail)
 ·(refine aC rfl ?_; refine aS () trivial ?_ ⟨sE ?_, trivial⟩)
  ·rw [Dr (by omega)]; rfl
  ·rfl
 ·(refine aC rfl ?_; refine aS () trivial ?_ ⟨sE ?_, trivial⟩)
  ·rw [Kb (by omega) (by omega) (by assumption)]; rfl
  ·rfl
 ·(refine aC rfl ?_; refine aS () trivial ?_ ⟨sE ?_, trivial⟩)
  ·rw [KT (by omega) (by omega) (by assumption) (by assumption)]; rfl
  ·rfl
 ·(refine aC rfl ?_; refine aS () trivial ?_ ⟨sE ?_, trivial⟩)
  ·rw [Pk (by omega) (by omega) (by assumption) (by assumption) (by assumption) (by assumption)]; rfl
  ·rfl
 ·exfalso
  have hw : wr = true := by assumption
  have hu : m[x.cell.toNat]!.stk[(b8 m[x.cell.toNat]!.stk x.tag).toNat]!.uq = true := by assumption
  subst hw
  refine hk ?_
  rw [zC,if_pos (tG (by omega) (by omega) (by assumption) (by assumption)),if_neg (by rw [hu]; decide)]
 ·exfalso
  have hw : wr = false := by assumption
  subst hw
  exact hk (tG (by omega) (by omega) (by assumption) (by assumption))
theorem vV (m:List Cl) (j:Nat) (t:Int) (k n:Nat) (hm:OkM m) (hn:n = m.length) (hj:j < m.length) (hk:b8 m[j]!.stk t = (k:Int)) (hal:m[j]!.alive = true) (hu:m[j]!.stk[k]!.uq = true):MC Tryz.prog 242 [.own 0 0 n 4,.agg [iv (j:Int),iv t],bv true] [(0,some (flat e7 (dB m j (.own 1 0 m[j]!.stk.length 2)))),(1,some (flat cG m[j]!.stk))] 2 (fun _:Unit => True) (fun _ => iv 0) (fun _ => [(0,some (flat e7 (dB m j (.own 1 0 (k + 1) 2)))),(1,some (flat cG (m[j]!.stk.take (k + 1))))]):=by
 subst hn
 have hml := hm.l
 have hcv := iL m hm
 have hst : m[j]!.stk.length ≤ 200 := (((cX m).1 hm).2 j hj).l.2
 have hbd := dY m[j]!.stk t
 rw [hk] at hbd
 have hidx := z8 m[j]!.stk (j : Int) t (by omega)
 rw [hk] at hidx
 have hog := iC (m := m) (j := j) (X := .own 1 0 m[j]!.stk.length 2) hj
 have hol := c7 (m := m) (j := j) (X := .own 1 0 m[j]!.stk.length 2)
 refine aW Tryz.func242 Tryz.ntmps242 ?_
 repeat' (first|(apply aF;first|(apply mW (k := 239) (D := [0,1]) (h := hcv);rfl;exact .cons (.own (by simp) rfl (FR (by simp) rfl hj)) .nil;rfl;rfl)|(with_reducible apply aY (d := 35))|(apply aA (k := 54);rfl;(apply dT);(rfl);rfl))|refine aE ?_|(refine aK ?_ ?_ <;> intro hc hq <;> try (exfalso;omega))|fail)
 all_goals (try (exfalso;omega))
 ·exfalso
  have h : (dB m j (.own 1 0 m[j]!.stk.length 2))[j]!.alive = false := by assumption
  rw [hog] at h;simp only [hal] at h;cases h
 refine bY ?_
 rw [hog]
 dsimp only
 repeat' (first|(apply aF;first|((apply fP 4);(case hx|hH|hc|hN => rfl))|(apply mW (k := 267) (D := [1]) (h := hidx);rfl;exact .cons (.own (by simp) rfl (.pur (inferInstance : Pur (flat cG _)).pf)) (.cons (.pur rfl) .nil);rfl;rfl)|(with_reducible apply aY (d := 68)))|refine aE ?_|fail)
 refine bY ?_
 rw [hog]
 dsimp only
 repeat' (first|(apply aF;(with_reducible apply aY (d := 81)))|refine aE ?_|(refine aK ?_ ?_ <;> intro hc hq <;> try (exfalso;omega))|fail)
 ·exfalso
  have h : m[j]!.stk[k]!.uq = false := by assumption
  rw [hu] at h;cases h
 refine bY ?_
 rw [hog]
 dsimp only
 repeat' (first|(apply aF;first|(apply gV (d := 83) (l := 0) (h := k + 1);rfl;rfl;rfl;exact rU rfl (by omega);exact if_pos (by omega);rfl)|(apply bD;rfl;rfl;rfl;rfl;rfl;(rw [aI]; simp only [gA] <;> omega);(exact vP (by (assumption)))))|refine aE ?_|fail)
 refine aR (Le.cut (i := 1) ((k + 1) * 2) rfl) ?_
 (refine aC rfl ?_; refine aS () trivial ?_ ⟨sE ?_,⟨sE ?_,trivial⟩⟩)
 ·rfl
 ·rfl
 ·rw [dL cG (e := 2)]
theorem GG {xs:List Tg}{k n:Nat}{x0:Operand}{i0:Nat}(ha0:ev (lk tsl) x0 = some (.own i0 (0 + k * 2) n 2)) (hH0:aV hsl i0 = some (flat cG xs)) (hmc:MC Tryz.prog 266 [.own 0 (0 + k * 2) n 2] [(0,some (flat cG xs))] 1 (fun _:Unit => True) (fun _ => .own 2 0 n 2) (fun _ => [(0,some (flat cG xs)),(2,some (flat cG (xs.drop k)))])) (hM:Nat.ble (nidl + 2) a6 = true) (hN:Nat.blt d N = true){md':Md}[hmd:MdA md (fI [x0] ++ [.inr i0]) (List.map Sum.inr (List.map Prod.fst ([(i0,some (flat cG xs)),((nidl + 1),some (flat cG (xs.drop k)))]:List (Nat × Option (List AV)))) ++ [.inl d]) md'] (kk:RW Tryz.prog N all Q md' rest ⟨(d,.own (nidl + 1) 0 n 2) :: tsl,gE hsl [(i0,some (flat cG xs)),((nidl + 1),some (flat cG (xs.drop k)))],nidl + 2,z0⟩):RW Tryz.prog N all Q md (⟨some d,.call ⟨.value (.func 266),#[x0],tys⟩,ty,pos,af,none⟩ :: rest) ⟨tsl,hsl,nidl,z0⟩:=by
 exact aX (l := [x0]) [i0] 3 [(i0,some (flat cG xs)),((nidl + 1),some (flat cG (xs.drop k)))] hmc (avs := [.own i0 (0 + k * 2) n 2]) (by simp only [evL,ha0]) rfl hM hN (md' := md') (hmd := hmd) kk
theorem Ig (xs:List Tg) (k n:Nat) (hn:n = xs.length - k) (hl:xs.length ≤ 1000000):MC Tryz.prog 266 [.own 0 (0 + k * 2) n 2] [(0,some (flat cG xs))] 1 (fun _:Unit => True) (fun _ => .own 2 0 n 2) (fun _ => [(0,some (flat cG xs)),(2,some (flat cG (xs.drop k)))]):=by
 subst hn
 refine aW Tryz.func266 Tryz.ntmps266 ?_
 repeat' (first|(apply aF;first|(apply HQ;rfl;rfl;(intro b hb))|(apply bZ;rfl;rfl;rfl;rfl;rfl;(decide);exact FZ rfl rfl;omega;omega;(exact qG rfl);rfl;rfl))|refine aE ?_|(refine aK ?_ ?_ <;> intro hc hq <;> try (exfalso;omega))|fail)
 ·have h0 : xs.length - k = 0 := hb (by assumption)
  have h1 : xs.drop k = [] := List.drop_eq_nil_of_le (by omega)
  refine aR (Le.bump 1) ?_
  refine aR (Le.nilOwn (d := 2) 2 rfl (by decide)) ?_
  (refine aC rfl ?_; refine aS () trivial ?_ ⟨sE ?_,⟨sE ?_,trivial⟩⟩)
  ·show AV.own 2 0 0 2 = _; rw [h0]
  ·rfl
  ·rw [h1]; rfl
 ·(refine aC rfl ?_; refine aS () trivial ?_ ⟨sE ?_, ⟨sE ?_, trivial⟩⟩)
  ·show AV.own 2 0 (0 + (xs.length - k)) 2 = _
   rw [Nat.zero_add]
  ·rfl
  ·rfl
theorem xX {m:List Cl}{j:Nat}{t:Int}{r:List Tg}{n:Nat}{x0 x1 x2:Operand}{i0 i1:Nat}(ha0:ev (lk tsl) x0 = some (.own i0 0 n 4)) (ha1:ev (lk tsl) x1 = some (.agg [iv (j:Int),iv t])) (ha2:ev (lk tsl) x2 = some (bv false)) (hH0:aV hsl i0 = some (flat e7 (dB m j (.own i1 0 m[j]!.stk.length 2)))) (hH1:aV hsl i1 = some (flat cG m[j]!.stk)) (hdd:Go.AL.distinct [i0,i1] = true) (hmc:MC Tryz.prog 242 [.own 0 0 n 4,.agg [iv (j:Int),iv t],bv false] [(0,some (flat e7 (dB m j (.own 1 0 m[j]!.stk.length 2)))),(1,some (flat cG m[j]!.stk))] 2 (fun _:Unit => True) (fun _ => iv 0) (fun _ => [(0,some (flat e7 (dB m j (.own 5 0 r.length 2)))),(5,some (flat cG r))])) (hM:Nat.ble (nidl + 4) a6 = true) (hN:Nat.blt d N = true){md':Md}[hmd:MdA md (fI [x0,x1,x2] ++ [.inr i0,.inr i1]) (List.map Sum.inr (List.map Prod.fst ([(i0,some (flat e7 (dB m j (.own (nidl + 3) 0 r.length 2)))),((nidl + 3),some (flat cG r)),(i1,none)]:List (Nat × Option (List AV)))) ++ [.inl d]) md'] (kk:RW Tryz.prog N all Q md' rest ⟨(d,iv 0) :: tsl,gE hsl [(i0,some (flat e7 (dB m j (.own (nidl + 3) 0 r.length 2)))),((nidl + 3),some (flat cG r)),(i1,none)],nidl + 4,z0⟩):RW Tryz.prog N all Q md (⟨some d,.call ⟨.value (.func 242),#[x0,x1,x2],tys⟩,ty,pos,af,none⟩ :: rest) ⟨tsl,hsl,nidl,z0⟩:=by
 exact aX (l := [x0,x1,x2]) [i0,i1] 6 [(i0,some (flat e7 (dB m j (.own (nidl + 3) 0 r.length 2)))),((nidl + 3),some (flat cG r)),(i1,none)] hmc (avs := [.own i0 0 n 4,.agg [iv (j : Int),iv t],bv false]) (by simp only [evL,ha0,ha1,ha2]) hdd hM hN (md' := md') (hmd := hmd) kk
theorem Ch (m:List Cl) (j:Nat) (t:Int) (r:List Tg) (k n:Nat) (hm:OkM m) (hn:n = m.length) (hj:j < m.length) (hk:b8 m[j]!.stk t = (k:Int)) (hal:m[j]!.alive = true) (hr:r = eZ m[j]!.stk k false):MC Tryz.prog 242 [.own 0 0 n 4,.agg [iv (j:Int),iv t],bv false] [(0,some (flat e7 (dB m j (.own 1 0 m[j]!.stk.length 2)))),(1,some (flat cG m[j]!.stk))] 2 (fun _:Unit => True) (fun _ => iv 0) (fun _ => [(0,some (flat e7 (dB m j (.own 5 0 r.length 2)))),(5,some (flat cG r))]):=by
 subst hn
 have hml := hm.l
 have hcv := iL m hm
 have hst : m[j]!.stk.length ≤ 200 := (((cX m).1 hm).2 j hj).l.2
 have hbd := dY m[j]!.stk t
 rw [hk] at hbd
 have hidx := z8 m[j]!.stk (j : Int) t (by omega)
 rw [hk] at hidx
 have hog := iC (m := m) (j := j) (X := .own 1 0 m[j]!.stk.length 2) hj
 have hol := c7 (m := m) (j := j) (X := .own 1 0 m[j]!.stk.length 2)
 refine aW Tryz.func242 Tryz.ntmps242 ?_
 repeat' (first|(apply aF;first|(apply mW (k := 239) (D := [0,1]) (h := hcv);rfl;exact .cons (.own (by simp) rfl (FR (by simp) rfl hj)) .nil;rfl;rfl)|(with_reducible apply aY (d := 35))|(apply aA (k := 54);rfl;(apply dT);(rfl);rfl))|refine aE ?_|(refine aK ?_ ?_ <;> intro hc hq <;> try (exfalso;omega))|fail)
 all_goals (try (exfalso;omega))
 ·exfalso
  have h : (dB m j (.own 1 0 m[j]!.stk.length 2))[j]!.alive = false := by assumption
  rw [hog] at h;simp only [hal] at h;cases h
 refine bY ?_
 rw [hog]
 dsimp only
 repeat' (first|(apply aF;first|((apply fP 4);(case hx|hH|hc|hN => rfl))|(apply mW (k := 267) (D := [1]) (h := hidx);rfl;exact .cons (.own (by simp) rfl (.pur (inferInstance : Pur (flat cG _)).pf)) (.cons (.pur rfl) .nil);rfl;rfl)|(with_reducible apply aY (d := 41)))|refine aE ?_|fail)
 refine bY ?_
 rw [hog]
 dsimp only
 repeat' (first|(apply aF;first|(apply gV (d := 43) (l := k + 1) (h := m[j]!.stk.length);rfl;rfl;exact rU rfl (by omega);rfl;exact if_pos (by omega);rfl)|(apply GG;rfl;rfl;exact Ig _ _ _ rfl (by omega);rfl;rfl)|(apply LX;rfl;rfl;rfl;exact Qu _ _ (by rw [List.length_drop]) (by omega);rfl;rfl)|(with_reducible apply aY (d := 51)))|refine aE ?_|fail)
 refine bY ?_
 rw [hog]
 dsimp only
 have hfl : (flat cG m[j]!.stk).length = m[j]!.stk.length * 2 := aI cG _
 have hsl : (shr (List.drop (k + 1) m[j]!.stk)).length ≤ 200 := Nat.le_trans (List.length_filter_le _ _) (by rw [List.length_drop]; omega)
 repeat' (first|(apply aF;first|(apply gV (d := 53) (l := 0) (h := k + 1);rfl;rfl;rfl;exact rU rfl (by omega);exact if_pos (by omega);rfl)|(apply bZ;rfl;rfl;rfl;rfl;rfl;(rw [hfl]; omega);exact FZ (k := 0) rfl rfl;omega;omega;rfl;rfl;rfl)|(apply bD;rfl;rfl;rfl;rfl;rfl;(rw [aI]; simp only [gA] <;> omega);(exact vP (by (assumption)))))|refine aE ?_|fail)
 have hre : r = m[j]!.stk.take (k + 1) ++ shr (m[j]!.stk.drop (k + 1)) := by rw [hr]; rfl
 have hrl : r.length = k + 1 + (shr (List.drop (k + 1) m[j]!.stk)).length := by rw [hre,List.length_append,List.length_take]; omega
 (refine aC rfl ?_; refine aS () trivial ?_ ⟨sE ?_,⟨sE ?_,trivial⟩⟩)
 ·rfl
 ·refine congrArg some ?_
  show flat e7 (dB m j (AV.own 5 0 (k + 1 - 0 + (shr (List.drop (k + 1) m[j]!.stk)).length) 2)) = _
  rw [hrl]; rfl
 ·refine congrArg some ?_
  show (List.drop 0 (flat cG m[j]!.stk)).take ((k + 1) * 2) ++ flat cG (List.drop 0 (shr (List.drop (k + 1) m[j]!.stk))) = _
  rw [List.drop_zero,List.drop_zero,dL cG (e := 2),cH,← hre]
theorem NA {m:List Cl}{j:Nat}{X:AV}{v:Int}(h:j < m.length):g6 (flat e7 (dB m j X)) (0 + j * 4 + 0) [iv v] = flat e7 (dB (m.set j { m[j]! with val := v }) j X):=by
 have e : dB (m.set j { m[j]! with val := v }) j X = (dB m j X).set j ⟨v, m[j]!.alive, m[j]!.next, X⟩ := by
  have e2 : (m.set j { m[j]! with val := v })[j]! = { m[j]! with val := v } := by rw [aZ _ _ (by rw [List.length_set]; exact h),List.getElem_set_self]
  unfold dB
  rw [e2,List.map_set,List.set_set,List.set_set]; rfl
 rw [e]
 exact eR (by rw [c7]; exact h) (by simp) (by rw [iC h]; rfl)
theorem NU {m:List Cl}{j:Nat}{X:AV}{b:Bool}(h:j < m.length):g6 (flat e7 (dB m j X)) (0 + j * 4 + 1) [.v (.bool b)] = flat e7 (dB (m.set j { m[j]! with alive := b }) j X):=by
 have e : dB (m.set j { m[j]! with alive := b }) j X = (dB m j X).set j ⟨m[j]!.val, b, m[j]!.next, X⟩ := by
  have e2 : (m.set j { m[j]! with alive := b })[j]! = { m[j]! with alive := b } := by rw [aZ _ _ (by rw [List.length_set]; exact h),List.getElem_set_self]
  unfold dB
  rw [e2,List.map_set,List.set_set,List.set_set]; rfl
 rw [e]
 exact eR (by rw [c7]; exact h) (by simp) (by rw [iC h]; rfl)
theorem s8 (m:List Cl) (hm:OkM m) (x:Pt):PC Tryz.prog 202 [sl bJ m,n6 x] (fun r => r = .tup [sl bJ (cO m x false),iv (oQ m x),iv (a7 m x false)]):=by
 have hml := hm.l
 by_cases hk : a7 m x false = 0
 ·obtain ⟨c, t⟩ := x
  obtain ⟨h1,h2,h3,h4,_⟩ := dQ hk
  obtain ⟨j,rfl⟩ := Int.eq_ofNat_of_zero_le (show 0 ≤ c from h1)
  have hj : j < m.length := by have : (j : Int) < m.length := h2;omega
  obtain ⟨k,hkk⟩ := Int.eq_ofNat_of_zero_le (show 0 ≤ b8 m[j]!.stk t from h4)
  obtain ⟨r,hr⟩ : ∃ r,r = eZ m[j]!.stk k false := ⟨_,rfl⟩
  have hto := Ch m j t r k m.length hm rfl hj hkk h3 hr
  have hog := iC (m := m) (j := j) (X := .own (0 + 1 + 3 + 3) 0 r.length 2) hj
  have hol := c7 (m := m) (j := j) (X := .own (0 + 1 + 3 + 3) 0 r.length 2)
  refine aB Tryz.func202 Tryz.ntmps202 ?_
  repeat' (first|(apply aF;first|(apply pZ (j := j);rfl;exact u6 m j hm hj;rfl;rfl)|(apply xX (m := m) (j := j) (t := t) (r := r) (n := m.length);rfl;rfl;rfl;rfl;rfl;rfl;exact hto;rfl;rfl))|refine aE ?_|refine bS ?_|fail)
  refine aR (Le.cls (o := 2) (q := 7) (j := j) (k := r.length) (m := m) (r := r) rfl rfl rfl hj (by decide)) ?_
  refine aR (Le.frzD (d := 4) (i := 2) rfl rfl) ?_
  rw [hog]
  refine aC (l := [.imm m.length (flat bJ (m.set j { m[j]! with stk := r })),iv m[j]!.val,iv 0]) rfl ?_
  have eM : cO m ⟨j, t⟩ false = m.set j { m[j]! with stk := r } := by
   unfold cO iS;rw [if_pos hk]; dsimp only
   rw [Int.toNat_natCast,hkk,Int.toNat_natCast,hr]
  have eN : oQ m ⟨j,t⟩ = m[j]!.val := by unfold oQ;rw [if_pos hk]; rfl
  rw [eM,eN,hk,e5 (by rw [List.length_set])]
  exact ⟨rfl,by exact Pur.pf⟩
 ·refine aB Tryz.func202 Tryz.ntmps202 ?_
  repeat' (first|(apply aF;first|(apply iK;rfl;exact kX m hm;rfl;rfl)|(apply oA (m := m) (x := x) (wr := false) (n := m.length);rfl;rfl;rfl;rfl;exact qS m x false _ hm rfl hk;rfl;rfl))|refine aE ?_|(refine aK ?_ ?_ <;> intro hc hq <;> try (exfalso;omega))|fail)
  (refine aR (Le.frzD (d := 4) (i := 2) rfl rfl) ?_; refine aC rfl ?_)
  refine ⟨?_,by exact Pur.pf⟩
  simp only [aO]
  unfold cO oQ;rw [if_neg hk,if_neg hk]
theorem BW (m:List Cl) (hm:OkM m) (x:Pt):PC Tryz.prog 243 [sl bJ m,n6 x] (fun r => r = .tup [sl bJ (gY m x),iv (a7 m x true)]):=by
 have hml := hm.l
 by_cases hk : a7 m x true = 0
 ·obtain ⟨c, t⟩ := x
  obtain ⟨h1,h2,h3,h4,hu⟩ := dQ hk
  obtain ⟨j,rfl⟩ := Int.eq_ofNat_of_zero_le (show 0 ≤ c from h1)
  have hj : j < m.length := by have : (j : Int) < m.length := h2;omega
  obtain ⟨k,hkk⟩ := Int.eq_ofNat_of_zero_le (show 0 ≤ b8 m[j]!.stk t from h4)
  have huk : m[j]!.stk[k]!.uq = true := by
   have h : m[j]!.stk[(b8 m[j]!.stk t).toNat]!.uq = true := hu rfl
   rwa [hkk,Int.toNat_natCast] at h
  have htw := vV m j t k m.length hm rfl hj hkk h3 huk
  have hrl : (m[j]!.stk.take (k + 1)).length = k + 1 := by
   have hb := dY m[j]!.stk t
   rw [List.length_take]; omega
  have hol := c7 (m := m) (j := j) (X := .own (0 + 1 + 2) 0 (k + 1) 2)
  have hls : (m.set j { m[j]! with alive := false }).length = m.length := List.length_set
  refine aB Tryz.func243 Tryz.ntmps243 ?_
  repeat' (first|(apply aF;first|(apply pZ (j := j);rfl;exact u6 m j hm hj;rfl;rfl)|(apply y9 (m := m) (j := j) (t := t) (k := k) (n := m.length);rfl;rfl;rfl;rfl;rfl;rfl;exact htw;rfl;rfl)|(apply bD;rfl;rfl;rfl;rfl;rfl;(rw [aI]; simp only [List.length_append,List.length_cons,List.length_nil]; omega);exact NU hj))|refine aE ?_|fail)
  refine aR (Le.cls (o := 2) (q := 3) (j := j) (k := k + 1) (m := m.set j { m[j]! with alive := false }) (r := m[j]!.stk.take (k + 1)) rfl rfl hrl.symm (by rw [hls]; exact hj) (by decide)) ?_
  refine aR (Le.frzD (d := 4) (i := 2) rfl rfl) ?_
  rw [l8 hj,set_set]
  refine aC (l := [.imm m.length (flat bJ (m.set j { m[j]! with alive := false,stk := m[j]!.stk.take (k + 1) })),iv 0]) rfl ?_
  have eM : gY m ⟨j, t⟩ = m.set j { m[j]! with alive := false, stk := m[j]!.stk.take (k + 1) } := by
   unfold gY iS;rw [if_pos hk]; dsimp only
   rw [Int.toNat_natCast,hkk,Int.toNat_natCast]; unfold eZ;rw [if_pos rfl]
  rw [eM,hk,e5 (by rw [List.length_set])]
  exact ⟨rfl,by exact Pur.pf⟩
 ·refine aB Tryz.func243 Tryz.ntmps243 ?_
  repeat' (first|(apply aF;first|(apply iK;rfl;exact kX m hm;rfl;rfl)|(apply oA (m := m) (x := x) (wr := true) (n := m.length);rfl;rfl;rfl;rfl;exact qS m x true _ hm rfl hk;rfl;rfl))|refine aE ?_|(refine aK ?_ ?_ <;> intro hc hq <;> try (exfalso;omega))|fail)
  (refine aR (Le.frzD (d := 4) (i := 2) rfl rfl) ?_; refine aC rfl ?_)
  refine ⟨?_,by exact Pur.pf⟩
  simp only [aO]
  unfold gY;rw [if_neg hk]
theorem zD (m:List Cl) (hm:OkM m) (x:Pt) (v:Int):PC Tryz.prog 203 [sl bJ m,n6 x,iv v] (fun r => r = .tup [sl bJ (pI m x v),iv (qC m x v)]):=by
 have hml := hm.l
 by_cases hv : 0 ≤ v ∧ v ≤ 9
 case neg =>
  have hwk : qC m x v = 4 := by unfold qC;rw [if_neg hv]
  have e : pI m x v = m := by unfold pI;rw [if_neg (by rw [hwk]; decide)]
  refine aB Tryz.func203 Tryz.ntmps203 ?_
  repeat' (first|(apply aF;first|(apply iK;rfl;exact kX m hm;rfl;rfl)|(apply aA (k := 54);rfl;(apply dT);(rfl);rfl))|refine aE ?_|(refine aK ?_ ?_ <;> intro hc hq <;> try (exfalso;omega))|fail)
  all_goals (try (exfalso;omega))
  all_goals (
   (refine aR (Le.frzD (d := 6) (i := 2) rfl rfl) ?_; refine aC rfl ?_)
   refine ⟨?_,by exact Pur.pf⟩
   simp only [aO]
   rw [e,hwk])
 case pos =>
 have hwk : qC m x v = a7 m x true := by unfold qC;rw [if_pos hv]
 by_cases hk : a7 m x true = 0
 ·obtain ⟨c, t⟩ := x
  obtain ⟨h1,h2,h3,h4,hu⟩ := dQ hk
  obtain ⟨j,rfl⟩ := Int.eq_ofNat_of_zero_le (show 0 ≤ c from h1)
  have hj : j < m.length := by have : (j : Int) < m.length := h2;omega
  obtain ⟨k,hkk⟩ := Int.eq_ofNat_of_zero_le (show 0 ≤ b8 m[j]!.stk t from h4)
  have huk : m[j]!.stk[k]!.uq = true := by
   have h : m[j]!.stk[(b8 m[j]!.stk t).toNat]!.uq = true := hu rfl
   rwa [hkk,Int.toNat_natCast] at h
  have htw := vV m j t k m.length hm rfl hj hkk h3 huk
  have hrl : (m[j]!.stk.take (k + 1)).length = k + 1 := by
   have hb := dY m[j]!.stk t
   rw [List.length_take]; omega
  have hol := c7 (m := m) (j := j) (X := .own (0 + 1 + 2) 0 (k + 1) 2)
  have hls : (m.set j { m[j]! with val := v }).length = m.length := List.length_set
  refine aB Tryz.func203 Tryz.ntmps203 ?_
  repeat' (first|(apply aF;first|(apply pZ (j := j);rfl;exact u6 m j hm hj;rfl;rfl)|(apply y9 (m := m) (j := j) (t := t) (k := k) (n := m.length);rfl;rfl;rfl;rfl;rfl;rfl;exact htw;rfl;rfl)|(apply bD;rfl;rfl;rfl;rfl;rfl;(rw [aI]; simp only [List.length_append,List.length_cons,List.length_nil]; omega);exact NA hj)|(apply aA (k := 54);rfl;(apply dT);(rfl);rfl))|refine aE ?_|(refine aK ?_ ?_ <;> intro hc hq <;> try (exfalso;omega))|fail)
  refine aR (Le.cls (o := 2) (q := 3) (j := j) (k := k + 1) (m := m.set j { m[j]! with val := v }) (r := m[j]!.stk.take (k + 1)) rfl rfl hrl.symm (by rw [hls]; exact hj) (by decide)) ?_
  refine aR (Le.frzD (d := 6) (i := 2) rfl rfl) ?_
  rw [l8 hj,set_set]
  refine aC (l := [.imm m.length (flat bJ (m.set j { m[j]! with val := v,stk := m[j]!.stk.take (k + 1) })),iv 0]) rfl ?_
  have eM : pI m ⟨j, t⟩ v = m.set j { m[j]! with val := v, stk := m[j]!.stk.take (k + 1) } := by
   unfold pI iS;rw [hwk,if_pos hk]; dsimp only
   rw [Int.toNat_natCast,hkk,Int.toNat_natCast]; unfold eZ;rw [if_pos rfl]
  rw [eM,hwk,hk,e5 (by rw [List.length_set])]
  exact ⟨rfl,by exact Pur.pf⟩
 ·refine aB Tryz.func203 Tryz.ntmps203 ?_
  repeat' (first|(apply aF;first|(apply iK;rfl;exact kX m hm;rfl;rfl)|(apply oA (m := m) (x := x) (wr := true) (n := m.length);rfl;rfl;rfl;rfl;exact qS m x true _ hm rfl hk;rfl;rfl)|(apply aA (k := 54);rfl;(apply dT);(rfl);rfl))|refine aE ?_|(refine aK ?_ ?_ <;> intro hc hq <;> try (exfalso;omega))|fail)
  (refine aR (Le.frzD (d := 6) (i := 2) rfl rfl) ?_; refine aC rfl ?_)
  refine ⟨?_,by exact Pur.pf⟩
  simp only [aO]
  unfold pI;rw [hwk,if_neg hk]
theorem EA (m:List Cl) (hm:OkM m) (v:Int):PC Tryz.prog 240 [sl bJ m,iv v] (fun r => r = .tup [sl bJ (m ++ [o9 v]),.agg [iv m.length,iv 0]]):=by
 have hml := hm.l
 refine aB Tryz.func240 Tryz.ntmps240 ?_
 repeat' (first|(apply aF;first|(apply iK;rfl;exact kX m hm;rfl;rfl)|(apply aJ (t := _);rfl;rfl;rfl;(first|exact (rfl:_=some [_,_])|exact (rfl:_=some [_,_,_,_]));rfl;rfl))|refine aE ?_|fail)
 have e2 : AV.imm (m.length + 1) (((flat bJ m).drop 0).take (m.length * 4) ++ [iv v, bv true, iv 1, .imm 1 [iv 0, bv true]]) = sl bJ (m ++ [o9 v]) := by
  have e : ((flat bJ m).drop 0).take (m.length * 4) ++ [iv v,bv true,iv 1,.imm 1 [iv 0,bv true]] = flat bJ (m ++ [o9 v]) := fO rfl rfl
  rw [e]; exact e5 (by rw [List.length_append]; rfl)
 refine aR (Le.frzD (d := 4) (i := 5) rfl rfl) ?_
 refine aC (l := [AV.imm (m.length + 1) (((flat bJ m).drop 0).take (m.length * 4) ++ [iv v,bv true,iv 1,.imm 1 [iv 0,bv true]]),.agg [iv m.length,iv 0]]) rfl ?_
 rw [e2]
 exact ⟨rfl,by exact Pur.pf⟩
theorem DR (m:List Cl) (hm:OkM m) (v:Int):PC Tryz.prog 198 [sl bJ m,iv v] (fun r => r = .tup (if 0 ≤ v ∧ v ≤ 9 ∧ m.length < 200 then [sl bJ (m ++ [o9 v]),.agg [iv m.length,iv 0],bv true] else [sl bJ [],.agg [iv 0,iv 0],bv false])):=by
 have hml := hm.l
 have hcv := iL m hm
 have hnc := EA m hm v
 refine aB Tryz.func198 Tryz.ntmps198 ?_
 repeat' (first|(apply aF;first|(apply aA (k := 239);rfl;exact hcv;exact Pur.pf;rfl)|(apply aA (k := 240);rfl;exact hnc;exact Pur.pf;rfl)|(apply aA (k := 54);rfl;(apply dT);(rfl);rfl))|refine aE ?_|(refine aK ?_ ?_ <;> intro hc hq <;> try (exfalso;omega))|(refine bQ ?_ ?_ <;> intro hg hq <;> try (exfalso;omega))|refine bS ?_|fail)
 ·refine aR (Le.nilImm (d := 4) rfl) ?_
  exact aC (l := [sl bJ [],.agg [iv 0,iv 0],bv false]) rfl ⟨by rw [if_neg (by omega)]; rfl,rfl⟩
 ·exact aC (l := [sl bJ (m ++ [o9 v]),.agg [iv m.length,iv 0],bv true]) rfl ⟨by rw [if_pos (by omega)]; rfl,by exact Pur.pf⟩
 ·refine aR (Le.nilImm (d := 4) rfl) ?_
  exact aC (l := [sl bJ [],.agg [iv 0,iv 0],bv false]) rfl ⟨by rw [if_neg (by omega)]; rfl,rfl⟩
theorem Gc {m:List Cl}{j:Nat}{t:Int}{r:List Tg}{n:Nat}{x0 x1 x2:Operand}{i0 i1:Nat}(ha0:ev (lk tsl) x0 = some (.own i0 0 n 4)) (ha1:ev (lk tsl) x1 = some (.agg [iv (j:Int),iv t])) (ha2:ev (lk tsl) x2 = some (bv true)) (hH0:aV hsl i0 = some (flat e7 (dB m j (.own i1 0 m[j]!.stk.length 2)))) (hH1:aV hsl i1 = some (flat cG m[j]!.stk)) (hdd:Go.AL.distinct [i0,i1] = true) (hmc:MC Tryz.prog 242 [.own 0 0 n 4,.agg [iv (j:Int),iv t],bv true] [(0,some (flat e7 (dB m j (.own 1 0 m[j]!.stk.length 2)))),(1,some (flat cG m[j]!.stk))] 2 (fun _:Unit => True) (fun _ => iv 0) (fun _ => [(0,some (flat e7 (dB m j (.own 1 0 r.length 2)))),(1,some (flat cG r))])) (hM:Nat.ble (nidl + 0) a6 = true) (hN:Nat.blt d N = true){md':Md}[hmd:MdA md (fI [x0,x1,x2] ++ [.inr i0,.inr i1]) (List.map Sum.inr (List.map Prod.fst ([(i0,some (flat e7 (dB m j (.own i1 0 r.length 2)))),(i1,some (flat cG r))]:List (Nat × Option (List AV)))) ++ [.inl d]) md'] (kk:RW Tryz.prog N all Q md' rest ⟨(d,iv 0) :: tsl,gE hsl [(i0,some (flat e7 (dB m j (.own i1 0 r.length 2)))),(i1,some (flat cG r))],nidl + 0,z0⟩):RW Tryz.prog N all Q md (⟨some d,.call ⟨.value (.func 242),#[x0,x1,x2],tys⟩,ty,pos,af,none⟩ :: rest) ⟨tsl,hsl,nidl,z0⟩:=by
 exact aX (l := [x0,x1,x2]) [i0,i1] 2 [(i0,some (flat e7 (dB m j (.own i1 0 r.length 2)))),(i1,some (flat cG r))] hmc (avs := [.own i0 0 n 4,.agg [iv (j : Int),iv t],bv true]) (by simp only [evL,ha0,ha1,ha2]) hdd hM hN (md' := md') (hmd := hmd) kk
theorem Jc (m:List Cl) (j:Nat) (t:Int) (r:List Tg) (k n:Nat) (hm:OkM m) (hn:n = m.length) (hj:j < m.length) (hk:b8 m[j]!.stk t = (k:Int)) (hal:m[j]!.alive = true) (hu:m[j]!.stk[k]!.uq = true) (hre:m[j]!.stk.take (k + 1) = r) (hrk:k + 1 = r.length):MC Tryz.prog 242 [.own 0 0 n 4,.agg [iv (j:Int),iv t],bv true] [(0,some (flat e7 (dB m j (.own 1 0 m[j]!.stk.length 2)))),(1,some (flat cG m[j]!.stk))] 2 (fun _:Unit => True) (fun _ => iv 0) (fun _ => [(0,some (flat e7 (dB m j (.own 1 0 r.length 2)))),(1,some (flat cG r))]):=by
 have h := vV m j t k n hm hn hj hk hal hu
 rw [hre,hrk] at h
 exact h
theorem NK (m:List Cl) (hm:OkM m) (j k:Nat) (t:Int) (r:List Tg) (hj:j < m.length) (hkk:b8 m[j]!.stk t = (k:Int)) (hk:a7 m ⟨(j:Int),t⟩ false = 0) (hr:r = eZ m[j]!.stk k false):PC Tryz.prog 200 [sl bJ m,.agg [iv (j:Int),iv t],bv false] (fun z => z = .tup [sl bJ (kC m m j false r),n6 (kB m j r),iv (kA m j r)]):=by
 have hml := hm.l
 obtain ⟨h1,h2,h3,h4,hu⟩ := dQ hk
 have hc := ((cX m).1 hm).2 j hj
 have hb := dY m[j]!.stk t
 have hrl : r.length ≤ 200 := by rw [hr]; exact Nat.le_trans tchS_sub.length_le hc.l.2
 have hnx := hc.n
 obtain ⟨_,e2,_⟩ := mF hk (r := r) (by rw [hr]; show _ = eZ m[j]!.stk (b8 m[j]!.stk t).toNat false;rw [hkk]; rfl)
 have e2' : j9 m ⟨(j : Int),t⟩ false = kC m m j false r := e2
 have hok := hm.ln ⟨(j : Int),t⟩ false
 rw [e2'] at hok
 have hto := Ch m j t r k m.length hm rfl hj hkk h3 hr
 have hog := iC (m := m) (j := j) (X := .own (0 + 1 + 1 + 3 + 3) 0 r.length 2) hj
 have hol := c7 (m := m) (j := j) (X := .own (0 + 1 + 1 + 3 + 3) 0 r.length 2)
 have hol2 := c7 (m := m) (j := j) (X := .own (0 + 1 + 1 + 3 + 4 + 1) 0 (r.length + 1) 2)
 have hm2 : (m.set j { m[j]! with next := m[j]!.next + 1 }).length = m.length := List.length_set
 refine aB Tryz.func200 Tryz.ntmps200 ?_
 repeat' (first|(apply aF;first|(apply pZ (j := j);rfl;exact u6 m j hm hj;rfl;rfl)|(apply xX (m := m) (j := j) (t := t) (r := r) (n := m.length);rfl;rfl;rfl;rfl;rfl;rfl;exact hto;rfl;rfl)|(with_reducible apply aY (d := 32)))|refine aE ?_|fail)
 refine bY ?_
 rw [hog]
 dsimp only
 by_cases hf : pE m j r
 ·have eM : kC m m j false r = m := by unfold kC; rw [if_pos hf]
  have eP : kB m j r = ⟨0,0⟩ := by unfold kB;rw [if_pos hf]
  have eK : kA m j r = 4 := by unfold kA;rw [if_pos hf]
  rw [eM,eP,eK]
  unfold pE at hf
  repeat' (first|(apply aF;first|(apply iK;rfl;exact kX m hm;rfl;rfl)|(with_reducible apply aY (d := 44)))|refine aE ?_|(refine aK ?_ ?_ <;> intro hc hq <;> try (exfalso;omega))|(refine bQ ?_ ?_ <;> intro hg hq <;> try (exfalso;omega))|fail)
  ·refine aR (Le.frzD (d := 6) (i := 10) rfl rfl) ?_
   exact aC (l := [sl bJ m,.agg [iv 0,iv 0],iv 4]) rfl ⟨rfl,by exact Pur.pf⟩
  ·exfalso
   have h : ¬ (dB m j (.own (0 + 1 + 1 + 3 + 3) 0 r.length 2))[j]!.next = 1000 := by assumption
   rw [hog] at h
   dsimp only at h
   omega
  ·refine aR (Le.frzD (d := 6) (i := 10) rfl rfl) ?_
   exact aC (l := [sl bJ m,.agg [iv 0,iv 0],iv 4]) rfl ⟨rfl,by exact Pur.pf⟩
 ·have eM : kC m m j false r = m.set j (psh { m[j]! with stk := r } false) := by unfold kC; rw [if_neg hf]
  have eP : kB m j r = ⟨j,m[j]!.next⟩ := by unfold kB;rw [if_neg hf]
  have eK : kA m j r = 0 := by unfold kA;rw [if_neg hf]
  rw [eM] at hok
  rw [eM,eP,eK]
  unfold pE at hf
  have hown := kX _ hok
  repeat' (first|(apply aF;first|(with_reducible apply aY (d := 41))|(with_reducible apply aY (d := 54)))|refine aE ?_|(refine aK ?_ ?_ <;> intro hc hq <;> try (exfalso;omega))|(refine bQ ?_ ?_ <;> intro hg hq <;> try (exfalso;omega))|fail)
  ·exfalso
   have h : (dB m j (.own (0 + 1 + 1 + 3 + 3) 0 r.length 2))[j]!.next = 1000 := by assumption
   rw [hog] at h
   dsimp only at h
   omega
  ·refine bY ?_
   rw [hog]
   dsimp only
   repeat' (first|(apply aF;first|(apply bD;rfl;rfl;rfl;rfl;rfl;(rw [aI,c7]; simp only [List.length_append,List.length_cons,List.length_nil]; omega);(first|exact vP hj|exact zV hj))|(apply bZ;rfl;rfl;rfl;rfl;rfl;(rw [aI]; omega);(rfl);omega;omega;(exact wX (by (omega)));rfl;rfl)|(apply aJ (t := _);rfl;rfl;rfl;(exact (rfl:_=some [_,_]));rfl;rfl))|refine aE ?_|fail)
   refine AW.le ?_ (Le.cls (o := 3) (q := 0 + 1 + 1 + 3 + 4 + 1) (j := j) (k := r.length + 1) (m := m.set j { m[j]! with next := m[j]!.next + 1 }) (r := r ++ [⟨m[j]!.next,false⟩]) rfl rfl (by (rw [List.length_append]; rfl)) (by omega) (by decide))
   refine AW.le ?_ (Le.frzD (d := 9) (i := 3) rfl rfl)
   have e : (m.set j { m[j]! with next := m[j]!.next + 1 }).set j { (m.set j { m[j]! with next := m[j]!.next + 1 })[j]! with stk := r ++ [⟨m[j]!.next, false⟩] } = m.set j (psh { m[j]! with stk := r } false) := by
    rw [l8 hj,set_set]; rfl
   rw [e,e5 (f := bJ) (xs := m.set j (psh { m[j]! with stk := r } false)) (by rw [List.length_set])]
   repeat' (first|(apply aF;(apply iK;rfl;exact hown;rfl;rfl))|refine aE ?_|refine bS ?_|fail)
   refine aR (Le.frzD (d := 6) (i := 12) rfl rfl) ?_
   exact aC (l := [sl bJ (m.set j (psh { m[j]! with stk := r } false)),.agg [iv (j : Int),iv m[j]!.next],iv 0]) rfl ⟨rfl,by exact Pur.pf⟩
  all_goals (exfalso;omega)
theorem NB (m:List Cl) (hm:OkM m) (j k:Nat) (t:Int) (r:List Tg) (hj:j < m.length) (hkk:b8 m[j]!.stk t = (k:Int)) (hk:a7 m ⟨(j:Int),t⟩ true = 0) (hr:r = eZ m[j]!.stk k true):PC Tryz.prog 200 [sl bJ m,.agg [iv (j:Int),iv t],bv true] (fun z => z = .tup [sl bJ (kC m m j true r),n6 (kB m j r),iv (kA m j r)]):=by
 have hml := hm.l
 obtain ⟨h1,h2,h3,h4,hu⟩ := dQ hk
 have hc := ((cX m).1 hm).2 j hj
 have hb := dY m[j]!.stk t
 have hrl : r.length ≤ 200 := by rw [hr]; exact Nat.le_trans tchS_sub.length_le hc.l.2
 have hnx := hc.n
 obtain ⟨_,e2,_⟩ := mF hk (r := r) (by rw [hr]; show _ = eZ m[j]!.stk (b8 m[j]!.stk t).toNat true;rw [hkk]; rfl)
 have e2' : j9 m ⟨(j : Int),t⟩ true = kC m m j true r := e2
 have hok := hm.ln ⟨(j : Int),t⟩ true
 rw [e2'] at hok
 have huk : m[j]!.stk[k]!.uq = true := by
  have h : m[j]!.stk[(b8 m[j]!.stk t).toNat]!.uq = true := hu rfl
  rwa [hkk,Int.toNat_natCast] at h
 have hre : m[j]!.stk.take (k + 1) = r := by rw [hr]; unfold eZ;rw [if_pos rfl]
 have hrk : k + 1 = r.length := by rw [← hre,List.length_take]; omega
 have hto := Jc m j t r k m.length hm rfl hj hkk h3 huk hre hrk
 clear hre hrk huk hu hr hkk
 have hog := iC (m := m) (j := j) (X := .own (0 + 1 + 1 + 2) 0 r.length 2) hj
 have hol := c7 (m := m) (j := j) (X := .own (0 + 1 + 1 + 2) 0 r.length 2)
 have hol2 := c7 (m := m) (j := j) (X := .own (0 + 1 + 1 + 3 + 0 + 1) 0 (r.length + 1) 2)
 have hm2 : (m.set j { m[j]! with next := m[j]!.next + 1 }).length = m.length := List.length_set
 refine aB Tryz.func200 Tryz.ntmps200 ?_
 repeat' (first|(apply aF;first|(apply pZ (j := j);rfl;exact u6 m j hm hj;rfl;rfl)|(apply Gc (m := m) (j := j) (t := t) (r := r) (n := m.length);rfl;rfl;rfl;rfl;rfl;rfl;exact hto;rfl;rfl)|(with_reducible apply aY (d := 32)))|refine aE ?_|fail)
 refine bY ?_
 rw [hog]
 dsimp only
 by_cases hf : pE m j r
 ·have eM : kC m m j true r = m := by unfold kC; rw [if_pos hf]
  have eP : kB m j r = ⟨0,0⟩ := by unfold kB;rw [if_pos hf]
  have eK : kA m j r = 4 := by unfold kA;rw [if_pos hf]
  rw [eM,eP,eK]
  unfold pE at hf
  repeat' (first|(apply aF;first|(apply iK;rfl;exact kX m hm;rfl;rfl)|(with_reducible apply aY (d := 44)))|refine aE ?_|(refine aK ?_ ?_ <;> intro hc hq <;> try (exfalso;omega))|(refine bQ ?_ ?_ <;> intro hg hq <;> try (exfalso;omega))|fail)
  ·refine aR (Le.frzD (d := 6) (i := 6) rfl rfl) ?_
   exact aC (l := [sl bJ m,.agg [iv 0,iv 0],iv 4]) rfl ⟨rfl,by exact Pur.pf⟩
  ·exfalso
   have h : ¬ (dB m j (.own (0 + 1 + 1 + 2) 0 r.length 2))[j]!.next = 1000 := by assumption
   rw [hog] at h
   dsimp only at h
   omega
  ·refine aR (Le.frzD (d := 6) (i := 6) rfl rfl) ?_
   exact aC (l := [sl bJ m,.agg [iv 0,iv 0],iv 4]) rfl ⟨rfl,by exact Pur.pf⟩
 ·have eM : kC m m j true r = m.set j (psh { m[j]! with stk := r } true) := by unfold kC; rw [if_neg hf]
  have eP : kB m j r = ⟨j,m[j]!.next⟩ := by unfold kB;rw [if_neg hf]
  have eK : kA m j r = 0 := by unfold kA;rw [if_neg hf]
  rw [eM] at hok
  rw [eM,eP,eK]
  unfold pE at hf
  have hown := kX _ hok
  repeat' (first|(apply aF;first|(with_reducible apply aY (d := 41))|(with_reducible apply aY (d := 54)))|refine aE ?_|(refine aK ?_ ?_ <;> intro hc hq <;> try (exfalso;omega))|(refine bQ ?_ ?_ <;> intro hg hq <;> try (exfalso;omega))|fail)
  ·exfalso
   have h : (dB m j (.own (0 + 1 + 1 + 2) 0 r.length 2))[j]!.next = 1000 := by assumption
   rw [hog] at h
   dsimp only at h
   omega
  ·refine bY ?_
   rw [hog]
   dsimp only
   repeat' (first|(apply aF;first|(apply bD;rfl;rfl;rfl;rfl;rfl;(rw [aI,c7]; simp only [List.length_append,List.length_cons,List.length_nil]; omega);(first|exact vP hj|exact zV hj))|(apply bZ;rfl;rfl;rfl;rfl;rfl;(rw [aI]; omega);(rfl);omega;omega;(exact wX (by (omega)));rfl;rfl)|(apply aJ (t := _);rfl;rfl;rfl;(exact (rfl:_=some [_,_]));rfl;rfl))|refine aE ?_|fail)
   refine AW.le ?_ (Le.cls (o := 3) (q := 0 + 1 + 1 + 3 + 0 + 1) (j := j) (k := r.length + 1) (m := m.set j { m[j]! with next := m[j]!.next + 1 }) (r := r ++ [⟨m[j]!.next,true⟩]) rfl rfl (by (rw [List.length_append]; rfl)) (by omega) (by decide))
   refine AW.le ?_ (Le.frzD (d := 9) (i := 3) rfl rfl)
   have e : (m.set j { m[j]! with next := m[j]!.next + 1 }).set j { (m.set j { m[j]! with next := m[j]!.next + 1 })[j]! with stk := r ++ [⟨m[j]!.next, true⟩] } = m.set j (psh { m[j]! with stk := r } true) := by
    rw [l8 hj,set_set]; rfl
   rw [e,e5 (f := bJ) (xs := m.set j (psh { m[j]! with stk := r } true)) (by rw [List.length_set])]
   repeat' (first|(apply aF;(apply iK;rfl;exact hown;rfl;rfl))|refine aE ?_|refine bS ?_|fail)
   refine aR (Le.frzD (d := 6) (i := 8) rfl rfl) ?_
   exact aC (l := [sl bJ (m.set j (psh { m[j]! with stk := r } true)),.agg [iv (j : Int),iv m[j]!.next],iv 0]) rfl ⟨rfl,by exact Pur.pf⟩
  all_goals (exfalso;omega)
theorem MX (m:List Cl) (hm:OkM m) (x:Pt) (u:Bool):PC Tryz.prog 200 [sl bJ m,n6 x,bv u] (fun r => r = .tup [sl bJ (j9 m x u),n6 (qM m x u),iv (kZ m x u)]):=by
 have hml := hm.l
 by_cases hk : a7 m x u = 0
 ·obtain ⟨c, t⟩ := x
  obtain ⟨h1,h2,h3,h4,hu⟩ := dQ hk
  obtain ⟨j,rfl⟩ := Int.eq_ofNat_of_zero_le (show 0 ≤ c from h1)
  have hj : j < m.length := by have : (j : Int) < m.length := h2;omega
  obtain ⟨k,hkk⟩ := Int.eq_ofNat_of_zero_le (show 0 ≤ b8 m[j]!.stk t from h4)
  obtain ⟨r,hr⟩ : ∃ r,r = eZ m[j]!.stk k u := ⟨_,rfl⟩
  obtain ⟨e1,e2,e3⟩ := mF hk (r := r) (by rw [hr]; show _ = eZ m[j]!.stk (b8 m[j]!.stk t).toNat u;rw [hkk]; rfl)
  rw [e1,e2,e3]
  cases u
  ·exact NK m hm j k t r hj hkk hk hr
  ·exact NB m hm j k t r hj hkk hk hr
 ·obtain ⟨e1, e2, e3⟩ := JW hk
  rw [e1,e2,e3]
  refine aB Tryz.func200 Tryz.ntmps200 ?_
  repeat' (first|(apply aF;first|(apply iK;rfl;exact kX m hm;rfl;rfl)|(apply oA (m := m) (x := x) (wr := u) (n := m.length);rfl;rfl;rfl;rfl;exact qS m x u _ hm rfl hk;rfl;rfl))|refine aE ?_|(refine aK ?_ ?_ <;> intro hc hq <;> try (exfalso;omega))|fail)
  refine aR (Le.frzD (d := 6) (i := 3) rfl rfl) ?_
  exact aC (l := [sl bJ m,.agg [iv 0,iv 0],iv (a7 m x u)]) rfl ⟨rfl,by exact Pur.pf⟩
abbrev mO (ts : List Int) (bd : List AL.Stmt) (pts : List Pnt) (i1 i2 : Nat) (s : Mc) : List AV := [aG ts bd pts,.own i1 0 ts.length 4,sl bJ s.cells,.own i2 0 s.read.length 1]
theorem Db {ts:List Int}{bd:List AL.Stmt}{pts:List Pnt}{s:Mc}{v:Nat}{x0 x1:Operand}{i0 i1 i2:Nat}(ha0:ev (lk tsl) x0 = some (.optr i0 0)) (ha1:ev (lk tsl) x1 = some (iv (v:Int))) (hH0:aV hsl i0 = some (mO ts bd pts i1 i2 s)) (hH1:aV hsl i1 = some (flat dC s.slots)) (hH2:aV hsl i2 = some (flat cI s.read)) (hdd:Go.AL.distinct [i0,i1,i2] = true) (hmc:MC Tryz.prog 204 [.optr 0 0,iv (v:Int)] [(0,some (mO ts bd pts 1 2 s)),(1,some (flat dC s.slots)),(2,some (flat cI s.read))] 3 (fun _:Unit => True) (fun _ => iv (kP (a7 s.cells s.slots[v]!.ptr true))) (fun _ => [(0,some ([aG ts bd pts,.own 1 0 ts.length 4,sl bJ (gY s.cells s.slots[v]!.ptr),.own 2 0 s.read.length 1])),(1,some (flat dC s.slots)),(2,some (flat cI s.read))])) (hM:Nat.ble (nidl + 0) a6 = true) (hN:Nat.blt d N = true){md':Md}[hmd:MdA md (fI [x0,x1] ++ [.inr i0,.inr i1,.inr i2]) (List.map Sum.inr (List.map Prod.fst ([(i0,some ([aG ts bd pts,.own i1 0 ts.length 4,sl bJ (gY s.cells s.slots[v]!.ptr),.own i2 0 s.read.length 1])),(i1,some (flat dC s.slots)),(i2,some (flat cI s.read))]:List (Nat × Option (List AV)))) ++ [.inl d]) md'] (kk:RW Tryz.prog N all Q md' rest ⟨(d,iv (kP (a7 s.cells s.slots[v]!.ptr true))) :: tsl,gE hsl [(i0,some ([aG ts bd pts,.own i1 0 ts.length 4,sl bJ (gY s.cells s.slots[v]!.ptr),.own i2 0 s.read.length 1])),(i1,some (flat dC s.slots)),(i2,some (flat cI s.read))],nidl + 0,z0⟩):RW Tryz.prog N all Q md (⟨some d,.call ⟨.value (.func 204),#[x0,x1],tys⟩,ty,pos,af,none⟩ :: rest) ⟨tsl,hsl,nidl,z0⟩:=by
 exact aX (l := [x0,x1]) [i0,i1,i2] 3 [(i0,some ([aG ts bd pts,.own i1 0 ts.length 4,sl bJ (gY s.cells s.slots[v]!.ptr),.own i2 0 s.read.length 1])),(i1,some (flat dC s.slots)),(i2,some (flat cI s.read))] hmc (avs := [.optr i0 0,iv (v : Int)]) (by simp only [evL,ha0,ha1]) hdd hM hN (md' := md') (hmd := hmd) kk
theorem AU (ts:List Int) (bd:List AL.Stmt) (pts:List Pnt) (s:Mc) (v:Nat) (hm:OkM s.cells) (hsl:s.slots.length = ts.length) (hv:v < ts.length):MC Tryz.prog 204 [.optr 0 0,iv (v:Int)] [(0,some (mO ts bd pts 1 2 s)),(1,some (flat dC s.slots)),(2,some (flat cI s.read))] 3 (fun _:Unit => True) (fun _ => iv (kP (a7 s.cells s.slots[v]!.ptr true))) (fun _ => [(0,some ([aG ts bd pts,.own 1 0 ts.length 4,sl bJ (gY s.cells s.slots[v]!.ptr),.own 2 0 s.read.length 1])),(1,some (flat dC s.slots)),(2,some (flat cI s.read))]):=by
 have hfc := BW s.cells hm s.slots[v]!.ptr
 refine aW Tryz.func204 Tryz.ntmps204 ?_
 repeat' (first|(apply aF;first|(apply jQ;(case hx|hH => rfl);(case hf|hg|hα => infer_instance);(case hk => omega);(case hj => decide);(case hc => exact (rfl:_=[_,_]));(case h0|hN => rfl))|(apply aA (k := 243);rfl;exact hfc;exact Pur.pf;rfl)|(apply aA (k := 201);rfl;(apply tN);(rfl);rfl))|refine aE ?_|(refine aK ?_ ?_ <;> intro hc hq <;> try (exfalso;omega))|refine bS ?_|fail)
 ·have hk : ¬ a7 s.cells s.slots[v]!.ptr true = 0 := by assumption
  (refine aC rfl ?_; refine aS () trivial ?_ ⟨sE ?_,⟨sE ?_,⟨sE ?_,trivial⟩⟩⟩)
  ·show iv (eG _) = iv (kP _)
   unfold kP;rw [if_neg hk]
  ·rfl
  ·rfl
  ·rfl
 ·have hk : a7 s.cells s.slots[v]!.ptr true = 0 := by assumption
  (refine aC rfl ?_; refine aS () trivial ?_ ⟨sE ?_,⟨sE ?_,⟨sE ?_,trivial⟩⟩⟩)
  ·rw [hk]; rfl
  ·rfl
  ·rfl
  ·rfl
theorem P9 (ts:List Int) (bd:List AL.Stmt) (pts:List Pnt) (s:Mc) (v:Nat) (y:Sl) (hm:OkM s.cells) (hsl:s.slots.length = ts.length) (hv:v < ts.length):MC Tryz.prog 197 [.optr 0 0,iv (v:Int),Ih y] [(0,some (mO ts bd pts 1 2 s)),(1,some (flat dC s.slots)),(2,some (flat cI s.read))] 3 (fun _:Unit => True) (fun _ => iv (bI ts s v y).2) (fun _ => [(0,some (mO ts bd pts 1 2 (bI ts s v y).1)),(1,some (flat dC (bI ts s v y).1.slots)),(2,some (flat cI (bI ts s v y).1.read))]):=by
 have hfr := AU ts bd pts s v hm hsl hv
 refine aW Tryz.func197 Tryz.ntmps197 ?_
 repeat' (first|(apply aF;first|(apply Db (ts := ts) (bd := bd) (pts := pts) (s := s) (v := v);rfl;rfl;rfl;rfl;rfl;rfl;exact hfr;rfl;rfl)|(apply bD;rfl;rfl;rfl;rfl;rfl;(rw [aI]; simp only [gA] <;> omega);(exact yC (by (omega)))))|refine aE ?_|(refine aK ?_ ?_ <;> intro hc hq <;> try (exfalso;omega))|(refine bQ ?_ ?_ <;> intro hg hq <;> try (exfalso;omega))|refine bS ?_|fail)
 ·have hp : bI ts s v y = (⟨s.slots.set v y, gY s.cells s.slots[v]!.ptr, s.read⟩, kP (a7 s.cells s.slots[v]!.ptr true)) := if_pos ⟨by assumption, by assumption⟩
  rw [hp]
  (refine aC rfl ?_; refine aS () trivial ?_ ⟨sE ?_,⟨sE ?_,⟨sE ?_,trivial⟩⟩⟩)
  ·rfl
  ·rfl
  ·rfl
  ·rfl
 all_goals (
  have hp : bI ts s v y = (⟨s.slots.set v y, s.cells, s.read⟩, -1) := if_neg (by
   rintro ⟨q1,q2⟩
   first|(exact (by assumption : ¬ ts[v]! = 2) q1)|(rw [(by assumption : s.slots[v]!.set = false)] at q2;exact absurd q2 (by decide)))
  rw [hp]
  (refine aC rfl ?_; refine aS () trivial ?_ ⟨sE ?_,⟨sE ?_,⟨sE ?_,trivial⟩⟩⟩)
  ·rfl
  ·rfl
  ·rfl
  ·rfl)
theorem Ml {ts:List Int}{bd:List AL.Stmt}{pts:List Pnt}{s:Mc}{x0:Operand}{i0 i1 i2:Nat}(ha0:ev (lk tsl) x0 = some (.optr i0 0)) (hH0:aV hsl i0 = some (mO ts bd pts i1 i2 s)) (hH1:aV hsl i1 = some (flat dC s.slots)) (hH2:aV hsl i2 = some (flat cI s.read)) (hdd:Go.AL.distinct [i0,i1,i2] = true) (hmc:MC Tryz.prog 205 [.optr 0 0] [(0,some (mO ts bd pts 1 2 s)),(1,some (flat dC s.slots)),(2,some (flat cI s.read))] 3 (fun _:Unit => True) (fun _ => iv (cL ts ts.length 0 s).2) (fun _ => [(0,some (mO ts bd pts 1 2 (cL ts ts.length 0 s).1)),(1,some (flat dC (cL ts ts.length 0 s).1.slots)),(2,some (flat cI (cL ts ts.length 0 s).1.read))])) (hM:Nat.ble (nidl + 0) a6 = true) (hN:Nat.blt d N = true){md':Md}[hmd:MdA md (fI [x0] ++ [.inr i0,.inr i1,.inr i2]) (List.map Sum.inr (List.map Prod.fst ([(i0,some (mO ts bd pts i1 i2 (cL ts ts.length 0 s).1)),(i1,some (flat dC (cL ts ts.length 0 s).1.slots)),(i2,some (flat cI (cL ts ts.length 0 s).1.read))]:List (Nat × Option (List AV)))) ++ [.inl d]) md'] (kk:RW Tryz.prog N all Q md' rest ⟨(d,iv (cL ts ts.length 0 s).2) :: tsl,gE hsl [(i0,some (mO ts bd pts i1 i2 (cL ts ts.length 0 s).1)),(i1,some (flat dC (cL ts ts.length 0 s).1.slots)),(i2,some (flat cI (cL ts ts.length 0 s).1.read))],nidl + 0,z0⟩):RW Tryz.prog N all Q md (⟨some d,.call ⟨.value (.func 205),#[x0],tys⟩,ty,pos,af,none⟩ :: rest) ⟨tsl,hsl,nidl,z0⟩:=by
 exact aX (l := [x0]) [i0,i1,i2] 3 [(i0,some (mO ts bd pts i1 i2 (cL ts ts.length 0 s).1)),(i1,some (flat dC (cL ts ts.length 0 s).1.slots)),(i2,some (flat cI (cL ts ts.length 0 s).1.read))] hmc (avs := [.optr i0 0]) (by simp only [evL,ha0]) hdd hM hN (md' := md') (hmd := hmd) kk
theorem Qj (ts:List Int) (bd:List AL.Stmt) (pts:List Pnt) (s:Mc) (hm:OkM s.cells) (hsl:s.slots.length = ts.length) (hl:ts.length ≤ 1000000):MC Tryz.prog 205 [.optr 0 0] [(0,some (mO ts bd pts 1 2 s)),(1,some (flat dC s.slots)),(2,some (flat cI s.read))] 3 (fun _:Unit => True) (fun _ => iv (cL ts ts.length 0 s).2) (fun _ => [(0,some (mO ts bd pts 1 2 (cL ts ts.length 0 s).1)),(1,some (flat dC (cL ts ts.length 0 s).1.slots)),(2,some (flat cI (cL ts ts.length 0 s).1.read))]):=by
 refine aW Tryz.func205 Tryz.ntmps205 ?_
 repeat' (first|refine aE ?_|fail)
 refine aH (σ := Nat × Mc) [0,13,14] [] (fun k => [(15,iv (k.1 : Int))]) (fun k => [(0,some (mO ts bd pts 1 2 k.2)),(1,some (flat dC k.2.slots)),(2,some (flat cI k.2.read))]) (fun k => k.1 ≤ ts.length ∧ cL ts (ts.length - k.1) k.1 k.2 = cL ts ts.length 0 s ∧ OkM k.2.cells ∧ k.2.slots.length = ts.length) (fun k => ts.length - k.1) (0,s) ⟨Nat.zero_le _,rfl,hm,hsl⟩ ?_
 rintro ⟨v,q⟩ ⟨hv,hf,hmq,hlq⟩
 dsimp only at hv hf hmq hlq ⊢
 by_cases hvn : v < ts.length
 ·have hfr := AU ts bd pts q v hmq hlq hvn
  repeat' (first|(apply aF;first|(apply Db (ts := ts) (bd := bd) (pts := pts) (s := q) (v := v);rfl;rfl;rfl;rfl;rfl;rfl;exact hfr;rfl;rfl)|(apply bD;rfl;rfl;rfl;rfl;rfl;(rw [aI]; simp only [gA] <;> omega);(exact yC (by (omega)))))|refine aE ?_|(refine aK ?_ ?_ <;> intro hc hq <;> try (exfalso;omega))|(refine bQ ?_ ?_ <;> intro hg hq <;> try (exfalso;omega))|fail)
  ·(refine bC (v + 1, q) (Le.renA []) ?_ ?_)
   ·refine ⟨by omega, ?_, hmq, hlq⟩
    dsimp only
    rw [← hf, show ts.length - v = (ts.length - (v + 1)) + 1 by omega, zY (fun h => by
     have h2 : q.slots[v]!.set = false := by assumption
     rw [h2] at h;exact absurd h.2 (by decide))]
   ·dsimp only;omega
  ·have hk : ¬ a7 q.cells q.slots[v]!.ptr true = 0 := fun h => by
    have h2 : ¬ kP (a7 q.cells q.slots[v]!.ptr true) = -1 := by assumption
    rw [h] at h2;exact h2 rfl
   have hq2 : cL ts ts.length 0 s = (⟨q.slots, gY q.cells q.slots[v]!.ptr, q.read⟩, eG (a7 q.cells q.slots[v]!.ptr true)) := by
    rw [← hf,show ts.length - v = (ts.length - (v + 1)) + 1 by omega,IY ⟨by assumption,by assumption⟩ hk]
   rw [hq2]
   (refine aC rfl ?_; refine aS () trivial ?_ ⟨sE ?_,⟨sE ?_,⟨sE ?_,trivial⟩⟩⟩)
   ·show iv (kP _) = iv (eG _)
    unfold kP;rw [if_neg hk]
   ·rfl
   ·rfl
   ·rfl
  ·have hk : a7 q.cells q.slots[v]!.ptr true = 0 := by
    have h2 : kP (a7 q.cells q.slots[v]!.ptr true) = -1 := by assumption
    unfold kP at h2
    by_cases h : a7 q.cells q.slots[v]!.ptr true = 0
    ·exact h
    ·rw [if_neg h] at h2;unfold eG at h2;split at h2 <;> cases h2
   have hls : (q.slots.set v gD).length = q.slots.length := List.length_set
   (refine bC (v + 1,⟨q.slots.set v gD,gY q.cells q.slots[v]!.ptr,q.read⟩) (Le.renA []) ?_ ?_)
   ·refine ⟨by dsimp only; omega, ?_, hmq.fr _, by show (q.slots.set v gD).length = _; rw [List.length_set]; exact hlq⟩
    dsimp only
    rw [← hf,show ts.length - v = (ts.length - (v + 1)) + 1 by omega,IK ⟨by assumption,by assumption⟩ hk]
   ·dsimp only;omega
  ·(refine bC (v + 1, q) (Le.renA []) ?_ ?_)
   ·refine ⟨by omega, ?_, hmq, hlq⟩
    dsimp only
    rw [← hf, show ts.length - v = (ts.length - (v + 1)) + 1 by omega, zY (fun h => by
     have h2 : ¬ ts[v]! = 2 := by assumption
     exact h2 h.1)]
   ·dsimp only;omega
 ·have hve : v = ts.length := by omega
  have hq2 : cL ts ts.length 0 s = (q,0) := by rw [← hf,hve,Nat.sub_self]; rfl
  repeat' (first|refine aE ?_|(refine aK ?_ ?_ <;> intro hc hq <;> try (exfalso;omega))|fail)
  rw [hq2]
  (refine aC rfl ?_; refine aS () trivial ?_ ⟨sE ?_,⟨sE ?_,⟨sE ?_,trivial⟩⟩⟩)
  ·rfl
  ·rfl
  ·rfl
  ·rfl
def dV (ts : List Int) (s : Mc) (x : Pnt) : Mc × Int := if cA ts s x = true then (s,2) else bT ts s x
theorem xN {ts:List Int}{s:Mc}{x:Pnt}(h:cA ts s x = true):dV ts s x = (s,2) := if_pos h
theorem tC {ts:List Int}{s:Mc}{x:Pnt}(h:cA ts s x = false):dV ts s x = bT ts s x := if_neg (by rw [h]; decide)
theorem iG {ts:List Int}{x:Pnt}{v:Int}(h:v ∈ a8 (wS ts x [1,2,3])):0 ≤ v ∧ v < ts.length:=by
 obtain ⟨v',h3,h4,rfl⟩ := cK.1 h
 rw [cD,Bool.and_eq_true,decide_eq_true_eq] at h4
 omega
theorem cJ {ts:List Int}{s:Mc}{x:Pnt}(htl:ts.length ≤ 6):cA ts s x = true ↔ ∃ v ∈ a8 (wS ts x [1,2,3]),s.slots[v.toNat]!.set = false:=by
 constructor
 ·intro h
  obtain ⟨v,hv,hne,hs⟩ := uH h
  refine ⟨(v : Int),cK.2 ⟨v,by omega,?_,rfl⟩,hs⟩
  have hb := nB ts x v
  rw [cD,decide_eq_true hv,Bool.true_and,decide_eq_true_eq]
  simp only [List.mem_cons,List.not_mem_nil,or_false]; omega
 ·rintro ⟨v, hv, hs⟩
  obtain ⟨v',h3,h4,rfl⟩ := cK.1 hv
  rw [cD,Bool.and_eq_true,decide_eq_true_eq,decide_eq_true_eq] at h4
  unfold cA
  refine List.any_eq_true.2 ⟨v',List.mem_range.2 h4.1,?_⟩
  rw [Bool.and_eq_true,decide_eq_true_eq]
  refine ⟨fun e => ?_,by rw [show s.slots[v']!.set = false from hs]; rfl⟩
  have h5 := h4.2
  simp only [List.mem_cons,List.not_mem_nil,or_false] at h5;omega
theorem Qc {ts:List Int}{bd:List AL.Stmt}{pts:List Pnt}{s:Mc}{x:Pnt}{x0 x1:Operand}{i0 i1 i2:Nat}(ha0:ev (lk tsl) x0 = some (.optr i0 0)) (ha1:ev (lk tsl) x1 = some (dP x)) (hH0:aV hsl i0 = some (mO ts bd pts i1 i2 s)) (hH1:aV hsl i1 = some (flat dC s.slots)) (hH2:aV hsl i2 = some (flat cI s.read)) (hdd:Go.AL.distinct [i0,i1,i2] = true) (hmc:MC Tryz.prog 140 [.optr 0 0,dP x] [(0,some (mO ts bd pts 1 2 s)),(1,some (flat dC s.slots)),(2,some (flat cI s.read))] 3 (fun _:Unit => True) (fun _ => iv (dV ts s x).2) (fun _ => [(0,some (mO ts bd pts 1 2 (dV ts s x).1)),(1,some (flat dC (dV ts s x).1.slots)),(2,some (flat cI (dV ts s x).1.read))])) (hM:Nat.ble (nidl + 0) a6 = true) (hN:Nat.blt d N = true){md':Md}[hmd:MdA md (fI [x0,x1] ++ [.inr i0,.inr i1,.inr i2]) (List.map Sum.inr (List.map Prod.fst ([(i0,some (mO ts bd pts i1 i2 (dV ts s x).1)),(i1,some (flat dC (dV ts s x).1.slots)),(i2,some (flat cI (dV ts s x).1.read))]:List (Nat × Option (List AV)))) ++ [.inl d]) md'] (kk:RW Tryz.prog N all Q md' rest ⟨(d,iv (dV ts s x).2) :: tsl,gE hsl [(i0,some (mO ts bd pts i1 i2 (dV ts s x).1)),(i1,some (flat dC (dV ts s x).1.slots)),(i2,some (flat cI (dV ts s x).1.read))],nidl + 0,z0⟩):RW Tryz.prog N all Q md (⟨some d,.call ⟨.value (.func 140),#[x0,x1],tys⟩,ty,pos,af,none⟩ :: rest) ⟨tsl,hsl,nidl,z0⟩:=by
 exact aX (l := [x0,x1]) [i0,i1,i2] 3 [(i0,some (mO ts bd pts i1 i2 (dV ts s x).1)),(i1,some (flat dC (dV ts s x).1.slots)),(i2,some (flat cI (dV ts s x).1.read))] hmc (avs := [.optr i0 0,dP x]) (by simp only [evL,ha0,ha1]) hdd hM hN (md' := md') (hmd := hmd) kk
theorem k8 {ts:List Int}{bd:List AL.Stmt}{pts:List Pnt}{s:Mc}{v:Int}{y:Sl}{x0 x1 x2:Operand}{i0 i1 i2:Nat}(ha0:ev (lk tsl) x0 = some (.optr i0 0)) (ha1:ev (lk tsl) x1 = some (iv v)) (ha2:ev (lk tsl) x2 = some (Ih y)) (hH0:aV hsl i0 = some (mO ts bd pts i1 i2 s)) (hH1:aV hsl i1 = some (flat dC s.slots)) (hH2:aV hsl i2 = some (flat cI s.read)) (hdd:Go.AL.distinct [i0,i1,i2] = true) (hmc:MC Tryz.prog 197 [.optr 0 0,iv v,Ih y] [(0,some (mO ts bd pts 1 2 s)),(1,some (flat dC s.slots)),(2,some (flat cI s.read))] 3 (fun _:Unit => True) (fun _ => iv (bI ts s v.toNat y).2) (fun _ => [(0,some (mO ts bd pts 1 2 (bI ts s v.toNat y).1)),(1,some (flat dC (bI ts s v.toNat y).1.slots)),(2,some (flat cI (bI ts s v.toNat y).1.read))])) (hM:Nat.ble (nidl + 0) a6 = true) (hN:Nat.blt d N = true){md':Md}[hmd:MdA md (fI [x0,x1,x2] ++ [.inr i0,.inr i1,.inr i2]) (List.map Sum.inr (List.map Prod.fst ([(i0,some (mO ts bd pts i1 i2 (bI ts s v.toNat y).1)),(i1,some (flat dC (bI ts s v.toNat y).1.slots)),(i2,some (flat cI (bI ts s v.toNat y).1.read))]:List (Nat × Option (List AV)))) ++ [.inl d]) md'] (kk:RW Tryz.prog N all Q md' rest ⟨(d,iv (bI ts s v.toNat y).2) :: tsl,gE hsl [(i0,some (mO ts bd pts i1 i2 (bI ts s v.toNat y).1)),(i1,some (flat dC (bI ts s v.toNat y).1.slots)),(i2,some (flat cI (bI ts s v.toNat y).1.read))],nidl + 0,z0⟩):RW Tryz.prog N all Q md (⟨some d,.call ⟨.value (.func 197),#[x0,x1,x2],tys⟩,ty,pos,af,none⟩ :: rest) ⟨tsl,hsl,nidl,z0⟩:=by
 exact aX (l := [x0,x1,x2]) [i0,i1,i2] 3 [(i0,some (mO ts bd pts i1 i2 (bI ts s v.toNat y).1)),(i1,some (flat dC (bI ts s v.toNat y).1.slots)),(i2,some (flat cI (bI ts s v.toNat y).1.read))] hmc (avs := [.optr i0 0,iv v,Ih y]) (by simp only [evL,ha0,ha1,ha2]) hdd hM hN (md' := md') (hmd := hmd) kk
theorem oG (ts:List Int) (bd:List AL.Stmt) (pts:List Pnt) (s:Mc) (v:Int) (y:Sl) (hm:OkM s.cells) (hsl:s.slots.length = ts.length) (hv:0 ≤ v ∧ v < ts.length):MC Tryz.prog 197 [.optr 0 0,iv v,Ih y] [(0,some (mO ts bd pts 1 2 s)),(1,some (flat dC s.slots)),(2,some (flat cI s.read))] 3 (fun _:Unit => True) (fun _ => iv (bI ts s v.toNat y).2) (fun _ => [(0,some (mO ts bd pts 1 2 (bI ts s v.toNat y).1)),(1,some (flat dC (bI ts s v.toNat y).1.slots)),(2,some (flat cI (bI ts s v.toNat y).1.read))]):=by
 have h := P9 ts bd pts s v.toNat y hm hsl (by omega)
 rw [Int.toNat_of_nonneg hv.1] at h
 exact h
theorem Gb {ts:List Int}{bd:List AL.Stmt}{pts:List Pnt}{s:Mc}{v:Int}{x0 x1:Operand}{i0 i1 i2:Nat}(ha0:ev (lk tsl) x0 = some (.optr i0 0)) (ha1:ev (lk tsl) x1 = some (iv v)) (hH0:aV hsl i0 = some (mO ts bd pts i1 i2 s)) (hH1:aV hsl i1 = some (flat dC s.slots)) (hH2:aV hsl i2 = some (flat cI s.read)) (hdd:Go.AL.distinct [i0,i1,i2] = true) (hmc:MC Tryz.prog 204 [.optr 0 0,iv v] [(0,some (mO ts bd pts 1 2 s)),(1,some (flat dC s.slots)),(2,some (flat cI s.read))] 3 (fun _:Unit => True) (fun _ => iv (kP (a7 s.cells s.slots[v.toNat]!.ptr true))) (fun _ => [(0,some ([aG ts bd pts,.own 1 0 ts.length 4,sl bJ (gY s.cells s.slots[v.toNat]!.ptr),.own 2 0 s.read.length 1])),(1,some (flat dC s.slots)),(2,some (flat cI s.read))])) (hM:Nat.ble (nidl + 0) a6 = true) (hN:Nat.blt d N = true){md':Md}[hmd:MdA md (fI [x0,x1] ++ [.inr i0,.inr i1,.inr i2]) (List.map Sum.inr (List.map Prod.fst ([(i0,some ([aG ts bd pts,.own i1 0 ts.length 4,sl bJ (gY s.cells s.slots[v.toNat]!.ptr),.own i2 0 s.read.length 1])),(i1,some (flat dC s.slots)),(i2,some (flat cI s.read))]:List (Nat × Option (List AV)))) ++ [.inl d]) md'] (kk:RW Tryz.prog N all Q md' rest ⟨(d,iv (kP (a7 s.cells s.slots[v.toNat]!.ptr true))) :: tsl,gE hsl [(i0,some ([aG ts bd pts,.own i1 0 ts.length 4,sl bJ (gY s.cells s.slots[v.toNat]!.ptr),.own i2 0 s.read.length 1])),(i1,some (flat dC s.slots)),(i2,some (flat cI s.read))],nidl + 0,z0⟩):RW Tryz.prog N all Q md (⟨some d,.call ⟨.value (.func 204),#[x0,x1],tys⟩,ty,pos,af,none⟩ :: rest) ⟨tsl,hsl,nidl,z0⟩:=by
 exact aX (l := [x0,x1]) [i0,i1,i2] 3 [(i0,some ([aG ts bd pts,.own i1 0 ts.length 4,sl bJ (gY s.cells s.slots[v.toNat]!.ptr),.own i2 0 s.read.length 1])),(i1,some (flat dC s.slots)),(i2,some (flat cI s.read))] hmc (avs := [.optr i0 0,iv v]) (by simp only [evL,ha0,ha1]) hdd hM hN (md' := md') (hmd := hmd) kk
theorem KK (ts:List Int) (bd:List AL.Stmt) (pts:List Pnt) (s:Mc) (v:Int) (hm:OkM s.cells) (hsl:s.slots.length = ts.length) (hv:0 ≤ v ∧ v < ts.length):MC Tryz.prog 204 [.optr 0 0,iv v] [(0,some (mO ts bd pts 1 2 s)),(1,some (flat dC s.slots)),(2,some (flat cI s.read))] 3 (fun _:Unit => True) (fun _ => iv (kP (a7 s.cells s.slots[v.toNat]!.ptr true))) (fun _ => [(0,some ([aG ts bd pts,.own 1 0 ts.length 4,sl bJ (gY s.cells s.slots[v.toNat]!.ptr),.own 2 0 s.read.length 1])),(1,some (flat dC s.slots)),(2,some (flat cI s.read))]):=by
 have h := AU ts bd pts s v.toNat hm hsl (by omega)
 rw [Int.toNat_of_nonneg hv.1] at h
 exact h
theorem RE (ts:List Int) (bd:List AL.Stmt) (pts:List Pnt) (s:Mc) (x:Pnt) (htl:ts.length ≤ 6) (hm:OkM s.cells) (hsl:s.slots.length = ts.length) (ho:x.op = 1) (hx:0 ≤ x.x ∧ x.x < ts.length):MC Tryz.prog 140 [.optr 0 0,dP x] [(0,some (mO ts bd pts 1 2 s)),(1,some (flat dC s.slots)),(2,some (flat cI s.read))] 3 (fun _:Unit => True) (fun _ => iv (dV ts s x).2) (fun _ => [(0,some (mO ts bd pts 1 2 (dV ts s x).1)),(1,some (flat dC (dV ts s x).1.slots)),(2,some (flat cI (dV ts s x).1.read))]):=by
 have hus := gJ ts bd pts x htl
 have hsm : Sm (wS ts x [1,2,3]) := b9 (by omega)
 obtain ⟨L,hL⟩ : ∃ L,L = a8 (wS ts x [1,2,3]) := ⟨_,rfl⟩
 have hLl : L.length ≤ 62 := by rw [hL]; exact cP _
 have hmem : ∀ k, k < L.length → 0 ≤ L[k]! ∧ L[k]! < s.slots.length := fun k hk => by
  rw [hsl]; exact iG (by rw [← hL]; exact aU _ _ hk)
 refine aW Tryz.func140 Tryz.ntmps140 ?_
 repeat' (first|(apply aF;first|(apply aA (k := 158);rfl;exact hus;exact Pur.pf;rfl)|(apply aA (k := 120);rfl;(apply gM <;> (assumption));(rfl);rfl))|refine aE ?_|refine bS ?_|fail)
 rw [← hL]
 refine aH (σ := Nat) [0,3,26,27] [0,1,2,3] (fun k => [(28,iv (k : Int))]) (fun k => []) (fun k => k ≤ L.length ∧ ∀ j,j < k → s.slots[(L[j]!).toNat]!.set = true) (fun k => L.length - k) (0) ⟨Nat.zero_le _,fun j h => absurd h (by omega)⟩ ?_
 rintro k ⟨hk,hall⟩
 by_cases hkn : k < L.length
 ·have hmk := hmem k hkn
  repeat' (first|refine aE ?_|(refine aK ?_ ?_ <;> intro hc hq <;> try (exfalso;omega))|fail)
  ·have hu : cA ts s x = true := (cJ htl).2 ⟨L[k]!, by rw [← hL]; exact aU _ _ hkn, by assumption⟩
   rw [xN hu]
   (refine aC rfl ?_; refine aS () trivial ?_ ⟨sE ?_,⟨sE ?_,⟨sE ?_,trivial⟩⟩⟩)
   ·rfl
   ·rfl
   ·rfl
   ·rfl
  ·(refine bC (k + 1) (Le.renA [(3, 3)]) ?_ ?_)
   ·refine ⟨by omega, fun j hj => ?_⟩
    rcases Nat.lt_or_ge j k with h|h
    ·exact hall j h
    ·rw [show j = k by omega]; assumption
   ·omega
 ·have hu : cA ts s x = false := by
   cases q : cA ts s x with
   | false => rfl
   | true =>
    obtain ⟨v,hv,hs⟩ := (cJ htl).1 q
    rw [← hL] at hv
    obtain ⟨j,hj,e⟩ := List.getElem_of_mem hv
    have h1 := hall j (by omega)
    rw [aZ _ _ hj,e,hs] at h1;cases h1
  rw [tC hu]
  have hd : bT ts s x = bI ts s x.x.toNat ⟨true,x.n,⟨0,0⟩⟩ := by unfold bT;rw [if_pos ho]
  rw [hd]
  have hp := oG ts bd pts s x.x ⟨true,x.n,⟨0,0⟩⟩ hm hsl hx
  repeat' (first|(apply aF;(apply k8 (ts := ts) (bd := bd) (pts := pts) (s := s) (v := x.x) (y := ⟨true,x.n,⟨0,0⟩⟩);rfl;rfl;rfl;rfl;rfl;rfl;rfl;exact hp;rfl;rfl))|refine aE ?_|(refine aK ?_ ?_ <;> intro hc hq <;> try (exfalso;omega))|fail)
  (refine aC rfl ?_; refine aS () trivial ?_ ⟨sE ?_,⟨sE ?_,⟨sE ?_,trivial⟩⟩⟩)
  ·rfl
  ·rfl
  ·rfl
  ·rfl
theorem RJ (ts:List Int) (bd:List AL.Stmt) (pts:List Pnt) (s:Mc) (x:Pnt) (htl:ts.length ≤ 6) (hm:OkM s.cells) (hsl:s.slots.length = ts.length) (ho:x.op = 2) (hn:0 ≤ x.n ∧ x.n ≤ 9) (hx:0 ≤ x.x ∧ x.x < ts.length):MC Tryz.prog 140 [.optr 0 0,dP x] [(0,some (mO ts bd pts 1 2 s)),(1,some (flat dC s.slots)),(2,some (flat cI s.read))] 3 (fun _:Unit => True) (fun _ => iv (dV ts s x).2) (fun _ => [(0,some (mO ts bd pts 1 2 (dV ts s x).1)),(1,some (flat dC (dV ts s x).1.slots)),(2,some (flat cI (dV ts s x).1.read))]):=by
 have hus := gJ ts bd pts x htl
 have hsm : Sm (wS ts x [1,2,3]) := b9 (by omega)
 obtain ⟨L,hL⟩ : ∃ L,L = a8 (wS ts x [1,2,3]) := ⟨_,rfl⟩
 have hLl : L.length ≤ 62 := by rw [hL]; exact cP _
 have hmem : ∀ k, k < L.length → 0 ≤ L[k]! ∧ L[k]! < s.slots.length := fun k hk => by
  rw [hsl]; exact iG (by rw [← hL]; exact aU _ _ hk)
 refine aW Tryz.func140 Tryz.ntmps140 ?_
 repeat' (first|(apply aF;first|(apply aA (k := 158);rfl;exact hus;exact Pur.pf;rfl)|(apply aA (k := 120);rfl;(apply gM <;> (assumption));(rfl);rfl))|refine aE ?_|refine bS ?_|fail)
 rw [← hL]
 refine aH (σ := Nat) [0,3,26,27] [0,1,2,3] (fun k => [(28,iv (k : Int))]) (fun k => []) (fun k => k ≤ L.length ∧ ∀ j,j < k → s.slots[(L[j]!).toNat]!.set = true) (fun k => L.length - k) (0) ⟨Nat.zero_le _,fun j h => absurd h (by omega)⟩ ?_
 rintro k ⟨hk,hall⟩
 by_cases hkn : k < L.length
 ·have hmk := hmem k hkn
  repeat' (first|refine aE ?_|(refine aK ?_ ?_ <;> intro hc hq <;> try (exfalso;omega))|fail)
  ·have hu : cA ts s x = true := (cJ htl).2 ⟨L[k]!, by rw [← hL]; exact aU _ _ hkn, by assumption⟩
   rw [xN hu]
   (refine aC rfl ?_; refine aS () trivial ?_ ⟨sE ?_,⟨sE ?_,⟨sE ?_,trivial⟩⟩⟩)
   ·rfl
   ·rfl
   ·rfl
   ·rfl
  ·(refine bC (k + 1) (Le.renA [(3, 3)]) ?_ ?_)
   ·refine ⟨by omega, fun j hj => ?_⟩
    rcases Nat.lt_or_ge j k with h|h
    ·exact hall j h
    ·rw [show j = k by omega]; assumption
   ·omega
 ·have hu : cA ts s x = false := by
   cases q : cA ts s x with
   | false => rfl
   | true =>
    obtain ⟨v,hv,hs⟩ := (cJ htl).1 q
    rw [← hL] at hv
    obtain ⟨j,hj,e⟩ := List.getElem_of_mem hv
    have h1 := hall j (by omega)
    rw [aZ _ _ hj,e,hs] at h1;cases h1
  rw [tC hu]
  have hml := hm.l
  have hnc := DR s.cells hm x.n
  by_cases h2 : s.cells.length = 200
  ·rw [if_neg (by omega)] at hnc
   have hd : bT ts s x = (s,1) := by unfold bT;rw [if_neg (show ¬ x.op = 1 by omega),if_pos ho,if_pos h2]
   rw [hd]
   repeat' (first|(apply aF;(apply aA (k := 198);rfl;exact hnc;exact Pur.pf;rfl))|refine aE ?_|(refine aK ?_ ?_ <;> intro hc hq <;> try (exfalso;omega))|refine bS ?_|fail)
   (refine aC rfl ?_; refine aS () trivial ?_ ⟨sE ?_,⟨sE ?_,⟨sE ?_,trivial⟩⟩⟩)
   ·rfl
   ·rfl
   ·rfl
   ·rfl
  ·rw [if_pos (by omega)] at hnc
   have hp := oG ts bd pts ⟨s.slots,s.cells ++ [o9 x.n],s.read⟩ x.x ⟨true,0,⟨s.cells.length,0⟩⟩ (hm.nw hn (by omega)) hsl hx
   have hd : bT ts s x = bI ts ⟨s.slots,s.cells ++ [o9 x.n],s.read⟩ x.x.toNat ⟨true,0,⟨s.cells.length,0⟩⟩ := by unfold bT;rw [if_neg (show ¬ x.op = 1 by omega),if_pos ho,if_neg h2]
   rw [hd]
   repeat' (first|(apply aF;first|(apply aA (k := 198);rfl;exact hnc;exact Pur.pf;rfl)|(apply k8 (ts := ts) (bd := bd) (pts := pts) (s := ⟨s.slots,s.cells ++ [o9 x.n],s.read⟩) (v := x.x) (y := ⟨true,0,⟨s.cells.length,0⟩⟩);rfl;rfl;rfl;rfl;rfl;rfl;rfl;exact hp;rfl;rfl))|refine aE ?_|(refine aK ?_ ?_ <;> intro hc hq <;> try (exfalso;omega))|refine bS ?_|fail)
   (refine aC rfl ?_; refine aS () trivial ?_ ⟨sE ?_,⟨sE ?_,⟨sE ?_,trivial⟩⟩⟩)
   ·rfl
   ·rfl
   ·rfl
   ·rfl
theorem RR (ts:List Int) (bd:List AL.Stmt) (pts:List Pnt) (s:Mc) (x:Pnt) (htl:ts.length ≤ 6) (hm:OkM s.cells) (hsl:s.slots.length = ts.length) (ho:x.op = 3) (hx:0 ≤ x.x ∧ x.x < ts.length) (hy:0 ≤ x.y ∧ x.y < ts.length):MC Tryz.prog 140 [.optr 0 0,dP x] [(0,some (mO ts bd pts 1 2 s)),(1,some (flat dC s.slots)),(2,some (flat cI s.read))] 3 (fun _:Unit => True) (fun _ => iv (dV ts s x).2) (fun _ => [(0,some (mO ts bd pts 1 2 (dV ts s x).1)),(1,some (flat dC (dV ts s x).1.slots)),(2,some (flat cI (dV ts s x).1.read))]):=by
 have hus := gJ ts bd pts x htl
 have hsm : Sm (wS ts x [1,2,3]) := b9 (by omega)
 obtain ⟨L,hL⟩ : ∃ L,L = a8 (wS ts x [1,2,3]) := ⟨_,rfl⟩
 have hLl : L.length ≤ 62 := by rw [hL]; exact cP _
 have hmem : ∀ k, k < L.length → 0 ≤ L[k]! ∧ L[k]! < s.slots.length := fun k hk => by
  rw [hsl]; exact iG (by rw [← hL]; exact aU _ _ hk)
 refine aW Tryz.func140 Tryz.ntmps140 ?_
 repeat' (first|(apply aF;first|(apply aA (k := 158);rfl;exact hus;exact Pur.pf;rfl)|(apply aA (k := 120);rfl;(apply gM <;> (assumption));(rfl);rfl))|refine aE ?_|refine bS ?_|fail)
 rw [← hL]
 refine aH (σ := Nat) [0,3,26,27] [0,1,2,3] (fun k => [(28,iv (k : Int))]) (fun k => []) (fun k => k ≤ L.length ∧ ∀ j,j < k → s.slots[(L[j]!).toNat]!.set = true) (fun k => L.length - k) (0) ⟨Nat.zero_le _,fun j h => absurd h (by omega)⟩ ?_
 rintro k ⟨hk,hall⟩
 by_cases hkn : k < L.length
 ·have hmk := hmem k hkn
  repeat' (first|refine aE ?_|(refine aK ?_ ?_ <;> intro hc hq <;> try (exfalso;omega))|fail)
  ·have hu : cA ts s x = true := (cJ htl).2 ⟨L[k]!, by rw [← hL]; exact aU _ _ hkn, by assumption⟩
   rw [xN hu]
   (refine aC rfl ?_; refine aS () trivial ?_ ⟨sE ?_,⟨sE ?_,⟨sE ?_,trivial⟩⟩⟩)
   ·rfl
   ·rfl
   ·rfl
   ·rfl
  ·(refine bC (k + 1) (Le.renA [(3, 3)]) ?_ ?_)
   ·refine ⟨by omega, fun j hj => ?_⟩
    rcases Nat.lt_or_ge j k with h|h
    ·exact hall j h
    ·rw [show j = k by omega]; assumption
   ·omega
 ·have hu : cA ts s x = false := by
   cases q : cA ts s x with
   | false => rfl
   | true =>
    obtain ⟨v,hv,hs⟩ := (cJ htl).1 q
    rw [← hL] at hv
    obtain ⟨j,hj,e⟩ := List.getElem_of_mem hv
    have h1 := hall j (by omega)
    rw [aZ _ _ hj,e,hs] at h1;cases h1
  rw [tC hu]
  have hd : bT ts s x = bI ts (if w9 ts[x.y.toNat]! = true then ⟨s.slots.set x.y.toNat gD,s.cells,s.read⟩ else s) x.x.toNat s.slots[x.y.toNat]! := by unfold bT;rw [if_neg (show ¬ x.op = 1 by omega),if_neg (show ¬ x.op = 2 by omega),if_pos ho]
  rw [hd]
  have htk := AZ ts bd pts x.y hy
  by_cases hk : w9 ts[x.y.toNat]! = true
  ·rw [hk] at htk
   rw [if_pos hk]
   have hp := oG ts bd pts ⟨s.slots.set x.y.toNat gD,s.cells,s.read⟩ x.x s.slots[x.y.toNat]! hm (by show (s.slots.set _ _).length = _; rw [List.length_set]; exact hsl) hx
   repeat' (first|(apply aF;first|(apply aA (k := 199);rfl;exact htk;exact Pur.pf;rfl)|(apply k8 (ts := ts) (bd := bd) (pts := pts) (s := ⟨s.slots.set x.y.toNat gD,s.cells,s.read⟩) (v := x.x) (y := s.slots[x.y.toNat]!);rfl;rfl;rfl;rfl;rfl;rfl;rfl;exact hp;rfl;rfl)|(apply bD;rfl;rfl;rfl;rfl;rfl;(case hl => (first|(rw [aI]; simp only [gA] <;> omega)|(simp;done)));(exact yC (by (omega)))))|refine aE ?_|(refine aK ?_ ?_ <;> intro hc hq <;> try (exfalso;omega))|refine bS ?_|fail)
   (refine aC rfl ?_; refine aS () trivial ?_ ⟨sE ?_,⟨sE ?_,⟨sE ?_,trivial⟩⟩⟩)
   ·rfl
   ·rfl
   ·rfl
   ·rfl
  ·have hk2 : w9 ts[x.y.toNat]! = false := by simpa using hk
   rw [hk2] at htk
   rw [if_neg hk]
   have hp := oG ts bd pts s x.x s.slots[x.y.toNat]! hm hsl hx
   repeat' (first|(apply aF;first|(apply aA (k := 199);rfl;exact htk;exact Pur.pf;rfl)|(apply k8 (ts := ts) (bd := bd) (pts := pts) (s := s) (v := x.x) (y := s.slots[x.y.toNat]!);rfl;rfl;rfl;rfl;rfl;rfl;rfl;exact hp;rfl;rfl))|refine aE ?_|(refine aK ?_ ?_ <;> intro hc hq <;> try (exfalso;omega))|refine bS ?_|fail)
   (refine aC rfl ?_; refine aS () trivial ?_ ⟨sE ?_,⟨sE ?_,⟨sE ?_,trivial⟩⟩⟩)
   ·rfl
   ·rfl
   ·rfl
   ·rfl
theorem Qv (ts:List Int) (bd:List AL.Stmt) (pts:List Pnt) (s:Mc) (x:Pnt) (htl:ts.length ≤ 6) (hm:OkM s.cells) (hsl:s.slots.length = ts.length) (ho:x.op = 4 ∨ x.op = 5) (hx:0 ≤ x.x ∧ x.x < ts.length) (hy:0 ≤ x.y ∧ x.y < ts.length):MC Tryz.prog 140 [.optr 0 0,dP x] [(0,some (mO ts bd pts 1 2 s)),(1,some (flat dC s.slots)),(2,some (flat cI s.read))] 3 (fun _:Unit => True) (fun _ => iv (dV ts s x).2) (fun _ => [(0,some (mO ts bd pts 1 2 (dV ts s x).1)),(1,some (flat dC (dV ts s x).1.slots)),(2,some (flat cI (dV ts s x).1.read))]):=by
 have hus := gJ ts bd pts x htl
 have hsm : Sm (wS ts x [1,2,3]) := b9 (by omega)
 obtain ⟨L,hL⟩ : ∃ L,L = a8 (wS ts x [1,2,3]) := ⟨_,rfl⟩
 have hLl : L.length ≤ 62 := by rw [hL]; exact cP _
 have hmem : ∀ k, k < L.length → 0 ≤ L[k]! ∧ L[k]! < s.slots.length := fun k hk => by
  rw [hsl]; exact iG (by rw [← hL]; exact aU _ _ hk)
 refine aW Tryz.func140 Tryz.ntmps140 ?_
 repeat' (first|(apply aF;first|(apply aA (k := 158);rfl;exact hus;exact Pur.pf;rfl)|(apply aA (k := 120);rfl;(apply gM <;> (assumption));(rfl);rfl))|refine aE ?_|refine bS ?_|fail)
 rw [← hL]
 refine aH (σ := Nat) [0,3,26,27] [0,1,2,3] (fun k => [(28,iv (k : Int))]) (fun k => []) (fun k => k ≤ L.length ∧ ∀ j,j < k → s.slots[(L[j]!).toNat]!.set = true) (fun k => L.length - k) (0) ⟨Nat.zero_le _,fun j h => absurd h (by omega)⟩ ?_
 rintro k ⟨hk,hall⟩
 by_cases hkn : k < L.length
 ·have hmk := hmem k hkn
  repeat' (first|refine aE ?_|(refine aK ?_ ?_ <;> intro hc hq <;> try (exfalso;omega))|fail)
  ·have hu : cA ts s x = true := (cJ htl).2 ⟨L[k]!, by rw [← hL]; exact aU _ _ hkn, by assumption⟩
   rw [xN hu]
   (refine aC rfl ?_; refine aS () trivial ?_ ⟨sE ?_,⟨sE ?_,⟨sE ?_,trivial⟩⟩⟩)
   ·rfl
   ·rfl
   ·rfl
   ·rfl
  ·(refine bC (k + 1) (Le.renA [(3, 3)]) ?_ ?_)
   ·refine ⟨by omega, fun j hj => ?_⟩
    rcases Nat.lt_or_ge j k with h|h
    ·exact hall j h
    ·rw [show j = k by omega]; assumption
   ·omega
 ·have hu : cA ts s x = false := by
   cases q : cA ts s x with
   | false => rfl
   | true =>
    obtain ⟨v,hv,hs⟩ := (cJ htl).1 q
    rw [← hL] at hv
    obtain ⟨j,hj,e⟩ := List.getElem_of_mem hv
    have h1 := hall j (by omega)
    rw [aZ _ _ hj,e,hs] at h1;cases h1
  rw [tC hu]
  have hle := MX s.cells hm s.slots[x.y.toNat]!.ptr (decide (x.op = 5))
  by_cases hk : kZ s.cells s.slots[x.y.toNat]!.ptr (decide (x.op = 5)) = 0
  ·have hp := oG ts bd pts ⟨s.slots, j9 s.cells s.slots[x.y.toNat]!.ptr (decide (x.op = 5)), s.read⟩ x.x ⟨true, 0, qM s.cells s.slots[x.y.toNat]!.ptr (decide (x.op = 5))⟩ (hm.ln _ _) hsl hx
   have hd : bT ts s x = bI ts ⟨s.slots,j9 s.cells s.slots[x.y.toNat]!.ptr (decide (x.op = 5)),s.read⟩ x.x.toNat ⟨true,0,qM s.cells s.slots[x.y.toNat]!.ptr (decide (x.op = 5))⟩ := by unfold bT;rw [if_neg (show ¬ x.op = 1 by omega),if_neg (show ¬ x.op = 2 by omega),if_neg (show ¬ x.op = 3 by omega),if_pos ho,if_pos hk]
   rw [hd]
   rw [hk] at hle
   repeat' (first|(apply aF;first|(apply jQ;(case hx|hH => rfl);(case hf|hg|hα => infer_instance);(case hk => omega);(case hj => decide);(case hc => exact (rfl:_=[_,_]));(case h0|hN => rfl))|(apply aA (k := 200);rfl;exact hle;exact Pur.pf;rfl)|(apply k8 (ts := ts) (bd := bd) (pts := pts) (s := ⟨s.slots,j9 s.cells s.slots[x.y.toNat]!.ptr (decide (x.op = 5)),s.read⟩) (v := x.x) (y := ⟨true,0,qM s.cells s.slots[x.y.toNat]!.ptr (decide (x.op = 5))⟩);(case ha0|ha1|ha2|hH0|hH1|hH2|hdd => rfl);(case hmc => exact hp);(case hM|hN => rfl)))|refine aE ?_|(refine aK ?_ ?_ <;> intro hc hq <;> try (exfalso;omega))|refine bS ?_|fail)
   all_goals (
    (refine aC rfl ?_; refine aS () trivial ?_ ⟨sE ?_,⟨sE ?_,⟨sE ?_,trivial⟩⟩⟩)
    ·rfl
    ·rfl
    ·rfl
    ·rfl)
  ·have hd : bT ts s x = (s, eG (kZ s.cells s.slots[x.y.toNat]!.ptr (decide (x.op = 5)))) := by unfold bT; rw [if_neg (show ¬ x.op = 1 by omega), if_neg (show ¬ x.op = 2 by omega), if_neg (show ¬ x.op = 3 by omega), if_pos ho, if_neg hk]
   rw [hd]
   repeat' (first|(apply aF;first|(apply jQ;(case hx|hH => rfl);(case hf|hg|hα => infer_instance);(case hk => omega);(case hj => decide);(case hc => exact (rfl:_=[_,_]));(case h0|hN => rfl))|(apply aA (k := 200);rfl;exact hle;exact Pur.pf;rfl)|(apply aA (k := 201);rfl;(apply tN);(rfl);rfl))|refine aE ?_|(refine aK ?_ ?_ <;> intro hc hq <;> try (exfalso;omega))|refine bS ?_|fail)
   all_goals (
    (refine aC rfl ?_; refine aS () trivial ?_ ⟨sE ?_,⟨sE ?_,⟨sE ?_,trivial⟩⟩⟩)
    ·rfl
    ·rfl
    ·rfl
    ·rfl)
theorem RP (ts:List Int) (bd:List AL.Stmt) (pts:List Pnt) (s:Mc) (x:Pnt) (htl:ts.length ≤ 6) (hm:OkM s.cells) (hsl:s.slots.length = ts.length) (ho:x.op = 6) (hrl:s.read.length ≤ 1000) (hx:0 ≤ x.x ∧ x.x < ts.length) (hy:0 ≤ x.y ∧ x.y < ts.length) (hz:¬ a7 s.cells s.slots[x.y.toNat]!.ptr false = 0):MC Tryz.prog 140 [.optr 0 0,dP x] [(0,some (mO ts bd pts 1 2 s)),(1,some (flat dC s.slots)),(2,some (flat cI s.read))] 3 (fun _:Unit => True) (fun _ => iv (dV ts s x).2) (fun _ => [(0,some (mO ts bd pts 1 2 (dV ts s x).1)),(1,some (flat dC (dV ts s x).1.slots)),(2,some (flat cI (dV ts s x).1.read))]):=by
 have hus := gJ ts bd pts x htl
 have hsm : Sm (wS ts x [1,2,3]) := b9 (by omega)
 obtain ⟨L,hL⟩ : ∃ L,L = a8 (wS ts x [1,2,3]) := ⟨_,rfl⟩
 have hLl : L.length ≤ 62 := by rw [hL]; exact cP _
 have hmem : ∀ k, k < L.length → 0 ≤ L[k]! ∧ L[k]! < s.slots.length := fun k hk => by
  rw [hsl]; exact iG (by rw [← hL]; exact aU _ _ hk)
 refine aW Tryz.func140 Tryz.ntmps140 ?_
 repeat' (first|(apply aF;first|(apply aA (k := 158);rfl;exact hus;exact Pur.pf;rfl)|(apply aA (k := 120);rfl;(apply gM <;> (assumption));(rfl);rfl))|refine aE ?_|refine bS ?_|fail)
 rw [← hL]
 refine aH (σ := Nat) [0,3,26,27] [0,1,2,3] (fun k => [(28,iv (k : Int))]) (fun k => []) (fun k => k ≤ L.length ∧ ∀ j,j < k → s.slots[(L[j]!).toNat]!.set = true) (fun k => L.length - k) (0) ⟨Nat.zero_le _,fun j h => absurd h (by omega)⟩ ?_
 rintro k ⟨hk,hall⟩
 by_cases hkn : k < L.length
 ·have hmk := hmem k hkn
  repeat' (first|refine aE ?_|(refine aK ?_ ?_ <;> intro hc hq <;> try (exfalso;omega))|fail)
  ·have hu : cA ts s x = true := (cJ htl).2 ⟨L[k]!, by rw [← hL]; exact aU _ _ hkn, by assumption⟩
   rw [xN hu]
   (refine aC rfl ?_; refine aS () trivial ?_ ⟨sE ?_,⟨sE ?_,⟨sE ?_,trivial⟩⟩⟩)
   ·rfl
   ·rfl
   ·rfl
   ·rfl
  ·(refine bC (k + 1) (Le.renA [(3, 3)]) ?_ ?_)
   ·refine ⟨by omega, fun j hj => ?_⟩
    rcases Nat.lt_or_ge j k with h|h
    ·exact hall j h
    ·rw [show j = k by omega]; assumption
   ·omega
 ·have hu : cA ts s x = false := by
   cases q : cA ts s x with
   | false => rfl
   | true =>
    obtain ⟨v,hv,hs⟩ := (cJ htl).1 q
    rw [← hL] at hv
    obtain ⟨j,hj,e⟩ := List.getElem_of_mem hv
    have h1 := hall j (by omega)
    rw [aZ _ _ hj,e,hs] at h1;cases h1
  rw [tC hu]
  have hrc := s8 s.cells hm s.slots[x.y.toNat]!.ptr
  have hd : bT ts s x = (s,eG (a7 s.cells s.slots[x.y.toNat]!.ptr false)) := by unfold bT;rw [if_neg (show ¬ x.op = 1 by omega),if_neg (show ¬ x.op = 2 by omega),if_neg (show ¬ x.op = 3 by omega),if_neg (show ¬ (x.op = 4 ∨ x.op = 5) by omega),if_pos ho,if_neg hz]
  rw [hd]
  repeat' (first|(apply aF;first|(apply jQ;(case hx|hH => rfl);(case hf|hg|hα => infer_instance);(case hk => omega);(case hj => decide);(case hc => exact (rfl:_=[_,_]));(case h0|hN => rfl))|(apply aA (k := 202);rfl;exact hrc;exact Pur.pf;rfl)|(apply aA (k := 201);rfl;(apply tN);(rfl);rfl))|refine aE ?_|(refine aK ?_ ?_ <;> intro hc hq <;> try (exfalso;omega))|refine bS ?_|fail)
  (refine aC rfl ?_; refine aS () trivial ?_ ⟨sE ?_,⟨sE ?_,⟨sE ?_,trivial⟩⟩⟩)
  ·rfl
  ·rfl
  ·rfl
  ·rfl
theorem Ru (ts:List Int) (bd:List AL.Stmt) (pts:List Pnt) (s:Mc) (x:Pnt) (htl:ts.length ≤ 6) (hm:OkM s.cells) (hsl:s.slots.length = ts.length) (ho:x.op = 7) (hx:0 ≤ x.x ∧ x.x < ts.length) (hy:0 ≤ x.y ∧ x.y < ts.length):MC Tryz.prog 140 [.optr 0 0,dP x] [(0,some (mO ts bd pts 1 2 s)),(1,some (flat dC s.slots)),(2,some (flat cI s.read))] 3 (fun _:Unit => True) (fun _ => iv (dV ts s x).2) (fun _ => [(0,some (mO ts bd pts 1 2 (dV ts s x).1)),(1,some (flat dC (dV ts s x).1.slots)),(2,some (flat cI (dV ts s x).1.read))]):=by
 have hus := gJ ts bd pts x htl
 have hsm : Sm (wS ts x [1,2,3]) := b9 (by omega)
 obtain ⟨L,hL⟩ : ∃ L,L = a8 (wS ts x [1,2,3]) := ⟨_,rfl⟩
 have hLl : L.length ≤ 62 := by rw [hL]; exact cP _
 have hmem : ∀ k, k < L.length → 0 ≤ L[k]! ∧ L[k]! < s.slots.length := fun k hk => by
  rw [hsl]; exact iG (by rw [← hL]; exact aU _ _ hk)
 refine aW Tryz.func140 Tryz.ntmps140 ?_
 repeat' (first|(apply aF;first|(apply aA (k := 158);rfl;exact hus;exact Pur.pf;rfl)|(apply aA (k := 120);rfl;(apply gM <;> (assumption));(rfl);rfl))|refine aE ?_|refine bS ?_|fail)
 rw [← hL]
 refine aH (σ := Nat) [0,3,26,27] [0,1,2,3] (fun k => [(28,iv (k : Int))]) (fun k => []) (fun k => k ≤ L.length ∧ ∀ j,j < k → s.slots[(L[j]!).toNat]!.set = true) (fun k => L.length - k) (0) ⟨Nat.zero_le _,fun j h => absurd h (by omega)⟩ ?_
 rintro k ⟨hk,hall⟩
 by_cases hkn : k < L.length
 ·have hmk := hmem k hkn
  repeat' (first|refine aE ?_|(refine aK ?_ ?_ <;> intro hc hq <;> try (exfalso;omega))|fail)
  ·have hu : cA ts s x = true := (cJ htl).2 ⟨L[k]!, by rw [← hL]; exact aU _ _ hkn, by assumption⟩
   rw [xN hu]
   (refine aC rfl ?_; refine aS () trivial ?_ ⟨sE ?_,⟨sE ?_,⟨sE ?_,trivial⟩⟩⟩)
   ·rfl
   ·rfl
   ·rfl
   ·rfl
  ·(refine bC (k + 1) (Le.renA [(3, 3)]) ?_ ?_)
   ·refine ⟨by omega, fun j hj => ?_⟩
    rcases Nat.lt_or_ge j k with h|h
    ·exact hall j h
    ·rw [show j = k by omega]; assumption
   ·omega
 ·have hu : cA ts s x = false := by
   cases q : cA ts s x with
   | false => rfl
   | true =>
    obtain ⟨v,hv,hs⟩ := (cJ htl).1 q
    rw [← hL] at hv
    obtain ⟨j,hj,e⟩ := List.getElem_of_mem hv
    have h1 := hall j (by omega)
    rw [aZ _ _ hj,e,hs] at h1;cases h1
  rw [tC hu]
  have hwr := zD s.cells hm s.slots[x.x.toNat]!.ptr s.slots[x.y.toNat]!.num
  have hd : bT ts s x = (⟨s.slots,pI s.cells s.slots[x.x.toNat]!.ptr s.slots[x.y.toNat]!.num,s.read⟩,kP (qC s.cells s.slots[x.x.toNat]!.ptr s.slots[x.y.toNat]!.num)) := by unfold bT;rw [if_neg (show ¬ x.op = 1 by omega),if_neg (show ¬ x.op = 2 by omega),if_neg (show ¬ x.op = 3 by omega),if_neg (show ¬ (x.op = 4 ∨ x.op = 5) by omega),if_neg (show ¬ x.op = 6 by omega),if_pos ho]
  rw [hd]
  repeat' (first|(apply aF;first|(apply jQ;(case hx|hH => rfl);(case hf|hg|hα => infer_instance);(case hk => omega);(case hj => decide);(case hc => exact (rfl:_=[_,_]));(case h0|hN => rfl))|(apply aA (k := 203);rfl;exact hwr;exact Pur.pf;rfl)|(apply aA (k := 201);rfl;(apply tN);(rfl);rfl))|refine aE ?_|(refine aK ?_ ?_ <;> intro hc hq <;> try (exfalso;omega))|refine bS ?_|fail)
  ·have hk : ¬ qC s.cells s.slots[x.x.toNat]!.ptr s.slots[x.y.toNat]!.num = 0 := by assumption
   (refine aC rfl ?_; refine aS () trivial ?_ ⟨sE ?_,⟨sE ?_,⟨sE ?_,trivial⟩⟩⟩)
   ·show iv (eG _) = iv (kP _)
    unfold kP;rw [if_neg hk]
   ·rfl
   ·rfl
   ·rfl
  ·have hk : qC s.cells s.slots[x.x.toNat]!.ptr s.slots[x.y.toNat]!.num = 0 := by assumption
   (refine aC rfl ?_; refine aS () trivial ?_ ⟨sE ?_,⟨sE ?_,⟨sE ?_,trivial⟩⟩⟩)
   ·rw [hk]; rfl
   ·rfl
   ·rfl
   ·rfl
theorem Sd (ts:List Int) (bd:List AL.Stmt) (pts:List Pnt) (s:Mc) (x:Pnt) (htl:ts.length ≤ 6) (hm:OkM s.cells) (hsl:s.slots.length = ts.length) (ho:x.op = 8) (hx:0 ≤ x.x ∧ x.x < ts.length):MC Tryz.prog 140 [.optr 0 0,dP x] [(0,some (mO ts bd pts 1 2 s)),(1,some (flat dC s.slots)),(2,some (flat cI s.read))] 3 (fun _:Unit => True) (fun _ => iv (dV ts s x).2) (fun _ => [(0,some (mO ts bd pts 1 2 (dV ts s x).1)),(1,some (flat dC (dV ts s x).1.slots)),(2,some (flat cI (dV ts s x).1.read))]):=by
 have hus := gJ ts bd pts x htl
 have hsm : Sm (wS ts x [1,2,3]) := b9 (by omega)
 obtain ⟨L,hL⟩ : ∃ L,L = a8 (wS ts x [1,2,3]) := ⟨_,rfl⟩
 have hLl : L.length ≤ 62 := by rw [hL]; exact cP _
 have hmem : ∀ k, k < L.length → 0 ≤ L[k]! ∧ L[k]! < s.slots.length := fun k hk => by
  rw [hsl]; exact iG (by rw [← hL]; exact aU _ _ hk)
 refine aW Tryz.func140 Tryz.ntmps140 ?_
 repeat' (first|(apply aF;first|(apply aA (k := 158);rfl;exact hus;exact Pur.pf;rfl)|(apply aA (k := 120);rfl;(apply gM <;> (assumption));(rfl);rfl))|refine aE ?_|refine bS ?_|fail)
 rw [← hL]
 refine aH (σ := Nat) [0,3,26,27] [0,1,2,3] (fun k => [(28,iv (k : Int))]) (fun k => []) (fun k => k ≤ L.length ∧ ∀ j,j < k → s.slots[(L[j]!).toNat]!.set = true) (fun k => L.length - k) (0) ⟨Nat.zero_le _,fun j h => absurd h (by omega)⟩ ?_
 rintro k ⟨hk,hall⟩
 by_cases hkn : k < L.length
 ·have hmk := hmem k hkn
  repeat' (first|refine aE ?_|(refine aK ?_ ?_ <;> intro hc hq <;> try (exfalso;omega))|fail)
  ·have hu : cA ts s x = true := (cJ htl).2 ⟨L[k]!, by rw [← hL]; exact aU _ _ hkn, by assumption⟩
   rw [xN hu]
   (refine aC rfl ?_; refine aS () trivial ?_ ⟨sE ?_,⟨sE ?_,⟨sE ?_,trivial⟩⟩⟩)
   ·rfl
   ·rfl
   ·rfl
   ·rfl
  ·(refine bC (k + 1) (Le.renA [(3, 3)]) ?_ ?_)
   ·refine ⟨by omega, fun j hj => ?_⟩
    rcases Nat.lt_or_ge j k with h|h
    ·exact hall j h
    ·rw [show j = k by omega]; assumption
   ·omega
 ·have hu : cA ts s x = false := by
   cases q : cA ts s x with
   | false => rfl
   | true =>
    obtain ⟨v,hv,hs⟩ := (cJ htl).1 q
    rw [← hL] at hv
    obtain ⟨j,hj,e⟩ := List.getElem_of_mem hv
    have h1 := hall j (by omega)
    rw [aZ _ _ hj,e,hs] at h1;cases h1
  rw [tC hu]
  have hfr := KK ts bd pts s x.x hm hsl hx
  have hd : bT ts s x = (⟨s.slots.set x.x.toNat gD,gY s.cells s.slots[x.x.toNat]!.ptr,s.read⟩,kP (a7 s.cells s.slots[x.x.toNat]!.ptr true)) := by unfold bT;rw [if_neg (show ¬ x.op = 1 by omega),if_neg (show ¬ x.op = 2 by omega),if_neg (show ¬ x.op = 3 by omega),if_neg (show ¬ (x.op = 4 ∨ x.op = 5) by omega),if_neg (show ¬ x.op = 6 by omega),if_neg (show ¬ x.op = 7 by omega),if_pos ho]
  rw [hd]
  repeat' (first|(apply aF;first|(apply Gb (ts := ts) (bd := bd) (pts := pts) (s := s) (v := x.x);rfl;rfl;rfl;rfl;rfl;rfl;exact hfr;rfl;rfl)|(apply bD;rfl;rfl;rfl;rfl;rfl;(rw [aI]; simp only [gA] <;> omega);(exact yC (by (omega)))))|refine aE ?_|(refine aK ?_ ?_ <;> intro hc hq <;> try (exfalso;omega))|refine bS ?_|fail)
  (refine aC rfl ?_; refine aS () trivial ?_ ⟨sE ?_,⟨sE ?_,⟨sE ?_,trivial⟩⟩⟩)
  ·rfl
  ·rfl
  ·rfl
  ·rfl
theorem RA (ts:List Int) (bd:List AL.Stmt) (pts:List Pnt) (s:Mc) (x:Pnt) (htl:ts.length ≤ 6) (hm:OkM s.cells) (hsl:s.slots.length = ts.length) (ho:x.op = 9 ∨ x.op = 10 ∨ x.op = 11):MC Tryz.prog 140 [.optr 0 0,dP x] [(0,some (mO ts bd pts 1 2 s)),(1,some (flat dC s.slots)),(2,some (flat cI s.read))] 3 (fun _:Unit => True) (fun _ => iv (dV ts s x).2) (fun _ => [(0,some (mO ts bd pts 1 2 (dV ts s x).1)),(1,some (flat dC (dV ts s x).1.slots)),(2,some (flat cI (dV ts s x).1.read))]):=by
 have hus := gJ ts bd pts x htl
 have hsm : Sm (wS ts x [1,2,3]) := b9 (by omega)
 obtain ⟨L,hL⟩ : ∃ L,L = a8 (wS ts x [1,2,3]) := ⟨_,rfl⟩
 have hLl : L.length ≤ 62 := by rw [hL]; exact cP _
 have hmem : ∀ k, k < L.length → 0 ≤ L[k]! ∧ L[k]! < s.slots.length := fun k hk => by
  rw [hsl]; exact iG (by rw [← hL]; exact aU _ _ hk)
 refine aW Tryz.func140 Tryz.ntmps140 ?_
 repeat' (first|(apply aF;first|(apply aA (k := 158);rfl;exact hus;exact Pur.pf;rfl)|(apply aA (k := 120);rfl;(apply gM <;> (assumption));(rfl);rfl))|refine aE ?_|refine bS ?_|fail)
 rw [← hL]
 refine aH (σ := Nat) [0,3,26,27] [0,1,2,3] (fun k => [(28,iv (k : Int))]) (fun k => []) (fun k => k ≤ L.length ∧ ∀ j,j < k → s.slots[(L[j]!).toNat]!.set = true) (fun k => L.length - k) (0) ⟨Nat.zero_le _,fun j h => absurd h (by omega)⟩ ?_
 rintro k ⟨hk,hall⟩
 by_cases hkn : k < L.length
 ·have hmk := hmem k hkn
  repeat' (first|refine aE ?_|(refine aK ?_ ?_ <;> intro hc hq <;> try (exfalso;omega))|fail)
  ·have hu : cA ts s x = true := (cJ htl).2 ⟨L[k]!, by rw [← hL]; exact aU _ _ hkn, by assumption⟩
   rw [xN hu]
   (refine aC rfl ?_; refine aS () trivial ?_ ⟨sE ?_,⟨sE ?_,⟨sE ?_,trivial⟩⟩⟩)
   ·rfl
   ·rfl
   ·rfl
   ·rfl
  ·(refine bC (k + 1) (Le.renA [(3, 3)]) ?_ ?_)
   ·refine ⟨by omega, fun j hj => ?_⟩
    rcases Nat.lt_or_ge j k with h|h
    ·exact hall j h
    ·rw [show j = k by omega]; assumption
   ·omega
 ·have hu : cA ts s x = false := by
   cases q : cA ts s x with
   | false => rfl
   | true =>
    obtain ⟨v,hv,hs⟩ := (cJ htl).1 q
    rw [← hL] at hv
    obtain ⟨j,hj,e⟩ := List.getElem_of_mem hv
    have h1 := hall j (by omega)
    rw [aZ _ _ hj,e,hs] at h1;cases h1
  rw [tC hu]
  by_cases h11 : x.op = 11
  ·have hd : bT ts s x = cL ts ts.length 0 s := uV h11
   rw [hd]
   have hfi := Qj ts bd pts s hm hsl (by omega)
   repeat' (first|(apply aF;(apply Ml (ts := ts) (bd := bd) (pts := pts) (s := s);rfl;rfl;rfl;rfl;rfl;exact hfi;rfl;rfl))|refine aE ?_|(refine aK ?_ ?_ <;> intro hc hq <;> try (exfalso;omega))|fail)
   (refine aC rfl ?_; refine aS () trivial ?_ ⟨sE ?_,⟨sE ?_,⟨sE ?_,trivial⟩⟩⟩)
   ·rfl
   ·rfl
   ·rfl
   ·rfl
  ·have hd : bT ts s x = (s, -1) := by unfold bT; rw [if_neg (show ¬ x.op = 1 by omega), if_neg (show ¬ x.op = 2 by omega), if_neg (show ¬ x.op = 3 by omega), if_neg (show ¬ (x.op = 4 ∨ x.op = 5) by omega), if_neg (show ¬ x.op = 6 by omega), if_neg (show ¬ x.op = 7 by omega), if_neg (show ¬ x.op = 8 by omega), if_neg (show ¬ x.op = 11 by omega)]
   rw [hd]
   repeat' (first|refine aE ?_|(refine aK ?_ ?_ <;> intro hc hq <;> try (exfalso;omega))|fail)
   (refine aC rfl ?_; refine aS () trivial ?_ ⟨sE ?_,⟨sE ?_,⟨sE ?_,trivial⟩⟩⟩)
   ·rfl
   ·rfl
   ·rfl
   ·rfl
theorem Qx (ts:List Int) (bd:List AL.Stmt) (pts:List Pnt) (s:Mc) (x:Pnt) (htl:ts.length ≤ 6) (hm:OkM s.cells) (hsl:s.slots.length = ts.length) (ho:x.op = 6) (hrl:s.read.length ≤ 1000) (hx:0 ≤ x.x ∧ x.x < ts.length) (hy:0 ≤ x.y ∧ x.y < ts.length) (hz:a7 s.cells s.slots[x.y.toNat]!.ptr false = 0) (hun:cA ts s x = false):MC Tryz.prog 140 [.optr 0 0,dP x] [(0,some (mO ts bd pts 1 2 s)),(1,some (flat dC s.slots)),(2,some (flat cI s.read))] 3 (fun _:Unit => True) (fun _ => iv (dV ts s x).2) (fun _ => [(0,some (mO ts bd pts 1 5 (dV ts s x).1)),(1,some (flat dC (dV ts s x).1.slots)),(5,some (flat cI (dV ts s x).1.read))]):=by
 have hus := gJ ts bd pts x htl
 have hsm : Sm (wS ts x [1,2,3]) := b9 (by omega)
 obtain ⟨L,hL⟩ : ∃ L,L = a8 (wS ts x [1,2,3]) := ⟨_,rfl⟩
 have hLl : L.length ≤ 62 := by rw [hL]; exact cP _
 have hmem : ∀ k, k < L.length → 0 ≤ L[k]! ∧ L[k]! < s.slots.length := fun k hk => by
  rw [hsl]; exact iG (by rw [← hL]; exact aU _ _ hk)
 refine aW Tryz.func140 Tryz.ntmps140 ?_
 repeat' (first|(apply aF;first|(apply aA (k := 158);rfl;exact hus;exact Pur.pf;rfl)|(apply aA (k := 120);rfl;(apply gM <;> (assumption));(rfl);rfl))|refine aE ?_|refine bS ?_|fail)
 rw [← hL]
 refine aH (σ := Nat) [0,3,26,27] [0,1,2,3] (fun k => [(28,iv (k : Int))]) (fun k => []) (fun k => k ≤ L.length ∧ ∀ j,j < k → s.slots[(L[j]!).toNat]!.set = true) (fun k => L.length - k) (0) ⟨Nat.zero_le _,fun j h => absurd h (by omega)⟩ ?_
 rintro k ⟨hk,hall⟩
 by_cases hkn : k < L.length
 ·have hmk := hmem k hkn
  repeat' (first|refine aE ?_|(refine aK ?_ ?_ <;> intro hc hq <;> try (exfalso;omega))|fail)
  ·exfalso
   have hu : cA ts s x = true := (cJ htl).2 ⟨L[k]!,by rw [← hL]; exact aU _ _ hkn,by assumption⟩
   rw [hun] at hu;cases hu
  ·(refine bC (k + 1) (Le.renA [(3, 3)]) ?_ ?_)
   ·refine ⟨by omega, fun j hj => ?_⟩
    rcases Nat.lt_or_ge j k with h|h
    ·exact hall j h
    ·rw [show j = k by omega]; assumption
   ·omega
 ·have hu : cA ts s x = false := by
   cases q : cA ts s x with
   | false => rfl
   | true =>
    obtain ⟨v,hv,hs⟩ := (cJ htl).1 q
    rw [← hL] at hv
    obtain ⟨j,hj,e⟩ := List.getElem_of_mem hv
    have h1 := hall j (by omega)
    rw [aZ _ _ hj,e,hs] at h1;cases h1
  rw [tC hu]
  have hrc := s8 s.cells hm s.slots[x.y.toNat]!.ptr
  have hp := oG ts bd pts ⟨s.slots,cO s.cells s.slots[x.y.toNat]!.ptr false,s.read ++ [oQ s.cells s.slots[x.y.toNat]!.ptr]⟩ x.x ⟨true,oQ s.cells s.slots[x.y.toNat]!.ptr,⟨0,0⟩⟩ (hm.tch _ _) hsl hx
  have hd : bT ts s x = bI ts ⟨s.slots,cO s.cells s.slots[x.y.toNat]!.ptr false,s.read ++ [oQ s.cells s.slots[x.y.toNat]!.ptr]⟩ x.x.toNat ⟨true,oQ s.cells s.slots[x.y.toNat]!.ptr,⟨0,0⟩⟩ := by unfold bT;rw [if_neg (show ¬ x.op = 1 by omega),if_neg (show ¬ x.op = 2 by omega),if_neg (show ¬ x.op = 3 by omega),if_neg (show ¬ (x.op = 4 ∨ x.op = 5) by omega),if_pos ho,if_pos hz]
  rw [hd]
  rw [hz] at hrc
  repeat' (first|(apply aF;first|(apply jQ;(case hx|hH => rfl);(case hf|hg|hα => infer_instance);(case hk => omega);(case hj => decide);(case hc => exact (rfl:_=[_,_]));(case h0|hN => rfl))|(apply aA (k := 202);rfl;exact hrc;exact Pur.pf;rfl)|(with_reducible apply aY (d := 184))|(apply aJ (t := _);rfl;rfl;rfl;exact (rfl:_=some [_]);rfl;rfl))|refine aE ?_|(refine aK ?_ ?_ <;> intro hc hq <;> try (exfalso;omega))|refine bS ?_|fail)
  refine bY ?_
  rw [show s.read.length + 1 = (s.read ++ [oQ s.cells s.slots[x.y.toNat]!.ptr]).length from by rw [List.length_append]; rfl]
  repeat' (first|(apply aF;(apply k8 (ts := ts) (bd := bd) (pts := pts) (s := ⟨s.slots,cO s.cells s.slots[x.y.toNat]!.ptr false,s.read ++ [oQ s.cells s.slots[x.y.toNat]!.ptr]⟩) (v := x.x) (y := ⟨true,oQ s.cells s.slots[x.y.toNat]!.ptr,⟨0,0⟩⟩);rfl;rfl;rfl;rfl;rfl;rfl;rfl;exact hp;rfl;rfl))|refine aE ?_|fail)
  (refine aC rfl ?_; refine aS () trivial ?_ ⟨sE ?_,⟨sE ?_,⟨sE ?_,trivial⟩⟩⟩)
  ·rfl
  ·rfl
  ·rfl
  ·rfl
theorem RZ (ts:List Int) (bd:List AL.Stmt) (pts:List Pnt) (s:Mc) (x:Pnt) (htl:ts.length ≤ 6) (hm:OkM s.cells) (hsl:s.slots.length = ts.length) (hun:cA ts s x = true):MC Tryz.prog 140 [.optr 0 0,dP x] [(0,some (mO ts bd pts 1 2 s)),(1,some (flat dC s.slots)),(2,some (flat cI s.read))] 3 (fun _:Unit => True) (fun _ => iv (dV ts s x).2) (fun _ => [(0,some (mO ts bd pts 1 2 (dV ts s x).1)),(1,some (flat dC (dV ts s x).1.slots)),(2,some (flat cI (dV ts s x).1.read))]):=by
 have hus := gJ ts bd pts x htl
 have hsm : Sm (wS ts x [1,2,3]) := b9 (by omega)
 obtain ⟨L,hL⟩ : ∃ L,L = a8 (wS ts x [1,2,3]) := ⟨_,rfl⟩
 have hLl : L.length ≤ 62 := by rw [hL]; exact cP _
 have hmem : ∀ k, k < L.length → 0 ≤ L[k]! ∧ L[k]! < s.slots.length := fun k hk => by
  rw [hsl]; exact iG (by rw [← hL]; exact aU _ _ hk)
 refine aW Tryz.func140 Tryz.ntmps140 ?_
 repeat' (first|(apply aF;first|(apply aA (k := 158);rfl;exact hus;exact Pur.pf;rfl)|(apply aA (k := 120);rfl;(apply gM <;> (assumption));(rfl);rfl))|refine aE ?_|refine bS ?_|fail)
 rw [← hL]
 refine aH (σ := Nat) [0,3,26,27] [0,1,2,3] (fun k => [(28,iv (k : Int))]) (fun k => []) (fun k => k ≤ L.length ∧ ∀ j,j < k → s.slots[(L[j]!).toNat]!.set = true) (fun k => L.length - k) (0) ⟨Nat.zero_le _,fun j h => absurd h (by omega)⟩ ?_
 rintro k ⟨hk,hall⟩
 by_cases hkn : k < L.length
 ·have hmk := hmem k hkn
  repeat' (first|refine aE ?_|(refine aK ?_ ?_ <;> intro hc hq <;> try (exfalso;omega))|fail)
  ·have hu : cA ts s x = true := (cJ htl).2 ⟨L[k]!, by rw [← hL]; exact aU _ _ hkn, by assumption⟩
   rw [xN hu]
   (refine aC rfl ?_; refine aS () trivial ?_ ⟨sE ?_,⟨sE ?_,⟨sE ?_,trivial⟩⟩⟩)
   ·rfl
   ·rfl
   ·rfl
   ·rfl
  ·(refine bC (k + 1) (Le.renA [(3, 3)]) ?_ ?_)
   ·refine ⟨by omega, fun j hj => ?_⟩
    rcases Nat.lt_or_ge j k with h|h
    ·exact hall j h
    ·rw [show j = k by omega]; assumption
   ·omega
 ·have hu : cA ts s x = false := by
   cases q : cA ts s x with
   | false => rfl
   | true =>
    obtain ⟨v,hv,hs⟩ := (cJ htl).1 q
    rw [← hL] at hv
    obtain ⟨j,hj,e⟩ := List.getElem_of_mem hv
    have h1 := hall j (by omega)
    rw [aZ _ _ hj,e,hs] at h1;cases h1
  rw [tC hu]
  rw [hun] at hu;cases hu
end Go.Proofs.YtahdccneecdmmaaGreat
