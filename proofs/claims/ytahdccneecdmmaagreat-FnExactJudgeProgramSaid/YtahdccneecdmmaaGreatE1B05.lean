/-
 A part of the proofs over this program: rules and contracts of its functions (the contracts).
-/
import Derived.Test.YtahdccneecdmmaaGreatE1B04
set_option linter.unusedVariables false
set_option linter.unusedSimpArgs false
set_option maxHeartbeats 8000000
set_option maxRecDepth 4000
attribute [local irreducible] Go.AL.RW Go.AL.AW Go.AL.Stop
namespace Go.Proofs.YtahdccneecdmmaaGreat
open Go.AL Go.RowKit
variable {N : Nat} {Q : Exit → AS → Prop} {all : Array Oper} {rest : List Oper} {tsl : List (Nat × AV)} {hsl : List (Nat × Option (List AV))} {nidl : Nat} {z0 : Lo} {md : Md} {d : Nat} {ty : TypeId} {pos : String} {af : Array Edge} {tys : Array TypeId}
theorem gP {m:List Cl}{x0:Operand}(ha0:ev (lk tsl) x0 = some (sl bG m)) (hmc:MC Tryz.prog 241 [sl bG m] [] 0 (fun _:Unit => True) (fun _ => .own 1 0 m.length 4) (fun _ => [(1,some (flat bG m))])) (hM:Nat.ble (nidl + 2) aQ = true) (hN:Nat.blt d N = true){md':Md}[hmd:MdA md (fR [x0] ++ []) (List.map Sum.inr (List.map Prod.fst ([((nidl + 1),some (flat bG m))]:List (Nat × Option (List AV)))) ++ [.inl d]) md'] (kk:RW Tryz.prog N all Q md' rest ⟨(d,.own (nidl + 1) 0 m.length 4) :: tsl,iB hsl [((nidl + 1),some (flat bG m))],nidl + 2,z0⟩):RW Tryz.prog N all Q md (⟨some d,.call ⟨.value (.func 241),#[x0],tys⟩,ty,pos,af,none⟩ :: rest) ⟨tsl,hsl,nidl,z0⟩:=by
 exact bB (l := [x0]) [] 2 [((nidl + 1),some (flat bG m))] hmc (avs := [sl bG m]) (by simp only [evL,ha0]) rfl hM hN (md' := md') (hmd := hmd) kk
theorem nY {m:List Cl}{j:Nat}{x0:Operand}(ha0:ev (lk tsl) x0 = some (sl bG m)) (hmc:MC Tryz.prog 241 [sl bG m] [] 0 (fun _:Unit => True) (fun _ => .own 1 0 m.length 4) (fun _ => [(1,some (flat eI (cZ m j (.own 2 0 m[j]!.stk.length 2)))),(2,some (flat b8 m[j]!.stk))])) (hM:Nat.ble (nidl + 3) aQ = true) (hN:Nat.blt d N = true){md':Md}[hmd:MdA md (fR [x0] ++ []) (List.map Sum.inr (List.map Prod.fst ([((nidl + 1),some (flat eI (cZ m j (.own (nidl + 2) 0 m[j]!.stk.length 2)))),((nidl + 2),some (flat b8 m[j]!.stk))]:List (Nat × Option (List AV)))) ++ [.inl d]) md'] (kk:RW Tryz.prog N all Q md' rest ⟨(d,.own (nidl + 1) 0 m.length 4) :: tsl,iB hsl [((nidl + 1),some (flat eI (cZ m j (.own (nidl + 2) 0 m[j]!.stk.length 2)))),((nidl + 2),some (flat b8 m[j]!.stk))],nidl + 3,z0⟩):RW Tryz.prog N all Q md (⟨some d,.call ⟨.value (.func 241),#[x0],tys⟩,ty,pos,af,none⟩ :: rest) ⟨tsl,hsl,nidl,z0⟩:=by
 exact bB (l := [x0]) [] 3 [((nidl + 1),some (flat eI (cZ m j (.own (nidl + 2) 0 m[j]!.stk.length 2)))),((nidl + 2),some (flat b8 m[j]!.stk))] hmc (avs := [sl bG m]) (by simp only [evL,ha0]) rfl hM hN (md' := md') (hmd := hmd) kk
theorem l3 {α:Type}[Inhabited α] (l:List α) (k:Nat):l.set k l[k]! = l:=by
 rcases Nat.lt_or_ge k l.length with h|h
 ·rw [a8 _ _ h]; simp
 ·exact List.set_eq_of_length_le h
theorem CY {m:List Cl}{i:Nat}(hi:i < m.length):gQ (flat bG m) (0 + i * 4 + 3) [sl b8 m[i]!.stk] = flat bG m:=by
 have h := Bl (xs := m) (k := i) (s := m[i]!.stk) hi
 rw [show m.set i { m[i]! with stk := m[i]!.stk } = m from l3 m i] at h
 exact h
theorem Cq {m:List Cl}{i j:Nat}{X:AV}(hi:i < m.length) (h:i ≠ j):(cZ m j X)[i]! = qL m[i]!:=by
 unfold cZ
 rw [a8 _ _ (by rw [List.length_set,List.length_map]; exact hi),List.getElem_set_ne (fun e => h e.symm),List.getElem_map,a8 _ _ hi]
theorem IX {m:List Cl}{i j:Nat}{X:AV}(h:i < m.length ∧ i ≠ j):gQ (flat eI (cZ m j X)) (0 + i * 4 + 3) [sl b8 m[i]!.stk] = flat eI (cZ m j X):=by
 have hl := cV (m := m) (j := j) (X := X)
 have e : (cZ m j X).set i { (cZ m j X)[i]! with av := sl b8 m[i]!.stk } = cZ m j X := by
  rw [Cq h.1 h.2]
  have : ({ qL m[i]! with av := sl b8 m[i]!.stk } : Co) = (cZ m j X)[i]! := by rw [Cq h.1 h.2]; rfl
  rw [this]; exact l3 _ _
 rw [← e]
 have := fZ (f := eI) (xs := cZ m j X) (k := i) (j := 3) (new := [sl b8 m[i]!.stk]) (y := { (cZ m j X)[i]! with av := sl b8 m[i]!.stk }) (by rw [hl]; exact h.1) (by simp) rfl
 rw [e] at this ⊢
 exact this
theorem oM {mp:List (Nat × Nat)}{lo:Lo}:∀ {cs:List AV},bK cs = true → All2 (D7 mp lo) cs cs
 | [],_ => .nil
 | c :: cs, h => by
  simp only [bK,Bool.and_eq_true] at h
  exact .cons (.inl ⟨rfl,h.1⟩) (oM h.2)
theorem sX {α β:Type}{R:α → β → Prop}:∀ {a:List α}{b:List β}{c:List α}{d:List β},All2 R a b → All2 R c d → All2 R (a ++ c) (b ++ d)
 | _,_,_,_,.nil,h => h
 | _,_,_,_,.cons h1 h2,h => .cons h1 (sX h2 h)
theorem CG {mp:List (Nat × Nat)}{lo:Lo}{m:List Cl}{j k i i':Nat}(h:j < m.length) (hr:KT mp lo (.own i 0 k 2) = some (.own i' 0 k 2)):All2 (D7 mp lo) (flat eI (cZ m j (.own i 0 k 2))) (flat eI (cZ m j (.own i' 0 k 2))):=by
 rw [iY h,iY h]
 exact sX (oM (inferInstance : Pur (flat bG _)).pf) (sX (oM (inferInstance : Pur [iv _,bv _,iv _]).pf) (.cons (.inr hr) (oM (inferInstance : Pur (flat bG _)).pf)))
theorem jQ (m:List Cl) (hm:OkM m):MC Tryz.prog 241 [sl bG m] [] 0 (fun _:Unit => True) (fun _ => .own 1 0 m.length 4) (fun _ => [(1,some (flat bG m))]):=by
 have hml := hm.l
 have hcc := AR m (by omega)
 refine aW Tryz.func241 Tryz.ntmps241 ?_
 repeat' (first|(apply aF;(apply u5;rfl;exact hcc;rfl;rfl))|refine aE ?_|fail)
 refine aH (σ := Nat) [3,8,9] [] (fun k => [(10,iv (k : Int))]) (fun k => [(1,some (flat bG m))]) (fun k => k ≤ m.length) (fun k => m.length - k) (0) (Nat.zero_le _) ?_
 rintro i hi
 by_cases hin : i < m.length
 ·have hst : m[i]!.stk.length ≤ 200 := (((cS m).1 hm).2 i hin).l.2
  have hct := zW m[i]!.stk (by omega)
  repeat' (first|(apply aF;first|(apply pX;rfl;exact hct;rfl;rfl)|(with_reducible apply aV (d := 20)))|refine aE ?_|(refine aJ ?_ ?_ <;> intro hc hq <;> try (exfalso;omega))|fail)
  refine bR (cY ?_ (Le.frzD (d := 19) (i := 4) rfl rfl))
  repeat' (first|(apply aF;(apply a7;rfl;rfl;rfl;rfl;rfl;(rw [aI]; simp only [fT] <;> omega);(exact CY (by (assumption)))))|refine aE ?_|fail)
  (apply bD (i + 1);focus (refine Le.ren [(1,1)] rfl (by decide) ?_ ?_ <;> repeat' (first|exact trivial|refine And.intro ⟨_,rfl,?_⟩ ?_|refine And.intro ⟨_,_,rfl,rfl,?_⟩ ?_|exact Or.inr rfl|refine Or.inl ⟨?_,(by first|rfl|exact a6 _ _)⟩|rfl)))
  ·omega
  ·omega
 ·repeat' (first | refine aE ?_ | (refine aJ ?_ ?_ <;> intro hc hq <;> try (exfalso; omega))|fail)
  (refine aD rfl ?_; refine aR () trivial ?_ ⟨sE ?_,trivial⟩)
  ·rfl
  ·rfl
theorem tT (m:List Cl) (j:Nat) (hm:OkM m) (hj:j < m.length):MC Tryz.prog 241 [sl bG m] [] 0 (fun _:Unit => True) (fun _ => .own 1 0 m.length 4) (fun _ => [(1,some (flat eI (cZ m j (.own 2 0 m[j]!.stk.length 2)))),(2,some (flat b8 m[j]!.stk))]):=by
 have hml := hm.l
 have hcc := AR m (by omega)
 refine aW Tryz.func241 Tryz.ntmps241 ?_
 repeat' (first|(apply aF;(apply u5;rfl;exact hcc;rfl;rfl))|refine aE ?_|fail)
 refine AW.le ?_ (Le.bump 1)
 refine aH (σ := Nat × Bool) [3,8,9] [] (fun k => [(10,iv (k.1 : Int))]) (fun k => [(1,some (cond k.2 (flat eI (cZ m j (.own 2 0 m[j]!.stk.length 2))) (flat bG m))),(2,cond k.2 (some (flat b8 m[j]!.stk)) none)]) (fun k => k.1 ≤ m.length ∧ k.2 = decide (j < k.1)) (fun k => m.length - k.1) (0,false) ⟨Nat.zero_le _,by simp⟩ ?_
 rintro ⟨i,b⟩ ⟨hi,hb⟩
 dsimp only at hi hb ⊢
 by_cases hin : i < m.length
 ·have hst : m[i]!.stk.length ≤ 200 := (((cS m).1 hm).2 i hin).l.2
  have hct := zW m[i]!.stk (by omega)
  by_cases hij : j < i
  ·rw [decide_eq_true hij] at hb; subst hb
   simp only [cond_true]
   have hol := cV (m := m) (j := j) (X := .own 2 0 m[j]!.stk.length 2)
   have hon := Cq (m := m) (i := i) (j := j) (X := .own 2 0 m[j]!.stk.length 2) hin (by omega)
   repeat' (first|(apply aF;(with_reducible apply aV (d := 5)))|refine aE ?_|(refine aJ ?_ ?_ <;> intro hc hq <;> try (exfalso;omega))|fail)
   refine bR ?_
   rw [hon]
   dsimp only [qL]
   repeat' (first|(apply aF;first|(apply pX;rfl;exact hct;rfl;rfl)|(with_reducible apply aV (d := 20)))|refine aE ?_|fail)
   refine bR (cY ?_ (Le.frzD (d := 19) (i := 5) rfl rfl))
   repeat' (first|(apply aF;(apply a7;rfl;rfl;rfl;rfl;rfl;(rw [aI]; simp only [fT] <;> omega);(exact IX (by (omega)))))|refine aE ?_|fail)
   (apply bD (i + 1,true);focus (refine Le.ren [(1,1),(2,2)] rfl (by decide) ?_ ?_ <;> repeat' (first|exact trivial|refine And.intro ⟨_,rfl,?_⟩ ?_|refine And.intro ⟨_,_,rfl,rfl,?_⟩ ?_|exact Or.inr rfl|refine Or.inl ⟨?_,(by first|rfl|exact a6 _ _)⟩|rfl)))
   ·exact Or.inr (CG hj rfl)
   ·exact ⟨by dsimp only;omega,by dsimp only;rw [decide_eq_true (by omega)]⟩
   ·dsimp only;omega
  ·rw [decide_eq_false hij] at hb; subst hb
   simp only [cond_false]
   repeat' (first|(apply aF;first|(apply pX;rfl;exact hct;rfl;rfl)|(with_reducible apply aV (d := 20)))|refine aE ?_|(refine aJ ?_ ?_ <;> intro hc hq <;> try (exfalso;omega))|fail)
   by_cases hie : i = j
   ·subst hie
    refine bR ?_
    repeat' (first|(apply aF;(apply a7;rfl;rfl;rfl;rfl;rfl;(rw [aI]; simp only [fT] <;> omega);(exact xP (by (assumption)))))|refine aE ?_|fail)
    (apply bD (i + 1,true);focus (refine Le.ren [(1,1),(2,5)] rfl (by decide) ?_ ?_ <;> repeat' (first|exact trivial|refine And.intro ⟨_,rfl,?_⟩ ?_|refine And.intro ⟨_,_,rfl,rfl,?_⟩ ?_|exact Or.inr rfl|refine Or.inl ⟨?_,(by first|rfl|exact a6 _ _)⟩|rfl)))
    ·exact Or.inr (CG hin rfl)
    ·exact ⟨by dsimp only;omega,by dsimp only;rw [decide_eq_true (by omega)]⟩
    ·dsimp only;omega
   ·refine bR (cY ?_ (Le.frzD (d := 19) (i := 5) rfl rfl))
    repeat' (first|(apply aF;(apply a7;rfl;rfl;rfl;rfl;rfl;(rw [aI]; simp only [fT] <;> omega);(exact CY (by (assumption)))))|refine aE ?_|fail)
    (apply bD (i + 1,false);focus (refine Le.ren [(1,1)] rfl (by decide) ?_ ?_ <;> repeat' (first|exact trivial|refine And.intro ⟨_,rfl,?_⟩ ?_|refine And.intro ⟨_,_,rfl,rfl,?_⟩ ?_|exact Or.inr rfl|refine Or.inl ⟨?_,(by first|rfl|exact a6 _ _)⟩|rfl)))
    ·exact ⟨by dsimp only;omega,by dsimp only;rw [decide_eq_false (by omega)]⟩
    ·dsimp only;omega
 ·rw [decide_eq_true (by omega)] at hb; subst hb
  simp only [cond_true]
  repeat' (first|refine aE ?_|(refine aJ ?_ ?_ <;> intro hc hq <;> try (exfalso;omega))|fail)
  (refine aD rfl ?_; refine aR () trivial ?_ ⟨sE ?_,⟨sE ?_,trivial⟩⟩)
  ·rfl
  ·rfl
  ·rfl
theorem mB {m:List Cl}{x:Pt}{wr:Bool}{n:Nat}{x0 x1 x2:Operand}{i0:Nat}(ha0:ev (lk tsl) x0 = some (.own i0 0 n 4)) (ha1:ev (lk tsl) x1 = some (mQ x)) (ha2:ev (lk tsl) x2 = some (bv wr)) (hH0:aO hsl i0 = some (flat bG m)) (hmc:MC Tryz.prog 242 [.own 0 0 n 4,mQ x,bv wr] [(0,some (flat bG m))] 1 (fun _:Unit => True) (fun _ => iv (bC m x wr)) (fun _ => [(0,some (flat bG m))])) (hM:Nat.ble (nidl + 0) aQ = true) (hN:Nat.blt d N = true){md':Md}[hmd:MdA md (fR [x0,x1,x2] ++ [.inr i0]) (List.map Sum.inr (List.map Prod.fst ([(i0,some (flat bG m))]:List (Nat × Option (List AV)))) ++ [.inl d]) md'] (kk:RW Tryz.prog N all Q md' rest ⟨(d,iv (bC m x wr)) :: tsl,iB hsl [(i0,some (flat bG m))],nidl + 0,z0⟩):RW Tryz.prog N all Q md (⟨some d,.call ⟨.value (.func 242),#[x0,x1,x2],tys⟩,ty,pos,af,none⟩ :: rest) ⟨tsl,hsl,nidl,z0⟩:=by
 exact bB (l := [x0,x1,x2]) [i0] 1 [(i0,some (flat bG m))] hmc (avs := [.own i0 0 n 4,mQ x,bv wr]) (by simp only [evL,ha0,ha1,ha2]) rfl hM hN (md' := md') (hmd := hmd) kk
theorem vQ {m:List Cl}{j:Nat}{t:Int}{k n:Nat}{x0 x1 x2:Operand}{i0 i1:Nat}(ha0:ev (lk tsl) x0 = some (.own i0 0 n 4)) (ha1:ev (lk tsl) x1 = some (.agg [iv (j:Int),iv t])) (ha2:ev (lk tsl) x2 = some (bv true)) (hH0:aO hsl i0 = some (flat eI (cZ m j (.own i1 0 m[j]!.stk.length 2)))) (hH1:aO hsl i1 = some (flat b8 m[j]!.stk)) (hdd:Go.AL.distinct [i0,i1] = true) (hmc:MC Tryz.prog 242 [.own 0 0 n 4,.agg [iv (j:Int),iv t],bv true] [(0,some (flat eI (cZ m j (.own 1 0 m[j]!.stk.length 2)))),(1,some (flat b8 m[j]!.stk))] 2 (fun _:Unit => True) (fun _ => iv 0) (fun _ => [(0,some (flat eI (cZ m j (.own 1 0 (k + 1) 2)))),(1,some (flat b8 (m[j]!.stk.take (k + 1))))])) (hM:Nat.ble (nidl + 0) aQ = true) (hN:Nat.blt d N = true){md':Md}[hmd:MdA md (fR [x0,x1,x2] ++ [.inr i0,.inr i1]) (List.map Sum.inr (List.map Prod.fst ([(i0,some (flat eI (cZ m j (.own i1 0 (k + 1) 2)))),(i1,some (flat b8 (m[j]!.stk.take (k + 1))))]:List (Nat × Option (List AV)))) ++ [.inl d]) md'] (kk:RW Tryz.prog N all Q md' rest ⟨(d,iv 0) :: tsl,iB hsl [(i0,some (flat eI (cZ m j (.own i1 0 (k + 1) 2)))),(i1,some (flat b8 (m[j]!.stk.take (k + 1))))],nidl + 0,z0⟩):RW Tryz.prog N all Q md (⟨some d,.call ⟨.value (.func 242),#[x0,x1,x2],tys⟩,ty,pos,af,none⟩ :: rest) ⟨tsl,hsl,nidl,z0⟩:=by
 exact bB (l := [x0,x1,x2]) [i0,i1] 2 [(i0,some (flat eI (cZ m j (.own i1 0 (k + 1) 2)))),(i1,some (flat b8 (m[j]!.stk.take (k + 1))))] hmc (avs := [.own i0 0 n 4,.agg [iv (j : Int),iv t],bv true]) (by simp only [evL,ha0,ha1,ha2]) hdd hM hN (md' := md') (hmd := hmd) kk
theorem LdL.app {D:List Nat}{H:Nat → Option (List AV)}:∀ {a b c d:List AV},LdL D H a b → LdL D H c d → bK a = true → LdL D H (a ++ c) (a ++ d)
 | [],_,_,_,_,h,_ => h
 | x :: a, b, c, d, h1, h, hp => by
  simp only [bK,Bool.and_eq_true] at hp
  exact .cons (.pur hp.1) (LdL.app (a := a) (b := a) (.pur hp.2) h hp.2)
theorem L9 {D:List Nat}{H:Nat → Option (List AV)}{m:List Cl}{j i k:Nat}{r:List Tg}(hi:i ∈ D) (hH:H i = some (flat b8 r)) (hk:k = r.length) (hj:j < m.length):LdL D H (flat eI (cZ m j (.own i 0 k 2))) (flat bG (m.set j { m[j]! with stk := r })):=by
 subst hk
 rw [← Ba,iY hj,iY hj]
 have p1 : bK (flat bG (m.take j)) = true := (inferInstance : Pur (flat bG _)).pf
 have p2 : bK [iv m[j]!.val,bv m[j]!.alive,iv m[j]!.next] = true := rfl
 exact LdL.app (.pur p1) (LdL.app (.pur p2) (.cons (.own hi hH (.pur (inferInstance : Pur (flat b8 r)).pf)) (.pur (inferInstance : Pur (flat bG _)).pf)) p2) p1
theorem C7 {D:List Nat}{H:Nat → Option (List AV)}{m:List Cl}{j i:Nat}(hi:i ∈ D) (hH:H i = some (flat b8 m[j]!.stk)) (hj:j < m.length):LdL D H (flat eI (cZ m j (.own i 0 m[j]!.stk.length 2))) (flat bG m):=by
 have h := L9 (m := m) (r := m[j]!.stk) hi hH rfl hj
 rwa [show m.set j { m[j]! with stk := m[j]!.stk } = m from l3 m j] at h
theorem LV {m:List Cl}{x:Pt}{wr:Bool}(h:0 ≤ x.cell) (h2:x.cell < m.length) (h3:m[x.cell.toNat]!.alive = true) (h4:0 ≤ cA m[x.cell.toNat]!.stk x.tag) (hw:wr = true) (h5:m[x.cell.toNat]!.stk[(cA m[x.cell.toNat]!.stk x.tag).toNat]!.uq = false):bC m x wr = 3:=by
 unfold bC;rw [if_neg (by omega),if_neg (by rw [h3]; decide),if_neg (by omega),if_pos ⟨hw,h5⟩]
theorem oJ (m:List Cl) (x:Pt) (wr:Bool) (n:Nat) (hm:OkM m) (hn:n = m.length) (hk:bC m x wr ≠ 0):MC Tryz.prog 242 [.own 0 0 n 4,mQ x,bv wr] [(0,some (flat bG m))] 1 (fun _:Unit => True) (fun _ => iv (bC m x wr)) (fun _ => [(0,some (flat bG m))]):=by
 subst hn
 have hml := hm.l
 have hcv := gO m hm
 have hst : 0 ≤ x.cell → x.cell < m.length → m[x.cell.toNat]!.stk.length ≤ 200 := fun h1 h2 => (((cS m).1 hm).2 x.cell.toNat (by omega)).l.2
 have hbd := eG m[x.cell.toNat]!.stk x.tag
 have hidx := fun h => yK m[x.cell.toNat]!.stk x.cell x.tag h
 refine aW Tryz.func242 Tryz.ntmps242 ?_
 repeat' (first|(apply aF;first|(apply oL (k := 239);(case ha => rfl);(case hl => (repeat' (first|exact mI|apply kV|exact mS rfl inferInstance)));(case h => exact hcv);(case hfr|hN => rfl);(case hmd => infer_instance))|((apply fF 4);(case hx|hH|hc|hN => rfl))|(apply aA (k := 267);rfl;(exact (hidx (by have := hst (by omega) (by omega);omega)));exact Pur.pf;rfl)|(with_reducible apply aV (d := 75))|(apply aA (k := 54);rfl;(apply dC);(rfl);rfl))|refine aE ?_|(refine aJ ?_ ?_ <;> intro hc hq <;> try (exfalso;omega))|(refine bS ?_ ?_ <;> intro hg hq <;> try (exfalso;omega))|fail)
 ·(refine aD rfl ?_; refine aR () trivial ?_ ⟨sE ?_, trivial⟩)
  ·rw [Cu (by omega)]; rfl
  ·rfl
 ·(refine aD rfl ?_; refine aR () trivial ?_ ⟨sE ?_, trivial⟩)
  ·rw [GX (by omega) (by omega) (by assumption)]; rfl
  ·rfl
 ·(refine aD rfl ?_; refine aR () trivial ?_ ⟨sE ?_, trivial⟩)
  ·rw [Fy (by omega) (by omega) (by assumption) (by assumption)]; rfl
  ·rfl
 ·(refine aD rfl ?_; refine aR () trivial ?_ ⟨sE ?_, trivial⟩)
  ·rw [LV (by omega) (by omega) (by assumption) (by assumption) (by assumption) (by assumption)]; rfl
  ·rfl
 ·exfalso
  have hw : wr = true := by assumption
  have hu : m[x.cell.toNat]!.stk[(cA m[x.cell.toNat]!.stk x.tag).toNat]!.uq = true := by assumption
  subst hw
  refine hk ?_
  rw [xO,if_pos (qU (by omega) (by omega) (by assumption) (by assumption)),if_neg (by rw [hu]; decide)]
 ·exfalso
  have hw : wr = false := by assumption
  subst hw
  exact hk (qU (by omega) (by omega) (by assumption) (by assumption))
theorem tG (m:List Cl) (j:Nat) (t:Int) (k n:Nat) (hm:OkM m) (hn:n = m.length) (hj:j < m.length) (hk:cA m[j]!.stk t = (k:Int)) (hal:m[j]!.alive = true) (hu:m[j]!.stk[k]!.uq = true):MC Tryz.prog 242 [.own 0 0 n 4,.agg [iv (j:Int),iv t],bv true] [(0,some (flat eI (cZ m j (.own 1 0 m[j]!.stk.length 2)))),(1,some (flat b8 m[j]!.stk))] 2 (fun _:Unit => True) (fun _ => iv 0) (fun _ => [(0,some (flat eI (cZ m j (.own 1 0 (k + 1) 2)))),(1,some (flat b8 (m[j]!.stk.take (k + 1))))]):=by
 subst hn
 have hml := hm.l
 have hcv := gO m hm
 have hst : m[j]!.stk.length ≤ 200 := (((cS m).1 hm).2 j hj).l.2
 have hbd := eG m[j]!.stk t
 rw [hk] at hbd
 have hidx := yK m[j]!.stk (j : Int) t (by omega)
 rw [hk] at hidx
 have hog := gM (m := m) (j := j) (X := .own 1 0 m[j]!.stk.length 2) hj
 have hol := cV (m := m) (j := j) (X := .own 1 0 m[j]!.stk.length 2)
 refine aW Tryz.func242 Tryz.ntmps242 ?_
 repeat' (first|(apply aF;first|(apply lB (k := 239) (D := [0,1]) (h := hcv);rfl;exact .cons (.own (by simp) rfl (C7 (by simp) rfl hj)) .nil;rfl;rfl)|(with_reducible apply aV (d := 35))|(apply aA (k := 54);rfl;(apply dC);(rfl);rfl))|refine aE ?_|(refine aJ ?_ ?_ <;> intro hc hq <;> try (exfalso;omega))|fail)
 all_goals (try (exfalso;omega))
 ·exfalso
  have h : (cZ m j (.own 1 0 m[j]!.stk.length 2))[j]!.alive = false := by assumption
  rw [hog] at h;simp only [hal] at h;cases h
 refine bR ?_
 rw [hog]
 dsimp only
 repeat' (first|(apply aF;first|((apply fF 4);(case hx|hH|hc|hN => rfl))|(apply lB (k := 267) (D := [1]) (h := hidx);rfl;exact .cons (.own (by simp) rfl (.pur (inferInstance : Pur (flat b8 _)).pf)) (.cons (.pur rfl) .nil);rfl;rfl)|(with_reducible apply aV (d := 68)))|refine aE ?_|fail)
 refine bR ?_
 rw [hog]
 dsimp only
 repeat' (first|(apply aF;(with_reducible apply aV (d := 81)))|refine aE ?_|(refine aJ ?_ ?_ <;> intro hc hq <;> try (exfalso;omega))|fail)
 ·exfalso
  have h : m[j]!.stk[k]!.uq = false := by assumption
  rw [hu] at h;cases h
 refine bR ?_
 rw [hog]
 dsimp only
 repeat' (first|(apply aF;first|(apply iV (d := 83) (l := 0) (h := k + 1);rfl;rfl;rfl;exact pL rfl (by omega);exact if_pos (by omega);rfl)|(apply a7;rfl;rfl;rfl;rfl;rfl;(rw [aI]; simp only [fT] <;> omega);(exact tZ (by (assumption)))))|refine aE ?_|fail)
 refine aT (Le.cut (i := 1) ((k + 1) * 2) rfl) ?_
 (refine aD rfl ?_; refine aR () trivial ?_ ⟨sE ?_,⟨sE ?_,trivial⟩⟩)
 ·rfl
 ·rfl
 ·rw [dZ b8 (e := 2)]
theorem D2 {xs:List Tg}{k n:Nat}{x0:Operand}{i0:Nat}(ha0:ev (lk tsl) x0 = some (.own i0 (0 + k * 2) n 2)) (hH0:aO hsl i0 = some (flat b8 xs)) (hmc:MC Tryz.prog 266 [.own 0 (0 + k * 2) n 2] [(0,some (flat b8 xs))] 1 (fun _:Unit => True) (fun _ => .own 2 0 n 2) (fun _ => [(0,some (flat b8 xs)),(2,some (flat b8 (xs.drop k)))])) (hM:Nat.ble (nidl + 2) aQ = true) (hN:Nat.blt d N = true){md':Md}[hmd:MdA md (fR [x0] ++ [.inr i0]) (List.map Sum.inr (List.map Prod.fst ([(i0,some (flat b8 xs)),((nidl + 1),some (flat b8 (xs.drop k)))]:List (Nat × Option (List AV)))) ++ [.inl d]) md'] (kk:RW Tryz.prog N all Q md' rest ⟨(d,.own (nidl + 1) 0 n 2) :: tsl,iB hsl [(i0,some (flat b8 xs)),((nidl + 1),some (flat b8 (xs.drop k)))],nidl + 2,z0⟩):RW Tryz.prog N all Q md (⟨some d,.call ⟨.value (.func 266),#[x0],tys⟩,ty,pos,af,none⟩ :: rest) ⟨tsl,hsl,nidl,z0⟩:=by
 exact bB (l := [x0]) [i0] 3 [(i0,some (flat b8 xs)),((nidl + 1),some (flat b8 (xs.drop k)))] hmc (avs := [.own i0 (0 + k * 2) n 2]) (by simp only [evL,ha0]) rfl hM hN (md' := md') (hmd := hmd) kk
theorem FK (xs:List Tg) (k n:Nat) (hn:n = xs.length - k) (hl:xs.length ≤ 1048576):MC Tryz.prog 266 [.own 0 (0 + k * 2) n 2] [(0,some (flat b8 xs))] 1 (fun _:Unit => True) (fun _ => .own 2 0 n 2) (fun _ => [(0,some (flat b8 xs)),(2,some (flat b8 (xs.drop k)))]):=by
 subst hn
 refine aW Tryz.func266 Tryz.ntmps266 ?_
 repeat' (first|(apply aF;first|(apply DA;rfl;rfl;(intro b hb))|(apply bT;rfl;rfl;rfl;rfl;rfl;(decide);exact CJ rfl rfl;omega;omega;(exact oG rfl);rfl;rfl))|refine aE ?_|(refine aJ ?_ ?_ <;> intro hc hq <;> try (exfalso;omega))|fail)
 ·have h0 : xs.length - k = 0 := hb (by assumption)
  have h1 : xs.drop k = [] := List.drop_eq_nil_of_le (by omega)
  refine aT (Le.bump 1) ?_
  refine aT (Le.nilOwn (d := 2) 2 rfl (by decide)) ?_
  (refine aD rfl ?_; refine aR () trivial ?_ ⟨sE ?_,⟨sE ?_,trivial⟩⟩)
  ·show AV.own 2 0 0 2 = _; rw [h0]
  ·rfl
  ·rw [h1]; rfl
 ·(refine aD rfl ?_; refine aR () trivial ?_ ⟨sE ?_, ⟨sE ?_, trivial⟩⟩)
  ·show AV.own 2 0 (0 + (xs.length - k)) 2 = _
   rw [Nat.zero_add]
  ·rfl
  ·rfl
theorem vF {m:List Cl}{j:Nat}{t:Int}{r:List Tg}{n:Nat}{x0 x1 x2:Operand}{i0 i1:Nat}(ha0:ev (lk tsl) x0 = some (.own i0 0 n 4)) (ha1:ev (lk tsl) x1 = some (.agg [iv (j:Int),iv t])) (ha2:ev (lk tsl) x2 = some (bv false)) (hH0:aO hsl i0 = some (flat eI (cZ m j (.own i1 0 m[j]!.stk.length 2)))) (hH1:aO hsl i1 = some (flat b8 m[j]!.stk)) (hdd:Go.AL.distinct [i0,i1] = true) (hmc:MC Tryz.prog 242 [.own 0 0 n 4,.agg [iv (j:Int),iv t],bv false] [(0,some (flat eI (cZ m j (.own 1 0 m[j]!.stk.length 2)))),(1,some (flat b8 m[j]!.stk))] 2 (fun _:Unit => True) (fun _ => iv 0) (fun _ => [(0,some (flat eI (cZ m j (.own 5 0 r.length 2)))),(5,some (flat b8 r))])) (hM:Nat.ble (nidl + 4) aQ = true) (hN:Nat.blt d N = true){md':Md}[hmd:MdA md (fR [x0,x1,x2] ++ [.inr i0,.inr i1]) (List.map Sum.inr (List.map Prod.fst ([(i0,some (flat eI (cZ m j (.own (nidl + 3) 0 r.length 2)))),((nidl + 3),some (flat b8 r)),(i1,none)]:List (Nat × Option (List AV)))) ++ [.inl d]) md'] (kk:RW Tryz.prog N all Q md' rest ⟨(d,iv 0) :: tsl,iB hsl [(i0,some (flat eI (cZ m j (.own (nidl + 3) 0 r.length 2)))),((nidl + 3),some (flat b8 r)),(i1,none)],nidl + 4,z0⟩):RW Tryz.prog N all Q md (⟨some d,.call ⟨.value (.func 242),#[x0,x1,x2],tys⟩,ty,pos,af,none⟩ :: rest) ⟨tsl,hsl,nidl,z0⟩:=by
 exact bB (l := [x0,x1,x2]) [i0,i1] 6 [(i0,some (flat eI (cZ m j (.own (nidl + 3) 0 r.length 2)))),((nidl + 3),some (flat b8 r)),(i1,none)] hmc (avs := [.own i0 0 n 4,.agg [iv (j : Int),iv t],bv false]) (by simp only [evL,ha0,ha1,ha2]) hdd hM hN (md' := md') (hmd := hmd) kk
theorem AM (m:List Cl) (j:Nat) (t:Int) (r:List Tg) (k n:Nat) (hm:OkM m) (hn:n = m.length) (hj:j < m.length) (hk:cA m[j]!.stk t = (k:Int)) (hal:m[j]!.alive = true) (hr:r = gE m[j]!.stk k false):MC Tryz.prog 242 [.own 0 0 n 4,.agg [iv (j:Int),iv t],bv false] [(0,some (flat eI (cZ m j (.own 1 0 m[j]!.stk.length 2)))),(1,some (flat b8 m[j]!.stk))] 2 (fun _:Unit => True) (fun _ => iv 0) (fun _ => [(0,some (flat eI (cZ m j (.own 5 0 r.length 2)))),(5,some (flat b8 r))]):=by
 subst hn
 have hml := hm.l
 have hcv := gO m hm
 have hst : m[j]!.stk.length ≤ 200 := (((cS m).1 hm).2 j hj).l.2
 have hbd := eG m[j]!.stk t
 rw [hk] at hbd
 have hidx := yK m[j]!.stk (j : Int) t (by omega)
 rw [hk] at hidx
 have hog := gM (m := m) (j := j) (X := .own 1 0 m[j]!.stk.length 2) hj
 have hol := cV (m := m) (j := j) (X := .own 1 0 m[j]!.stk.length 2)
 refine aW Tryz.func242 Tryz.ntmps242 ?_
 repeat' (first|(apply aF;first|(apply lB (k := 239) (D := [0,1]) (h := hcv);rfl;exact .cons (.own (by simp) rfl (C7 (by simp) rfl hj)) .nil;rfl;rfl)|(with_reducible apply aV (d := 35))|(apply aA (k := 54);rfl;(apply dC);(rfl);rfl))|refine aE ?_|(refine aJ ?_ ?_ <;> intro hc hq <;> try (exfalso;omega))|fail)
 all_goals (try (exfalso;omega))
 ·exfalso
  have h : (cZ m j (.own 1 0 m[j]!.stk.length 2))[j]!.alive = false := by assumption
  rw [hog] at h;simp only [hal] at h;cases h
 refine bR ?_
 rw [hog]
 dsimp only
 repeat' (first|(apply aF;first|((apply fF 4);(case hx|hH|hc|hN => rfl))|(apply lB (k := 267) (D := [1]) (h := hidx);rfl;exact .cons (.own (by simp) rfl (.pur (inferInstance : Pur (flat b8 _)).pf)) (.cons (.pur rfl) .nil);rfl;rfl)|(with_reducible apply aV (d := 41)))|refine aE ?_|fail)
 refine bR ?_
 rw [hog]
 dsimp only
 repeat' (first|(apply aF;first|(apply iV (d := 43) (l := k + 1) (h := m[j]!.stk.length);rfl;rfl;exact pL rfl (by omega);rfl;exact if_pos (by omega);rfl)|(apply D2;rfl;rfl;exact FK _ _ _ rfl (by omega);rfl;rfl)|(apply I9;rfl;rfl;rfl;exact Lc _ _ (by rw [List.length_drop]) (by omega);rfl;rfl)|(with_reducible apply aV (d := 51)))|refine aE ?_|fail)
 refine bR ?_
 rw [hog]
 dsimp only
 have hfl : (flat b8 m[j]!.stk).length = m[j]!.stk.length * 2 := aI b8 _
 have hsl : (shr (List.drop (k + 1) m[j]!.stk)).length ≤ 200 := Nat.le_trans (List.length_filter_le _ _) (by rw [List.length_drop]; omega)
 repeat' (first|(apply aF;first|(apply iV (d := 53) (l := 0) (h := k + 1);rfl;rfl;rfl;exact pL rfl (by omega);exact if_pos (by omega);rfl)|(apply bT;rfl;rfl;rfl;rfl;rfl;(rw [hfl]; omega);exact CJ (k := 0) rfl rfl;omega;omega;rfl;rfl;rfl)|(apply a7;rfl;rfl;rfl;rfl;rfl;(rw [aI]; simp only [fT] <;> omega);(exact tZ (by (assumption)))))|refine aE ?_|fail)
 have hre : r = m[j]!.stk.take (k + 1) ++ shr (m[j]!.stk.drop (k + 1)) := by rw [hr]; rfl
 have hrl : r.length = k + 1 + (shr (List.drop (k + 1) m[j]!.stk)).length := by rw [hre,List.length_append,List.length_take]; omega
 (refine aD rfl ?_; refine aR () trivial ?_ ⟨sE ?_,⟨sE ?_,trivial⟩⟩)
 ·rfl
 ·refine congrArg some ?_
  show flat eI (cZ m j (AV.own 5 0 (k + 1 - 0 + (shr (List.drop (k + 1) m[j]!.stk)).length) 2)) = _
  rw [hrl]; rfl
 ·refine congrArg some ?_
  show (List.drop 0 (flat b8 m[j]!.stk)).take ((k + 1) * 2) ++ flat b8 (List.drop 0 (shr (List.drop (k + 1) m[j]!.stk))) = _
  rw [List.drop_zero,List.drop_zero,dZ b8 (e := 2),cP,← hre]
theorem I7 {m:List Cl}{j:Nat}{X:AV}{v:Int}(h:j < m.length):gQ (flat eI (cZ m j X)) (0 + j * 4 + 0) [iv v] = flat eI (cZ (m.set j { m[j]! with val := v }) j X):=by
 have e : cZ (m.set j { m[j]! with val := v }) j X = (cZ m j X).set j ⟨v, m[j]!.alive, m[j]!.next, X⟩ := by
  have e2 : (m.set j { m[j]! with val := v })[j]! = { m[j]! with val := v } := by rw [a8 _ _ (by rw [List.length_set]; exact h),List.getElem_set_self]
  unfold cZ
  rw [e2,List.map_set,List.set_set,List.set_set]; rfl
 rw [e]
 exact fZ (by rw [cV]; exact h) (by simp) (by rw [gM h]; rfl)
theorem I2 {m:List Cl}{j:Nat}{X:AV}{b:Bool}(h:j < m.length):gQ (flat eI (cZ m j X)) (0 + j * 4 + 1) [.v (.bool b)] = flat eI (cZ (m.set j { m[j]! with alive := b }) j X):=by
 have e : cZ (m.set j { m[j]! with alive := b }) j X = (cZ m j X).set j ⟨m[j]!.val, b, m[j]!.next, X⟩ := by
  have e2 : (m.set j { m[j]! with alive := b })[j]! = { m[j]! with alive := b } := by rw [a8 _ _ (by rw [List.length_set]; exact h),List.getElem_set_self]
  unfold cZ
  rw [e2,List.map_set,List.set_set,List.set_set]; rfl
 rw [e]
 exact fZ (by rw [cV]; exact h) (by simp) (by rw [gM h]; rfl)
theorem qC (m:List Cl) (hm:OkM m) (x:Pt):PC Tryz.prog 202 [sl bG m,mQ x] (fun r => r = .tup [sl bG (dO m x false),iv (nS m x),iv (bC m x false)]):=by
 have hml := hm.l
 by_cases hk : bC m x false = 0
 ·obtain ⟨c, t⟩ := x
  obtain ⟨h1,h2,h3,h4,_⟩ := dH hk
  obtain ⟨j,rfl⟩ := Int.eq_ofNat_of_zero_le (show 0 ≤ c from h1)
  have hj : j < m.length := by have : (j : Int) < m.length := h2;omega
  obtain ⟨k,hkk⟩ := Int.eq_ofNat_of_zero_le (show 0 ≤ cA m[j]!.stk t from h4)
  obtain ⟨r,hr⟩ : ∃ r,r = gE m[j]!.stk k false := ⟨_,rfl⟩
  have hto := AM m j t r k m.length hm rfl hj hkk h3 hr
  have hog := gM (m := m) (j := j) (X := .own (0 + 1 + 3 + 3) 0 r.length 2) hj
  have hol := cV (m := m) (j := j) (X := .own (0 + 1 + 3 + 3) 0 r.length 2)
  refine aC Tryz.func202 Tryz.ntmps202 ?_
  repeat' (first|(apply aF;first|(apply nY (j := j);rfl;exact tT m j hm hj;rfl;rfl)|(apply vF (m := m) (j := j) (t := t) (r := r) (n := m.length);rfl;rfl;rfl;rfl;rfl;rfl;exact hto;rfl;rfl))|refine aE ?_|refine bJ ?_|fail)
  refine aT (Le.cls (o := 2) (q := 7) (j := j) (k := r.length) (m := m) (r := r) rfl rfl rfl hj (by decide)) ?_
  refine aT (Le.frzD (d := 4) (i := 2) rfl rfl) ?_
  rw [hog]
  refine aD (l := [.imm m.length (flat bG (m.set j { m[j]! with stk := r })),iv m[j]!.val,iv 0]) rfl ?_
  have eM : dO m ⟨j, t⟩ false = m.set j { m[j]! with stk := r } := by
   unfold dO sB;rw [if_pos hk]; dsimp only
   rw [Int.toNat_natCast,hkk,Int.toNat_natCast,hr]
  have eN : nS m ⟨j,t⟩ = m[j]!.val := by unfold nS;rw [if_pos hk]; rfl
  rw [eM,eN,hk,eF (by rw [List.length_set])]
  exact ⟨rfl,by exact Pur.pf⟩
 ·refine aC Tryz.func202 Tryz.ntmps202 ?_
  repeat' (first|(apply aF;first|(apply gP;rfl;exact jQ m hm;rfl;rfl)|(apply mB (m := m) (x := x) (wr := false) (n := m.length);rfl;rfl;rfl;rfl;exact oJ m x false _ hm rfl hk;rfl;rfl))|refine aE ?_|(refine aJ ?_ ?_ <;> intro hc hq <;> try (exfalso;omega))|fail)
  (refine aT (Le.frzD (d := 4) (i := 2) rfl rfl) ?_; refine aD rfl ?_)
  refine ⟨?_,by exact Pur.pf⟩
  simp only [aM]
  unfold dO nS;rw [if_neg hk,if_neg hk]
theorem zD (m:List Cl) (hm:OkM m) (x:Pt):PC Tryz.prog 243 [sl bG m,mQ x] (fun r => r = .tup [sl bG (kZ m x),iv (bC m x true)]):=by
 have hml := hm.l
 by_cases hk : bC m x true = 0
 ·obtain ⟨c, t⟩ := x
  obtain ⟨h1,h2,h3,h4,hu⟩ := dH hk
  obtain ⟨j,rfl⟩ := Int.eq_ofNat_of_zero_le (show 0 ≤ c from h1)
  have hj : j < m.length := by have : (j : Int) < m.length := h2;omega
  obtain ⟨k,hkk⟩ := Int.eq_ofNat_of_zero_le (show 0 ≤ cA m[j]!.stk t from h4)
  have huk : m[j]!.stk[k]!.uq = true := by
   have h : m[j]!.stk[(cA m[j]!.stk t).toNat]!.uq = true := hu rfl
   rwa [hkk,Int.toNat_natCast] at h
  have htw := tG m j t k m.length hm rfl hj hkk h3 huk
  have hrl : (m[j]!.stk.take (k + 1)).length = k + 1 := by
   have hb := eG m[j]!.stk t
   rw [List.length_take]; omega
  have hol := cV (m := m) (j := j) (X := .own (0 + 1 + 2) 0 (k + 1) 2)
  have hls : (m.set j { m[j]! with alive := false }).length = m.length := List.length_set
  refine aC Tryz.func243 Tryz.ntmps243 ?_
  repeat' (first|(apply aF;first|(apply nY (j := j);rfl;exact tT m j hm hj;rfl;rfl)|(apply vQ (m := m) (j := j) (t := t) (k := k) (n := m.length);rfl;rfl;rfl;rfl;rfl;rfl;exact htw;rfl;rfl)|(apply a7;rfl;rfl;rfl;rfl;rfl;(rw [aI]; simp only [List.length_append,List.length_cons,List.length_nil]; omega);exact I2 hj))|refine aE ?_|fail)
  refine aT (Le.cls (o := 2) (q := 3) (j := j) (k := k + 1) (m := m.set j { m[j]! with alive := false }) (r := m[j]!.stk.take (k + 1)) rfl rfl hrl.symm (by rw [hls]; exact hj) (by decide)) ?_
  refine aT (Le.frzD (d := 4) (i := 2) rfl rfl) ?_
  rw [kO hj,set_set]
  refine aD (l := [.imm m.length (flat bG (m.set j { m[j]! with alive := false,stk := m[j]!.stk.take (k + 1) })),iv 0]) rfl ?_
  have eM : kZ m ⟨j, t⟩ = m.set j { m[j]! with alive := false, stk := m[j]!.stk.take (k + 1) } := by
   unfold kZ sB;rw [if_pos hk]; dsimp only
   rw [Int.toNat_natCast,hkk,Int.toNat_natCast]; unfold gE;rw [if_pos rfl]
  rw [eM,hk,eF (by rw [List.length_set])]
  exact ⟨rfl,by exact Pur.pf⟩
 ·refine aC Tryz.func243 Tryz.ntmps243 ?_
  repeat' (first|(apply aF;first|(apply gP;rfl;exact jQ m hm;rfl;rfl)|(apply mB (m := m) (x := x) (wr := true) (n := m.length);rfl;rfl;rfl;rfl;exact oJ m x true _ hm rfl hk;rfl;rfl))|refine aE ?_|(refine aJ ?_ ?_ <;> intro hc hq <;> try (exfalso;omega))|fail)
  (refine aT (Le.frzD (d := 4) (i := 2) rfl rfl) ?_; refine aD rfl ?_)
  refine ⟨?_,by exact Pur.pf⟩
  simp only [aM]
  unfold kZ;rw [if_neg hk]
theorem wY (m:List Cl) (hm:OkM m) (x:Pt) (v:Int):PC Tryz.prog 203 [sl bG m,mQ x,iv v] (fun r => r = .tup [sl bG (Az m x v),iv (uZ m x v)]):=by
 have hml := hm.l
 by_cases hv : 0 ≤ v ∧ v ≤ 9
 case neg =>
  have hwk : uZ m x v = 4 := by unfold uZ;rw [if_neg hv]
  have e : Az m x v = m := by unfold Az;rw [if_neg (by rw [hwk]; decide)]
  refine aC Tryz.func203 Tryz.ntmps203 ?_
  repeat' (first|(apply aF;first|(apply gP;rfl;exact jQ m hm;rfl;rfl)|(apply aA (k := 54);rfl;(apply dC);(rfl);rfl))|refine aE ?_|(refine aJ ?_ ?_ <;> intro hc hq <;> try (exfalso;omega))|fail)
  all_goals (try (exfalso;omega))
  all_goals (
   (refine aT (Le.frzD (d := 6) (i := 2) rfl rfl) ?_; refine aD rfl ?_)
   refine ⟨?_,by exact Pur.pf⟩
   simp only [aM]
   rw [e,hwk])
 case pos =>
 have hwk : uZ m x v = bC m x true := by unfold uZ;rw [if_pos hv]
 by_cases hk : bC m x true = 0
 ·obtain ⟨c, t⟩ := x
  obtain ⟨h1,h2,h3,h4,hu⟩ := dH hk
  obtain ⟨j,rfl⟩ := Int.eq_ofNat_of_zero_le (show 0 ≤ c from h1)
  have hj : j < m.length := by have : (j : Int) < m.length := h2;omega
  obtain ⟨k,hkk⟩ := Int.eq_ofNat_of_zero_le (show 0 ≤ cA m[j]!.stk t from h4)
  have huk : m[j]!.stk[k]!.uq = true := by
   have h : m[j]!.stk[(cA m[j]!.stk t).toNat]!.uq = true := hu rfl
   rwa [hkk,Int.toNat_natCast] at h
  have htw := tG m j t k m.length hm rfl hj hkk h3 huk
  have hrl : (m[j]!.stk.take (k + 1)).length = k + 1 := by
   have hb := eG m[j]!.stk t
   rw [List.length_take]; omega
  have hol := cV (m := m) (j := j) (X := .own (0 + 1 + 2) 0 (k + 1) 2)
  have hls : (m.set j { m[j]! with val := v }).length = m.length := List.length_set
  refine aC Tryz.func203 Tryz.ntmps203 ?_
  repeat' (first|(apply aF;first|(apply nY (j := j);rfl;exact tT m j hm hj;rfl;rfl)|(apply vQ (m := m) (j := j) (t := t) (k := k) (n := m.length);rfl;rfl;rfl;rfl;rfl;rfl;exact htw;rfl;rfl)|(apply a7;rfl;rfl;rfl;rfl;rfl;(rw [aI]; simp only [List.length_append,List.length_cons,List.length_nil]; omega);exact I7 hj)|(apply aA (k := 54);rfl;(apply dC);(rfl);rfl))|refine aE ?_|(refine aJ ?_ ?_ <;> intro hc hq <;> try (exfalso;omega))|fail)
  refine aT (Le.cls (o := 2) (q := 3) (j := j) (k := k + 1) (m := m.set j { m[j]! with val := v }) (r := m[j]!.stk.take (k + 1)) rfl rfl hrl.symm (by rw [hls]; exact hj) (by decide)) ?_
  refine aT (Le.frzD (d := 6) (i := 2) rfl rfl) ?_
  rw [kO hj,set_set]
  refine aD (l := [.imm m.length (flat bG (m.set j { m[j]! with val := v,stk := m[j]!.stk.take (k + 1) })),iv 0]) rfl ?_
  have eM : Az m ⟨j, t⟩ v = m.set j { m[j]! with val := v, stk := m[j]!.stk.take (k + 1) } := by
   unfold Az sB;rw [hwk,if_pos hk]; dsimp only
   rw [Int.toNat_natCast,hkk,Int.toNat_natCast]; unfold gE;rw [if_pos rfl]
  rw [eM,hwk,hk,eF (by rw [List.length_set])]
  exact ⟨rfl,by exact Pur.pf⟩
 ·refine aC Tryz.func203 Tryz.ntmps203 ?_
  repeat' (first|(apply aF;first|(apply gP;rfl;exact jQ m hm;rfl;rfl)|(apply mB (m := m) (x := x) (wr := true) (n := m.length);rfl;rfl;rfl;rfl;exact oJ m x true _ hm rfl hk;rfl;rfl)|(apply aA (k := 54);rfl;(apply dC);(rfl);rfl))|refine aE ?_|(refine aJ ?_ ?_ <;> intro hc hq <;> try (exfalso;omega))|fail)
  (refine aT (Le.frzD (d := 6) (i := 2) rfl rfl) ?_; refine aD rfl ?_)
  refine ⟨?_,by exact Pur.pf⟩
  simp only [aM]
  unfold Az;rw [hwk,if_neg hk]
theorem BD (m:List Cl) (hm:OkM m) (v:Int):PC Tryz.prog 240 [sl bG m,iv v] (fun r => r = .tup [sl bG (m ++ [uP v]),.agg [iv m.length,iv 0]]):=by
 have hml := hm.l
 refine aC Tryz.func240 Tryz.ntmps240 ?_
 repeat' (first|(apply aF;first|(apply gP;rfl;exact jQ m hm;rfl;rfl)|(apply aL (t := _);rfl;rfl;rfl;(first|exact (rfl:_=some [_,_])|exact (rfl:_=some [_,_,_,_]));rfl;rfl))|refine aE ?_|fail)
 have e2 : AV.imm (m.length + 1) (((flat bG m).drop 0).take (m.length * 4) ++ [iv v, bv true, iv 1, .imm 1 [iv 0, bv true]]) = sl bG (m ++ [uP v]) := by
  have e : ((flat bG m).drop 0).take (m.length * 4) ++ [iv v,bv true,iv 1,.imm 1 [iv 0,bv true]] = flat bG (m ++ [uP v]) := eV rfl rfl
  rw [e]; exact eF (by rw [List.length_append]; rfl)
 refine aT (Le.frzD (d := 4) (i := 5) rfl rfl) ?_
 refine aD (l := [AV.imm (m.length + 1) (((flat bG m).drop 0).take (m.length * 4) ++ [iv v,bv true,iv 1,.imm 1 [iv 0,bv true]]),.agg [iv m.length,iv 0]]) rfl ?_
 rw [e2]
 exact ⟨rfl,by exact Pur.pf⟩
theorem Cc (m:List Cl) (hm:OkM m) (v:Int):PC Tryz.prog 198 [sl bG m,iv v] (fun r => r = .tup (if 0 ≤ v ∧ v ≤ 9 ∧ m.length < 200 then [sl bG (m ++ [uP v]),.agg [iv m.length,iv 0],bv true] else [sl bG [],.agg [iv 0,iv 0],bv false])):=by
 have hml := hm.l
 have hcv := gO m hm
 have hnc := BD m hm v
 refine aC Tryz.func198 Tryz.ntmps198 ?_
 repeat' (first|(apply aF;first|(apply aA (k := 239);rfl;exact hcv;exact Pur.pf;rfl)|(apply aA (k := 240);rfl;exact hnc;exact Pur.pf;rfl)|(apply aA (k := 54);rfl;(apply dC);(rfl);rfl))|refine aE ?_|(refine aJ ?_ ?_ <;> intro hc hq <;> try (exfalso;omega))|(refine bS ?_ ?_ <;> intro hg hq <;> try (exfalso;omega))|refine bJ ?_|fail)
 ·refine aT (Le.nilImm (d := 4) rfl) ?_
  exact aD (l := [sl bG [],.agg [iv 0,iv 0],bv false]) rfl ⟨by rw [if_neg (by omega)]; rfl,rfl⟩
 ·exact aD (l := [sl bG (m ++ [uP v]),.agg [iv m.length,iv 0],bv true]) rfl ⟨by rw [if_pos (by omega)]; rfl,by exact Pur.pf⟩
 ·refine aT (Le.nilImm (d := 4) rfl) ?_
  exact aD (l := [sl bG [],.agg [iv 0,iv 0],bv false]) rfl ⟨by rw [if_neg (by omega)]; rfl,rfl⟩
theorem Eb {m:List Cl}{j:Nat}{t:Int}{r:List Tg}{n:Nat}{x0 x1 x2:Operand}{i0 i1:Nat}(ha0:ev (lk tsl) x0 = some (.own i0 0 n 4)) (ha1:ev (lk tsl) x1 = some (.agg [iv (j:Int),iv t])) (ha2:ev (lk tsl) x2 = some (bv true)) (hH0:aO hsl i0 = some (flat eI (cZ m j (.own i1 0 m[j]!.stk.length 2)))) (hH1:aO hsl i1 = some (flat b8 m[j]!.stk)) (hdd:Go.AL.distinct [i0,i1] = true) (hmc:MC Tryz.prog 242 [.own 0 0 n 4,.agg [iv (j:Int),iv t],bv true] [(0,some (flat eI (cZ m j (.own 1 0 m[j]!.stk.length 2)))),(1,some (flat b8 m[j]!.stk))] 2 (fun _:Unit => True) (fun _ => iv 0) (fun _ => [(0,some (flat eI (cZ m j (.own 1 0 r.length 2)))),(1,some (flat b8 r))])) (hM:Nat.ble (nidl + 0) aQ = true) (hN:Nat.blt d N = true){md':Md}[hmd:MdA md (fR [x0,x1,x2] ++ [.inr i0,.inr i1]) (List.map Sum.inr (List.map Prod.fst ([(i0,some (flat eI (cZ m j (.own i1 0 r.length 2)))),(i1,some (flat b8 r))]:List (Nat × Option (List AV)))) ++ [.inl d]) md'] (kk:RW Tryz.prog N all Q md' rest ⟨(d,iv 0) :: tsl,iB hsl [(i0,some (flat eI (cZ m j (.own i1 0 r.length 2)))),(i1,some (flat b8 r))],nidl + 0,z0⟩):RW Tryz.prog N all Q md (⟨some d,.call ⟨.value (.func 242),#[x0,x1,x2],tys⟩,ty,pos,af,none⟩ :: rest) ⟨tsl,hsl,nidl,z0⟩:=by
 exact bB (l := [x0,x1,x2]) [i0,i1] 2 [(i0,some (flat eI (cZ m j (.own i1 0 r.length 2)))),(i1,some (flat b8 r))] hmc (avs := [.own i0 0 n 4,.agg [iv (j : Int),iv t],bv true]) (by simp only [evL,ha0,ha1,ha2]) hdd hM hN (md' := md') (hmd := hmd) kk
theorem G3 (m:List Cl) (j:Nat) (t:Int) (r:List Tg) (k n:Nat) (hm:OkM m) (hn:n = m.length) (hj:j < m.length) (hk:cA m[j]!.stk t = (k:Int)) (hal:m[j]!.alive = true) (hu:m[j]!.stk[k]!.uq = true) (hre:m[j]!.stk.take (k + 1) = r) (hrk:k + 1 = r.length):MC Tryz.prog 242 [.own 0 0 n 4,.agg [iv (j:Int),iv t],bv true] [(0,some (flat eI (cZ m j (.own 1 0 m[j]!.stk.length 2)))),(1,some (flat b8 m[j]!.stk))] 2 (fun _:Unit => True) (fun _ => iv 0) (fun _ => [(0,some (flat eI (cZ m j (.own 1 0 r.length 2)))),(1,some (flat b8 r))]):=by
 have h := tG m j t k n hm hn hj hk hal hu
 rw [hre,hrk] at h
 exact h
theorem Ja (m:List Cl) (hm:OkM m) (j k:Nat) (t:Int) (r:List Tg) (hj:j < m.length) (hkk:cA m[j]!.stk t = (k:Int)) (hk:bC m ⟨(j:Int),t⟩ false = 0) (hr:r = gE m[j]!.stk k false):PC Tryz.prog 200 [sl bG m,.agg [iv (j:Int),iv t],bv false] (fun z => z = .tup [sl bG (jE m m j false r),mQ (jC m j r),iv (jD m j r)]):=by
 have hml := hm.l
 obtain ⟨h1,h2,h3,h4,hu⟩ := dH hk
 have hc := ((cS m).1 hm).2 j hj
 have hb := eG m[j]!.stk t
 have hrl : r.length ≤ 200 := by rw [hr]; exact Nat.le_trans tchS_sub.length_le hc.l.2
 have hnx := hc.n
 obtain ⟨_,e2,_⟩ := vT hk (r := r) (by rw [hr]; show _ = gE m[j]!.stk (cA m[j]!.stk t).toNat false;rw [hkk]; rfl)
 have e2' : nA m ⟨(j : Int),t⟩ false = jE m m j false r := e2
 have hok := hm.ln ⟨(j : Int),t⟩ false
 rw [e2'] at hok
 have hto := AM m j t r k m.length hm rfl hj hkk h3 hr
 have hog := gM (m := m) (j := j) (X := .own (0 + 1 + 1 + 3 + 3) 0 r.length 2) hj
 have hol := cV (m := m) (j := j) (X := .own (0 + 1 + 1 + 3 + 3) 0 r.length 2)
 have hol2 := cV (m := m) (j := j) (X := .own (0 + 1 + 1 + 3 + 4 + 1) 0 (r.length + 1) 2)
 have hm2 : (m.set j { m[j]! with next := m[j]!.next + 1 }).length = m.length := List.length_set
 refine aC Tryz.func200 Tryz.ntmps200 ?_
 repeat' (first|(apply aF;first|(apply nY (j := j);rfl;exact tT m j hm hj;rfl;rfl)|(apply vF (m := m) (j := j) (t := t) (r := r) (n := m.length);rfl;rfl;rfl;rfl;rfl;rfl;exact hto;rfl;rfl)|(with_reducible apply aV (d := 32)))|refine aE ?_|fail)
 refine bR ?_
 rw [hog]
 dsimp only
 by_cases hf : nK m j r
 ·have eM : jE m m j false r = m := by unfold jE; rw [if_pos hf]
  have eP : jC m j r = ⟨0,0⟩ := by unfold jC;rw [if_pos hf]
  have eK : jD m j r = 4 := by unfold jD;rw [if_pos hf]
  rw [eM,eP,eK]
  unfold nK at hf
  repeat' (first|(apply aF;first|(apply gP;rfl;exact jQ m hm;rfl;rfl)|(with_reducible apply aV (d := 44)))|refine aE ?_|(refine aJ ?_ ?_ <;> intro hc hq <;> try (exfalso;omega))|(refine bS ?_ ?_ <;> intro hg hq <;> try (exfalso;omega))|fail)
  ·refine aT (Le.frzD (d := 6) (i := 10) rfl rfl) ?_
   exact aD (l := [sl bG m,.agg [iv 0,iv 0],iv 4]) rfl ⟨rfl,by exact Pur.pf⟩
  ·exfalso
   have h : ¬ (cZ m j (.own (0 + 1 + 1 + 3 + 3) 0 r.length 2))[j]!.next = 1000 := by assumption
   rw [hog] at h
   dsimp only at h
   omega
  ·refine aT (Le.frzD (d := 6) (i := 10) rfl rfl) ?_
   exact aD (l := [sl bG m,.agg [iv 0,iv 0],iv 4]) rfl ⟨rfl,by exact Pur.pf⟩
 ·have eM : jE m m j false r = m.set j (psh { m[j]! with stk := r } false) := by unfold jE; rw [if_neg hf]
  have eP : jC m j r = ⟨j,m[j]!.next⟩ := by unfold jC;rw [if_neg hf]
  have eK : jD m j r = 0 := by unfold jD;rw [if_neg hf]
  rw [eM] at hok
  rw [eM,eP,eK]
  unfold nK at hf
  have hown := jQ _ hok
  repeat' (first|(apply aF;first|(with_reducible apply aV (d := 41))|(with_reducible apply aV (d := 54)))|refine aE ?_|(refine aJ ?_ ?_ <;> intro hc hq <;> try (exfalso;omega))|(refine bS ?_ ?_ <;> intro hg hq <;> try (exfalso;omega))|fail)
  ·exfalso
   have h : (cZ m j (.own (0 + 1 + 1 + 3 + 3) 0 r.length 2))[j]!.next = 1000 := by assumption
   rw [hog] at h
   dsimp only at h
   omega
  ·refine bR ?_
   rw [hog]
   dsimp only
   repeat' (first|(apply aF;first|(apply a7;rfl;rfl;rfl;rfl;rfl;(rw [aI,cV]; simp only [List.length_append,List.length_cons,List.length_nil]; omega);(first|exact tZ hj|exact wE hj))|(apply bT;rfl;rfl;rfl;rfl;rfl;(rw [aI]; omega);(rfl);omega;omega;(exact sG (by (omega)));rfl;rfl)|(apply aL (t := _);rfl;rfl;rfl;(exact (rfl:_=some [_,_]));rfl;rfl))|refine aE ?_|fail)
   refine AW.le ?_ (Le.cls (o := 3) (q := 0 + 1 + 1 + 3 + 4 + 1) (j := j) (k := r.length + 1) (m := m.set j { m[j]! with next := m[j]!.next + 1 }) (r := r ++ [⟨m[j]!.next,false⟩]) rfl rfl (by (rw [List.length_append]; rfl)) (by omega) (by decide))
   refine AW.le ?_ (Le.frzD (d := 9) (i := 3) rfl rfl)
   have e : (m.set j { m[j]! with next := m[j]!.next + 1 }).set j { (m.set j { m[j]! with next := m[j]!.next + 1 })[j]! with stk := r ++ [⟨m[j]!.next, false⟩] } = m.set j (psh { m[j]! with stk := r } false) := by
    rw [kO hj,set_set]; rfl
   rw [e,eF (f := bG) (xs := m.set j (psh { m[j]! with stk := r } false)) (by rw [List.length_set])]
   repeat' (first|(apply aF;(apply gP;rfl;exact hown;rfl;rfl))|refine aE ?_|refine bJ ?_|fail)
   refine aT (Le.frzD (d := 6) (i := 12) rfl rfl) ?_
   exact aD (l := [sl bG (m.set j (psh { m[j]! with stk := r } false)),.agg [iv (j : Int),iv m[j]!.next],iv 0]) rfl ⟨rfl,by exact Pur.pf⟩
  all_goals (exfalso;omega)
theorem Jv (m:List Cl) (hm:OkM m) (j k:Nat) (t:Int) (r:List Tg) (hj:j < m.length) (hkk:cA m[j]!.stk t = (k:Int)) (hk:bC m ⟨(j:Int),t⟩ true = 0) (hr:r = gE m[j]!.stk k true):PC Tryz.prog 200 [sl bG m,.agg [iv (j:Int),iv t],bv true] (fun z => z = .tup [sl bG (jE m m j true r),mQ (jC m j r),iv (jD m j r)]):=by
 have hml := hm.l
 obtain ⟨h1,h2,h3,h4,hu⟩ := dH hk
 have hc := ((cS m).1 hm).2 j hj
 have hb := eG m[j]!.stk t
 have hrl : r.length ≤ 200 := by rw [hr]; exact Nat.le_trans tchS_sub.length_le hc.l.2
 have hnx := hc.n
 obtain ⟨_,e2,_⟩ := vT hk (r := r) (by rw [hr]; show _ = gE m[j]!.stk (cA m[j]!.stk t).toNat true;rw [hkk]; rfl)
 have e2' : nA m ⟨(j : Int),t⟩ true = jE m m j true r := e2
 have hok := hm.ln ⟨(j : Int),t⟩ true
 rw [e2'] at hok
 have huk : m[j]!.stk[k]!.uq = true := by
  have h : m[j]!.stk[(cA m[j]!.stk t).toNat]!.uq = true := hu rfl
  rwa [hkk,Int.toNat_natCast] at h
 have hre : m[j]!.stk.take (k + 1) = r := by rw [hr]; unfold gE;rw [if_pos rfl]
 have hrk : k + 1 = r.length := by rw [← hre,List.length_take]; omega
 have hto := G3 m j t r k m.length hm rfl hj hkk h3 huk hre hrk
 clear hre hrk huk hu hr hkk
 have hog := gM (m := m) (j := j) (X := .own (0 + 1 + 1 + 2) 0 r.length 2) hj
 have hol := cV (m := m) (j := j) (X := .own (0 + 1 + 1 + 2) 0 r.length 2)
 have hol2 := cV (m := m) (j := j) (X := .own (0 + 1 + 1 + 3 + 0 + 1) 0 (r.length + 1) 2)
 have hm2 : (m.set j { m[j]! with next := m[j]!.next + 1 }).length = m.length := List.length_set
 refine aC Tryz.func200 Tryz.ntmps200 ?_
 repeat' (first|(apply aF;first|(apply nY (j := j);rfl;exact tT m j hm hj;rfl;rfl)|(apply Eb (m := m) (j := j) (t := t) (r := r) (n := m.length);rfl;rfl;rfl;rfl;rfl;rfl;exact hto;rfl;rfl)|(with_reducible apply aV (d := 32)))|refine aE ?_|fail)
 refine bR ?_
 rw [hog]
 dsimp only
 by_cases hf : nK m j r
 ·have eM : jE m m j true r = m := by unfold jE; rw [if_pos hf]
  have eP : jC m j r = ⟨0,0⟩ := by unfold jC;rw [if_pos hf]
  have eK : jD m j r = 4 := by unfold jD;rw [if_pos hf]
  rw [eM,eP,eK]
  unfold nK at hf
  repeat' (first|(apply aF;first|(apply gP;rfl;exact jQ m hm;rfl;rfl)|(with_reducible apply aV (d := 44)))|refine aE ?_|(refine aJ ?_ ?_ <;> intro hc hq <;> try (exfalso;omega))|(refine bS ?_ ?_ <;> intro hg hq <;> try (exfalso;omega))|fail)
  ·refine aT (Le.frzD (d := 6) (i := 6) rfl rfl) ?_
   exact aD (l := [sl bG m,.agg [iv 0,iv 0],iv 4]) rfl ⟨rfl,by exact Pur.pf⟩
  ·exfalso
   have h : ¬ (cZ m j (.own (0 + 1 + 1 + 2) 0 r.length 2))[j]!.next = 1000 := by assumption
   rw [hog] at h
   dsimp only at h
   omega
  ·refine aT (Le.frzD (d := 6) (i := 6) rfl rfl) ?_
   exact aD (l := [sl bG m,.agg [iv 0,iv 0],iv 4]) rfl ⟨rfl,by exact Pur.pf⟩
 ·have eM : jE m m j true r = m.set j (psh { m[j]! with stk := r } true) := by unfold jE; rw [if_neg hf]
  have eP : jC m j r = ⟨j,m[j]!.next⟩ := by unfold jC;rw [if_neg hf]
  have eK : jD m j r = 0 := by unfold jD;rw [if_neg hf]
  rw [eM] at hok
  rw [eM,eP,eK]
  unfold nK at hf
  have hown := jQ _ hok
  repeat' (first|(apply aF;first|(with_reducible apply aV (d := 41))|(with_reducible apply aV (d := 54)))|refine aE ?_|(refine aJ ?_ ?_ <;> intro hc hq <;> try (exfalso;omega))|(refine bS ?_ ?_ <;> intro hg hq <;> try (exfalso;omega))|fail)
  ·exfalso
   have h : (cZ m j (.own (0 + 1 + 1 + 2) 0 r.length 2))[j]!.next = 1000 := by assumption
   rw [hog] at h
   dsimp only at h
   omega
  ·refine bR ?_
   rw [hog]
   dsimp only
   repeat' (first|(apply aF;first|(apply a7;rfl;rfl;rfl;rfl;rfl;(rw [aI,cV]; simp only [List.length_append,List.length_cons,List.length_nil]; omega);(first|exact tZ hj|exact wE hj))|(apply bT;rfl;rfl;rfl;rfl;rfl;(rw [aI]; omega);(rfl);omega;omega;(exact sG (by (omega)));rfl;rfl)|(apply aL (t := _);rfl;rfl;rfl;(exact (rfl:_=some [_,_]));rfl;rfl))|refine aE ?_|fail)
   refine AW.le ?_ (Le.cls (o := 3) (q := 0 + 1 + 1 + 3 + 0 + 1) (j := j) (k := r.length + 1) (m := m.set j { m[j]! with next := m[j]!.next + 1 }) (r := r ++ [⟨m[j]!.next,true⟩]) rfl rfl (by (rw [List.length_append]; rfl)) (by omega) (by decide))
   refine AW.le ?_ (Le.frzD (d := 9) (i := 3) rfl rfl)
   have e : (m.set j { m[j]! with next := m[j]!.next + 1 }).set j { (m.set j { m[j]! with next := m[j]!.next + 1 })[j]! with stk := r ++ [⟨m[j]!.next, true⟩] } = m.set j (psh { m[j]! with stk := r } true) := by
    rw [kO hj,set_set]; rfl
   rw [e,eF (f := bG) (xs := m.set j (psh { m[j]! with stk := r } true)) (by rw [List.length_set])]
   repeat' (first|(apply aF;(apply gP;rfl;exact hown;rfl;rfl))|refine aE ?_|refine bJ ?_|fail)
   refine aT (Le.frzD (d := 6) (i := 8) rfl rfl) ?_
   exact aD (l := [sl bG (m.set j (psh { m[j]! with stk := r } true)),.agg [iv (j : Int),iv m[j]!.next],iv 0]) rfl ⟨rfl,by exact Pur.pf⟩
  all_goals (exfalso;omega)
theorem JE (m:List Cl) (hm:OkM m) (x:Pt) (u:Bool):PC Tryz.prog 200 [sl bG m,mQ x,bv u] (fun r => r = .tup [sl bG (nA m x u),mQ (qV m x u),iv (lT m x u)]):=by
 have hml := hm.l
 by_cases hk : bC m x u = 0
 ·obtain ⟨c, t⟩ := x
  obtain ⟨h1,h2,h3,h4,hu⟩ := dH hk
  obtain ⟨j,rfl⟩ := Int.eq_ofNat_of_zero_le (show 0 ≤ c from h1)
  have hj : j < m.length := by have : (j : Int) < m.length := h2;omega
  obtain ⟨k,hkk⟩ := Int.eq_ofNat_of_zero_le (show 0 ≤ cA m[j]!.stk t from h4)
  obtain ⟨r,hr⟩ : ∃ r,r = gE m[j]!.stk k u := ⟨_,rfl⟩
  obtain ⟨e1,e2,e3⟩ := vT hk (r := r) (by rw [hr]; show _ = gE m[j]!.stk (cA m[j]!.stk t).toNat u;rw [hkk]; rfl)
  rw [e1,e2,e3]
  cases u
  ·exact Ja m hm j k t r hj hkk hk hr
  ·exact Jv m hm j k t r hj hkk hk hr
 ·obtain ⟨e1, e2, e3⟩ := F7 hk
  rw [e1,e2,e3]
  refine aC Tryz.func200 Tryz.ntmps200 ?_
  repeat' (first|(apply aF;first|(apply gP;rfl;exact jQ m hm;rfl;rfl)|(apply mB (m := m) (x := x) (wr := u) (n := m.length);rfl;rfl;rfl;rfl;exact oJ m x u _ hm rfl hk;rfl;rfl))|refine aE ?_|(refine aJ ?_ ?_ <;> intro hc hq <;> try (exfalso;omega))|fail)
  refine aT (Le.frzD (d := 6) (i := 3) rfl rfl) ?_
  exact aD (l := [sl bG m,.agg [iv 0,iv 0],iv (bC m x u)]) rfl ⟨rfl,by exact Pur.pf⟩
abbrev mO (ts : List Int) (bd : List AL.Stmt) (pts : List Pnt) (i1 i2 : Nat) (s : Mc) : List AV := [aG ts bd pts,.own i1 0 ts.length 4,sl bG s.cells,.own i2 0 s.read.length 1]
theorem AA {ts:List Int}{bd:List AL.Stmt}{pts:List Pnt}{s:Mc}{v:Nat}{x0 x1:Operand}{i0 i1 i2:Nat}(ha0:ev (lk tsl) x0 = some (.optr i0 0)) (ha1:ev (lk tsl) x1 = some (iv (v:Int))) (hH0:aO hsl i0 = some (mO ts bd pts i1 i2 s)) (hH1:aO hsl i1 = some (flat c6 s.slots)) (hH2:aO hsl i2 = some (flat cI s.read)) (hdd:Go.AL.distinct [i0,i1,i2] = true) (hmc:MC Tryz.prog 204 [.optr 0 0,iv (v:Int)] [(0,some (mO ts bd pts 1 2 s)),(1,some (flat c6 s.slots)),(2,some (flat cI s.read))] 3 (fun _:Unit => True) (fun _ => iv (nV (bC s.cells s.slots[v]!.ptr true))) (fun _ => [(0,some ([aG ts bd pts,.own 1 0 ts.length 4,sl bG (kZ s.cells s.slots[v]!.ptr),.own 2 0 s.read.length 1])),(1,some (flat c6 s.slots)),(2,some (flat cI s.read))])) (hM:Nat.ble (nidl + 0) aQ = true) (hN:Nat.blt d N = true){md':Md}[hmd:MdA md (fR [x0,x1] ++ [.inr i0,.inr i1,.inr i2]) (List.map Sum.inr (List.map Prod.fst ([(i0,some ([aG ts bd pts,.own i1 0 ts.length 4,sl bG (kZ s.cells s.slots[v]!.ptr),.own i2 0 s.read.length 1])),(i1,some (flat c6 s.slots)),(i2,some (flat cI s.read))]:List (Nat × Option (List AV)))) ++ [.inl d]) md'] (kk:RW Tryz.prog N all Q md' rest ⟨(d,iv (nV (bC s.cells s.slots[v]!.ptr true))) :: tsl,iB hsl [(i0,some ([aG ts bd pts,.own i1 0 ts.length 4,sl bG (kZ s.cells s.slots[v]!.ptr),.own i2 0 s.read.length 1])),(i1,some (flat c6 s.slots)),(i2,some (flat cI s.read))],nidl + 0,z0⟩):RW Tryz.prog N all Q md (⟨some d,.call ⟨.value (.func 204),#[x0,x1],tys⟩,ty,pos,af,none⟩ :: rest) ⟨tsl,hsl,nidl,z0⟩:=by
 exact bB (l := [x0,x1]) [i0,i1,i2] 3 [(i0,some ([aG ts bd pts,.own i1 0 ts.length 4,sl bG (kZ s.cells s.slots[v]!.ptr),.own i2 0 s.read.length 1])),(i1,some (flat c6 s.slots)),(i2,some (flat cI s.read))] hmc (avs := [.optr i0 0,iv (v : Int)]) (by simp only [evL,ha0,ha1]) hdd hM hN (md' := md') (hmd := hmd) kk
theorem wX (ts:List Int) (bd:List AL.Stmt) (pts:List Pnt) (s:Mc) (v:Nat) (hm:OkM s.cells) (hsl:s.slots.length = ts.length) (hv:v < ts.length):MC Tryz.prog 204 [.optr 0 0,iv (v:Int)] [(0,some (mO ts bd pts 1 2 s)),(1,some (flat c6 s.slots)),(2,some (flat cI s.read))] 3 (fun _:Unit => True) (fun _ => iv (nV (bC s.cells s.slots[v]!.ptr true))) (fun _ => [(0,some ([aG ts bd pts,.own 1 0 ts.length 4,sl bG (kZ s.cells s.slots[v]!.ptr),.own 2 0 s.read.length 1])),(1,some (flat c6 s.slots)),(2,some (flat cI s.read))]):=by
 have hfc := zD s.cells hm s.slots[v]!.ptr
 refine aW Tryz.func204 Tryz.ntmps204 ?_
 repeat' (first|(apply aF;first|(apply iL;(case hx|hH => rfl);(case hf|hg|hα => infer_instance);(case hk => omega);(case hj => decide);(case hc => exact (rfl:_=[_,_]));(case h0|hN => rfl))|(apply aA (k := 243);rfl;exact hfc;exact Pur.pf;rfl)|(apply aA (k := 201);rfl;(apply qO);(rfl);rfl))|refine aE ?_|(refine aJ ?_ ?_ <;> intro hc hq <;> try (exfalso;omega))|refine bJ ?_|fail)
 ·have hk : ¬ bC s.cells s.slots[v]!.ptr true = 0 := by assumption
  (refine aD rfl ?_; refine aR () trivial ?_ ⟨sE ?_,⟨sE ?_,⟨sE ?_,trivial⟩⟩⟩)
  ·show iv (eZ _) = iv (nV _)
   unfold nV;rw [if_neg hk]
  ·rfl
  ·rfl
  ·rfl
 ·have hk : bC s.cells s.slots[v]!.ptr true = 0 := by assumption
  (refine aD rfl ?_; refine aR () trivial ?_ ⟨sE ?_,⟨sE ?_,⟨sE ?_,trivial⟩⟩⟩)
  ·rw [hk]; rfl
  ·rfl
  ·rfl
  ·rfl
theorem Kv (ts:List Int) (bd:List AL.Stmt) (pts:List Pnt) (s:Mc) (v:Nat) (y:Sl) (hm:OkM s.cells) (hsl:s.slots.length = ts.length) (hv:v < ts.length):MC Tryz.prog 197 [.optr 0 0,iv (v:Int),GG y] [(0,some (mO ts bd pts 1 2 s)),(1,some (flat c6 s.slots)),(2,some (flat cI s.read))] 3 (fun _:Unit => True) (fun _ => iv (bV ts s v y).2) (fun _ => [(0,some (mO ts bd pts 1 2 (bV ts s v y).1)),(1,some (flat c6 (bV ts s v y).1.slots)),(2,some (flat cI (bV ts s v y).1.read))]):=by
 have hfr := wX ts bd pts s v hm hsl hv
 refine aW Tryz.func197 Tryz.ntmps197 ?_
 repeat' (first|(apply aF;first|(apply AA (ts := ts) (bd := bd) (pts := pts) (s := s) (v := v);rfl;rfl;rfl;rfl;rfl;rfl;exact hfr;rfl;rfl)|(apply a7;rfl;rfl;rfl;rfl;rfl;(rw [aI]; simp only [fT] <;> omega);(exact vW (by (omega)))))|refine aE ?_|(refine aJ ?_ ?_ <;> intro hc hq <;> try (exfalso;omega))|(refine bS ?_ ?_ <;> intro hg hq <;> try (exfalso;omega))|refine bJ ?_|fail)
 ·have hp : bV ts s v y = (⟨s.slots.set v y, kZ s.cells s.slots[v]!.ptr, s.read⟩, nV (bC s.cells s.slots[v]!.ptr true)) := if_pos ⟨by assumption, by assumption⟩
  rw [hp]
  (refine aD rfl ?_; refine aR () trivial ?_ ⟨sE ?_,⟨sE ?_,⟨sE ?_,trivial⟩⟩⟩)
  ·rfl
  ·rfl
  ·rfl
  ·rfl
 all_goals (
  have hp : bV ts s v y = (⟨s.slots.set v y, s.cells, s.read⟩, -1) := if_neg (by
   rintro ⟨q1,q2⟩
   first|(exact (by assumption : ¬ ts[v]! = 2) q1)|(rw [(by assumption : s.slots[v]!.set = false)] at q2;exact absurd q2 (by decide)))
  rw [hp]
  (refine aD rfl ?_; refine aR () trivial ?_ ⟨sE ?_,⟨sE ?_,⟨sE ?_,trivial⟩⟩⟩)
  ·rfl
  ·rfl
  ·rfl
  ·rfl)
theorem Ip {ts:List Int}{bd:List AL.Stmt}{pts:List Pnt}{s:Mc}{x0:Operand}{i0 i1 i2:Nat}(ha0:ev (lk tsl) x0 = some (.optr i0 0)) (hH0:aO hsl i0 = some (mO ts bd pts i1 i2 s)) (hH1:aO hsl i1 = some (flat c6 s.slots)) (hH2:aO hsl i2 = some (flat cI s.read)) (hdd:Go.AL.distinct [i0,i1,i2] = true) (hmc:MC Tryz.prog 205 [.optr 0 0] [(0,some (mO ts bd pts 1 2 s)),(1,some (flat c6 s.slots)),(2,some (flat cI s.read))] 3 (fun _:Unit => True) (fun _ => iv (cQ ts ts.length 0 s).2) (fun _ => [(0,some (mO ts bd pts 1 2 (cQ ts ts.length 0 s).1)),(1,some (flat c6 (cQ ts ts.length 0 s).1.slots)),(2,some (flat cI (cQ ts ts.length 0 s).1.read))])) (hM:Nat.ble (nidl + 0) aQ = true) (hN:Nat.blt d N = true){md':Md}[hmd:MdA md (fR [x0] ++ [.inr i0,.inr i1,.inr i2]) (List.map Sum.inr (List.map Prod.fst ([(i0,some (mO ts bd pts i1 i2 (cQ ts ts.length 0 s).1)),(i1,some (flat c6 (cQ ts ts.length 0 s).1.slots)),(i2,some (flat cI (cQ ts ts.length 0 s).1.read))]:List (Nat × Option (List AV)))) ++ [.inl d]) md'] (kk:RW Tryz.prog N all Q md' rest ⟨(d,iv (cQ ts ts.length 0 s).2) :: tsl,iB hsl [(i0,some (mO ts bd pts i1 i2 (cQ ts ts.length 0 s).1)),(i1,some (flat c6 (cQ ts ts.length 0 s).1.slots)),(i2,some (flat cI (cQ ts ts.length 0 s).1.read))],nidl + 0,z0⟩):RW Tryz.prog N all Q md (⟨some d,.call ⟨.value (.func 205),#[x0],tys⟩,ty,pos,af,none⟩ :: rest) ⟨tsl,hsl,nidl,z0⟩:=by
 exact bB (l := [x0]) [i0,i1,i2] 3 [(i0,some (mO ts bd pts i1 i2 (cQ ts ts.length 0 s).1)),(i1,some (flat c6 (cQ ts ts.length 0 s).1.slots)),(i2,some (flat cI (cQ ts ts.length 0 s).1.read))] hmc (avs := [.optr i0 0]) (by simp only [evL,ha0]) hdd hM hN (md' := md') (hmd := hmd) kk
theorem Km (ts:List Int) (bd:List AL.Stmt) (pts:List Pnt) (s:Mc) (hm:OkM s.cells) (hsl:s.slots.length = ts.length) (hl:ts.length ≤ 1048576):MC Tryz.prog 205 [.optr 0 0] [(0,some (mO ts bd pts 1 2 s)),(1,some (flat c6 s.slots)),(2,some (flat cI s.read))] 3 (fun _:Unit => True) (fun _ => iv (cQ ts ts.length 0 s).2) (fun _ => [(0,some (mO ts bd pts 1 2 (cQ ts ts.length 0 s).1)),(1,some (flat c6 (cQ ts ts.length 0 s).1.slots)),(2,some (flat cI (cQ ts ts.length 0 s).1.read))]):=by
 refine aW Tryz.func205 Tryz.ntmps205 ?_
 repeat' (first|refine aE ?_|fail)
 refine aH (σ := Nat × Mc) [0,13,14] [] (fun k => [(15,iv (k.1 : Int))]) (fun k => [(0,some (mO ts bd pts 1 2 k.2)),(1,some (flat c6 k.2.slots)),(2,some (flat cI k.2.read))]) (fun k => k.1 ≤ ts.length ∧ cQ ts (ts.length - k.1) k.1 k.2 = cQ ts ts.length 0 s ∧ OkM k.2.cells ∧ k.2.slots.length = ts.length) (fun k => ts.length - k.1) (0,s) ⟨Nat.zero_le _,rfl,hm,hsl⟩ ?_
 rintro ⟨v,q⟩ ⟨hv,hf,hmq,hlq⟩
 dsimp only at hv hf hmq hlq ⊢
 by_cases hvn : v < ts.length
 ·have hfr := wX ts bd pts q v hmq hlq hvn
  repeat' (first|(apply aF;first|(apply AA (ts := ts) (bd := bd) (pts := pts) (s := q) (v := v);rfl;rfl;rfl;rfl;rfl;rfl;exact hfr;rfl;rfl)|(apply a7;rfl;rfl;rfl;rfl;rfl;(rw [aI]; simp only [fT] <;> omega);(exact vW (by (omega)))))|refine aE ?_|(refine aJ ?_ ?_ <;> intro hc hq <;> try (exfalso;omega))|(refine bS ?_ ?_ <;> intro hg hq <;> try (exfalso;omega))|fail)
  ·(refine bD (v + 1, q) (Le.renA []) ?_ ?_)
   ·refine ⟨by omega, ?_, hmq, hlq⟩
    dsimp only
    rw [← hf, show ts.length - v = (ts.length - (v + 1)) + 1 by omega, w5 (fun h => by
     have h2 : q.slots[v]!.set = false := by assumption
     rw [h2] at h;exact absurd h.2 (by decide))]
   ·dsimp only;omega
  ·have hk : ¬ bC q.cells q.slots[v]!.ptr true = 0 := fun h => by
    have h2 : ¬ nV (bC q.cells q.slots[v]!.ptr true) = -1 := by assumption
    rw [h] at h2;exact h2 rfl
   have hq2 : cQ ts ts.length 0 s = (⟨q.slots, kZ q.cells q.slots[v]!.ptr, q.read⟩, eZ (bC q.cells q.slots[v]!.ptr true)) := by
    rw [← hf,show ts.length - v = (ts.length - (v + 1)) + 1 by omega,HV ⟨by assumption,by assumption⟩ hk]
   rw [hq2]
   (refine aD rfl ?_; refine aR () trivial ?_ ⟨sE ?_,⟨sE ?_,⟨sE ?_,trivial⟩⟩⟩)
   ·show iv (nV _) = iv (eZ _)
    unfold nV;rw [if_neg hk]
   ·rfl
   ·rfl
   ·rfl
  ·have hk : bC q.cells q.slots[v]!.ptr true = 0 := by
    have h2 : nV (bC q.cells q.slots[v]!.ptr true) = -1 := by assumption
    unfold nV at h2
    by_cases h : bC q.cells q.slots[v]!.ptr true = 0
    ·exact h
    ·rw [if_neg h] at h2;unfold eZ at h2;split at h2 <;> cases h2
   have hls : (q.slots.set v mA).length = q.slots.length := List.length_set
   (refine bD (v + 1,⟨q.slots.set v mA,kZ q.cells q.slots[v]!.ptr,q.read⟩) (Le.renA []) ?_ ?_)
   ·refine ⟨by dsimp only; omega, ?_, hmq.fr _, by show (q.slots.set v mA).length = _; rw [List.length_set]; exact hlq⟩
    dsimp only
    rw [← hf,show ts.length - v = (ts.length - (v + 1)) + 1 by omega,Fu ⟨by assumption,by assumption⟩ hk]
   ·dsimp only;omega
  ·(refine bD (v + 1, q) (Le.renA []) ?_ ?_)
   ·refine ⟨by omega, ?_, hmq, hlq⟩
    dsimp only
    rw [← hf, show ts.length - v = (ts.length - (v + 1)) + 1 by omega, w5 (fun h => by
     have h2 : ¬ ts[v]! = 2 := by assumption
     exact h2 h.1)]
   ·dsimp only;omega
 ·have hve : v = ts.length := by omega
  have hq2 : cQ ts ts.length 0 s = (q,0) := by rw [← hf,hve,Nat.sub_self]; rfl
  repeat' (first|refine aE ?_|(refine aJ ?_ ?_ <;> intro hc hq <;> try (exfalso;omega))|fail)
  rw [hq2]
  (refine aD rfl ?_; refine aR () trivial ?_ ⟨sE ?_,⟨sE ?_,⟨sE ?_,trivial⟩⟩⟩)
  ·rfl
  ·rfl
  ·rfl
  ·rfl
def dL (ts : List Int) (s : Mc) (x : Pnt) : Mc × Int := if cR ts s x = true then (s,2) else dE ts s x
theorem uO {ts:List Int}{s:Mc}{x:Pnt}(h:cR ts s x = true):dL ts s x = (s,2) := if_pos h
theorem qK {ts:List Int}{s:Mc}{x:Pnt}(h:cR ts s x = false):dL ts s x = dE ts s x := if_neg (by rw [h]; decide)
theorem gR {ts:List Int}{x:Pnt}{v:Int}(h:v ∈ aY (wS ts x [1,2,3])):0 ≤ v ∧ v < ts.length:=by
 obtain ⟨v',h3,h4,rfl⟩ := cL.1 h
 rw [cH,Bool.and_eq_true,decide_eq_true_eq] at h4
 omega
theorem cE {ts:List Int}{s:Mc}{x:Pnt}(htl:ts.length ≤ 6):cR ts s x = true ↔ ∃ v ∈ aY (wS ts x [1,2,3]),s.slots[v.toNat]!.set = false:=by
 constructor
 ·intro h
  obtain ⟨v,hv,hne,hs⟩ := zZ h
  refine ⟨(v : Int),cL.2 ⟨v,by omega,?_,rfl⟩,hs⟩
  have hb := oP ts x v
  rw [cH,decide_eq_true hv,Bool.true_and,decide_eq_true_eq]
  simp only [List.mem_cons,List.not_mem_nil,or_false]; omega
 ·rintro ⟨v, hv, hs⟩
  obtain ⟨v',h3,h4,rfl⟩ := cL.1 hv
  rw [cH,Bool.and_eq_true,decide_eq_true_eq,decide_eq_true_eq] at h4
  unfold cR
  refine List.any_eq_true.2 ⟨v',List.mem_range.2 h4.1,?_⟩
  rw [Bool.and_eq_true,decide_eq_true_eq]
  refine ⟨fun e => ?_,by rw [show s.slots[v']!.set = false from hs]; rfl⟩
  have h5 := h4.2
  simp only [List.mem_cons,List.not_mem_nil,or_false] at h5;omega
theorem KE {ts:List Int}{bd:List AL.Stmt}{pts:List Pnt}{s:Mc}{x:Pnt}{x0 x1:Operand}{i0 i1 i2:Nat}(ha0:ev (lk tsl) x0 = some (.optr i0 0)) (ha1:ev (lk tsl) x1 = some (dJ x)) (hH0:aO hsl i0 = some (mO ts bd pts i1 i2 s)) (hH1:aO hsl i1 = some (flat c6 s.slots)) (hH2:aO hsl i2 = some (flat cI s.read)) (hdd:Go.AL.distinct [i0,i1,i2] = true) (hmc:MC Tryz.prog 140 [.optr 0 0,dJ x] [(0,some (mO ts bd pts 1 2 s)),(1,some (flat c6 s.slots)),(2,some (flat cI s.read))] 3 (fun _:Unit => True) (fun _ => iv (dL ts s x).2) (fun _ => [(0,some (mO ts bd pts 1 2 (dL ts s x).1)),(1,some (flat c6 (dL ts s x).1.slots)),(2,some (flat cI (dL ts s x).1.read))])) (hM:Nat.ble (nidl + 0) aQ = true) (hN:Nat.blt d N = true){md':Md}[hmd:MdA md (fR [x0,x1] ++ [.inr i0,.inr i1,.inr i2]) (List.map Sum.inr (List.map Prod.fst ([(i0,some (mO ts bd pts i1 i2 (dL ts s x).1)),(i1,some (flat c6 (dL ts s x).1.slots)),(i2,some (flat cI (dL ts s x).1.read))]:List (Nat × Option (List AV)))) ++ [.inl d]) md'] (kk:RW Tryz.prog N all Q md' rest ⟨(d,iv (dL ts s x).2) :: tsl,iB hsl [(i0,some (mO ts bd pts i1 i2 (dL ts s x).1)),(i1,some (flat c6 (dL ts s x).1.slots)),(i2,some (flat cI (dL ts s x).1.read))],nidl + 0,z0⟩):RW Tryz.prog N all Q md (⟨some d,.call ⟨.value (.func 140),#[x0,x1],tys⟩,ty,pos,af,none⟩ :: rest) ⟨tsl,hsl,nidl,z0⟩:=by
 exact bB (l := [x0,x1]) [i0,i1,i2] 3 [(i0,some (mO ts bd pts i1 i2 (dL ts s x).1)),(i1,some (flat c6 (dL ts s x).1.slots)),(i2,some (flat cI (dL ts s x).1.read))] hmc (avs := [.optr i0 0,dJ x]) (by simp only [evL,ha0,ha1]) hdd hM hN (md' := md') (hmd := hmd) kk
theorem kA {ts:List Int}{bd:List AL.Stmt}{pts:List Pnt}{s:Mc}{v:Int}{y:Sl}{x0 x1 x2:Operand}{i0 i1 i2:Nat}(ha0:ev (lk tsl) x0 = some (.optr i0 0)) (ha1:ev (lk tsl) x1 = some (iv v)) (ha2:ev (lk tsl) x2 = some (GG y)) (hH0:aO hsl i0 = some (mO ts bd pts i1 i2 s)) (hH1:aO hsl i1 = some (flat c6 s.slots)) (hH2:aO hsl i2 = some (flat cI s.read)) (hdd:Go.AL.distinct [i0,i1,i2] = true) (hmc:MC Tryz.prog 197 [.optr 0 0,iv v,GG y] [(0,some (mO ts bd pts 1 2 s)),(1,some (flat c6 s.slots)),(2,some (flat cI s.read))] 3 (fun _:Unit => True) (fun _ => iv (bV ts s v.toNat y).2) (fun _ => [(0,some (mO ts bd pts 1 2 (bV ts s v.toNat y).1)),(1,some (flat c6 (bV ts s v.toNat y).1.slots)),(2,some (flat cI (bV ts s v.toNat y).1.read))])) (hM:Nat.ble (nidl + 0) aQ = true) (hN:Nat.blt d N = true){md':Md}[hmd:MdA md (fR [x0,x1,x2] ++ [.inr i0,.inr i1,.inr i2]) (List.map Sum.inr (List.map Prod.fst ([(i0,some (mO ts bd pts i1 i2 (bV ts s v.toNat y).1)),(i1,some (flat c6 (bV ts s v.toNat y).1.slots)),(i2,some (flat cI (bV ts s v.toNat y).1.read))]:List (Nat × Option (List AV)))) ++ [.inl d]) md'] (kk:RW Tryz.prog N all Q md' rest ⟨(d,iv (bV ts s v.toNat y).2) :: tsl,iB hsl [(i0,some (mO ts bd pts i1 i2 (bV ts s v.toNat y).1)),(i1,some (flat c6 (bV ts s v.toNat y).1.slots)),(i2,some (flat cI (bV ts s v.toNat y).1.read))],nidl + 0,z0⟩):RW Tryz.prog N all Q md (⟨some d,.call ⟨.value (.func 197),#[x0,x1,x2],tys⟩,ty,pos,af,none⟩ :: rest) ⟨tsl,hsl,nidl,z0⟩:=by
 exact bB (l := [x0,x1,x2]) [i0,i1,i2] 3 [(i0,some (mO ts bd pts i1 i2 (bV ts s v.toNat y).1)),(i1,some (flat c6 (bV ts s v.toNat y).1.slots)),(i2,some (flat cI (bV ts s v.toNat y).1.read))] hmc (avs := [.optr i0 0,iv v,GG y]) (by simp only [evL,ha0,ha1,ha2]) hdd hM hN (md' := md') (hmd := hmd) kk
theorem mT (ts:List Int) (bd:List AL.Stmt) (pts:List Pnt) (s:Mc) (v:Int) (y:Sl) (hm:OkM s.cells) (hsl:s.slots.length = ts.length) (hv:0 ≤ v ∧ v < ts.length):MC Tryz.prog 197 [.optr 0 0,iv v,GG y] [(0,some (mO ts bd pts 1 2 s)),(1,some (flat c6 s.slots)),(2,some (flat cI s.read))] 3 (fun _:Unit => True) (fun _ => iv (bV ts s v.toNat y).2) (fun _ => [(0,some (mO ts bd pts 1 2 (bV ts s v.toNat y).1)),(1,some (flat c6 (bV ts s v.toNat y).1.slots)),(2,some (flat cI (bV ts s v.toNat y).1.read))]):=by
 have h := Kv ts bd pts s v.toNat y hm hsl (by omega)
 rw [Int.toNat_of_nonneg hv.1] at h
 exact h
theorem Ee {ts:List Int}{bd:List AL.Stmt}{pts:List Pnt}{s:Mc}{v:Int}{x0 x1:Operand}{i0 i1 i2:Nat}(ha0:ev (lk tsl) x0 = some (.optr i0 0)) (ha1:ev (lk tsl) x1 = some (iv v)) (hH0:aO hsl i0 = some (mO ts bd pts i1 i2 s)) (hH1:aO hsl i1 = some (flat c6 s.slots)) (hH2:aO hsl i2 = some (flat cI s.read)) (hdd:Go.AL.distinct [i0,i1,i2] = true) (hmc:MC Tryz.prog 204 [.optr 0 0,iv v] [(0,some (mO ts bd pts 1 2 s)),(1,some (flat c6 s.slots)),(2,some (flat cI s.read))] 3 (fun _:Unit => True) (fun _ => iv (nV (bC s.cells s.slots[v.toNat]!.ptr true))) (fun _ => [(0,some ([aG ts bd pts,.own 1 0 ts.length 4,sl bG (kZ s.cells s.slots[v.toNat]!.ptr),.own 2 0 s.read.length 1])),(1,some (flat c6 s.slots)),(2,some (flat cI s.read))])) (hM:Nat.ble (nidl + 0) aQ = true) (hN:Nat.blt d N = true){md':Md}[hmd:MdA md (fR [x0,x1] ++ [.inr i0,.inr i1,.inr i2]) (List.map Sum.inr (List.map Prod.fst ([(i0,some ([aG ts bd pts,.own i1 0 ts.length 4,sl bG (kZ s.cells s.slots[v.toNat]!.ptr),.own i2 0 s.read.length 1])),(i1,some (flat c6 s.slots)),(i2,some (flat cI s.read))]:List (Nat × Option (List AV)))) ++ [.inl d]) md'] (kk:RW Tryz.prog N all Q md' rest ⟨(d,iv (nV (bC s.cells s.slots[v.toNat]!.ptr true))) :: tsl,iB hsl [(i0,some ([aG ts bd pts,.own i1 0 ts.length 4,sl bG (kZ s.cells s.slots[v.toNat]!.ptr),.own i2 0 s.read.length 1])),(i1,some (flat c6 s.slots)),(i2,some (flat cI s.read))],nidl + 0,z0⟩):RW Tryz.prog N all Q md (⟨some d,.call ⟨.value (.func 204),#[x0,x1],tys⟩,ty,pos,af,none⟩ :: rest) ⟨tsl,hsl,nidl,z0⟩:=by
 exact bB (l := [x0,x1]) [i0,i1,i2] 3 [(i0,some ([aG ts bd pts,.own i1 0 ts.length 4,sl bG (kZ s.cells s.slots[v.toNat]!.ptr),.own i2 0 s.read.length 1])),(i1,some (flat c6 s.slots)),(i2,some (flat cI s.read))] hmc (avs := [.optr i0 0,iv v]) (by simp only [evL,ha0,ha1]) hdd hM hN (md' := md') (hmd := hmd) kk
theorem Gc (ts:List Int) (bd:List AL.Stmt) (pts:List Pnt) (s:Mc) (v:Int) (hm:OkM s.cells) (hsl:s.slots.length = ts.length) (hv:0 ≤ v ∧ v < ts.length):MC Tryz.prog 204 [.optr 0 0,iv v] [(0,some (mO ts bd pts 1 2 s)),(1,some (flat c6 s.slots)),(2,some (flat cI s.read))] 3 (fun _:Unit => True) (fun _ => iv (nV (bC s.cells s.slots[v.toNat]!.ptr true))) (fun _ => [(0,some ([aG ts bd pts,.own 1 0 ts.length 4,sl bG (kZ s.cells s.slots[v.toNat]!.ptr),.own 2 0 s.read.length 1])),(1,some (flat c6 s.slots)),(2,some (flat cI s.read))]):=by
 have h := wX ts bd pts s v.toNat hm hsl (by omega)
 rw [Int.toNat_of_nonneg hv.1] at h
 exact h
theorem MJ (ts:List Int) (bd:List AL.Stmt) (pts:List Pnt) (s:Mc) (x:Pnt) (htl:ts.length ≤ 6) (hm:OkM s.cells) (hsl:s.slots.length = ts.length) (ho:x.op = 1) (hx:0 ≤ x.x ∧ x.x < ts.length):MC Tryz.prog 140 [.optr 0 0,dJ x] [(0,some (mO ts bd pts 1 2 s)),(1,some (flat c6 s.slots)),(2,some (flat cI s.read))] 3 (fun _:Unit => True) (fun _ => iv (dL ts s x).2) (fun _ => [(0,some (mO ts bd pts 1 2 (dL ts s x).1)),(1,some (flat c6 (dL ts s x).1.slots)),(2,some (flat cI (dL ts s x).1.read))]):=by
 have hus := fV ts bd pts x htl
 have hsm : Sm (wS ts x [1,2,3]) := bO (by omega)
 obtain ⟨L,hL⟩ : ∃ L,L = aY (wS ts x [1,2,3]) := ⟨_,rfl⟩
 have hLl : L.length ≤ 62 := by rw [hL]; exact bX _
 have hmem : ∀ k, k < L.length → 0 ≤ L[k]! ∧ L[k]! < s.slots.length := fun k hk => by
  rw [hsl]; exact gR (by rw [← hL]; exact aP _ _ hk)
 refine aW Tryz.func140 Tryz.ntmps140 ?_
 repeat' (first|(apply aF;first|(apply aA (k := 158);rfl;exact hus;exact Pur.pf;rfl)|(apply aA (k := 120);rfl;(apply fJ <;> (assumption));(rfl);rfl))|refine aE ?_|refine bJ ?_|fail)
 rw [← hL]
 refine aH (σ := Nat) [0,3,26,27] [0,1,2,3] (fun k => [(28,iv (k : Int))]) (fun k => []) (fun k => k ≤ L.length ∧ ∀ j,j < k → s.slots[(L[j]!).toNat]!.set = true) (fun k => L.length - k) (0) ⟨Nat.zero_le _,fun j h => absurd h (by omega)⟩ ?_
 rintro k ⟨hk,hall⟩
 by_cases hkn : k < L.length
 ·have hmk := hmem k hkn
  repeat' (first|refine aE ?_|(refine aJ ?_ ?_ <;> intro hc hq <;> try (exfalso;omega))|fail)
  ·have hu : cR ts s x = true := (cE htl).2 ⟨L[k]!, by rw [← hL]; exact aP _ _ hkn, by assumption⟩
   rw [uO hu]
   (refine aD rfl ?_; refine aR () trivial ?_ ⟨sE ?_,⟨sE ?_,⟨sE ?_,trivial⟩⟩⟩)
   ·rfl
   ·rfl
   ·rfl
   ·rfl
  ·(refine bD (k + 1) (Le.renA [(3, 3)]) ?_ ?_)
   ·refine ⟨by omega, fun j hj => ?_⟩
    rcases Nat.lt_or_ge j k with h|h
    ·exact hall j h
    ·rw [show j = k by omega]; assumption
   ·omega
 ·have hu : cR ts s x = false := by
   cases q : cR ts s x with
   | false => rfl
   | true =>
    obtain ⟨v,hv,hs⟩ := (cE htl).1 q
    rw [← hL] at hv
    obtain ⟨j,hj,e⟩ := List.getElem_of_mem hv
    have h1 := hall j (by omega)
    rw [a8 _ _ hj,e,hs] at h1;cases h1
  rw [qK hu]
  have hd : dE ts s x = bV ts s x.x.toNat ⟨true,x.n,⟨0,0⟩⟩ := by unfold dE;rw [if_pos ho]
  rw [hd]
  have hp := mT ts bd pts s x.x ⟨true,x.n,⟨0,0⟩⟩ hm hsl hx
  repeat' (first|(apply aF;(apply kA (ts := ts) (bd := bd) (pts := pts) (s := s) (v := x.x) (y := ⟨true,x.n,⟨0,0⟩⟩);rfl;rfl;rfl;rfl;rfl;rfl;rfl;exact hp;rfl;rfl))|refine aE ?_|(refine aJ ?_ ?_ <;> intro hc hq <;> try (exfalso;omega))|fail)
  (refine aD rfl ?_; refine aR () trivial ?_ ⟨sE ?_,⟨sE ?_,⟨sE ?_,trivial⟩⟩⟩)
  ·rfl
  ·rfl
  ·rfl
  ·rfl
theorem Nh (ts:List Int) (bd:List AL.Stmt) (pts:List Pnt) (s:Mc) (x:Pnt) (htl:ts.length ≤ 6) (hm:OkM s.cells) (hsl:s.slots.length = ts.length) (ho:x.op = 2) (hn:0 ≤ x.n ∧ x.n ≤ 9) (hx:0 ≤ x.x ∧ x.x < ts.length):MC Tryz.prog 140 [.optr 0 0,dJ x] [(0,some (mO ts bd pts 1 2 s)),(1,some (flat c6 s.slots)),(2,some (flat cI s.read))] 3 (fun _:Unit => True) (fun _ => iv (dL ts s x).2) (fun _ => [(0,some (mO ts bd pts 1 2 (dL ts s x).1)),(1,some (flat c6 (dL ts s x).1.slots)),(2,some (flat cI (dL ts s x).1.read))]):=by
 have hus := fV ts bd pts x htl
 have hsm : Sm (wS ts x [1,2,3]) := bO (by omega)
 obtain ⟨L,hL⟩ : ∃ L,L = aY (wS ts x [1,2,3]) := ⟨_,rfl⟩
 have hLl : L.length ≤ 62 := by rw [hL]; exact bX _
 have hmem : ∀ k, k < L.length → 0 ≤ L[k]! ∧ L[k]! < s.slots.length := fun k hk => by
  rw [hsl]; exact gR (by rw [← hL]; exact aP _ _ hk)
 refine aW Tryz.func140 Tryz.ntmps140 ?_
 repeat' (first|(apply aF;first|(apply aA (k := 158);rfl;exact hus;exact Pur.pf;rfl)|(apply aA (k := 120);rfl;(apply fJ <;> (assumption));(rfl);rfl))|refine aE ?_|refine bJ ?_|fail)
 rw [← hL]
 refine aH (σ := Nat) [0,3,26,27] [0,1,2,3] (fun k => [(28,iv (k : Int))]) (fun k => []) (fun k => k ≤ L.length ∧ ∀ j,j < k → s.slots[(L[j]!).toNat]!.set = true) (fun k => L.length - k) (0) ⟨Nat.zero_le _,fun j h => absurd h (by omega)⟩ ?_
 rintro k ⟨hk,hall⟩
 by_cases hkn : k < L.length
 ·have hmk := hmem k hkn
  repeat' (first|refine aE ?_|(refine aJ ?_ ?_ <;> intro hc hq <;> try (exfalso;omega))|fail)
  ·have hu : cR ts s x = true := (cE htl).2 ⟨L[k]!, by rw [← hL]; exact aP _ _ hkn, by assumption⟩
   rw [uO hu]
   (refine aD rfl ?_; refine aR () trivial ?_ ⟨sE ?_,⟨sE ?_,⟨sE ?_,trivial⟩⟩⟩)
   ·rfl
   ·rfl
   ·rfl
   ·rfl
  ·(refine bD (k + 1) (Le.renA [(3, 3)]) ?_ ?_)
   ·refine ⟨by omega, fun j hj => ?_⟩
    rcases Nat.lt_or_ge j k with h|h
    ·exact hall j h
    ·rw [show j = k by omega]; assumption
   ·omega
 ·have hu : cR ts s x = false := by
   cases q : cR ts s x with
   | false => rfl
   | true =>
    obtain ⟨v,hv,hs⟩ := (cE htl).1 q
    rw [← hL] at hv
    obtain ⟨j,hj,e⟩ := List.getElem_of_mem hv
    have h1 := hall j (by omega)
    rw [a8 _ _ hj,e,hs] at h1;cases h1
  rw [qK hu]
  have hml := hm.l
  have hnc := Cc s.cells hm x.n
  by_cases h2 : s.cells.length = 200
  ·rw [if_neg (by omega)] at hnc
   have hd : dE ts s x = (s,1) := by unfold dE;rw [if_neg (show ¬ x.op = 1 by omega),if_pos ho,if_pos h2]
   rw [hd]
   repeat' (first|(apply aF;(apply aA (k := 198);rfl;exact hnc;exact Pur.pf;rfl))|refine aE ?_|(refine aJ ?_ ?_ <;> intro hc hq <;> try (exfalso;omega))|refine bJ ?_|fail)
   (refine aD rfl ?_; refine aR () trivial ?_ ⟨sE ?_,⟨sE ?_,⟨sE ?_,trivial⟩⟩⟩)
   ·rfl
   ·rfl
   ·rfl
   ·rfl
  ·rw [if_pos (by omega)] at hnc
   have hp := mT ts bd pts ⟨s.slots,s.cells ++ [uP x.n],s.read⟩ x.x ⟨true,0,⟨s.cells.length,0⟩⟩ (hm.nw hn (by omega)) hsl hx
   have hd : dE ts s x = bV ts ⟨s.slots,s.cells ++ [uP x.n],s.read⟩ x.x.toNat ⟨true,0,⟨s.cells.length,0⟩⟩ := by unfold dE;rw [if_neg (show ¬ x.op = 1 by omega),if_pos ho,if_neg h2]
   rw [hd]
   repeat' (first|(apply aF;first|(apply aA (k := 198);rfl;exact hnc;exact Pur.pf;rfl)|(apply kA (ts := ts) (bd := bd) (pts := pts) (s := ⟨s.slots,s.cells ++ [uP x.n],s.read⟩) (v := x.x) (y := ⟨true,0,⟨s.cells.length,0⟩⟩);rfl;rfl;rfl;rfl;rfl;rfl;rfl;exact hp;rfl;rfl))|refine aE ?_|(refine aJ ?_ ?_ <;> intro hc hq <;> try (exfalso;omega))|refine bJ ?_|fail)
   (refine aD rfl ?_; refine aR () trivial ?_ ⟨sE ?_,⟨sE ?_,⟨sE ?_,trivial⟩⟩⟩)
   ·rfl
   ·rfl
   ·rfl
   ·rfl
theorem MR (ts:List Int) (bd:List AL.Stmt) (pts:List Pnt) (s:Mc) (x:Pnt) (htl:ts.length ≤ 6) (hm:OkM s.cells) (hsl:s.slots.length = ts.length) (ho:x.op = 3) (hx:0 ≤ x.x ∧ x.x < ts.length) (hy:0 ≤ x.y ∧ x.y < ts.length):MC Tryz.prog 140 [.optr 0 0,dJ x] [(0,some (mO ts bd pts 1 2 s)),(1,some (flat c6 s.slots)),(2,some (flat cI s.read))] 3 (fun _:Unit => True) (fun _ => iv (dL ts s x).2) (fun _ => [(0,some (mO ts bd pts 1 2 (dL ts s x).1)),(1,some (flat c6 (dL ts s x).1.slots)),(2,some (flat cI (dL ts s x).1.read))]):=by
 have hus := fV ts bd pts x htl
 have hsm : Sm (wS ts x [1,2,3]) := bO (by omega)
 obtain ⟨L,hL⟩ : ∃ L,L = aY (wS ts x [1,2,3]) := ⟨_,rfl⟩
 have hLl : L.length ≤ 62 := by rw [hL]; exact bX _
 have hmem : ∀ k, k < L.length → 0 ≤ L[k]! ∧ L[k]! < s.slots.length := fun k hk => by
  rw [hsl]; exact gR (by rw [← hL]; exact aP _ _ hk)
 refine aW Tryz.func140 Tryz.ntmps140 ?_
 repeat' (first|(apply aF;first|(apply aA (k := 158);rfl;exact hus;exact Pur.pf;rfl)|(apply aA (k := 120);rfl;(apply fJ <;> (assumption));(rfl);rfl))|refine aE ?_|refine bJ ?_|fail)
 rw [← hL]
 refine aH (σ := Nat) [0,3,26,27] [0,1,2,3] (fun k => [(28,iv (k : Int))]) (fun k => []) (fun k => k ≤ L.length ∧ ∀ j,j < k → s.slots[(L[j]!).toNat]!.set = true) (fun k => L.length - k) (0) ⟨Nat.zero_le _,fun j h => absurd h (by omega)⟩ ?_
 rintro k ⟨hk,hall⟩
 by_cases hkn : k < L.length
 ·have hmk := hmem k hkn
  repeat' (first|refine aE ?_|(refine aJ ?_ ?_ <;> intro hc hq <;> try (exfalso;omega))|fail)
  ·have hu : cR ts s x = true := (cE htl).2 ⟨L[k]!, by rw [← hL]; exact aP _ _ hkn, by assumption⟩
   rw [uO hu]
   (refine aD rfl ?_; refine aR () trivial ?_ ⟨sE ?_,⟨sE ?_,⟨sE ?_,trivial⟩⟩⟩)
   ·rfl
   ·rfl
   ·rfl
   ·rfl
  ·(refine bD (k + 1) (Le.renA [(3, 3)]) ?_ ?_)
   ·refine ⟨by omega, fun j hj => ?_⟩
    rcases Nat.lt_or_ge j k with h|h
    ·exact hall j h
    ·rw [show j = k by omega]; assumption
   ·omega
 ·have hu : cR ts s x = false := by
   cases q : cR ts s x with
   | false => rfl
   | true =>
    obtain ⟨v,hv,hs⟩ := (cE htl).1 q
    rw [← hL] at hv
    obtain ⟨j,hj,e⟩ := List.getElem_of_mem hv
    have h1 := hall j (by omega)
    rw [a8 _ _ hj,e,hs] at h1;cases h1
  rw [qK hu]
  have hd : dE ts s x = bV ts (if yS ts[x.y.toNat]! = true then ⟨s.slots.set x.y.toNat mA,s.cells,s.read⟩ else s) x.x.toNat s.slots[x.y.toNat]! := by unfold dE;rw [if_neg (show ¬ x.op = 1 by omega),if_neg (show ¬ x.op = 2 by omega),if_pos ho]
  rw [hd]
  have htk := wP ts bd pts x.y hy
  by_cases hk : yS ts[x.y.toNat]! = true
  ·rw [hk] at htk
   rw [if_pos hk]
   have hp := mT ts bd pts ⟨s.slots.set x.y.toNat mA,s.cells,s.read⟩ x.x s.slots[x.y.toNat]! hm (by show (s.slots.set _ _).length = _; rw [List.length_set]; exact hsl) hx
   repeat' (first|(apply aF;first|(apply aA (k := 199);rfl;exact htk;exact Pur.pf;rfl)|(apply kA (ts := ts) (bd := bd) (pts := pts) (s := ⟨s.slots.set x.y.toNat mA,s.cells,s.read⟩) (v := x.x) (y := s.slots[x.y.toNat]!);rfl;rfl;rfl;rfl;rfl;rfl;rfl;exact hp;rfl;rfl)|(apply a7;rfl;rfl;rfl;rfl;rfl;(case hl => (first|(rw [aI]; simp only [fT] <;> omega)|(simp;done)));(exact vW (by (omega)))))|refine aE ?_|(refine aJ ?_ ?_ <;> intro hc hq <;> try (exfalso;omega))|refine bJ ?_|fail)
   (refine aD rfl ?_; refine aR () trivial ?_ ⟨sE ?_,⟨sE ?_,⟨sE ?_,trivial⟩⟩⟩)
   ·rfl
   ·rfl
   ·rfl
   ·rfl
  ·have hk2 : yS ts[x.y.toNat]! = false := by simpa using hk
   rw [hk2] at htk
   rw [if_neg hk]
   have hp := mT ts bd pts s x.x s.slots[x.y.toNat]! hm hsl hx
   repeat' (first|(apply aF;first|(apply aA (k := 199);rfl;exact htk;exact Pur.pf;rfl)|(apply kA (ts := ts) (bd := bd) (pts := pts) (s := s) (v := x.x) (y := s.slots[x.y.toNat]!);rfl;rfl;rfl;rfl;rfl;rfl;rfl;exact hp;rfl;rfl))|refine aE ?_|(refine aJ ?_ ?_ <;> intro hc hq <;> try (exfalso;omega))|refine bJ ?_|fail)
   (refine aD rfl ?_; refine aR () trivial ?_ ⟨sE ?_,⟨sE ?_,⟨sE ?_,trivial⟩⟩⟩)
   ·rfl
   ·rfl
   ·rfl
   ·rfl
theorem KP (ts:List Int) (bd:List AL.Stmt) (pts:List Pnt) (s:Mc) (x:Pnt) (htl:ts.length ≤ 6) (hm:OkM s.cells) (hsl:s.slots.length = ts.length) (ho:x.op = 4 ∨ x.op = 5) (hx:0 ≤ x.x ∧ x.x < ts.length) (hy:0 ≤ x.y ∧ x.y < ts.length):MC Tryz.prog 140 [.optr 0 0,dJ x] [(0,some (mO ts bd pts 1 2 s)),(1,some (flat c6 s.slots)),(2,some (flat cI s.read))] 3 (fun _:Unit => True) (fun _ => iv (dL ts s x).2) (fun _ => [(0,some (mO ts bd pts 1 2 (dL ts s x).1)),(1,some (flat c6 (dL ts s x).1.slots)),(2,some (flat cI (dL ts s x).1.read))]):=by
 have hus := fV ts bd pts x htl
 have hsm : Sm (wS ts x [1,2,3]) := bO (by omega)
 obtain ⟨L,hL⟩ : ∃ L,L = aY (wS ts x [1,2,3]) := ⟨_,rfl⟩
 have hLl : L.length ≤ 62 := by rw [hL]; exact bX _
 have hmem : ∀ k, k < L.length → 0 ≤ L[k]! ∧ L[k]! < s.slots.length := fun k hk => by
  rw [hsl]; exact gR (by rw [← hL]; exact aP _ _ hk)
 refine aW Tryz.func140 Tryz.ntmps140 ?_
 repeat' (first|(apply aF;first|(apply aA (k := 158);rfl;exact hus;exact Pur.pf;rfl)|(apply aA (k := 120);rfl;(apply fJ <;> (assumption));(rfl);rfl))|refine aE ?_|refine bJ ?_|fail)
 rw [← hL]
 refine aH (σ := Nat) [0,3,26,27] [0,1,2,3] (fun k => [(28,iv (k : Int))]) (fun k => []) (fun k => k ≤ L.length ∧ ∀ j,j < k → s.slots[(L[j]!).toNat]!.set = true) (fun k => L.length - k) (0) ⟨Nat.zero_le _,fun j h => absurd h (by omega)⟩ ?_
 rintro k ⟨hk,hall⟩
 by_cases hkn : k < L.length
 ·have hmk := hmem k hkn
  repeat' (first|refine aE ?_|(refine aJ ?_ ?_ <;> intro hc hq <;> try (exfalso;omega))|fail)
  ·have hu : cR ts s x = true := (cE htl).2 ⟨L[k]!, by rw [← hL]; exact aP _ _ hkn, by assumption⟩
   rw [uO hu]
   (refine aD rfl ?_; refine aR () trivial ?_ ⟨sE ?_,⟨sE ?_,⟨sE ?_,trivial⟩⟩⟩)
   ·rfl
   ·rfl
   ·rfl
   ·rfl
  ·(refine bD (k + 1) (Le.renA [(3, 3)]) ?_ ?_)
   ·refine ⟨by omega, fun j hj => ?_⟩
    rcases Nat.lt_or_ge j k with h|h
    ·exact hall j h
    ·rw [show j = k by omega]; assumption
   ·omega
 ·have hu : cR ts s x = false := by
   cases q : cR ts s x with
   | false => rfl
   | true =>
    obtain ⟨v,hv,hs⟩ := (cE htl).1 q
    rw [← hL] at hv
    obtain ⟨j,hj,e⟩ := List.getElem_of_mem hv
    have h1 := hall j (by omega)
    rw [a8 _ _ hj,e,hs] at h1;cases h1
  rw [qK hu]
  have hle := JE s.cells hm s.slots[x.y.toNat]!.ptr (decide (x.op = 5))
  by_cases hk : lT s.cells s.slots[x.y.toNat]!.ptr (decide (x.op = 5)) = 0
  ·have hp := mT ts bd pts ⟨s.slots, nA s.cells s.slots[x.y.toNat]!.ptr (decide (x.op = 5)), s.read⟩ x.x ⟨true, 0, qV s.cells s.slots[x.y.toNat]!.ptr (decide (x.op = 5))⟩ (hm.ln _ _) hsl hx
   have hd : dE ts s x = bV ts ⟨s.slots,nA s.cells s.slots[x.y.toNat]!.ptr (decide (x.op = 5)),s.read⟩ x.x.toNat ⟨true,0,qV s.cells s.slots[x.y.toNat]!.ptr (decide (x.op = 5))⟩ := by unfold dE;rw [if_neg (show ¬ x.op = 1 by omega),if_neg (show ¬ x.op = 2 by omega),if_neg (show ¬ x.op = 3 by omega),if_pos ho,if_pos hk]
   rw [hd]
   rw [hk] at hle
   repeat' (first|(apply aF;first|(apply iL;(case hx|hH => rfl);(case hf|hg|hα => infer_instance);(case hk => omega);(case hj => decide);(case hc => exact (rfl:_=[_,_]));(case h0|hN => rfl))|(apply aA (k := 200);rfl;exact hle;exact Pur.pf;rfl)|(apply kA (ts := ts) (bd := bd) (pts := pts) (s := ⟨s.slots,nA s.cells s.slots[x.y.toNat]!.ptr (decide (x.op = 5)),s.read⟩) (v := x.x) (y := ⟨true,0,qV s.cells s.slots[x.y.toNat]!.ptr (decide (x.op = 5))⟩);(case ha0|ha1|ha2|hH0|hH1|hH2|hdd => rfl);(case hmc => exact hp);(case hM|hN => rfl)))|refine aE ?_|(refine aJ ?_ ?_ <;> intro hc hq <;> try (exfalso;omega))|refine bJ ?_|fail)
   all_goals (
    (refine aD rfl ?_; refine aR () trivial ?_ ⟨sE ?_,⟨sE ?_,⟨sE ?_,trivial⟩⟩⟩)
    ·rfl
    ·rfl
    ·rfl
    ·rfl)
  ·have hd : dE ts s x = (s, eZ (lT s.cells s.slots[x.y.toNat]!.ptr (decide (x.op = 5)))) := by unfold dE; rw [if_neg (show ¬ x.op = 1 by omega), if_neg (show ¬ x.op = 2 by omega), if_neg (show ¬ x.op = 3 by omega), if_pos ho, if_neg hk]
   rw [hd]
   repeat' (first|(apply aF;first|(apply iL;(case hx|hH => rfl);(case hf|hg|hα => infer_instance);(case hk => omega);(case hj => decide);(case hc => exact (rfl:_=[_,_]));(case h0|hN => rfl))|(apply aA (k := 200);rfl;exact hle;exact Pur.pf;rfl)|(apply aA (k := 201);rfl;(apply qO);(rfl);rfl))|refine aE ?_|(refine aJ ?_ ?_ <;> intro hc hq <;> try (exfalso;omega))|refine bJ ?_|fail)
   all_goals (
    (refine aD rfl ?_; refine aR () trivial ?_ ⟨sE ?_,⟨sE ?_,⟨sE ?_,trivial⟩⟩⟩)
    ·rfl
    ·rfl
    ·rfl
    ·rfl)
theorem Mz (ts:List Int) (bd:List AL.Stmt) (pts:List Pnt) (s:Mc) (x:Pnt) (htl:ts.length ≤ 6) (hm:OkM s.cells) (hsl:s.slots.length = ts.length) (ho:x.op = 6) (hrl:s.read.length ≤ 1000) (hx:0 ≤ x.x ∧ x.x < ts.length) (hy:0 ≤ x.y ∧ x.y < ts.length) (hz:¬ bC s.cells s.slots[x.y.toNat]!.ptr false = 0):MC Tryz.prog 140 [.optr 0 0,dJ x] [(0,some (mO ts bd pts 1 2 s)),(1,some (flat c6 s.slots)),(2,some (flat cI s.read))] 3 (fun _:Unit => True) (fun _ => iv (dL ts s x).2) (fun _ => [(0,some (mO ts bd pts 1 2 (dL ts s x).1)),(1,some (flat c6 (dL ts s x).1.slots)),(2,some (flat cI (dL ts s x).1.read))]):=by
 have hus := fV ts bd pts x htl
 have hsm : Sm (wS ts x [1,2,3]) := bO (by omega)
 obtain ⟨L,hL⟩ : ∃ L,L = aY (wS ts x [1,2,3]) := ⟨_,rfl⟩
 have hLl : L.length ≤ 62 := by rw [hL]; exact bX _
 have hmem : ∀ k, k < L.length → 0 ≤ L[k]! ∧ L[k]! < s.slots.length := fun k hk => by
  rw [hsl]; exact gR (by rw [← hL]; exact aP _ _ hk)
 refine aW Tryz.func140 Tryz.ntmps140 ?_
 repeat' (first|(apply aF;first|(apply aA (k := 158);rfl;exact hus;exact Pur.pf;rfl)|(apply aA (k := 120);rfl;(apply fJ <;> (assumption));(rfl);rfl))|refine aE ?_|refine bJ ?_|fail)
 rw [← hL]
 refine aH (σ := Nat) [0,3,26,27] [0,1,2,3] (fun k => [(28,iv (k : Int))]) (fun k => []) (fun k => k ≤ L.length ∧ ∀ j,j < k → s.slots[(L[j]!).toNat]!.set = true) (fun k => L.length - k) (0) ⟨Nat.zero_le _,fun j h => absurd h (by omega)⟩ ?_
 rintro k ⟨hk,hall⟩
 by_cases hkn : k < L.length
 ·have hmk := hmem k hkn
  repeat' (first|refine aE ?_|(refine aJ ?_ ?_ <;> intro hc hq <;> try (exfalso;omega))|fail)
  ·have hu : cR ts s x = true := (cE htl).2 ⟨L[k]!, by rw [← hL]; exact aP _ _ hkn, by assumption⟩
   rw [uO hu]
   (refine aD rfl ?_; refine aR () trivial ?_ ⟨sE ?_,⟨sE ?_,⟨sE ?_,trivial⟩⟩⟩)
   ·rfl
   ·rfl
   ·rfl
   ·rfl
  ·(refine bD (k + 1) (Le.renA [(3, 3)]) ?_ ?_)
   ·refine ⟨by omega, fun j hj => ?_⟩
    rcases Nat.lt_or_ge j k with h|h
    ·exact hall j h
    ·rw [show j = k by omega]; assumption
   ·omega
 ·have hu : cR ts s x = false := by
   cases q : cR ts s x with
   | false => rfl
   | true =>
    obtain ⟨v,hv,hs⟩ := (cE htl).1 q
    rw [← hL] at hv
    obtain ⟨j,hj,e⟩ := List.getElem_of_mem hv
    have h1 := hall j (by omega)
    rw [a8 _ _ hj,e,hs] at h1;cases h1
  rw [qK hu]
  have hrc := qC s.cells hm s.slots[x.y.toNat]!.ptr
  have hd : dE ts s x = (s,eZ (bC s.cells s.slots[x.y.toNat]!.ptr false)) := by unfold dE;rw [if_neg (show ¬ x.op = 1 by omega),if_neg (show ¬ x.op = 2 by omega),if_neg (show ¬ x.op = 3 by omega),if_neg (show ¬ (x.op = 4 ∨ x.op = 5) by omega),if_pos ho,if_neg hz]
  rw [hd]
  repeat' (first|(apply aF;first|(apply iL;(case hx|hH => rfl);(case hf|hg|hα => infer_instance);(case hk => omega);(case hj => decide);(case hc => exact (rfl:_=[_,_]));(case h0|hN => rfl))|(apply aA (k := 202);rfl;exact hrc;exact Pur.pf;rfl)|(apply aA (k := 201);rfl;(apply qO);(rfl);rfl))|refine aE ?_|(refine aJ ?_ ?_ <;> intro hc hq <;> try (exfalso;omega))|refine bJ ?_|fail)
  (refine aD rfl ?_; refine aR () trivial ?_ ⟨sE ?_,⟨sE ?_,⟨sE ?_,trivial⟩⟩⟩)
  ·rfl
  ·rfl
  ·rfl
  ·rfl
theorem MX (ts:List Int) (bd:List AL.Stmt) (pts:List Pnt) (s:Mc) (x:Pnt) (htl:ts.length ≤ 6) (hm:OkM s.cells) (hsl:s.slots.length = ts.length) (ho:x.op = 7) (hx:0 ≤ x.x ∧ x.x < ts.length) (hy:0 ≤ x.y ∧ x.y < ts.length):MC Tryz.prog 140 [.optr 0 0,dJ x] [(0,some (mO ts bd pts 1 2 s)),(1,some (flat c6 s.slots)),(2,some (flat cI s.read))] 3 (fun _:Unit => True) (fun _ => iv (dL ts s x).2) (fun _ => [(0,some (mO ts bd pts 1 2 (dL ts s x).1)),(1,some (flat c6 (dL ts s x).1.slots)),(2,some (flat cI (dL ts s x).1.read))]):=by
 have hus := fV ts bd pts x htl
 have hsm : Sm (wS ts x [1,2,3]) := bO (by omega)
 obtain ⟨L,hL⟩ : ∃ L,L = aY (wS ts x [1,2,3]) := ⟨_,rfl⟩
 have hLl : L.length ≤ 62 := by rw [hL]; exact bX _
 have hmem : ∀ k, k < L.length → 0 ≤ L[k]! ∧ L[k]! < s.slots.length := fun k hk => by
  rw [hsl]; exact gR (by rw [← hL]; exact aP _ _ hk)
 refine aW Tryz.func140 Tryz.ntmps140 ?_
 repeat' (first|(apply aF;first|(apply aA (k := 158);rfl;exact hus;exact Pur.pf;rfl)|(apply aA (k := 120);rfl;(apply fJ <;> (assumption));(rfl);rfl))|refine aE ?_|refine bJ ?_|fail)
 rw [← hL]
 refine aH (σ := Nat) [0,3,26,27] [0,1,2,3] (fun k => [(28,iv (k : Int))]) (fun k => []) (fun k => k ≤ L.length ∧ ∀ j,j < k → s.slots[(L[j]!).toNat]!.set = true) (fun k => L.length - k) (0) ⟨Nat.zero_le _,fun j h => absurd h (by omega)⟩ ?_
 rintro k ⟨hk,hall⟩
 by_cases hkn : k < L.length
 ·have hmk := hmem k hkn
  repeat' (first|refine aE ?_|(refine aJ ?_ ?_ <;> intro hc hq <;> try (exfalso;omega))|fail)
  ·have hu : cR ts s x = true := (cE htl).2 ⟨L[k]!, by rw [← hL]; exact aP _ _ hkn, by assumption⟩
   rw [uO hu]
   (refine aD rfl ?_; refine aR () trivial ?_ ⟨sE ?_,⟨sE ?_,⟨sE ?_,trivial⟩⟩⟩)
   ·rfl
   ·rfl
   ·rfl
   ·rfl
  ·(refine bD (k + 1) (Le.renA [(3, 3)]) ?_ ?_)
   ·refine ⟨by omega, fun j hj => ?_⟩
    rcases Nat.lt_or_ge j k with h|h
    ·exact hall j h
    ·rw [show j = k by omega]; assumption
   ·omega
 ·have hu : cR ts s x = false := by
   cases q : cR ts s x with
   | false => rfl
   | true =>
    obtain ⟨v,hv,hs⟩ := (cE htl).1 q
    rw [← hL] at hv
    obtain ⟨j,hj,e⟩ := List.getElem_of_mem hv
    have h1 := hall j (by omega)
    rw [a8 _ _ hj,e,hs] at h1;cases h1
  rw [qK hu]
  have hwr := wY s.cells hm s.slots[x.x.toNat]!.ptr s.slots[x.y.toNat]!.num
  have hd : dE ts s x = (⟨s.slots,Az s.cells s.slots[x.x.toNat]!.ptr s.slots[x.y.toNat]!.num,s.read⟩,nV (uZ s.cells s.slots[x.x.toNat]!.ptr s.slots[x.y.toNat]!.num)) := by unfold dE;rw [if_neg (show ¬ x.op = 1 by omega),if_neg (show ¬ x.op = 2 by omega),if_neg (show ¬ x.op = 3 by omega),if_neg (show ¬ (x.op = 4 ∨ x.op = 5) by omega),if_neg (show ¬ x.op = 6 by omega),if_pos ho]
  rw [hd]
  repeat' (first|(apply aF;first|(apply iL;(case hx|hH => rfl);(case hf|hg|hα => infer_instance);(case hk => omega);(case hj => decide);(case hc => exact (rfl:_=[_,_]));(case h0|hN => rfl))|(apply aA (k := 203);rfl;exact hwr;exact Pur.pf;rfl)|(apply aA (k := 201);rfl;(apply qO);(rfl);rfl))|refine aE ?_|(refine aJ ?_ ?_ <;> intro hc hq <;> try (exfalso;omega))|refine bJ ?_|fail)
  ·have hk : ¬ uZ s.cells s.slots[x.x.toNat]!.ptr s.slots[x.y.toNat]!.num = 0 := by assumption
   (refine aD rfl ?_; refine aR () trivial ?_ ⟨sE ?_,⟨sE ?_,⟨sE ?_,trivial⟩⟩⟩)
   ·show iv (eZ _) = iv (nV _)
    unfold nV;rw [if_neg hk]
   ·rfl
   ·rfl
   ·rfl
  ·have hk : uZ s.cells s.slots[x.x.toNat]!.ptr s.slots[x.y.toNat]!.num = 0 := by assumption
   (refine aD rfl ?_; refine aR () trivial ?_ ⟨sE ?_,⟨sE ?_,⟨sE ?_,trivial⟩⟩⟩)
   ·rw [hk]; rfl
   ·rfl
   ·rfl
   ·rfl
theorem MZ (ts:List Int) (bd:List AL.Stmt) (pts:List Pnt) (s:Mc) (x:Pnt) (htl:ts.length ≤ 6) (hm:OkM s.cells) (hsl:s.slots.length = ts.length) (ho:x.op = 8) (hx:0 ≤ x.x ∧ x.x < ts.length):MC Tryz.prog 140 [.optr 0 0,dJ x] [(0,some (mO ts bd pts 1 2 s)),(1,some (flat c6 s.slots)),(2,some (flat cI s.read))] 3 (fun _:Unit => True) (fun _ => iv (dL ts s x).2) (fun _ => [(0,some (mO ts bd pts 1 2 (dL ts s x).1)),(1,some (flat c6 (dL ts s x).1.slots)),(2,some (flat cI (dL ts s x).1.read))]):=by
 have hus := fV ts bd pts x htl
 have hsm : Sm (wS ts x [1,2,3]) := bO (by omega)
 obtain ⟨L,hL⟩ : ∃ L,L = aY (wS ts x [1,2,3]) := ⟨_,rfl⟩
 have hLl : L.length ≤ 62 := by rw [hL]; exact bX _
 have hmem : ∀ k, k < L.length → 0 ≤ L[k]! ∧ L[k]! < s.slots.length := fun k hk => by
  rw [hsl]; exact gR (by rw [← hL]; exact aP _ _ hk)
 refine aW Tryz.func140 Tryz.ntmps140 ?_
 repeat' (first|(apply aF;first|(apply aA (k := 158);rfl;exact hus;exact Pur.pf;rfl)|(apply aA (k := 120);rfl;(apply fJ <;> (assumption));(rfl);rfl))|refine aE ?_|refine bJ ?_|fail)
 rw [← hL]
 refine aH (σ := Nat) [0,3,26,27] [0,1,2,3] (fun k => [(28,iv (k : Int))]) (fun k => []) (fun k => k ≤ L.length ∧ ∀ j,j < k → s.slots[(L[j]!).toNat]!.set = true) (fun k => L.length - k) (0) ⟨Nat.zero_le _,fun j h => absurd h (by omega)⟩ ?_
 rintro k ⟨hk,hall⟩
 by_cases hkn : k < L.length
 ·have hmk := hmem k hkn
  repeat' (first|refine aE ?_|(refine aJ ?_ ?_ <;> intro hc hq <;> try (exfalso;omega))|fail)
  ·have hu : cR ts s x = true := (cE htl).2 ⟨L[k]!, by rw [← hL]; exact aP _ _ hkn, by assumption⟩
   rw [uO hu]
   (refine aD rfl ?_; refine aR () trivial ?_ ⟨sE ?_,⟨sE ?_,⟨sE ?_,trivial⟩⟩⟩)
   ·rfl
   ·rfl
   ·rfl
   ·rfl
  ·(refine bD (k + 1) (Le.renA [(3, 3)]) ?_ ?_)
   ·refine ⟨by omega, fun j hj => ?_⟩
    rcases Nat.lt_or_ge j k with h|h
    ·exact hall j h
    ·rw [show j = k by omega]; assumption
   ·omega
 ·have hu : cR ts s x = false := by
   cases q : cR ts s x with
   | false => rfl
   | true =>
    obtain ⟨v,hv,hs⟩ := (cE htl).1 q
    rw [← hL] at hv
    obtain ⟨j,hj,e⟩ := List.getElem_of_mem hv
    have h1 := hall j (by omega)
    rw [a8 _ _ hj,e,hs] at h1;cases h1
  rw [qK hu]
  have hfr := Gc ts bd pts s x.x hm hsl hx
  have hd : dE ts s x = (⟨s.slots.set x.x.toNat mA,kZ s.cells s.slots[x.x.toNat]!.ptr,s.read⟩,nV (bC s.cells s.slots[x.x.toNat]!.ptr true)) := by unfold dE;rw [if_neg (show ¬ x.op = 1 by omega),if_neg (show ¬ x.op = 2 by omega),if_neg (show ¬ x.op = 3 by omega),if_neg (show ¬ (x.op = 4 ∨ x.op = 5) by omega),if_neg (show ¬ x.op = 6 by omega),if_neg (show ¬ x.op = 7 by omega),if_pos ho]
  rw [hd]
  repeat' (first|(apply aF;first|(apply Ee (ts := ts) (bd := bd) (pts := pts) (s := s) (v := x.x);rfl;rfl;rfl;rfl;rfl;rfl;exact hfr;rfl;rfl)|(apply a7;rfl;rfl;rfl;rfl;rfl;(rw [aI]; simp only [fT] <;> omega);(exact vW (by (omega)))))|refine aE ?_|(refine aJ ?_ ?_ <;> intro hc hq <;> try (exfalso;omega))|refine bJ ?_|fail)
  (refine aD rfl ?_; refine aR () trivial ?_ ⟨sE ?_,⟨sE ?_,⟨sE ?_,trivial⟩⟩⟩)
  ·rfl
  ·rfl
  ·rfl
  ·rfl
theorem Ng (ts:List Int) (bd:List AL.Stmt) (pts:List Pnt) (s:Mc) (x:Pnt) (htl:ts.length ≤ 6) (hm:OkM s.cells) (hsl:s.slots.length = ts.length) (ho:x.op = 9 ∨ x.op = 10 ∨ x.op = 11):MC Tryz.prog 140 [.optr 0 0,dJ x] [(0,some (mO ts bd pts 1 2 s)),(1,some (flat c6 s.slots)),(2,some (flat cI s.read))] 3 (fun _:Unit => True) (fun _ => iv (dL ts s x).2) (fun _ => [(0,some (mO ts bd pts 1 2 (dL ts s x).1)),(1,some (flat c6 (dL ts s x).1.slots)),(2,some (flat cI (dL ts s x).1.read))]):=by
 have hus := fV ts bd pts x htl
 have hsm : Sm (wS ts x [1,2,3]) := bO (by omega)
 obtain ⟨L,hL⟩ : ∃ L,L = aY (wS ts x [1,2,3]) := ⟨_,rfl⟩
 have hLl : L.length ≤ 62 := by rw [hL]; exact bX _
 have hmem : ∀ k, k < L.length → 0 ≤ L[k]! ∧ L[k]! < s.slots.length := fun k hk => by
  rw [hsl]; exact gR (by rw [← hL]; exact aP _ _ hk)
 refine aW Tryz.func140 Tryz.ntmps140 ?_
 repeat' (first|(apply aF;first|(apply aA (k := 158);rfl;exact hus;exact Pur.pf;rfl)|(apply aA (k := 120);rfl;(apply fJ <;> (assumption));(rfl);rfl))|refine aE ?_|refine bJ ?_|fail)
 rw [← hL]
 refine aH (σ := Nat) [0,3,26,27] [0,1,2,3] (fun k => [(28,iv (k : Int))]) (fun k => []) (fun k => k ≤ L.length ∧ ∀ j,j < k → s.slots[(L[j]!).toNat]!.set = true) (fun k => L.length - k) (0) ⟨Nat.zero_le _,fun j h => absurd h (by omega)⟩ ?_
 rintro k ⟨hk,hall⟩
 by_cases hkn : k < L.length
 ·have hmk := hmem k hkn
  repeat' (first|refine aE ?_|(refine aJ ?_ ?_ <;> intro hc hq <;> try (exfalso;omega))|fail)
  ·have hu : cR ts s x = true := (cE htl).2 ⟨L[k]!, by rw [← hL]; exact aP _ _ hkn, by assumption⟩
   rw [uO hu]
   (refine aD rfl ?_; refine aR () trivial ?_ ⟨sE ?_,⟨sE ?_,⟨sE ?_,trivial⟩⟩⟩)
   ·rfl
   ·rfl
   ·rfl
   ·rfl
  ·(refine bD (k + 1) (Le.renA [(3, 3)]) ?_ ?_)
   ·refine ⟨by omega, fun j hj => ?_⟩
    rcases Nat.lt_or_ge j k with h|h
    ·exact hall j h
    ·rw [show j = k by omega]; assumption
   ·omega
 ·have hu : cR ts s x = false := by
   cases q : cR ts s x with
   | false => rfl
   | true =>
    obtain ⟨v,hv,hs⟩ := (cE htl).1 q
    rw [← hL] at hv
    obtain ⟨j,hj,e⟩ := List.getElem_of_mem hv
    have h1 := hall j (by omega)
    rw [a8 _ _ hj,e,hs] at h1;cases h1
  rw [qK hu]
  by_cases h11 : x.op = 11
  ·have hd : dE ts s x = cQ ts ts.length 0 s := FN h11
   rw [hd]
   have hfi := Km ts bd pts s hm hsl (by omega)
   repeat' (first|(apply aF;(apply Ip (ts := ts) (bd := bd) (pts := pts) (s := s);rfl;rfl;rfl;rfl;rfl;exact hfi;rfl;rfl))|refine aE ?_|(refine aJ ?_ ?_ <;> intro hc hq <;> try (exfalso;omega))|fail)
   (refine aD rfl ?_; refine aR () trivial ?_ ⟨sE ?_,⟨sE ?_,⟨sE ?_,trivial⟩⟩⟩)
   ·rfl
   ·rfl
   ·rfl
   ·rfl
  ·have hd : dE ts s x = (s, -1) := by unfold dE; rw [if_neg (show ¬ x.op = 1 by omega), if_neg (show ¬ x.op = 2 by omega), if_neg (show ¬ x.op = 3 by omega), if_neg (show ¬ (x.op = 4 ∨ x.op = 5) by omega), if_neg (show ¬ x.op = 6 by omega), if_neg (show ¬ x.op = 7 by omega), if_neg (show ¬ x.op = 8 by omega), if_neg (show ¬ x.op = 11 by omega)]
   rw [hd]
   repeat' (first|refine aE ?_|(refine aJ ?_ ?_ <;> intro hc hq <;> try (exfalso;omega))|fail)
   (refine aD rfl ?_; refine aR () trivial ?_ ⟨sE ?_,⟨sE ?_,⟨sE ?_,trivial⟩⟩⟩)
   ·rfl
   ·rfl
   ·rfl
   ·rfl
theorem KR (ts:List Int) (bd:List AL.Stmt) (pts:List Pnt) (s:Mc) (x:Pnt) (htl:ts.length ≤ 6) (hm:OkM s.cells) (hsl:s.slots.length = ts.length) (ho:x.op = 6) (hrl:s.read.length ≤ 1000) (hx:0 ≤ x.x ∧ x.x < ts.length) (hy:0 ≤ x.y ∧ x.y < ts.length) (hz:bC s.cells s.slots[x.y.toNat]!.ptr false = 0) (hun:cR ts s x = false):MC Tryz.prog 140 [.optr 0 0,dJ x] [(0,some (mO ts bd pts 1 2 s)),(1,some (flat c6 s.slots)),(2,some (flat cI s.read))] 3 (fun _:Unit => True) (fun _ => iv (dL ts s x).2) (fun _ => [(0,some (mO ts bd pts 1 5 (dL ts s x).1)),(1,some (flat c6 (dL ts s x).1.slots)),(5,some (flat cI (dL ts s x).1.read))]):=by
 have hus := fV ts bd pts x htl
 have hsm : Sm (wS ts x [1,2,3]) := bO (by omega)
 obtain ⟨L,hL⟩ : ∃ L,L = aY (wS ts x [1,2,3]) := ⟨_,rfl⟩
 have hLl : L.length ≤ 62 := by rw [hL]; exact bX _
 have hmem : ∀ k, k < L.length → 0 ≤ L[k]! ∧ L[k]! < s.slots.length := fun k hk => by
  rw [hsl]; exact gR (by rw [← hL]; exact aP _ _ hk)
 refine aW Tryz.func140 Tryz.ntmps140 ?_
 repeat' (first|(apply aF;first|(apply aA (k := 158);rfl;exact hus;exact Pur.pf;rfl)|(apply aA (k := 120);rfl;(apply fJ <;> (assumption));(rfl);rfl))|refine aE ?_|refine bJ ?_|fail)
 rw [← hL]
 refine aH (σ := Nat) [0,3,26,27] [0,1,2,3] (fun k => [(28,iv (k : Int))]) (fun k => []) (fun k => k ≤ L.length ∧ ∀ j,j < k → s.slots[(L[j]!).toNat]!.set = true) (fun k => L.length - k) (0) ⟨Nat.zero_le _,fun j h => absurd h (by omega)⟩ ?_
 rintro k ⟨hk,hall⟩
 by_cases hkn : k < L.length
 ·have hmk := hmem k hkn
  repeat' (first|refine aE ?_|(refine aJ ?_ ?_ <;> intro hc hq <;> try (exfalso;omega))|fail)
  ·exfalso
   have hu : cR ts s x = true := (cE htl).2 ⟨L[k]!,by rw [← hL]; exact aP _ _ hkn,by assumption⟩
   rw [hun] at hu;cases hu
  ·(refine bD (k + 1) (Le.renA [(3, 3)]) ?_ ?_)
   ·refine ⟨by omega, fun j hj => ?_⟩
    rcases Nat.lt_or_ge j k with h|h
    ·exact hall j h
    ·rw [show j = k by omega]; assumption
   ·omega
 ·have hu : cR ts s x = false := by
   cases q : cR ts s x with
   | false => rfl
   | true =>
    obtain ⟨v,hv,hs⟩ := (cE htl).1 q
    rw [← hL] at hv
    obtain ⟨j,hj,e⟩ := List.getElem_of_mem hv
    have h1 := hall j (by omega)
    rw [a8 _ _ hj,e,hs] at h1;cases h1
  rw [qK hu]
  have hrc := qC s.cells hm s.slots[x.y.toNat]!.ptr
  have hp := mT ts bd pts ⟨s.slots,dO s.cells s.slots[x.y.toNat]!.ptr false,s.read ++ [nS s.cells s.slots[x.y.toNat]!.ptr]⟩ x.x ⟨true,nS s.cells s.slots[x.y.toNat]!.ptr,⟨0,0⟩⟩ (hm.tch _ _) hsl hx
  have hd : dE ts s x = bV ts ⟨s.slots,dO s.cells s.slots[x.y.toNat]!.ptr false,s.read ++ [nS s.cells s.slots[x.y.toNat]!.ptr]⟩ x.x.toNat ⟨true,nS s.cells s.slots[x.y.toNat]!.ptr,⟨0,0⟩⟩ := by unfold dE;rw [if_neg (show ¬ x.op = 1 by omega),if_neg (show ¬ x.op = 2 by omega),if_neg (show ¬ x.op = 3 by omega),if_neg (show ¬ (x.op = 4 ∨ x.op = 5) by omega),if_pos ho,if_pos hz]
  rw [hd]
  rw [hz] at hrc
  repeat' (first|(apply aF;first|(apply iL;(case hx|hH => rfl);(case hf|hg|hα => infer_instance);(case hk => omega);(case hj => decide);(case hc => exact (rfl:_=[_,_]));(case h0|hN => rfl))|(apply aA (k := 202);rfl;exact hrc;exact Pur.pf;rfl)|(with_reducible apply aV (d := 184))|(apply aL (t := _);rfl;rfl;rfl;exact (rfl:_=some [_]);rfl;rfl))|refine aE ?_|(refine aJ ?_ ?_ <;> intro hc hq <;> try (exfalso;omega))|refine bJ ?_|fail)
  refine bR ?_
  rw [show s.read.length + 1 = (s.read ++ [nS s.cells s.slots[x.y.toNat]!.ptr]).length from by rw [List.length_append]; rfl]
  repeat' (first|(apply aF;(apply kA (ts := ts) (bd := bd) (pts := pts) (s := ⟨s.slots,dO s.cells s.slots[x.y.toNat]!.ptr false,s.read ++ [nS s.cells s.slots[x.y.toNat]!.ptr]⟩) (v := x.x) (y := ⟨true,nS s.cells s.slots[x.y.toNat]!.ptr,⟨0,0⟩⟩);rfl;rfl;rfl;rfl;rfl;rfl;rfl;exact hp;rfl;rfl))|refine aE ?_|fail)
  (refine aD rfl ?_; refine aR () trivial ?_ ⟨sE ?_,⟨sE ?_,⟨sE ?_,trivial⟩⟩⟩)
  ·rfl
  ·rfl
  ·rfl
  ·rfl
theorem MW (ts:List Int) (bd:List AL.Stmt) (pts:List Pnt) (s:Mc) (x:Pnt) (htl:ts.length ≤ 6) (hm:OkM s.cells) (hsl:s.slots.length = ts.length) (hun:cR ts s x = true):MC Tryz.prog 140 [.optr 0 0,dJ x] [(0,some (mO ts bd pts 1 2 s)),(1,some (flat c6 s.slots)),(2,some (flat cI s.read))] 3 (fun _:Unit => True) (fun _ => iv (dL ts s x).2) (fun _ => [(0,some (mO ts bd pts 1 2 (dL ts s x).1)),(1,some (flat c6 (dL ts s x).1.slots)),(2,some (flat cI (dL ts s x).1.read))]):=by
 have hus := fV ts bd pts x htl
 have hsm : Sm (wS ts x [1,2,3]) := bO (by omega)
 obtain ⟨L,hL⟩ : ∃ L,L = aY (wS ts x [1,2,3]) := ⟨_,rfl⟩
 have hLl : L.length ≤ 62 := by rw [hL]; exact bX _
 have hmem : ∀ k, k < L.length → 0 ≤ L[k]! ∧ L[k]! < s.slots.length := fun k hk => by
  rw [hsl]; exact gR (by rw [← hL]; exact aP _ _ hk)
 refine aW Tryz.func140 Tryz.ntmps140 ?_
 repeat' (first|(apply aF;first|(apply aA (k := 158);rfl;exact hus;exact Pur.pf;rfl)|(apply aA (k := 120);rfl;(apply fJ <;> (assumption));(rfl);rfl))|refine aE ?_|refine bJ ?_|fail)
 rw [← hL]
 refine aH (σ := Nat) [0,3,26,27] [0,1,2,3] (fun k => [(28,iv (k : Int))]) (fun k => []) (fun k => k ≤ L.length ∧ ∀ j,j < k → s.slots[(L[j]!).toNat]!.set = true) (fun k => L.length - k) (0) ⟨Nat.zero_le _,fun j h => absurd h (by omega)⟩ ?_
 rintro k ⟨hk,hall⟩
 by_cases hkn : k < L.length
 ·have hmk := hmem k hkn
  repeat' (first|refine aE ?_|(refine aJ ?_ ?_ <;> intro hc hq <;> try (exfalso;omega))|fail)
  ·have hu : cR ts s x = true := (cE htl).2 ⟨L[k]!, by rw [← hL]; exact aP _ _ hkn, by assumption⟩
   rw [uO hu]
   (refine aD rfl ?_; refine aR () trivial ?_ ⟨sE ?_,⟨sE ?_,⟨sE ?_,trivial⟩⟩⟩)
   ·rfl
   ·rfl
   ·rfl
   ·rfl
  ·(refine bD (k + 1) (Le.renA [(3, 3)]) ?_ ?_)
   ·refine ⟨by omega, fun j hj => ?_⟩
    rcases Nat.lt_or_ge j k with h|h
    ·exact hall j h
    ·rw [show j = k by omega]; assumption
   ·omega
 ·have hu : cR ts s x = false := by
   cases q : cR ts s x with
   | false => rfl
   | true =>
    obtain ⟨v,hv,hs⟩ := (cE htl).1 q
    rw [← hL] at hv
    obtain ⟨j,hj,e⟩ := List.getElem_of_mem hv
    have h1 := hall j (by omega)
    rw [a8 _ _ hj,e,hs] at h1;cases h1
  rw [qK hu]
  rw [hun] at hu;cases hu
end Go.Proofs.YtahdccneecdmmaaGreat
