/-
 A part of the proofs over this program: rules and contracts of its functions (the contracts).
-/
import Derived.Test.YtahdccneecdmmaaGreatJ5B04
set_option linter.unusedVariables false
set_option linter.unusedSimpArgs false
set_option maxHeartbeats 8000000
set_option maxRecDepth 4000
attribute [local irreducible] Go.AL.RW Go.AL.AW Go.AL.Stop
namespace Go.Proofs.YtahdccneecdmmaaGreat
open Go.AL Go.RowKit
variable {N : Nat} {Q : Exit → AS → Prop} {all : Array Oper} {rest : List Oper} {tsl : List (Nat × AV)} {hsl : List (Nat × Option (List AV))} {nidl : Nat} {z0 : Lo} {md : Md} {d : Nat} {ty : TypeId} {pos : String} {af : Array Edge} {tys : Array TypeId}
theorem O9 {xs:List Tg}{k:Nat}{a:Int}{b:Bool}(hk:k < xs.length):iB (flat cJ xs) (0 + k * 2) [iv a,bv b] = flat cJ (xs.set k ⟨a,b⟩) := hO hk rfl
theorem HO {cs new:List AV}{k:Nat}(h:k ≤ cs.length):(iB cs (0 + k) new).take k = cs.take k:=by
 unfold iB
 rw [Nat.zero_add,List.append_assoc,List.take_left' (by rw [List.length_take]; omega)]
def shr (xs : List Tg) : List Tg := xs.filter (fun t => !t.uq)
theorem EV {xs:List Tg}(h:rR xs = -1):shr xs = xs:=by
 unfold rR at h
 split at h
 ·omega
 ·rename_i hn
  rw [List.findIdx?_eq_none_iff] at hn
  unfold shr
  rw [List.filter_eq_self]
  intro t ht
  have := hn t ht
  simp [this]
theorem F8 {xs:List Tg}{i:Nat}(h:rR xs = (i:Int)):i < xs.length ∧ xs[i]!.uq = true ∧ shr (xs.take (i + 1)) = xs.take i:=by
 unfold rR at h
 split at h
 ·rename_i k hk
  obtain ⟨h1,h2,h3⟩ := List.findIdx?_eq_some_iff_getElem.1 hk
  have e : k = i := by omega
  subst e
  have hs : shr (xs.take k) = xs.take k := by
   unfold shr
   rw [List.filter_eq_self]
   intro t ht
   obtain ⟨j,hj,rfl⟩ := List.getElem_of_mem ht
   rw [List.length_take] at hj
   have := h3 j (by omega)
   rw [List.getElem_take]; simpa using this
  refine ⟨h1,by rw [a7 _ _ h1]; exact h2,?_⟩
  rw [b6 xs k h1]
  unfold shr at hs ⊢
  rw [List.filter_append,hs,mL (by rw [a7 _ _ h1,h2]; rfl),List.append_nil]
 ·omega
theorem LC (xs:List Tg):-1 ≤ rR xs ∧ rR xs < xs.length:=by
 unfold rR
 split
 ·rename_i k hk
  obtain ⟨h1,_⟩ := List.findIdx?_eq_some_iff_getElem.1 hk
  omega
 ·omega
theorem Ky {xs:List Tg}{j:Nat}(hj:j < xs.length) (h:xs[j]!.uq = false):shr (xs.take (j + 1)) = shr (xs.take j) ++ [xs[j]!]:=by
 rw [b6 xs j hj]; unfold shr
 rw [List.filter_append,qS (by rw [h]; rfl)]
theorem Ix {xs:List Tg}{j:Nat}(hj:j < xs.length) (h:xs[j]!.uq = true):shr (xs.take (j + 1)) = shr (xs.take j):=by
 rw [b6 xs j hj]; unfold shr
 rw [List.filter_append,mL (by rw [h]; rfl),List.append_nil]
theorem H9 {α:Type}[Inhabited α] {L:List α}{i:Nat}{x:α}(h:i < L.length):(L.set i x).take (i + 1) = L.take i ++ [x]:=by
 rw [List.set_eq_take_append_cons_drop,if_pos h]
 have h1 : (L.take i).length = i := by rw [List.length_take]; omega
 rw [List.take_append,h1,show i + 1 - i = 1 by omega,List.take_of_length_le (by omega)]
 rfl
theorem GG {α:Type}[Inhabited α] {L M:List α}{j:Nat}(h:L.drop j = M.drop j) (hl:L.length = M.length) (hj:j < M.length):L[j]! = M[j]!:=by
 rw [a7 _ _ (by omega),a7 _ _ hj]
 rw [List.drop_eq_getElem_cons (by omega : j < L.length),List.drop_eq_getElem_cons hj] at h
 exact (List.cons.inj h).1
theorem tQ {α:Type}{L M:List α}{j:Nat}(h:L.drop j = M.drop j):L.drop (j + 1) = M.drop (j + 1):=by
 rw [← List.drop_drop,h,List.drop_drop]
theorem KM {xs:List Tg}{m:Nat}{x0 x1:Operand}{i0:Nat}(ha0:ev (lk tsl) x0 = some (.own i0 0 m 2)) (ha1:ev (lk tsl) x1 = some (.v (.func (.func 270) #[] #[]))) (hH0:aQ hsl i0 = some (flat cJ xs)) (hmc:MC Tryz.prog 269 [.own 0 0 m 2,.v (.func (.func 270) #[] #[])] [(0,some (flat cJ xs))] 1 (fun _:Unit => True) (fun _ => .own 0 0 (shr xs).length 2) (fun _ => [(0,some (flat cJ (shr xs)))])) (hM:Nat.ble (nidl + 0) aT = true) (hN:Nat.blt d N = true){md':Md}[hmd:MdA md (fJ [x0,x1] ++ [.inr i0]) (List.map Sum.inr (List.map Prod.fst ([(i0,some (flat cJ (shr xs)))]:List (Nat × Option (List AV)))) ++ [.inl d]) md'] (kk:RW Tryz.prog N all Q md' rest ⟨(d,.own i0 0 (shr xs).length 2) :: tsl,iA hsl [(i0,some (flat cJ (shr xs)))],nidl + 0,z0⟩):RW Tryz.prog N all Q md (⟨some d,.call ⟨.value (.func 269),#[x0,x1],tys⟩,ty,pos,af,none⟩ :: rest) ⟨tsl,hsl,nidl,z0⟩:=by
 exact a6 (l := [x0,x1]) [i0] 1 [(i0,some (flat cJ (shr xs)))] hmc (avs := [.own i0 0 m 2,.v (.func (.func 270) #[] #[])]) (by simp only [evL,ha0,ha1]) rfl hM hN (md' := md') (hmd := hmd) kk
theorem NT (xs:List Tg) (m:Nat) (hm:m = xs.length) (hl:m ≤ 1000000):MC Tryz.prog 269 [.own 0 0 m 2,.v (.func (.func 270) #[] #[])] [(0,some (flat cJ xs))] 1 (fun _:Unit => True) (fun _ => .own 0 0 (shr xs).length 2) (fun _ => [(0,some (flat cJ (shr xs)))]):=by
 subst hm
 have hix := J5 xs hl
 have hbd := LC xs
 by_cases hn : rR xs = -1
 ·rw [hn] at hix
  have hs := EV hn
  refine aU Tryz.func269 Tryz.ntmps269 ?_
  repeat' (first|(apply aF;(apply pA (k := 267);(case ha => rfl);(case hl => (repeat' (first|exact mM|apply k8|exact zC|exact mY rfl inferInstance)));(case h => exact hix);(case hfr|hN => rfl);(case hmd => infer_instance)))|refine aE ?_|fail)
  all_goals (
   (refine aD rfl ?_; refine aS () trivial ?_ ⟨sE ?_,trivial⟩)
   ·rw [hs]; rfl
   ·rw [hs])
 ·obtain ⟨i0, hi0⟩ := Int.eq_ofNat_of_zero_le (show 0 ≤ rR xs by omega)
  obtain ⟨g1,g2,g3⟩ := F8 hi0
  rw [hi0] at hix
  refine aU Tryz.func269 Tryz.ntmps269 ?_
  repeat' (first|(apply aF;(apply pA (k := 267);(case ha => rfl);(case hl => (repeat' (first|exact mM|apply k8|exact zC|exact mY rfl inferInstance)));(case h => exact hix);(case hfr|hN => rfl);(case hmd => infer_instance)))|refine aE ?_|fail)
  all_goals (try (exfalso;omega))
  refine aH (σ := List Tg × Nat × Nat) [0,1] [] (fun s => [(5,iv (s.2.1 : Int)),(6,iv (s.2.2 : Int))]) (fun s => [(0,some (flat cJ s.1))]) (fun s => s.1.length = xs.length ∧ s.1.take s.2.1 = shr (xs.take s.2.2) ∧ s.1.drop s.2.2 = xs.drop s.2.2 ∧ s.2.1 < s.2.2 ∧ s.2.2 ≤ xs.length) (fun s => xs.length - s.2.2) (xs,i0,i0 + 1) ⟨rfl,g3.symm,rfl,by dsimp only;omega,by dsimp only;omega⟩ ?_
  rintro ⟨L,i,j⟩ ⟨hL,ht,hd,hij,hj⟩
  dsimp only at hL ht hd hij hj ⊢
  by_cases hjn : j < xs.length
  ·have hcl := AH L[j]!
   have hg := GG hd hL hjn
   repeat' (first|(apply aF;first|(apply bB;rfl;rfl;rfl;rfl;rfl;(case hl => (first|(rw [aI]; simp only [gD] <;> omega)|(simp;done)));(exact O9 (by (first|assumption|omega))))|(apply gI;rfl;rfl;infer_instance;rfl;(apply hcl);(rfl);rfl))|refine aE ?_|(refine aK ?_ ?_ <;> intro hc hq <;> try (exfalso;omega))|fail)
   ·have hu : L[j]!.uq = false := by assumption
    (refine bC (_,i + 1,j + 1) (Le.renA []) ?_ ?_)
    ·refine ⟨by dsimp only; rw [List.length_set]; exact hL, ?_, ?_, by dsimp only; omega, by dsimp only; omega⟩
     ·dsimp only
      rw [H9 (by omega),ht,Ky hjn (by rw [← hg]; exact hu),hg]
     ·dsimp only
      rw [List.drop_set_of_lt (by omega)]
      exact tQ hd
    ·dsimp only;omega
   ·have hu : L[j]!.uq = true := by assumption
    (refine bC (L,i,j + 1) (Le.renA []) ?_ ?_)
    ·refine ⟨hL, ?_, tQ hd, by dsimp only; omega, by dsimp only; omega⟩
     dsimp only
     rw [ht,Ix hjn (by rw [← hg]; exact hu)]
    ·dsimp only;omega
  ·have hfl : (flat cJ L).length = L.length * 2 := aI cJ L
   repeat' (first|(apply aF;first|(apply jK (d := 38) (l := i) (h := xs.length);rfl;rfl;exact qH rfl (by omega);rfl;exact if_pos (by omega);rfl)|(apply jK (d := 41) (l := 0) (h := i);rfl;rfl;rfl;exact qH rfl (by omega);exact if_pos (by omega);rfl)|(apply GC;rfl;rfl;omega;rfl;(rw [hfl]; omega);rfl))|refine aE ?_|(refine aK ?_ ?_ <;> intro hc hq <;> try (exfalso;omega))|fail)
   refine aV (Le.cut (i := 0) (i * 2) rfl) ?_
   have hje : j = xs.length := by omega
   have hLt : L.take i = shr xs := by rw [ht,hje,List.take_length]
   have hil : (shr xs).length = i := by rw [← hLt,List.length_take]; omega
   (refine aD rfl ?_; refine aS () trivial ?_ ⟨sE ?_,trivial⟩)
   ·show AV.own 0 (0 + 0 * 2) (i - 0) 2 = _
    rw [hil]; rfl
   ·rw [HO (by omega),eR cJ (e := 2),hLt]
theorem g0 {m:List Cl}{x0:Operand}(ha0:ev (lk tsl) x0 = some (sl bJ m)) (hmc:MC Tryz.prog 241 [sl bJ m] [] 0 (fun _:Unit => True) (fun _ => .own 1 0 m.length 4) (fun _ => [(1,some (flat bJ m))])) (hM:Nat.ble (nidl + 2) aT = true) (hN:Nat.blt d N = true){md':Md}[hmd:MdA md (fJ [x0] ++ []) (List.map Sum.inr (List.map Prod.fst ([((nidl + 1),some (flat bJ m))]:List (Nat × Option (List AV)))) ++ [.inl d]) md'] (kk:RW Tryz.prog N all Q md' rest ⟨(d,.own (nidl + 1) 0 m.length 4) :: tsl,iA hsl [((nidl + 1),some (flat bJ m))],nidl + 2,z0⟩):RW Tryz.prog N all Q md (⟨some d,.call ⟨.value (.func 241),#[x0],tys⟩,ty,pos,af,none⟩ :: rest) ⟨tsl,hsl,nidl,z0⟩:=by
 exact a6 (l := [x0]) [] 2 [((nidl + 1),some (flat bJ m))] hmc (avs := [sl bJ m]) (by simp only [evL,ha0]) rfl hM hN (md' := md') (hmd := hmd) kk
theorem oY {m:List Cl}{j:Nat}{x0:Operand}(ha0:ev (lk tsl) x0 = some (sl bJ m)) (hmc:MC Tryz.prog 241 [sl bJ m] [] 0 (fun _:Unit => True) (fun _ => .own 1 0 m.length 4) (fun _ => [(1,some (flat eX (dB m j (.own 2 0 m[j]!.stk.length 2)))),(2,some (flat cJ m[j]!.stk))])) (hM:Nat.ble (nidl + 3) aT = true) (hN:Nat.blt d N = true){md':Md}[hmd:MdA md (fJ [x0] ++ []) (List.map Sum.inr (List.map Prod.fst ([((nidl + 1),some (flat eX (dB m j (.own (nidl + 2) 0 m[j]!.stk.length 2)))),((nidl + 2),some (flat cJ m[j]!.stk))]:List (Nat × Option (List AV)))) ++ [.inl d]) md'] (kk:RW Tryz.prog N all Q md' rest ⟨(d,.own (nidl + 1) 0 m.length 4) :: tsl,iA hsl [((nidl + 1),some (flat eX (dB m j (.own (nidl + 2) 0 m[j]!.stk.length 2)))),((nidl + 2),some (flat cJ m[j]!.stk))],nidl + 3,z0⟩):RW Tryz.prog N all Q md (⟨some d,.call ⟨.value (.func 241),#[x0],tys⟩,ty,pos,af,none⟩ :: rest) ⟨tsl,hsl,nidl,z0⟩:=by
 exact a6 (l := [x0]) [] 3 [((nidl + 1),some (flat eX (dB m j (.own (nidl + 2) 0 m[j]!.stk.length 2)))),((nidl + 2),some (flat cJ m[j]!.stk))] hmc (avs := [sl bJ m]) (by simp only [evL,ha0]) rfl hM hN (md' := md') (hmd := hmd) kk
theorem mG {α:Type}[Inhabited α] (l:List α) (k:Nat):l.set k l[k]! = l:=by
 rcases Nat.lt_or_ge k l.length with h|h
 ·rw [a7 _ _ h]; simp
 ·exact List.set_eq_of_length_le h
theorem El {m:List Cl}{i:Nat}(hi:i < m.length):iB (flat bJ m) (0 + i * 4 + 3) [sl cJ m[i]!.stk] = flat bJ m:=by
 have h := Ca (xs := m) (k := i) (s := m[i]!.stk) hi
 rw [show m.set i { m[i]! with stk := m[i]!.stk } = m from mG m i] at h
 exact h
theorem CY {m:List Cl}{i j:Nat}{X:AV}(hi:i < m.length) (h:i ≠ j):(dB m j X)[i]! = rS m[i]!:=by
 unfold dB
 rw [a7 _ _ (by rw [List.length_set,List.length_map]; exact hi),List.getElem_set_ne (fun e => h e.symm),List.getElem_map,a7 _ _ hi]
theorem JG {m:List Cl}{i j:Nat}{X:AV}(h:i < m.length ∧ i ≠ j):iB (flat eX (dB m j X)) (0 + i * 4 + 3) [sl cJ m[i]!.stk] = flat eX (dB m j X):=by
 have hl := c6 (m := m) (j := j) (X := X)
 have e : (dB m j X).set i { (dB m j X)[i]! with av := sl cJ m[i]!.stk } = dB m j X := by
  rw [CY h.1 h.2]
  have : ({ rS m[i]! with av := sl cJ m[i]!.stk } : Co) = (dB m j X)[i]! := by rw [CY h.1 h.2]; rfl
  rw [this]; exact mG _ _
 rw [← e]
 have := gF (f := eX) (xs := dB m j X) (k := i) (j := 3) (new := [sl cJ m[i]!.stk]) (y := { (dB m j X)[i]! with av := sl cJ m[i]!.stk }) (by rw [hl]; exact h.1) (by simp) rfl
 rw [e] at this ⊢
 exact this
theorem oS {mp:List (Nat × Nat)}{lo:Lo}:∀ {cs:List AV},bK cs = true → All2 (FQ mp lo) cs cs
 | [],_ => .nil
 | c :: cs, h => by
  simp only [bK,Bool.and_eq_true] at h
  exact .cons (.inl ⟨rfl,h.1⟩) (oS h.2)
theorem uI {α β:Type}{R:α → β → Prop}:∀ {a:List α}{b:List β}{c:List α}{d:List β},All2 R a b → All2 R c d → All2 R (a ++ c) (b ++ d)
 | _,_,_,_,.nil,h => h
 | _,_,_,_,.cons h1 h2,h => .cons h1 (uI h2 h)
theorem Dx {mp:List (Nat × Nat)}{lo:Lo}{m:List Cl}{j k i i':Nat}(h:j < m.length) (hr:MZ mp lo (.own i 0 k 2) = some (.own i' 0 k 2)):All2 (FQ mp lo) (flat eX (dB m j (.own i 0 k 2))) (flat eX (dB m j (.own i' 0 k 2))):=by
 rw [jE h,jE h]
 exact uI (oS (inferInstance : Pur (flat bJ _)).pf) (uI (oS (inferInstance : Pur [iv _,bv _,iv _]).pf) (.cons (.inr hr) (oS (inferInstance : Pur (flat bJ _)).pf)))
theorem j5 (m:List Cl) (hm:OkM m):MC Tryz.prog 241 [sl bJ m] [] 0 (fun _:Unit => True) (fun _ => .own 1 0 m.length 4) (fun _ => [(1,some (flat bJ m))]):=by
 have hml := hm.l
 have hcc := Bc m (by omega)
 refine aU Tryz.func241 Tryz.ntmps241 ?_
 repeat' (first|(apply aF;(apply xO;rfl;exact hcc;rfl;rfl))|refine aE ?_|fail)
 refine aH (σ := Nat) [3,8,9] [] (fun k => [(10,iv (k : Int))]) (fun k => [(1,some (flat bJ m))]) (fun k => k ≤ m.length) (fun k => m.length - k) (0) (Nat.zero_le _) ?_
 rintro i hi
 by_cases hin : i < m.length
 ·have hst : m[i]!.stk.length ≤ 200 := (((cZ m).1 hm).2 i hin).l.2
  have hct := BJ m[i]!.stk (by omega)
  repeat' (first|(apply aF;first|(apply qU;rfl;exact hct;rfl;rfl)|(with_reducible apply aW (d := 20)))|refine aE ?_|(refine aK ?_ ?_ <;> intro hc hq <;> try (exfalso;omega))|fail)
  refine b0 (c8 ?_ (Le.frzD (d := 19) (i := 4) rfl rfl))
  repeat' (first|(apply aF;(apply bB;rfl;rfl;rfl;rfl;rfl;(rw [aI]; simp only [gD] <;> omega);(exact El (by (assumption)))))|refine aE ?_|fail)
  (apply bC (i + 1);focus (refine Le.ren [(1,1)] rfl (by decide) ?_ ?_ <;> repeat' (first|exact trivial|refine And.intro ⟨_,rfl,?_⟩ ?_|refine And.intro ⟨_,_,rfl,rfl,?_⟩ ?_|exact Or.inr rfl|refine Or.inl ⟨?_,(by first|rfl|exact a8 _ _)⟩|rfl)))
  ·omega
  ·omega
 ·repeat' (first | refine aE ?_ | (refine aK ?_ ?_ <;> intro hc hq <;> try (exfalso; omega))|fail)
  (refine aD rfl ?_; refine aS () trivial ?_ ⟨sE ?_,trivial⟩)
  ·rfl
  ·rfl
theorem tS (m:List Cl) (j:Nat) (hm:OkM m) (hj:j < m.length):MC Tryz.prog 241 [sl bJ m] [] 0 (fun _:Unit => True) (fun _ => .own 1 0 m.length 4) (fun _ => [(1,some (flat eX (dB m j (.own 2 0 m[j]!.stk.length 2)))),(2,some (flat cJ m[j]!.stk))]):=by
 have hml := hm.l
 have hcc := Bc m (by omega)
 refine aU Tryz.func241 Tryz.ntmps241 ?_
 repeat' (first|(apply aF;(apply xO;rfl;exact hcc;rfl;rfl))|refine aE ?_|fail)
 refine AW.le ?_ (Le.bump 1)
 refine aH (σ := Nat × Bool) [3,8,9] [] (fun k => [(10,iv (k.1 : Int))]) (fun k => [(1,some (cond k.2 (flat eX (dB m j (.own 2 0 m[j]!.stk.length 2))) (flat bJ m))),(2,cond k.2 (some (flat cJ m[j]!.stk)) none)]) (fun k => k.1 ≤ m.length ∧ k.2 = decide (j < k.1)) (fun k => m.length - k.1) (0,false) ⟨Nat.zero_le _,by simp⟩ ?_
 rintro ⟨i,b⟩ ⟨hi,hb⟩
 dsimp only at hi hb ⊢
 by_cases hin : i < m.length
 ·have hst : m[i]!.stk.length ≤ 200 := (((cZ m).1 hm).2 i hin).l.2
  have hct := BJ m[i]!.stk (by omega)
  by_cases hij : j < i
  ·rw [decide_eq_true hij] at hb; subst hb
   simp only [cond_true]
   have hol := c6 (m := m) (j := j) (X := .own 2 0 m[j]!.stk.length 2)
   have hon := CY (m := m) (i := i) (j := j) (X := .own 2 0 m[j]!.stk.length 2) hin (by omega)
   repeat' (first|(apply aF;(with_reducible apply aW (d := 5)))|refine aE ?_|(refine aK ?_ ?_ <;> intro hc hq <;> try (exfalso;omega))|fail)
   refine b0 ?_
   rw [hon]
   dsimp only [rS]
   repeat' (first|(apply aF;first|(apply qU;rfl;exact hct;rfl;rfl)|(with_reducible apply aW (d := 20)))|refine aE ?_|fail)
   refine b0 (c8 ?_ (Le.frzD (d := 19) (i := 5) rfl rfl))
   repeat' (first|(apply aF;(apply bB;rfl;rfl;rfl;rfl;rfl;(rw [aI]; simp only [gD] <;> omega);(exact JG (by (omega)))))|refine aE ?_|fail)
   (apply bC (i + 1,true);focus (refine Le.ren [(1,1),(2,2)] rfl (by decide) ?_ ?_ <;> repeat' (first|exact trivial|refine And.intro ⟨_,rfl,?_⟩ ?_|refine And.intro ⟨_,_,rfl,rfl,?_⟩ ?_|exact Or.inr rfl|refine Or.inl ⟨?_,(by first|rfl|exact a8 _ _)⟩|rfl)))
   ·exact Or.inr (Dx hj rfl)
   ·exact ⟨by dsimp only;omega,by dsimp only;rw [decide_eq_true (by omega)]⟩
   ·dsimp only;omega
  ·rw [decide_eq_false hij] at hb; subst hb
   simp only [cond_false]
   repeat' (first|(apply aF;first|(apply qU;rfl;exact hct;rfl;rfl)|(with_reducible apply aW (d := 20)))|refine aE ?_|(refine aK ?_ ?_ <;> intro hc hq <;> try (exfalso;omega))|fail)
   by_cases hie : i = j
   ·subst hie
    refine b0 ?_
    repeat' (first|(apply aF;(apply bB;rfl;rfl;rfl;rfl;rfl;(rw [aI]; simp only [gD] <;> omega);(exact yI (by (assumption)))))|refine aE ?_|fail)
    (apply bC (i + 1,true);focus (refine Le.ren [(1,1),(2,5)] rfl (by decide) ?_ ?_ <;> repeat' (first|exact trivial|refine And.intro ⟨_,rfl,?_⟩ ?_|refine And.intro ⟨_,_,rfl,rfl,?_⟩ ?_|exact Or.inr rfl|refine Or.inl ⟨?_,(by first|rfl|exact a8 _ _)⟩|rfl)))
    ·exact Or.inr (Dx hin rfl)
    ·exact ⟨by dsimp only;omega,by dsimp only;rw [decide_eq_true (by omega)]⟩
    ·dsimp only;omega
   ·refine b0 (c8 ?_ (Le.frzD (d := 19) (i := 5) rfl rfl))
    repeat' (first|(apply aF;(apply bB;rfl;rfl;rfl;rfl;rfl;(rw [aI]; simp only [gD] <;> omega);(exact El (by (assumption)))))|refine aE ?_|fail)
    (apply bC (i + 1,false);focus (refine Le.ren [(1,1)] rfl (by decide) ?_ ?_ <;> repeat' (first|exact trivial|refine And.intro ⟨_,rfl,?_⟩ ?_|refine And.intro ⟨_,_,rfl,rfl,?_⟩ ?_|exact Or.inr rfl|refine Or.inl ⟨?_,(by first|rfl|exact a8 _ _)⟩|rfl)))
    ·exact ⟨by dsimp only;omega,by dsimp only;rw [decide_eq_false (by omega)]⟩
    ·dsimp only;omega
 ·rw [decide_eq_true (by omega)] at hb; subst hb
  simp only [cond_true]
  repeat' (first|refine aE ?_|(refine aK ?_ ?_ <;> intro hc hq <;> try (exfalso;omega))|fail)
  (refine aD rfl ?_; refine aS () trivial ?_ ⟨sE ?_,⟨sE ?_,trivial⟩⟩)
  ·rfl
  ·rfl
  ·rfl
theorem mP {m:List Cl}{x:Pt}{wr:Bool}{n:Nat}{x0 x1 x2:Operand}{i0:Nat}(ha0:ev (lk tsl) x0 = some (.own i0 0 n 4)) (ha1:ev (lk tsl) x1 = some (mW x)) (ha2:ev (lk tsl) x2 = some (bv wr)) (hH0:aQ hsl i0 = some (flat bJ m)) (hmc:MC Tryz.prog 242 [.own 0 0 n 4,mW x,bv wr] [(0,some (flat bJ m))] 1 (fun _:Unit => True) (fun _ => iv (aY m x wr)) (fun _ => [(0,some (flat bJ m))])) (hM:Nat.ble (nidl + 0) aT = true) (hN:Nat.blt d N = true){md':Md}[hmd:MdA md (fJ [x0,x1,x2] ++ [.inr i0]) (List.map Sum.inr (List.map Prod.fst ([(i0,some (flat bJ m))]:List (Nat × Option (List AV)))) ++ [.inl d]) md'] (kk:RW Tryz.prog N all Q md' rest ⟨(d,iv (aY m x wr)) :: tsl,iA hsl [(i0,some (flat bJ m))],nidl + 0,z0⟩):RW Tryz.prog N all Q md (⟨some d,.call ⟨.value (.func 242),#[x0,x1,x2],tys⟩,ty,pos,af,none⟩ :: rest) ⟨tsl,hsl,nidl,z0⟩:=by
 exact a6 (l := [x0,x1,x2]) [i0] 1 [(i0,some (flat bJ m))] hmc (avs := [.own i0 0 n 4,mW x,bv wr]) (by simp only [evL,ha0,ha1,ha2]) rfl hM hN (md' := md') (hmd := hmd) kk
theorem wL {m:List Cl}{j:Nat}{t:Int}{k n:Nat}{x0 x1 x2:Operand}{i0 i1:Nat}(ha0:ev (lk tsl) x0 = some (.own i0 0 n 4)) (ha1:ev (lk tsl) x1 = some (.agg [iv (j:Int),iv t])) (ha2:ev (lk tsl) x2 = some (bv true)) (hH0:aQ hsl i0 = some (flat eX (dB m j (.own i1 0 m[j]!.stk.length 2)))) (hH1:aQ hsl i1 = some (flat cJ m[j]!.stk)) (hdd:Go.AL.distinct [i0,i1] = true) (hmc:MC Tryz.prog 242 [.own 0 0 n 4,.agg [iv (j:Int),iv t],bv true] [(0,some (flat eX (dB m j (.own 1 0 m[j]!.stk.length 2)))),(1,some (flat cJ m[j]!.stk))] 2 (fun _:Unit => True) (fun _ => iv 0) (fun _ => [(0,some (flat eX (dB m j (.own 1 0 (k + 1) 2)))),(1,some (flat cJ (m[j]!.stk.take (k + 1))))])) (hM:Nat.ble (nidl + 0) aT = true) (hN:Nat.blt d N = true){md':Md}[hmd:MdA md (fJ [x0,x1,x2] ++ [.inr i0,.inr i1]) (List.map Sum.inr (List.map Prod.fst ([(i0,some (flat eX (dB m j (.own i1 0 (k + 1) 2)))),(i1,some (flat cJ (m[j]!.stk.take (k + 1))))]:List (Nat × Option (List AV)))) ++ [.inl d]) md'] (kk:RW Tryz.prog N all Q md' rest ⟨(d,iv 0) :: tsl,iA hsl [(i0,some (flat eX (dB m j (.own i1 0 (k + 1) 2)))),(i1,some (flat cJ (m[j]!.stk.take (k + 1))))],nidl + 0,z0⟩):RW Tryz.prog N all Q md (⟨some d,.call ⟨.value (.func 242),#[x0,x1,x2],tys⟩,ty,pos,af,none⟩ :: rest) ⟨tsl,hsl,nidl,z0⟩:=by
 exact a6 (l := [x0,x1,x2]) [i0,i1] 2 [(i0,some (flat eX (dB m j (.own i1 0 (k + 1) 2)))),(i1,some (flat cJ (m[j]!.stk.take (k + 1))))] hmc (avs := [.own i0 0 n 4,.agg [iv (j : Int),iv t],bv true]) (by simp only [evL,ha0,ha1,ha2]) hdd hM hN (md' := md') (hmd := hmd) kk
theorem LdL.app {D:List Nat}{H:Nat → Option (List AV)}:∀ {a b c d:List AV},LdL D H a b → LdL D H c d → bK a = true → LdL D H (a ++ c) (a ++ d)
 | [],_,_,_,_,h,_ => h
 | x :: a, b, c, d, h1, h, hp => by
  simp only [bK,Bool.and_eq_true] at hp
  exact .cons (.pur hp.1) (LdL.app (a := a) (b := a) (.pur hp.2) h hp.2)
theorem Nw {D:List Nat}{H:Nat → Option (List AV)}{m:List Cl}{j i k:Nat}{r:List Tg}(hi:i ∈ D) (hH:H i = some (flat cJ r)) (hk:k = r.length) (hj:j < m.length):LdL D H (flat eX (dB m j (.own i 0 k 2))) (flat bJ (m.set j { m[j]! with stk := r })):=by
 subst hk
 rw [← Bb,jE hj,jE hj]
 have p1 : bK (flat bJ (m.take j)) = true := (inferInstance : Pur (flat bJ _)).pf
 have p2 : bK [iv m[j]!.val,bv m[j]!.alive,iv m[j]!.next] = true := rfl
 exact LdL.app (.pur p1) (LdL.app (.pur p2) (.cons (.own hi hH (.pur (inferInstance : Pur (flat cJ r)).pf)) (.pur (inferInstance : Pur (flat bJ _)).pf)) p2) p1
theorem Ec {D:List Nat}{H:Nat → Option (List AV)}{m:List Cl}{j i:Nat}(hi:i ∈ D) (hH:H i = some (flat cJ m[j]!.stk)) (hj:j < m.length):LdL D H (flat eX (dB m j (.own i 0 m[j]!.stk.length 2))) (flat bJ m):=by
 have h := Nw (m := m) (r := m[j]!.stk) hi hH rfl hj
 rwa [show m.set j { m[j]! with stk := m[j]!.stk } = m from mG m j] at h
theorem MF {m:List Cl}{x:Pt}{wr:Bool}(h:0 ≤ x.cell) (h2:x.cell < m.length) (h3:m[x.cell.toNat]!.alive = true) (h4:0 ≤ bZ m[x.cell.toNat]!.stk x.tag) (hw:wr = true) (h5:m[x.cell.toNat]!.stk[(bZ m[x.cell.toNat]!.stk x.tag).toNat]!.uq = false):aY m x wr = 3:=by
 unfold aY;rw [if_neg (by omega),if_neg (by rw [h3]; decide),if_neg (by omega),if_pos ⟨hw,h5⟩]
theorem pT (m:List Cl) (x:Pt) (wr:Bool) (n:Nat) (hm:OkM m) (hn:n = m.length) (hk:aY m x wr ≠ 0):MC Tryz.prog 242 [.own 0 0 n 4,mW x,bv wr] [(0,some (flat bJ m))] 1 (fun _:Unit => True) (fun _ => iv (aY m x wr)) (fun _ => [(0,some (flat bJ m))]):=by
 subst hn
 have hml := hm.l
 have hcv := gZ m hm
 have hst : 0 ≤ x.cell → x.cell < m.length → m[x.cell.toNat]!.stk.length ≤ 200 := fun h1 h2 => (((cZ m).1 hm).2 x.cell.toNat (by omega)).l.2
 have hbd := dW m[x.cell.toNat]!.stk x.tag
 have hidx := fun h => zE m[x.cell.toNat]!.stk x.cell x.tag h
 refine aU Tryz.func242 Tryz.ntmps242 ?_
 repeat' (first|(apply aF;first|(apply pA (k := 239);(case ha => rfl);(case hl => (repeat' (first|exact mM|apply k8|exact mY rfl inferInstance)));(case h => exact hcv);(case hfr|hN => rfl);(case hmd => infer_instance))|((apply fM 4);(case hx|hH|hc|hN => rfl))|(apply aA (k := 267);rfl;(exact (hidx (by have := hst (by omega) (by omega);omega)));exact Pur.pf;rfl)|(with_reducible apply aW (d := 75))|(apply aA (k := 54);rfl;(apply dG);(rfl);rfl))|refine aE ?_|(refine aK ?_ ?_ <;> intro hc hq <;> try (exfalso;omega))|(refine bW ?_ ?_ <;> intro hg hq <;> try (exfalso;omega))|fail)
 ·(refine aD rfl ?_; refine aS () trivial ?_ ⟨sE ?_, trivial⟩)
  ·rw [Cg (by omega)]; rfl
  ·rfl
 ·(refine aD rfl ?_; refine aS () trivial ?_ ⟨sE ?_, trivial⟩)
  ·rw [Gn (by omega) (by omega) (by assumption)]; rfl
  ·rfl
 ·(refine aD rfl ?_; refine aS () trivial ?_ ⟨sE ?_, trivial⟩)
  ·rw [HU (by omega) (by omega) (by assumption) (by assumption)]; rfl
  ·rfl
 ·(refine aD rfl ?_; refine aS () trivial ?_ ⟨sE ?_, trivial⟩)
  ·rw [MF (by omega) (by omega) (by assumption) (by assumption) (by assumption) (by assumption)]; rfl
  ·rfl
 ·exfalso
  have hw : wr = true := by assumption
  have hu : m[x.cell.toNat]!.stk[(bZ m[x.cell.toNat]!.stk x.tag).toNat]!.uq = true := by assumption
  subst hw
  refine hk ?_
  rw [zK,if_pos (sU (by omega) (by omega) (by assumption) (by assumption)),if_neg (by rw [hu]; decide)]
 ·exfalso
  have hw : wr = false := by assumption
  subst hw
  exact hk (sU (by omega) (by omega) (by assumption) (by assumption))
theorem uK (m:List Cl) (j:Nat) (t:Int) (k n:Nat) (hm:OkM m) (hn:n = m.length) (hj:j < m.length) (hk:bZ m[j]!.stk t = (k:Int)) (hal:m[j]!.alive = true) (hu:m[j]!.stk[k]!.uq = true):MC Tryz.prog 242 [.own 0 0 n 4,.agg [iv (j:Int),iv t],bv true] [(0,some (flat eX (dB m j (.own 1 0 m[j]!.stk.length 2)))),(1,some (flat cJ m[j]!.stk))] 2 (fun _:Unit => True) (fun _ => iv 0) (fun _ => [(0,some (flat eX (dB m j (.own 1 0 (k + 1) 2)))),(1,some (flat cJ (m[j]!.stk.take (k + 1))))]):=by
 subst hn
 have hml := hm.l
 have hcv := gZ m hm
 have hst : m[j]!.stk.length ≤ 200 := (((cZ m).1 hm).2 j hj).l.2
 have hbd := dW m[j]!.stk t
 rw [hk] at hbd
 have hidx := zE m[j]!.stk (j : Int) t (by omega)
 rw [hk] at hidx
 have hog := gY (m := m) (j := j) (X := .own 1 0 m[j]!.stk.length 2) hj
 have hol := c6 (m := m) (j := j) (X := .own 1 0 m[j]!.stk.length 2)
 refine aU Tryz.func242 Tryz.ntmps242 ?_
 repeat' (first|(apply aF;first|(apply mE (k := 239) (D := [0,1]) (h := hcv);rfl;exact .cons (.own (by simp) rfl (Ec (by simp) rfl hj)) .nil;rfl;rfl)|(with_reducible apply aW (d := 35))|(apply aA (k := 54);rfl;(apply dG);(rfl);rfl))|refine aE ?_|(refine aK ?_ ?_ <;> intro hc hq <;> try (exfalso;omega))|fail)
 all_goals (try (exfalso;omega))
 ·exfalso
  have h : (dB m j (.own 1 0 m[j]!.stk.length 2))[j]!.alive = false := by assumption
  rw [hog] at h;simp only [hal] at h;cases h
 refine b0 ?_
 rw [hog]
 dsimp only
 repeat' (first|(apply aF;first|((apply fM 4);(case hx|hH|hc|hN => rfl))|(apply mE (k := 267) (D := [1]) (h := hidx);rfl;exact .cons (.own (by simp) rfl (.pur (inferInstance : Pur (flat cJ _)).pf)) (.cons (.pur rfl) .nil);rfl;rfl)|(with_reducible apply aW (d := 68)))|refine aE ?_|fail)
 refine b0 ?_
 rw [hog]
 dsimp only
 repeat' (first|(apply aF;(with_reducible apply aW (d := 81)))|refine aE ?_|(refine aK ?_ ?_ <;> intro hc hq <;> try (exfalso;omega))|fail)
 ·exfalso
  have h : m[j]!.stk[k]!.uq = false := by assumption
  rw [hu] at h;cases h
 refine b0 ?_
 rw [hog]
 dsimp only
 repeat' (first|(apply aF;first|(apply jK (d := 83) (l := 0) (h := k + 1);rfl;rfl;rfl;exact qH rfl (by omega);exact if_pos (by omega);rfl)|(apply bB;rfl;rfl;rfl;rfl;rfl;(rw [aI]; simp only [gD] <;> omega);(exact tH (by (assumption)))))|refine aE ?_|fail)
 refine aV (Le.cut (i := 1) ((k + 1) * 2) rfl) ?_
 (refine aD rfl ?_; refine aS () trivial ?_ ⟨sE ?_,⟨sE ?_,trivial⟩⟩)
 ·rfl
 ·rfl
 ·rw [eR cJ (e := 2)]
theorem F3 {xs:List Tg}{k n:Nat}{x0:Operand}{i0:Nat}(ha0:ev (lk tsl) x0 = some (.own i0 (0 + k * 2) n 2)) (hH0:aQ hsl i0 = some (flat cJ xs)) (hmc:MC Tryz.prog 266 [.own 0 (0 + k * 2) n 2] [(0,some (flat cJ xs))] 1 (fun _:Unit => True) (fun _ => .own 2 0 n 2) (fun _ => [(0,some (flat cJ xs)),(2,some (flat cJ (xs.drop k)))])) (hM:Nat.ble (nidl + 2) aT = true) (hN:Nat.blt d N = true){md':Md}[hmd:MdA md (fJ [x0] ++ [.inr i0]) (List.map Sum.inr (List.map Prod.fst ([(i0,some (flat cJ xs)),((nidl + 1),some (flat cJ (xs.drop k)))]:List (Nat × Option (List AV)))) ++ [.inl d]) md'] (kk:RW Tryz.prog N all Q md' rest ⟨(d,.own (nidl + 1) 0 n 2) :: tsl,iA hsl [(i0,some (flat cJ xs)),((nidl + 1),some (flat cJ (xs.drop k)))],nidl + 2,z0⟩):RW Tryz.prog N all Q md (⟨some d,.call ⟨.value (.func 266),#[x0],tys⟩,ty,pos,af,none⟩ :: rest) ⟨tsl,hsl,nidl,z0⟩:=by
 exact a6 (l := [x0]) [i0] 3 [(i0,some (flat cJ xs)),((nidl + 1),some (flat cJ (xs.drop k)))] hmc (avs := [.own i0 (0 + k * 2) n 2]) (by simp only [evL,ha0]) rfl hM hN (md' := md') (hmd := hmd) kk
theorem IX (xs:List Tg) (k n:Nat) (hn:n = xs.length - k) (hl:xs.length ≤ 1000000):MC Tryz.prog 266 [.own 0 (0 + k * 2) n 2] [(0,some (flat cJ xs))] 1 (fun _:Unit => True) (fun _ => .own 2 0 n 2) (fun _ => [(0,some (flat cJ xs)),(2,some (flat cJ (xs.drop k)))]):=by
 subst hn
 refine aU Tryz.func266 Tryz.ntmps266 ?_
 repeat' (first|(apply aF;first|(apply Fi;rfl;rfl;(intro b hb))|(apply bU;rfl;rfl;rfl;rfl;rfl;(decide);exact D3 rfl rfl;omega;omega;(exact pN rfl);rfl;rfl))|refine aE ?_|(refine aK ?_ ?_ <;> intro hc hq <;> try (exfalso;omega))|fail)
 ·have h0 : xs.length - k = 0 := hb (by assumption)
  have h1 : xs.drop k = [] := List.drop_eq_nil_of_le (by omega)
  refine aV (Le.bump 1) ?_
  refine aV (Le.nilOwn (d := 2) 2 rfl (by decide)) ?_
  (refine aD rfl ?_; refine aS () trivial ?_ ⟨sE ?_,⟨sE ?_,trivial⟩⟩)
  ·show AV.own 2 0 0 2 = _; rw [h0]
  ·rfl
  ·rw [h1]; rfl
 ·(refine aD rfl ?_; refine aS () trivial ?_ ⟨sE ?_, ⟨sE ?_, trivial⟩⟩)
  ·show AV.own 2 0 (0 + (xs.length - k)) 2 = _
   rw [Nat.zero_add]
  ·rfl
  ·rfl
theorem xK {m:List Cl}{j:Nat}{t:Int}{r:List Tg}{n:Nat}{x0 x1 x2:Operand}{i0 i1:Nat}(ha0:ev (lk tsl) x0 = some (.own i0 0 n 4)) (ha1:ev (lk tsl) x1 = some (.agg [iv (j:Int),iv t])) (ha2:ev (lk tsl) x2 = some (bv false)) (hH0:aQ hsl i0 = some (flat eX (dB m j (.own i1 0 m[j]!.stk.length 2)))) (hH1:aQ hsl i1 = some (flat cJ m[j]!.stk)) (hdd:Go.AL.distinct [i0,i1] = true) (hmc:MC Tryz.prog 242 [.own 0 0 n 4,.agg [iv (j:Int),iv t],bv false] [(0,some (flat eX (dB m j (.own 1 0 m[j]!.stk.length 2)))),(1,some (flat cJ m[j]!.stk))] 2 (fun _:Unit => True) (fun _ => iv 0) (fun _ => [(0,some (flat eX (dB m j (.own 5 0 r.length 2)))),(5,some (flat cJ r))])) (hM:Nat.ble (nidl + 4) aT = true) (hN:Nat.blt d N = true){md':Md}[hmd:MdA md (fJ [x0,x1,x2] ++ [.inr i0,.inr i1]) (List.map Sum.inr (List.map Prod.fst ([(i0,some (flat eX (dB m j (.own (nidl + 3) 0 r.length 2)))),((nidl + 3),some (flat cJ r)),(i1,none)]:List (Nat × Option (List AV)))) ++ [.inl d]) md'] (kk:RW Tryz.prog N all Q md' rest ⟨(d,iv 0) :: tsl,iA hsl [(i0,some (flat eX (dB m j (.own (nidl + 3) 0 r.length 2)))),((nidl + 3),some (flat cJ r)),(i1,none)],nidl + 4,z0⟩):RW Tryz.prog N all Q md (⟨some d,.call ⟨.value (.func 242),#[x0,x1,x2],tys⟩,ty,pos,af,none⟩ :: rest) ⟨tsl,hsl,nidl,z0⟩:=by
 exact a6 (l := [x0,x1,x2]) [i0,i1] 6 [(i0,some (flat eX (dB m j (.own (nidl + 3) 0 r.length 2)))),((nidl + 3),some (flat cJ r)),(i1,none)] hmc (avs := [.own i0 0 n 4,.agg [iv (j : Int),iv t],bv false]) (by simp only [evL,ha0,ha1,ha2]) hdd hM hN (md' := md') (hmd := hmd) kk
theorem Bn (m:List Cl) (j:Nat) (t:Int) (r:List Tg) (k n:Nat) (hm:OkM m) (hn:n = m.length) (hj:j < m.length) (hk:bZ m[j]!.stk t = (k:Int)) (hal:m[j]!.alive = true) (hr:r = eV m[j]!.stk k false):MC Tryz.prog 242 [.own 0 0 n 4,.agg [iv (j:Int),iv t],bv false] [(0,some (flat eX (dB m j (.own 1 0 m[j]!.stk.length 2)))),(1,some (flat cJ m[j]!.stk))] 2 (fun _:Unit => True) (fun _ => iv 0) (fun _ => [(0,some (flat eX (dB m j (.own 5 0 r.length 2)))),(5,some (flat cJ r))]):=by
 subst hn
 have hml := hm.l
 have hcv := gZ m hm
 have hst : m[j]!.stk.length ≤ 200 := (((cZ m).1 hm).2 j hj).l.2
 have hbd := dW m[j]!.stk t
 rw [hk] at hbd
 have hidx := zE m[j]!.stk (j : Int) t (by omega)
 rw [hk] at hidx
 have hog := gY (m := m) (j := j) (X := .own 1 0 m[j]!.stk.length 2) hj
 have hol := c6 (m := m) (j := j) (X := .own 1 0 m[j]!.stk.length 2)
 refine aU Tryz.func242 Tryz.ntmps242 ?_
 repeat' (first|(apply aF;first|(apply mE (k := 239) (D := [0,1]) (h := hcv);rfl;exact .cons (.own (by simp) rfl (Ec (by simp) rfl hj)) .nil;rfl;rfl)|(with_reducible apply aW (d := 35))|(apply aA (k := 54);rfl;(apply dG);(rfl);rfl))|refine aE ?_|(refine aK ?_ ?_ <;> intro hc hq <;> try (exfalso;omega))|fail)
 all_goals (try (exfalso;omega))
 ·exfalso
  have h : (dB m j (.own 1 0 m[j]!.stk.length 2))[j]!.alive = false := by assumption
  rw [hog] at h;simp only [hal] at h;cases h
 refine b0 ?_
 rw [hog]
 dsimp only
 repeat' (first|(apply aF;first|((apply fM 4);(case hx|hH|hc|hN => rfl))|(apply mE (k := 267) (D := [1]) (h := hidx);rfl;exact .cons (.own (by simp) rfl (.pur (inferInstance : Pur (flat cJ _)).pf)) (.cons (.pur rfl) .nil);rfl;rfl)|(with_reducible apply aW (d := 41)))|refine aE ?_|fail)
 refine b0 ?_
 rw [hog]
 dsimp only
 repeat' (first|(apply aF;first|(apply jK (d := 43) (l := k + 1) (h := m[j]!.stk.length);rfl;rfl;exact qH rfl (by omega);rfl;exact if_pos (by omega);rfl)|(apply F3;rfl;rfl;exact IX _ _ _ rfl (by omega);rfl;rfl)|(apply KM;rfl;rfl;rfl;exact NT _ _ (by rw [List.length_drop]) (by omega);rfl;rfl)|(with_reducible apply aW (d := 51)))|refine aE ?_|fail)
 refine b0 ?_
 rw [hog]
 dsimp only
 have hfl : (flat cJ m[j]!.stk).length = m[j]!.stk.length * 2 := aI cJ _
 have hsl : (shr (List.drop (k + 1) m[j]!.stk)).length ≤ 200 := Nat.le_trans (List.length_filter_le _ _) (by rw [List.length_drop]; omega)
 repeat' (first|(apply aF;first|(apply jK (d := 53) (l := 0) (h := k + 1);rfl;rfl;rfl;exact qH rfl (by omega);exact if_pos (by omega);rfl)|(apply bU;rfl;rfl;rfl;rfl;rfl;(rw [hfl]; omega);exact D3 (k := 0) rfl rfl;omega;omega;rfl;rfl;rfl)|(apply bB;rfl;rfl;rfl;rfl;rfl;(rw [aI]; simp only [gD] <;> omega);(exact tH (by (assumption)))))|refine aE ?_|fail)
 have hre : r = m[j]!.stk.take (k + 1) ++ shr (m[j]!.stk.drop (k + 1)) := by rw [hr]; rfl
 have hrl : r.length = k + 1 + (shr (List.drop (k + 1) m[j]!.stk)).length := by rw [hre,List.length_append,List.length_take]; omega
 (refine aD rfl ?_; refine aS () trivial ?_ ⟨sE ?_,⟨sE ?_,trivial⟩⟩)
 ·rfl
 ·refine congrArg some ?_
  show flat eX (dB m j (AV.own 5 0 (k + 1 - 0 + (shr (List.drop (k + 1) m[j]!.stk)).length) 2)) = _
  rw [hrl]; rfl
 ·refine congrArg some ?_
  show (List.drop 0 (flat cJ m[j]!.stk)).take ((k + 1) * 2) ++ flat cJ (List.drop 0 (shr (List.drop (k + 1) m[j]!.stk))) = _
  rw [List.drop_zero,List.drop_zero,eR cJ (e := 2),cX,← hre]
theorem Li {m:List Cl}{j:Nat}{X:AV}{v:Int}(h:j < m.length):iB (flat eX (dB m j X)) (0 + j * 4 + 0) [iv v] = flat eX (dB (m.set j { m[j]! with val := v }) j X):=by
 have e : dB (m.set j { m[j]! with val := v }) j X = (dB m j X).set j ⟨v, m[j]!.alive, m[j]!.next, X⟩ := by
  have e2 : (m.set j { m[j]! with val := v })[j]! = { m[j]! with val := v } := by rw [a7 _ _ (by rw [List.length_set]; exact h),List.getElem_set_self]
  unfold dB
  rw [e2,List.map_set,List.set_set,List.set_set]; rfl
 rw [e]
 exact gF (by rw [c6]; exact h) (by simp) (by rw [gY h]; rfl)
theorem Kk {m:List Cl}{j:Nat}{X:AV}{b:Bool}(h:j < m.length):iB (flat eX (dB m j X)) (0 + j * 4 + 1) [.v (.bool b)] = flat eX (dB (m.set j { m[j]! with alive := b }) j X):=by
 have e : dB (m.set j { m[j]! with alive := b }) j X = (dB m j X).set j ⟨m[j]!.val, b, m[j]!.next, X⟩ := by
  have e2 : (m.set j { m[j]! with alive := b })[j]! = { m[j]! with alive := b } := by rw [a7 _ _ (by rw [List.length_set]; exact h),List.getElem_set_self]
  unfold dB
  rw [e2,List.map_set,List.set_set,List.set_set]; rfl
 rw [e]
 exact gF (by rw [c6]; exact h) (by simp) (by rw [gY h]; rfl)
theorem rH (m:List Cl) (hm:OkM m) (x:Pt):PC Tryz.prog 202 [sl bJ m,mW x] (fun r => r = .tup [sl bJ (cP m x false),iv (nL m x),iv (aY m x false)]):=by
 have hml := hm.l
 by_cases hk : aY m x false = 0
 ·obtain ⟨c, t⟩ := x
  obtain ⟨h1,h2,h3,h4,_⟩ := dP hk
  obtain ⟨j,rfl⟩ := Int.eq_ofNat_of_zero_le (show 0 ≤ c from h1)
  have hj : j < m.length := by have : (j : Int) < m.length := h2;omega
  obtain ⟨k,hkk⟩ := Int.eq_ofNat_of_zero_le (show 0 ≤ bZ m[j]!.stk t from h4)
  obtain ⟨r,hr⟩ : ∃ r,r = eV m[j]!.stk k false := ⟨_,rfl⟩
  have hto := Bn m j t r k m.length hm rfl hj hkk h3 hr
  have hog := gY (m := m) (j := j) (X := .own (0 + 1 + 3 + 3) 0 r.length 2) hj
  have hol := c6 (m := m) (j := j) (X := .own (0 + 1 + 3 + 3) 0 r.length 2)
  refine aC Tryz.func202 Tryz.ntmps202 ?_
  repeat' (first|(apply aF;first|(apply oY (j := j);rfl;exact tS m j hm hj;rfl;rfl)|(apply xK (m := m) (j := j) (t := t) (r := r) (n := m.length);rfl;rfl;rfl;rfl;rfl;rfl;exact hto;rfl;rfl))|refine aE ?_|refine bQ ?_|fail)
  refine aV (Le.cls (o := 2) (q := 7) (j := j) (k := r.length) (m := m) (r := r) rfl rfl rfl hj (by decide)) ?_
  refine aV (Le.frzD (d := 4) (i := 2) rfl rfl) ?_
  rw [hog]
  refine aD (l := [.imm m.length (flat bJ (m.set j { m[j]! with stk := r })),iv m[j]!.val,iv 0]) rfl ?_
  have eM : cP m ⟨j, t⟩ false = m.set j { m[j]! with stk := r } := by
   unfold cP hZ;rw [if_pos hk]; dsimp only
   rw [Int.toNat_natCast,hkk,Int.toNat_natCast,hr]
  have eN : nL m ⟨j,t⟩ = m[j]!.val := by unfold nL;rw [if_pos hk]; rfl
  rw [eM,eN,hk,eT (by rw [List.length_set])]
  exact ⟨rfl,by exact Pur.pf⟩
 ·refine aC Tryz.func202 Tryz.ntmps202 ?_
  repeat' (first|(apply aF;first|(apply g0;rfl;exact j5 m hm;rfl;rfl)|(apply mP (m := m) (x := x) (wr := false) (n := m.length);rfl;rfl;rfl;rfl;exact pT m x false _ hm rfl hk;rfl;rfl))|refine aE ?_|(refine aK ?_ ?_ <;> intro hc hq <;> try (exfalso;omega))|fail)
  (refine aV (Le.frzD (d := 4) (i := 2) rfl rfl) ?_; refine aD rfl ?_)
  refine ⟨?_,by exact Pur.pf⟩
  simp only [aN]
  unfold cP nL;rw [if_neg hk,if_neg hk]
theorem BA (m:List Cl) (hm:OkM m) (x:Pt):PC Tryz.prog 243 [sl bJ m,mW x] (fun r => r = .tup [sl bJ (gO m x),iv (aY m x true)]):=by
 have hml := hm.l
 by_cases hk : aY m x true = 0
 ·obtain ⟨c, t⟩ := x
  obtain ⟨h1,h2,h3,h4,hu⟩ := dP hk
  obtain ⟨j,rfl⟩ := Int.eq_ofNat_of_zero_le (show 0 ≤ c from h1)
  have hj : j < m.length := by have : (j : Int) < m.length := h2;omega
  obtain ⟨k,hkk⟩ := Int.eq_ofNat_of_zero_le (show 0 ≤ bZ m[j]!.stk t from h4)
  have huk : m[j]!.stk[k]!.uq = true := by
   have h : m[j]!.stk[(bZ m[j]!.stk t).toNat]!.uq = true := hu rfl
   rwa [hkk,Int.toNat_natCast] at h
  have htw := uK m j t k m.length hm rfl hj hkk h3 huk
  have hrl : (m[j]!.stk.take (k + 1)).length = k + 1 := by
   have hb := dW m[j]!.stk t
   rw [List.length_take]; omega
  have hol := c6 (m := m) (j := j) (X := .own (0 + 1 + 2) 0 (k + 1) 2)
  have hls : (m.set j { m[j]! with alive := false }).length = m.length := List.length_set
  refine aC Tryz.func243 Tryz.ntmps243 ?_
  repeat' (first|(apply aF;first|(apply oY (j := j);rfl;exact tS m j hm hj;rfl;rfl)|(apply wL (m := m) (j := j) (t := t) (k := k) (n := m.length);rfl;rfl;rfl;rfl;rfl;rfl;exact htw;rfl;rfl)|(apply bB;rfl;rfl;rfl;rfl;rfl;(rw [aI]; simp only [List.length_append,List.length_cons,List.length_nil]; omega);exact Kk hj))|refine aE ?_|fail)
  refine aV (Le.cls (o := 2) (q := 3) (j := j) (k := k + 1) (m := m.set j { m[j]! with alive := false }) (r := m[j]!.stk.take (k + 1)) rfl rfl hrl.symm (by rw [hls]; exact hj) (by decide)) ?_
  refine aV (Le.frzD (d := 4) (i := 2) rfl rfl) ?_
  rw [kR hj,set_set]
  refine aD (l := [.imm m.length (flat bJ (m.set j { m[j]! with alive := false,stk := m[j]!.stk.take (k + 1) })),iv 0]) rfl ?_
  have eM : gO m ⟨j, t⟩ = m.set j { m[j]! with alive := false, stk := m[j]!.stk.take (k + 1) } := by
   unfold gO hZ;rw [if_pos hk]; dsimp only
   rw [Int.toNat_natCast,hkk,Int.toNat_natCast]; unfold eV;rw [if_pos rfl]
  rw [eM,hk,eT (by rw [List.length_set])]
  exact ⟨rfl,by exact Pur.pf⟩
 ·refine aC Tryz.func243 Tryz.ntmps243 ?_
  repeat' (first|(apply aF;first|(apply g0;rfl;exact j5 m hm;rfl;rfl)|(apply mP (m := m) (x := x) (wr := true) (n := m.length);rfl;rfl;rfl;rfl;exact pT m x true _ hm rfl hk;rfl;rfl))|refine aE ?_|(refine aK ?_ ?_ <;> intro hc hq <;> try (exfalso;omega))|fail)
  (refine aV (Le.frzD (d := 4) (i := 2) rfl rfl) ?_; refine aD rfl ?_)
  refine ⟨?_,by exact Pur.pf⟩
  simp only [aN]
  unfold gO;rw [if_neg hk]
theorem zS (m:List Cl) (hm:OkM m) (x:Pt) (v:Int):PC Tryz.prog 203 [sl bJ m,mW x,iv v] (fun r => r = .tup [sl bJ (nU m x v),iv (o6 m x v)]):=by
 have hml := hm.l
 by_cases hv : 0 ≤ v ∧ v ≤ 9
 case neg =>
  have hwk : o6 m x v = 4 := by unfold o6;rw [if_neg hv]
  have e : nU m x v = m := by unfold nU;rw [if_neg (by rw [hwk]; decide)]
  refine aC Tryz.func203 Tryz.ntmps203 ?_
  repeat' (first|(apply aF;first|(apply g0;rfl;exact j5 m hm;rfl;rfl)|(apply aA (k := 54);rfl;(apply dG);(rfl);rfl))|refine aE ?_|(refine aK ?_ ?_ <;> intro hc hq <;> try (exfalso;omega))|fail)
  all_goals (try (exfalso;omega))
  all_goals (
   (refine aV (Le.frzD (d := 6) (i := 2) rfl rfl) ?_; refine aD rfl ?_)
   refine ⟨?_,by exact Pur.pf⟩
   simp only [aN]
   rw [e,hwk])
 case pos =>
 have hwk : o6 m x v = aY m x true := by unfold o6;rw [if_pos hv]
 by_cases hk : aY m x true = 0
 ·obtain ⟨c, t⟩ := x
  obtain ⟨h1,h2,h3,h4,hu⟩ := dP hk
  obtain ⟨j,rfl⟩ := Int.eq_ofNat_of_zero_le (show 0 ≤ c from h1)
  have hj : j < m.length := by have : (j : Int) < m.length := h2;omega
  obtain ⟨k,hkk⟩ := Int.eq_ofNat_of_zero_le (show 0 ≤ bZ m[j]!.stk t from h4)
  have huk : m[j]!.stk[k]!.uq = true := by
   have h : m[j]!.stk[(bZ m[j]!.stk t).toNat]!.uq = true := hu rfl
   rwa [hkk,Int.toNat_natCast] at h
  have htw := uK m j t k m.length hm rfl hj hkk h3 huk
  have hrl : (m[j]!.stk.take (k + 1)).length = k + 1 := by
   have hb := dW m[j]!.stk t
   rw [List.length_take]; omega
  have hol := c6 (m := m) (j := j) (X := .own (0 + 1 + 2) 0 (k + 1) 2)
  have hls : (m.set j { m[j]! with val := v }).length = m.length := List.length_set
  refine aC Tryz.func203 Tryz.ntmps203 ?_
  repeat' (first|(apply aF;first|(apply oY (j := j);rfl;exact tS m j hm hj;rfl;rfl)|(apply wL (m := m) (j := j) (t := t) (k := k) (n := m.length);rfl;rfl;rfl;rfl;rfl;rfl;exact htw;rfl;rfl)|(apply bB;rfl;rfl;rfl;rfl;rfl;(rw [aI]; simp only [List.length_append,List.length_cons,List.length_nil]; omega);exact Li hj)|(apply aA (k := 54);rfl;(apply dG);(rfl);rfl))|refine aE ?_|(refine aK ?_ ?_ <;> intro hc hq <;> try (exfalso;omega))|fail)
  refine aV (Le.cls (o := 2) (q := 3) (j := j) (k := k + 1) (m := m.set j { m[j]! with val := v }) (r := m[j]!.stk.take (k + 1)) rfl rfl hrl.symm (by rw [hls]; exact hj) (by decide)) ?_
  refine aV (Le.frzD (d := 6) (i := 2) rfl rfl) ?_
  rw [kR hj,set_set]
  refine aD (l := [.imm m.length (flat bJ (m.set j { m[j]! with val := v,stk := m[j]!.stk.take (k + 1) })),iv 0]) rfl ?_
  have eM : nU m ⟨j, t⟩ v = m.set j { m[j]! with val := v, stk := m[j]!.stk.take (k + 1) } := by
   unfold nU hZ;rw [hwk,if_pos hk]; dsimp only
   rw [Int.toNat_natCast,hkk,Int.toNat_natCast]; unfold eV;rw [if_pos rfl]
  rw [eM,hwk,hk,eT (by rw [List.length_set])]
  exact ⟨rfl,by exact Pur.pf⟩
 ·refine aC Tryz.func203 Tryz.ntmps203 ?_
  repeat' (first|(apply aF;first|(apply g0;rfl;exact j5 m hm;rfl;rfl)|(apply mP (m := m) (x := x) (wr := true) (n := m.length);rfl;rfl;rfl;rfl;exact pT m x true _ hm rfl hk;rfl;rfl)|(apply aA (k := 54);rfl;(apply dG);(rfl);rfl))|refine aE ?_|(refine aK ?_ ?_ <;> intro hc hq <;> try (exfalso;omega))|fail)
  (refine aV (Le.frzD (d := 6) (i := 2) rfl rfl) ?_; refine aD rfl ?_)
  refine ⟨?_,by exact Pur.pf⟩
  simp only [aN]
  unfold nU;rw [hwk,if_neg hk]
theorem BW (m:List Cl) (hm:OkM m) (v:Int):PC Tryz.prog 240 [sl bJ m,iv v] (fun r => r = .tup [sl bJ (m ++ [nO v]),.agg [iv m.length,iv 0]]):=by
 have hml := hm.l
 refine aC Tryz.func240 Tryz.ntmps240 ?_
 repeat' (first|(apply aF;first|(apply g0;rfl;exact j5 m hm;rfl;rfl)|(apply aM (t := _);rfl;rfl;rfl;(first|exact (rfl:_=some [_,_])|exact (rfl:_=some [_,_,_,_]));rfl;rfl))|refine aE ?_|fail)
 have e2 : AV.imm (m.length + 1) (((flat bJ m).drop 0).take (m.length * 4) ++ [iv v, bv true, iv 1, .imm 1 [iv 0, bv true]]) = sl bJ (m ++ [nO v]) := by
  have e : ((flat bJ m).drop 0).take (m.length * 4) ++ [iv v,bv true,iv 1,.imm 1 [iv 0,bv true]] = flat bJ (m ++ [nO v]) := dX rfl rfl
  rw [e]; exact eT (by rw [List.length_append]; rfl)
 refine aV (Le.frzD (d := 4) (i := 5) rfl rfl) ?_
 refine aD (l := [AV.imm (m.length + 1) (((flat bJ m).drop 0).take (m.length * 4) ++ [iv v,bv true,iv 1,.imm 1 [iv 0,bv true]]),.agg [iv m.length,iv 0]]) rfl ?_
 rw [e2]
 exact ⟨rfl,by exact Pur.pf⟩
theorem B5 (m:List Cl) (hm:OkM m) (v:Int):PC Tryz.prog 198 [sl bJ m,iv v] (fun r => r = .tup (if 0 ≤ v ∧ v ≤ 9 ∧ m.length < 200 then [sl bJ (m ++ [nO v]),.agg [iv m.length,iv 0],bv true] else [sl bJ [],.agg [iv 0,iv 0],bv false])):=by
 have hml := hm.l
 have hcv := gZ m hm
 have hnc := BW m hm v
 refine aC Tryz.func198 Tryz.ntmps198 ?_
 repeat' (first|(apply aF;first|(apply aA (k := 239);rfl;exact hcv;exact Pur.pf;rfl)|(apply aA (k := 240);rfl;exact hnc;exact Pur.pf;rfl)|(apply aA (k := 54);rfl;(apply dG);(rfl);rfl))|refine aE ?_|(refine aK ?_ ?_ <;> intro hc hq <;> try (exfalso;omega))|(refine bW ?_ ?_ <;> intro hg hq <;> try (exfalso;omega))|refine bQ ?_|fail)
 ·refine aV (Le.nilImm (d := 4) rfl) ?_
  exact aD (l := [sl bJ [],.agg [iv 0,iv 0],bv false]) rfl ⟨by rw [if_neg (by omega)]; rfl,rfl⟩
 ·exact aD (l := [sl bJ (m ++ [nO v]),.agg [iv m.length,iv 0],bv true]) rfl ⟨by rw [if_pos (by omega)]; rfl,by exact Pur.pf⟩
 ·refine aV (Le.nilImm (d := 4) rfl) ?_
  exact aD (l := [sl bJ [],.agg [iv 0,iv 0],bv false]) rfl ⟨by rw [if_neg (by omega)]; rfl,rfl⟩
theorem EH {m:List Cl}{j:Nat}{t:Int}{r:List Tg}{n:Nat}{x0 x1 x2:Operand}{i0 i1:Nat}(ha0:ev (lk tsl) x0 = some (.own i0 0 n 4)) (ha1:ev (lk tsl) x1 = some (.agg [iv (j:Int),iv t])) (ha2:ev (lk tsl) x2 = some (bv true)) (hH0:aQ hsl i0 = some (flat eX (dB m j (.own i1 0 m[j]!.stk.length 2)))) (hH1:aQ hsl i1 = some (flat cJ m[j]!.stk)) (hdd:Go.AL.distinct [i0,i1] = true) (hmc:MC Tryz.prog 242 [.own 0 0 n 4,.agg [iv (j:Int),iv t],bv true] [(0,some (flat eX (dB m j (.own 1 0 m[j]!.stk.length 2)))),(1,some (flat cJ m[j]!.stk))] 2 (fun _:Unit => True) (fun _ => iv 0) (fun _ => [(0,some (flat eX (dB m j (.own 1 0 r.length 2)))),(1,some (flat cJ r))])) (hM:Nat.ble (nidl + 0) aT = true) (hN:Nat.blt d N = true){md':Md}[hmd:MdA md (fJ [x0,x1,x2] ++ [.inr i0,.inr i1]) (List.map Sum.inr (List.map Prod.fst ([(i0,some (flat eX (dB m j (.own i1 0 r.length 2)))),(i1,some (flat cJ r))]:List (Nat × Option (List AV)))) ++ [.inl d]) md'] (kk:RW Tryz.prog N all Q md' rest ⟨(d,iv 0) :: tsl,iA hsl [(i0,some (flat eX (dB m j (.own i1 0 r.length 2)))),(i1,some (flat cJ r))],nidl + 0,z0⟩):RW Tryz.prog N all Q md (⟨some d,.call ⟨.value (.func 242),#[x0,x1,x2],tys⟩,ty,pos,af,none⟩ :: rest) ⟨tsl,hsl,nidl,z0⟩:=by
 exact a6 (l := [x0,x1,x2]) [i0,i1] 2 [(i0,some (flat eX (dB m j (.own i1 0 r.length 2)))),(i1,some (flat cJ r))] hmc (avs := [.own i0 0 n 4,.agg [iv (j : Int),iv t],bv true]) (by simp only [evL,ha0,ha1,ha2]) hdd hM hN (md' := md') (hmd := hmd) kk
theorem G4 (m:List Cl) (j:Nat) (t:Int) (r:List Tg) (k n:Nat) (hm:OkM m) (hn:n = m.length) (hj:j < m.length) (hk:bZ m[j]!.stk t = (k:Int)) (hal:m[j]!.alive = true) (hu:m[j]!.stk[k]!.uq = true) (hre:m[j]!.stk.take (k + 1) = r) (hrk:k + 1 = r.length):MC Tryz.prog 242 [.own 0 0 n 4,.agg [iv (j:Int),iv t],bv true] [(0,some (flat eX (dB m j (.own 1 0 m[j]!.stk.length 2)))),(1,some (flat cJ m[j]!.stk))] 2 (fun _:Unit => True) (fun _ => iv 0) (fun _ => [(0,some (flat eX (dB m j (.own 1 0 r.length 2)))),(1,some (flat cJ r))]):=by
 have h := uK m j t k n hm hn hj hk hal hu
 rw [hre,hrk] at h
 exact h
theorem Lm (m:List Cl) (hm:OkM m) (j k:Nat) (t:Int) (r:List Tg) (hj:j < m.length) (hkk:bZ m[j]!.stk t = (k:Int)) (hk:aY m ⟨(j:Int),t⟩ false = 0) (hr:r = eV m[j]!.stk k false):PC Tryz.prog 200 [sl bJ m,.agg [iv (j:Int),iv t],bv false] (fun z => z = .tup [sl bJ (jO m m j false r),mW (jR m j r),iv (jP m j r)]):=by
 have hml := hm.l
 obtain ⟨h1,h2,h3,h4,hu⟩ := dP hk
 have hc := ((cZ m).1 hm).2 j hj
 have hb := dW m[j]!.stk t
 have hrl : r.length ≤ 200 := by rw [hr]; exact Nat.le_trans tchS_sub.length_le hc.l.2
 have hnx := hc.n
 obtain ⟨_,e2,_⟩ := lC hk (r := r) (by rw [hr]; show _ = eV m[j]!.stk (bZ m[j]!.stk t).toNat false;rw [hkk]; rfl)
 have e2' : jI m ⟨(j : Int),t⟩ false = jO m m j false r := e2
 have hok := hm.ln ⟨(j : Int),t⟩ false
 rw [e2'] at hok
 have hto := Bn m j t r k m.length hm rfl hj hkk h3 hr
 have hog := gY (m := m) (j := j) (X := .own (0 + 1 + 1 + 3 + 3) 0 r.length 2) hj
 have hol := c6 (m := m) (j := j) (X := .own (0 + 1 + 1 + 3 + 3) 0 r.length 2)
 have hol2 := c6 (m := m) (j := j) (X := .own (0 + 1 + 1 + 3 + 4 + 1) 0 (r.length + 1) 2)
 have hm2 : (m.set j { m[j]! with next := m[j]!.next + 1 }).length = m.length := List.length_set
 refine aC Tryz.func200 Tryz.ntmps200 ?_
 repeat' (first|(apply aF;first|(apply oY (j := j);rfl;exact tS m j hm hj;rfl;rfl)|(apply xK (m := m) (j := j) (t := t) (r := r) (n := m.length);rfl;rfl;rfl;rfl;rfl;rfl;exact hto;rfl;rfl)|(with_reducible apply aW (d := 32)))|refine aE ?_|fail)
 refine b0 ?_
 rw [hog]
 dsimp only
 by_cases hf : nY m j r
 ·have eM : jO m m j false r = m := by unfold jO; rw [if_pos hf]
  have eP : jR m j r = ⟨0,0⟩ := by unfold jR;rw [if_pos hf]
  have eK : jP m j r = 4 := by unfold jP;rw [if_pos hf]
  rw [eM,eP,eK]
  unfold nY at hf
  repeat' (first|(apply aF;first|(apply g0;rfl;exact j5 m hm;rfl;rfl)|(with_reducible apply aW (d := 44)))|refine aE ?_|(refine aK ?_ ?_ <;> intro hc hq <;> try (exfalso;omega))|(refine bW ?_ ?_ <;> intro hg hq <;> try (exfalso;omega))|fail)
  ·refine aV (Le.frzD (d := 6) (i := 10) rfl rfl) ?_
   exact aD (l := [sl bJ m,.agg [iv 0,iv 0],iv 4]) rfl ⟨rfl,by exact Pur.pf⟩
  ·exfalso
   have h : ¬ (dB m j (.own (0 + 1 + 1 + 3 + 3) 0 r.length 2))[j]!.next = 1000 := by assumption
   rw [hog] at h
   dsimp only at h
   omega
  ·refine aV (Le.frzD (d := 6) (i := 10) rfl rfl) ?_
   exact aD (l := [sl bJ m,.agg [iv 0,iv 0],iv 4]) rfl ⟨rfl,by exact Pur.pf⟩
 ·have eM : jO m m j false r = m.set j (psh { m[j]! with stk := r } false) := by unfold jO; rw [if_neg hf]
  have eP : jR m j r = ⟨j,m[j]!.next⟩ := by unfold jR;rw [if_neg hf]
  have eK : jP m j r = 0 := by unfold jP;rw [if_neg hf]
  rw [eM] at hok
  rw [eM,eP,eK]
  unfold nY at hf
  have hown := j5 _ hok
  repeat' (first|(apply aF;first|(with_reducible apply aW (d := 41))|(with_reducible apply aW (d := 54)))|refine aE ?_|(refine aK ?_ ?_ <;> intro hc hq <;> try (exfalso;omega))|(refine bW ?_ ?_ <;> intro hg hq <;> try (exfalso;omega))|fail)
  ·exfalso
   have h : (dB m j (.own (0 + 1 + 1 + 3 + 3) 0 r.length 2))[j]!.next = 1000 := by assumption
   rw [hog] at h
   dsimp only at h
   omega
  ·refine b0 ?_
   rw [hog]
   dsimp only
   repeat' (first|(apply aF;first|(apply bB;rfl;rfl;rfl;rfl;rfl;(rw [aI,c6]; simp only [List.length_append,List.length_cons,List.length_nil]; omega);(first|exact tH hj|exact yM hj))|(apply bU;rfl;rfl;rfl;rfl;rfl;(rw [aI]; omega);(rfl);omega;omega;(exact vJ (by (omega)));rfl;rfl)|(apply aM (t := _);rfl;rfl;rfl;(exact (rfl:_=some [_,_]));rfl;rfl))|refine aE ?_|fail)
   refine AW.le ?_ (Le.cls (o := 3) (q := 0 + 1 + 1 + 3 + 4 + 1) (j := j) (k := r.length + 1) (m := m.set j { m[j]! with next := m[j]!.next + 1 }) (r := r ++ [⟨m[j]!.next,false⟩]) rfl rfl (by (rw [List.length_append]; rfl)) (by omega) (by decide))
   refine AW.le ?_ (Le.frzD (d := 9) (i := 3) rfl rfl)
   have e : (m.set j { m[j]! with next := m[j]!.next + 1 }).set j { (m.set j { m[j]! with next := m[j]!.next + 1 })[j]! with stk := r ++ [⟨m[j]!.next, false⟩] } = m.set j (psh { m[j]! with stk := r } false) := by
    rw [kR hj,set_set]; rfl
   rw [e,eT (f := bJ) (xs := m.set j (psh { m[j]! with stk := r } false)) (by rw [List.length_set])]
   repeat' (first|(apply aF;(apply g0;rfl;exact hown;rfl;rfl))|refine aE ?_|refine bQ ?_|fail)
   refine aV (Le.frzD (d := 6) (i := 12) rfl rfl) ?_
   exact aD (l := [sl bJ (m.set j (psh { m[j]! with stk := r } false)),.agg [iv (j : Int),iv m[j]!.next],iv 0]) rfl ⟨rfl,by exact Pur.pf⟩
  all_goals (exfalso;omega)
theorem Km (m:List Cl) (hm:OkM m) (j k:Nat) (t:Int) (r:List Tg) (hj:j < m.length) (hkk:bZ m[j]!.stk t = (k:Int)) (hk:aY m ⟨(j:Int),t⟩ true = 0) (hr:r = eV m[j]!.stk k true):PC Tryz.prog 200 [sl bJ m,.agg [iv (j:Int),iv t],bv true] (fun z => z = .tup [sl bJ (jO m m j true r),mW (jR m j r),iv (jP m j r)]):=by
 have hml := hm.l
 obtain ⟨h1,h2,h3,h4,hu⟩ := dP hk
 have hc := ((cZ m).1 hm).2 j hj
 have hb := dW m[j]!.stk t
 have hrl : r.length ≤ 200 := by rw [hr]; exact Nat.le_trans tchS_sub.length_le hc.l.2
 have hnx := hc.n
 obtain ⟨_,e2,_⟩ := lC hk (r := r) (by rw [hr]; show _ = eV m[j]!.stk (bZ m[j]!.stk t).toNat true;rw [hkk]; rfl)
 have e2' : jI m ⟨(j : Int),t⟩ true = jO m m j true r := e2
 have hok := hm.ln ⟨(j : Int),t⟩ true
 rw [e2'] at hok
 have huk : m[j]!.stk[k]!.uq = true := by
  have h : m[j]!.stk[(bZ m[j]!.stk t).toNat]!.uq = true := hu rfl
  rwa [hkk,Int.toNat_natCast] at h
 have hre : m[j]!.stk.take (k + 1) = r := by rw [hr]; unfold eV;rw [if_pos rfl]
 have hrk : k + 1 = r.length := by rw [← hre,List.length_take]; omega
 have hto := G4 m j t r k m.length hm rfl hj hkk h3 huk hre hrk
 clear hre hrk huk hu hr hkk
 have hog := gY (m := m) (j := j) (X := .own (0 + 1 + 1 + 2) 0 r.length 2) hj
 have hol := c6 (m := m) (j := j) (X := .own (0 + 1 + 1 + 2) 0 r.length 2)
 have hol2 := c6 (m := m) (j := j) (X := .own (0 + 1 + 1 + 3 + 0 + 1) 0 (r.length + 1) 2)
 have hm2 : (m.set j { m[j]! with next := m[j]!.next + 1 }).length = m.length := List.length_set
 refine aC Tryz.func200 Tryz.ntmps200 ?_
 repeat' (first|(apply aF;first|(apply oY (j := j);rfl;exact tS m j hm hj;rfl;rfl)|(apply EH (m := m) (j := j) (t := t) (r := r) (n := m.length);rfl;rfl;rfl;rfl;rfl;rfl;exact hto;rfl;rfl)|(with_reducible apply aW (d := 32)))|refine aE ?_|fail)
 refine b0 ?_
 rw [hog]
 dsimp only
 by_cases hf : nY m j r
 ·have eM : jO m m j true r = m := by unfold jO; rw [if_pos hf]
  have eP : jR m j r = ⟨0,0⟩ := by unfold jR;rw [if_pos hf]
  have eK : jP m j r = 4 := by unfold jP;rw [if_pos hf]
  rw [eM,eP,eK]
  unfold nY at hf
  repeat' (first|(apply aF;first|(apply g0;rfl;exact j5 m hm;rfl;rfl)|(with_reducible apply aW (d := 44)))|refine aE ?_|(refine aK ?_ ?_ <;> intro hc hq <;> try (exfalso;omega))|(refine bW ?_ ?_ <;> intro hg hq <;> try (exfalso;omega))|fail)
  ·refine aV (Le.frzD (d := 6) (i := 6) rfl rfl) ?_
   exact aD (l := [sl bJ m,.agg [iv 0,iv 0],iv 4]) rfl ⟨rfl,by exact Pur.pf⟩
  ·exfalso
   have h : ¬ (dB m j (.own (0 + 1 + 1 + 2) 0 r.length 2))[j]!.next = 1000 := by assumption
   rw [hog] at h
   dsimp only at h
   omega
  ·refine aV (Le.frzD (d := 6) (i := 6) rfl rfl) ?_
   exact aD (l := [sl bJ m,.agg [iv 0,iv 0],iv 4]) rfl ⟨rfl,by exact Pur.pf⟩
 ·have eM : jO m m j true r = m.set j (psh { m[j]! with stk := r } true) := by unfold jO; rw [if_neg hf]
  have eP : jR m j r = ⟨j,m[j]!.next⟩ := by unfold jR;rw [if_neg hf]
  have eK : jP m j r = 0 := by unfold jP;rw [if_neg hf]
  rw [eM] at hok
  rw [eM,eP,eK]
  unfold nY at hf
  have hown := j5 _ hok
  repeat' (first|(apply aF;first|(with_reducible apply aW (d := 41))|(with_reducible apply aW (d := 54)))|refine aE ?_|(refine aK ?_ ?_ <;> intro hc hq <;> try (exfalso;omega))|(refine bW ?_ ?_ <;> intro hg hq <;> try (exfalso;omega))|fail)
  ·exfalso
   have h : (dB m j (.own (0 + 1 + 1 + 2) 0 r.length 2))[j]!.next = 1000 := by assumption
   rw [hog] at h
   dsimp only at h
   omega
  ·refine b0 ?_
   rw [hog]
   dsimp only
   repeat' (first|(apply aF;first|(apply bB;rfl;rfl;rfl;rfl;rfl;(rw [aI,c6]; simp only [List.length_append,List.length_cons,List.length_nil]; omega);(first|exact tH hj|exact yM hj))|(apply bU;rfl;rfl;rfl;rfl;rfl;(rw [aI]; omega);(rfl);omega;omega;(exact vJ (by (omega)));rfl;rfl)|(apply aM (t := _);rfl;rfl;rfl;(exact (rfl:_=some [_,_]));rfl;rfl))|refine aE ?_|fail)
   refine AW.le ?_ (Le.cls (o := 3) (q := 0 + 1 + 1 + 3 + 0 + 1) (j := j) (k := r.length + 1) (m := m.set j { m[j]! with next := m[j]!.next + 1 }) (r := r ++ [⟨m[j]!.next,true⟩]) rfl rfl (by (rw [List.length_append]; rfl)) (by omega) (by decide))
   refine AW.le ?_ (Le.frzD (d := 9) (i := 3) rfl rfl)
   have e : (m.set j { m[j]! with next := m[j]!.next + 1 }).set j { (m.set j { m[j]! with next := m[j]!.next + 1 })[j]! with stk := r ++ [⟨m[j]!.next, true⟩] } = m.set j (psh { m[j]! with stk := r } true) := by
    rw [kR hj,set_set]; rfl
   rw [e,eT (f := bJ) (xs := m.set j (psh { m[j]! with stk := r } true)) (by rw [List.length_set])]
   repeat' (first|(apply aF;(apply g0;rfl;exact hown;rfl;rfl))|refine aE ?_|refine bQ ?_|fail)
   refine aV (Le.frzD (d := 6) (i := 8) rfl rfl) ?_
   exact aD (l := [sl bJ (m.set j (psh { m[j]! with stk := r } true)),.agg [iv (j : Int),iv m[j]!.next],iv 0]) rfl ⟨rfl,by exact Pur.pf⟩
  all_goals (exfalso;omega)
theorem Lt (m:List Cl) (hm:OkM m) (x:Pt) (u:Bool):PC Tryz.prog 200 [sl bJ m,mW x,bv u] (fun r => r = .tup [sl bJ (jI m x u),mW (oH m x u),iv (j7 m x u)]):=by
 have hml := hm.l
 by_cases hk : aY m x u = 0
 ·obtain ⟨c, t⟩ := x
  obtain ⟨h1,h2,h3,h4,hu⟩ := dP hk
  obtain ⟨j,rfl⟩ := Int.eq_ofNat_of_zero_le (show 0 ≤ c from h1)
  have hj : j < m.length := by have : (j : Int) < m.length := h2;omega
  obtain ⟨k,hkk⟩ := Int.eq_ofNat_of_zero_le (show 0 ≤ bZ m[j]!.stk t from h4)
  obtain ⟨r,hr⟩ : ∃ r,r = eV m[j]!.stk k u := ⟨_,rfl⟩
  obtain ⟨e1,e2,e3⟩ := lC hk (r := r) (by rw [hr]; show _ = eV m[j]!.stk (bZ m[j]!.stk t).toNat u;rw [hkk]; rfl)
  rw [e1,e2,e3]
  cases u
  ·exact Lm m hm j k t r hj hkk hk hr
  ·exact Km m hm j k t r hj hkk hk hr
 ·obtain ⟨e1, e2, e3⟩ := G0 hk
  rw [e1,e2,e3]
  refine aC Tryz.func200 Tryz.ntmps200 ?_
  repeat' (first|(apply aF;first|(apply g0;rfl;exact j5 m hm;rfl;rfl)|(apply mP (m := m) (x := x) (wr := u) (n := m.length);rfl;rfl;rfl;rfl;exact pT m x u _ hm rfl hk;rfl;rfl))|refine aE ?_|(refine aK ?_ ?_ <;> intro hc hq <;> try (exfalso;omega))|fail)
  refine aV (Le.frzD (d := 6) (i := 3) rfl rfl) ?_
  exact aD (l := [sl bJ m,.agg [iv 0,iv 0],iv (aY m x u)]) rfl ⟨rfl,by exact Pur.pf⟩
abbrev mO (ts : List Int) (bd : List AL.Stmt) (pts : List Pnt) (i1 i2 : Nat) (s : Mc) : List AV := [aG ts bd pts,.own i1 0 ts.length 4,sl bJ s.cells,.own i2 0 s.read.length 1]
theorem A2 {ts:List Int}{bd:List AL.Stmt}{pts:List Pnt}{s:Mc}{v:Nat}{x0 x1:Operand}{i0 i1 i2:Nat}(ha0:ev (lk tsl) x0 = some (.optr i0 0)) (ha1:ev (lk tsl) x1 = some (iv (v:Int))) (hH0:aQ hsl i0 = some (mO ts bd pts i1 i2 s)) (hH1:aQ hsl i1 = some (flat dC s.slots)) (hH2:aQ hsl i2 = some (flat cI s.read)) (hdd:Go.AL.distinct [i0,i1,i2] = true) (hmc:MC Tryz.prog 204 [.optr 0 0,iv (v:Int)] [(0,some (mO ts bd pts 1 2 s)),(1,some (flat dC s.slots)),(2,some (flat cI s.read))] 3 (fun _:Unit => True) (fun _ => iv (jX (aY s.cells s.slots[v]!.ptr true))) (fun _ => [(0,some ([aG ts bd pts,.own 1 0 ts.length 4,sl bJ (gO s.cells s.slots[v]!.ptr),.own 2 0 s.read.length 1])),(1,some (flat dC s.slots)),(2,some (flat cI s.read))])) (hM:Nat.ble (nidl + 0) aT = true) (hN:Nat.blt d N = true){md':Md}[hmd:MdA md (fJ [x0,x1] ++ [.inr i0,.inr i1,.inr i2]) (List.map Sum.inr (List.map Prod.fst ([(i0,some ([aG ts bd pts,.own i1 0 ts.length 4,sl bJ (gO s.cells s.slots[v]!.ptr),.own i2 0 s.read.length 1])),(i1,some (flat dC s.slots)),(i2,some (flat cI s.read))]:List (Nat × Option (List AV)))) ++ [.inl d]) md'] (kk:RW Tryz.prog N all Q md' rest ⟨(d,iv (jX (aY s.cells s.slots[v]!.ptr true))) :: tsl,iA hsl [(i0,some ([aG ts bd pts,.own i1 0 ts.length 4,sl bJ (gO s.cells s.slots[v]!.ptr),.own i2 0 s.read.length 1])),(i1,some (flat dC s.slots)),(i2,some (flat cI s.read))],nidl + 0,z0⟩):RW Tryz.prog N all Q md (⟨some d,.call ⟨.value (.func 204),#[x0,x1],tys⟩,ty,pos,af,none⟩ :: rest) ⟨tsl,hsl,nidl,z0⟩:=by
 exact a6 (l := [x0,x1]) [i0,i1,i2] 3 [(i0,some ([aG ts bd pts,.own i1 0 ts.length 4,sl bJ (gO s.cells s.slots[v]!.ptr),.own i2 0 s.read.length 1])),(i1,some (flat dC s.slots)),(i2,some (flat cI s.read))] hmc (avs := [.optr i0 0,iv (v : Int)]) (by simp only [evL,ha0,ha1]) hdd hM hN (md' := md') (hmd := hmd) kk
theorem yQ (ts:List Int) (bd:List AL.Stmt) (pts:List Pnt) (s:Mc) (v:Nat) (hm:OkM s.cells) (hsl:s.slots.length = ts.length) (hv:v < ts.length):MC Tryz.prog 204 [.optr 0 0,iv (v:Int)] [(0,some (mO ts bd pts 1 2 s)),(1,some (flat dC s.slots)),(2,some (flat cI s.read))] 3 (fun _:Unit => True) (fun _ => iv (jX (aY s.cells s.slots[v]!.ptr true))) (fun _ => [(0,some ([aG ts bd pts,.own 1 0 ts.length 4,sl bJ (gO s.cells s.slots[v]!.ptr),.own 2 0 s.read.length 1])),(1,some (flat dC s.slots)),(2,some (flat cI s.read))]):=by
 have hfc := BA s.cells hm s.slots[v]!.ptr
 refine aU Tryz.func204 Tryz.ntmps204 ?_
 repeat' (first|(apply aF;first|(apply iW;(case hx|hH => rfl);(case hf|hg|hα => infer_instance);(case hk => omega);(case hj => decide);(case hc => exact (rfl:_=[_,_]));(case h0|hN => rfl))|(apply aA (k := 243);rfl;exact hfc;exact Pur.pf;rfl)|(apply aA (k := 201);rfl;(apply sS);(rfl);rfl))|refine aE ?_|(refine aK ?_ ?_ <;> intro hc hq <;> try (exfalso;omega))|refine bQ ?_|fail)
 ·have hk : ¬ aY s.cells s.slots[v]!.ptr true = 0 := by assumption
  (refine aD rfl ?_; refine aS () trivial ?_ ⟨sE ?_,⟨sE ?_,⟨sE ?_,trivial⟩⟩⟩)
  ·show iv (dY _) = iv (jX _)
   unfold jX;rw [if_neg hk]
  ·rfl
  ·rfl
  ·rfl
 ·have hk : aY s.cells s.slots[v]!.ptr true = 0 := by assumption
  (refine aD rfl ?_; refine aS () trivial ?_ ⟨sE ?_,⟨sE ?_,⟨sE ?_,trivial⟩⟩⟩)
  ·rw [hk]; rfl
  ·rfl
  ·rfl
  ·rfl
theorem ME (ts:List Int) (bd:List AL.Stmt) (pts:List Pnt) (s:Mc) (v:Nat) (y:Sl) (hm:OkM s.cells) (hsl:s.slots.length = ts.length) (hv:v < ts.length):MC Tryz.prog 197 [.optr 0 0,iv (v:Int),HD y] [(0,some (mO ts bd pts 1 2 s)),(1,some (flat dC s.slots)),(2,some (flat cI s.read))] 3 (fun _:Unit => True) (fun _ => iv (bH ts s v y).2) (fun _ => [(0,some (mO ts bd pts 1 2 (bH ts s v y).1)),(1,some (flat dC (bH ts s v y).1.slots)),(2,some (flat cI (bH ts s v y).1.read))]):=by
 have hfr := yQ ts bd pts s v hm hsl hv
 refine aU Tryz.func197 Tryz.ntmps197 ?_
 repeat' (first|(apply aF;first|(apply A2 (ts := ts) (bd := bd) (pts := pts) (s := s) (v := v);rfl;rfl;rfl;rfl;rfl;rfl;exact hfr;rfl;rfl)|(apply bB;rfl;rfl;rfl;rfl;rfl;(rw [aI]; simp only [gD] <;> omega);(exact xL (by (omega)))))|refine aE ?_|(refine aK ?_ ?_ <;> intro hc hq <;> try (exfalso;omega))|(refine bW ?_ ?_ <;> intro hg hq <;> try (exfalso;omega))|refine bQ ?_|fail)
 ·have hp : bH ts s v y = (⟨s.slots.set v y, gO s.cells s.slots[v]!.ptr, s.read⟩, jX (aY s.cells s.slots[v]!.ptr true)) := if_pos ⟨by assumption, by assumption⟩
  rw [hp]
  (refine aD rfl ?_; refine aS () trivial ?_ ⟨sE ?_,⟨sE ?_,⟨sE ?_,trivial⟩⟩⟩)
  ·rfl
  ·rfl
  ·rfl
  ·rfl
 all_goals (
  have hp : bH ts s v y = (⟨s.slots.set v y, s.cells, s.read⟩, -1) := if_neg (by
   rintro ⟨q1,q2⟩
   first|(exact (by assumption : ¬ ts[v]! = 2) q1)|(rw [(by assumption : s.slots[v]!.set = false)] at q2;exact absurd q2 (by decide)))
  rw [hp]
  (refine aD rfl ?_; refine aS () trivial ?_ ⟨sE ?_,⟨sE ?_,⟨sE ?_,trivial⟩⟩⟩)
  ·rfl
  ·rfl
  ·rfl
  ·rfl)
theorem JZ {ts:List Int}{bd:List AL.Stmt}{pts:List Pnt}{s:Mc}{x0:Operand}{i0 i1 i2:Nat}(ha0:ev (lk tsl) x0 = some (.optr i0 0)) (hH0:aQ hsl i0 = some (mO ts bd pts i1 i2 s)) (hH1:aQ hsl i1 = some (flat dC s.slots)) (hH2:aQ hsl i2 = some (flat cI s.read)) (hdd:Go.AL.distinct [i0,i1,i2] = true) (hmc:MC Tryz.prog 205 [.optr 0 0] [(0,some (mO ts bd pts 1 2 s)),(1,some (flat dC s.slots)),(2,some (flat cI s.read))] 3 (fun _:Unit => True) (fun _ => iv (cO ts ts.length 0 s).2) (fun _ => [(0,some (mO ts bd pts 1 2 (cO ts ts.length 0 s).1)),(1,some (flat dC (cO ts ts.length 0 s).1.slots)),(2,some (flat cI (cO ts ts.length 0 s).1.read))])) (hM:Nat.ble (nidl + 0) aT = true) (hN:Nat.blt d N = true){md':Md}[hmd:MdA md (fJ [x0] ++ [.inr i0,.inr i1,.inr i2]) (List.map Sum.inr (List.map Prod.fst ([(i0,some (mO ts bd pts i1 i2 (cO ts ts.length 0 s).1)),(i1,some (flat dC (cO ts ts.length 0 s).1.slots)),(i2,some (flat cI (cO ts ts.length 0 s).1.read))]:List (Nat × Option (List AV)))) ++ [.inl d]) md'] (kk:RW Tryz.prog N all Q md' rest ⟨(d,iv (cO ts ts.length 0 s).2) :: tsl,iA hsl [(i0,some (mO ts bd pts i1 i2 (cO ts ts.length 0 s).1)),(i1,some (flat dC (cO ts ts.length 0 s).1.slots)),(i2,some (flat cI (cO ts ts.length 0 s).1.read))],nidl + 0,z0⟩):RW Tryz.prog N all Q md (⟨some d,.call ⟨.value (.func 205),#[x0],tys⟩,ty,pos,af,none⟩ :: rest) ⟨tsl,hsl,nidl,z0⟩:=by
 exact a6 (l := [x0]) [i0,i1,i2] 3 [(i0,some (mO ts bd pts i1 i2 (cO ts ts.length 0 s).1)),(i1,some (flat dC (cO ts ts.length 0 s).1.slots)),(i2,some (flat cI (cO ts ts.length 0 s).1.read))] hmc (avs := [.optr i0 0]) (by simp only [evL,ha0]) hdd hM hN (md' := md') (hmd := hmd) kk
theorem NY (ts:List Int) (bd:List AL.Stmt) (pts:List Pnt) (s:Mc) (hm:OkM s.cells) (hsl:s.slots.length = ts.length) (hl:ts.length ≤ 1000000):MC Tryz.prog 205 [.optr 0 0] [(0,some (mO ts bd pts 1 2 s)),(1,some (flat dC s.slots)),(2,some (flat cI s.read))] 3 (fun _:Unit => True) (fun _ => iv (cO ts ts.length 0 s).2) (fun _ => [(0,some (mO ts bd pts 1 2 (cO ts ts.length 0 s).1)),(1,some (flat dC (cO ts ts.length 0 s).1.slots)),(2,some (flat cI (cO ts ts.length 0 s).1.read))]):=by
 refine aU Tryz.func205 Tryz.ntmps205 ?_
 repeat' (first|refine aE ?_|fail)
 refine aH (σ := Nat × Mc) [0,13,14] [] (fun k => [(15,iv (k.1 : Int))]) (fun k => [(0,some (mO ts bd pts 1 2 k.2)),(1,some (flat dC k.2.slots)),(2,some (flat cI k.2.read))]) (fun k => k.1 ≤ ts.length ∧ cO ts (ts.length - k.1) k.1 k.2 = cO ts ts.length 0 s ∧ OkM k.2.cells ∧ k.2.slots.length = ts.length) (fun k => ts.length - k.1) (0,s) ⟨Nat.zero_le _,rfl,hm,hsl⟩ ?_
 rintro ⟨v,q⟩ ⟨hv,hf,hmq,hlq⟩
 dsimp only at hv hf hmq hlq ⊢
 by_cases hvn : v < ts.length
 ·have hfr := yQ ts bd pts q v hmq hlq hvn
  repeat' (first|(apply aF;first|(apply A2 (ts := ts) (bd := bd) (pts := pts) (s := q) (v := v);rfl;rfl;rfl;rfl;rfl;rfl;exact hfr;rfl;rfl)|(apply bB;rfl;rfl;rfl;rfl;rfl;(rw [aI]; simp only [gD] <;> omega);(exact xL (by (omega)))))|refine aE ?_|(refine aK ?_ ?_ <;> intro hc hq <;> try (exfalso;omega))|(refine bW ?_ ?_ <;> intro hg hq <;> try (exfalso;omega))|fail)
  ·(refine bC (v + 1, q) (Le.renA []) ?_ ?_)
   ·refine ⟨by omega, ?_, hmq, hlq⟩
    dsimp only
    rw [← hf, show ts.length - v = (ts.length - (v + 1)) + 1 by omega, y9 (fun h => by
     have h2 : q.slots[v]!.set = false := by assumption
     rw [h2] at h;exact absurd h.2 (by decide))]
   ·dsimp only;omega
  ·have hk : ¬ aY q.cells q.slots[v]!.ptr true = 0 := fun h => by
    have h2 : ¬ jX (aY q.cells q.slots[v]!.ptr true) = -1 := by assumption
    rw [h] at h2;exact h2 rfl
   have hq2 : cO ts ts.length 0 s = (⟨q.slots, gO q.cells q.slots[v]!.ptr, q.read⟩, dY (aY q.cells q.slots[v]!.ptr true)) := by
    rw [← hf,show ts.length - v = (ts.length - (v + 1)) + 1 by omega,I0 ⟨by assumption,by assumption⟩ hk]
   rw [hq2]
   (refine aD rfl ?_; refine aS () trivial ?_ ⟨sE ?_,⟨sE ?_,⟨sE ?_,trivial⟩⟩⟩)
   ·show iv (jX _) = iv (dY _)
    unfold jX;rw [if_neg hk]
   ·rfl
   ·rfl
   ·rfl
  ·have hk : aY q.cells q.slots[v]!.ptr true = 0 := by
    have h2 : jX (aY q.cells q.slots[v]!.ptr true) = -1 := by assumption
    unfold jX at h2
    by_cases h : aY q.cells q.slots[v]!.ptr true = 0
    ·exact h
    ·rw [if_neg h] at h2;unfold dY at h2;split at h2 <;> cases h2
   have hls : (q.slots.set v fZ).length = q.slots.length := List.length_set
   (refine bC (v + 1,⟨q.slots.set v fZ,gO q.cells q.slots[v]!.ptr,q.read⟩) (Le.renA []) ?_ ?_)
   ·refine ⟨by dsimp only; omega, ?_, hmq.fr _, by show (q.slots.set v fZ).length = _; rw [List.length_set]; exact hlq⟩
    dsimp only
    rw [← hf,show ts.length - v = (ts.length - (v + 1)) + 1 by omega,GH ⟨by assumption,by assumption⟩ hk]
   ·dsimp only;omega
  ·(refine bC (v + 1, q) (Le.renA []) ?_ ?_)
   ·refine ⟨by omega, ?_, hmq, hlq⟩
    dsimp only
    rw [← hf, show ts.length - v = (ts.length - (v + 1)) + 1 by omega, y9 (fun h => by
     have h2 : ¬ ts[v]! = 2 := by assumption
     exact h2 h.1)]
   ·dsimp only;omega
 ·have hve : v = ts.length := by omega
  have hq2 : cO ts ts.length 0 s = (q,0) := by rw [← hf,hve,Nat.sub_self]; rfl
  repeat' (first|refine aE ?_|(refine aK ?_ ?_ <;> intro hc hq <;> try (exfalso;omega))|fail)
  rw [hq2]
  (refine aD rfl ?_; refine aS () trivial ?_ ⟨sE ?_,⟨sE ?_,⟨sE ?_,trivial⟩⟩⟩)
  ·rfl
  ·rfl
  ·rfl
  ·rfl
def dU (ts : List Int) (s : Mc) (x : Pnt) : Mc × Int := if b7 ts s x = true then (s,2) else bO ts s x
theorem vT {ts:List Int}{s:Mc}{x:Pnt}(h:b7 ts s x = true):dU ts s x = (s,2) := if_pos h
theorem rT {ts:List Int}{s:Mc}{x:Pnt}(h:b7 ts s x = false):dU ts s x = bO ts s x := if_neg (by rw [h]; decide)
theorem g7 {ts:List Int}{x:Pnt}{v:Int}(h:v ∈ aZ (wS ts x [1,2,3])):0 ≤ v ∧ v < ts.length:=by
 obtain ⟨v',h3,h4,rfl⟩ := bR.1 h
 rw [b9,Bool.and_eq_true,decide_eq_true_eq] at h4
 omega
theorem cK {ts:List Int}{s:Mc}{x:Pnt}(htl:ts.length ≤ 6):b7 ts s x = true ↔ ∃ v ∈ aZ (wS ts x [1,2,3]),s.slots[v.toNat]!.set = false:=by
 constructor
 ·intro h
  obtain ⟨v,hv,hne,hs⟩ := uH h
  refine ⟨(v : Int),bR.2 ⟨v,by omega,?_,rfl⟩,hs⟩
  have hb := lZ ts x v
  rw [b9,decide_eq_true hv,Bool.true_and,decide_eq_true_eq]
  simp only [List.mem_cons,List.not_mem_nil,or_false]; omega
 ·rintro ⟨v, hv, hs⟩
  obtain ⟨v',h3,h4,rfl⟩ := bR.1 hv
  rw [b9,Bool.and_eq_true,decide_eq_true_eq,decide_eq_true_eq] at h4
  unfold b7
  refine List.any_eq_true.2 ⟨v',List.mem_range.2 h4.1,?_⟩
  rw [Bool.and_eq_true,decide_eq_true_eq]
  refine ⟨fun e => ?_,by rw [show s.slots[v']!.set = false from hs]; rfl⟩
  have h5 := h4.2
  simp only [List.mem_cons,List.not_mem_nil,or_false] at h5;omega
theorem Nk {ts:List Int}{bd:List AL.Stmt}{pts:List Pnt}{s:Mc}{x:Pnt}{x0 x1:Operand}{i0 i1 i2:Nat}(ha0:ev (lk tsl) x0 = some (.optr i0 0)) (ha1:ev (lk tsl) x1 = some (dS x)) (hH0:aQ hsl i0 = some (mO ts bd pts i1 i2 s)) (hH1:aQ hsl i1 = some (flat dC s.slots)) (hH2:aQ hsl i2 = some (flat cI s.read)) (hdd:Go.AL.distinct [i0,i1,i2] = true) (hmc:MC Tryz.prog 140 [.optr 0 0,dS x] [(0,some (mO ts bd pts 1 2 s)),(1,some (flat dC s.slots)),(2,some (flat cI s.read))] 3 (fun _:Unit => True) (fun _ => iv (dU ts s x).2) (fun _ => [(0,some (mO ts bd pts 1 2 (dU ts s x).1)),(1,some (flat dC (dU ts s x).1.slots)),(2,some (flat cI (dU ts s x).1.read))])) (hM:Nat.ble (nidl + 0) aT = true) (hN:Nat.blt d N = true){md':Md}[hmd:MdA md (fJ [x0,x1] ++ [.inr i0,.inr i1,.inr i2]) (List.map Sum.inr (List.map Prod.fst ([(i0,some (mO ts bd pts i1 i2 (dU ts s x).1)),(i1,some (flat dC (dU ts s x).1.slots)),(i2,some (flat cI (dU ts s x).1.read))]:List (Nat × Option (List AV)))) ++ [.inl d]) md'] (kk:RW Tryz.prog N all Q md' rest ⟨(d,iv (dU ts s x).2) :: tsl,iA hsl [(i0,some (mO ts bd pts i1 i2 (dU ts s x).1)),(i1,some (flat dC (dU ts s x).1.slots)),(i2,some (flat cI (dU ts s x).1.read))],nidl + 0,z0⟩):RW Tryz.prog N all Q md (⟨some d,.call ⟨.value (.func 140),#[x0,x1],tys⟩,ty,pos,af,none⟩ :: rest) ⟨tsl,hsl,nidl,z0⟩:=by
 exact a6 (l := [x0,x1]) [i0,i1,i2] 3 [(i0,some (mO ts bd pts i1 i2 (dU ts s x).1)),(i1,some (flat dC (dU ts s x).1.slots)),(i2,some (flat cI (dU ts s x).1.read))] hmc (avs := [.optr i0 0,dS x]) (by simp only [evL,ha0,ha1]) hdd hM hN (md' := md') (hmd := hmd) kk
theorem kL {ts:List Int}{bd:List AL.Stmt}{pts:List Pnt}{s:Mc}{v:Int}{y:Sl}{x0 x1 x2:Operand}{i0 i1 i2:Nat}(ha0:ev (lk tsl) x0 = some (.optr i0 0)) (ha1:ev (lk tsl) x1 = some (iv v)) (ha2:ev (lk tsl) x2 = some (HD y)) (hH0:aQ hsl i0 = some (mO ts bd pts i1 i2 s)) (hH1:aQ hsl i1 = some (flat dC s.slots)) (hH2:aQ hsl i2 = some (flat cI s.read)) (hdd:Go.AL.distinct [i0,i1,i2] = true) (hmc:MC Tryz.prog 197 [.optr 0 0,iv v,HD y] [(0,some (mO ts bd pts 1 2 s)),(1,some (flat dC s.slots)),(2,some (flat cI s.read))] 3 (fun _:Unit => True) (fun _ => iv (bH ts s v.toNat y).2) (fun _ => [(0,some (mO ts bd pts 1 2 (bH ts s v.toNat y).1)),(1,some (flat dC (bH ts s v.toNat y).1.slots)),(2,some (flat cI (bH ts s v.toNat y).1.read))])) (hM:Nat.ble (nidl + 0) aT = true) (hN:Nat.blt d N = true){md':Md}[hmd:MdA md (fJ [x0,x1,x2] ++ [.inr i0,.inr i1,.inr i2]) (List.map Sum.inr (List.map Prod.fst ([(i0,some (mO ts bd pts i1 i2 (bH ts s v.toNat y).1)),(i1,some (flat dC (bH ts s v.toNat y).1.slots)),(i2,some (flat cI (bH ts s v.toNat y).1.read))]:List (Nat × Option (List AV)))) ++ [.inl d]) md'] (kk:RW Tryz.prog N all Q md' rest ⟨(d,iv (bH ts s v.toNat y).2) :: tsl,iA hsl [(i0,some (mO ts bd pts i1 i2 (bH ts s v.toNat y).1)),(i1,some (flat dC (bH ts s v.toNat y).1.slots)),(i2,some (flat cI (bH ts s v.toNat y).1.read))],nidl + 0,z0⟩):RW Tryz.prog N all Q md (⟨some d,.call ⟨.value (.func 197),#[x0,x1,x2],tys⟩,ty,pos,af,none⟩ :: rest) ⟨tsl,hsl,nidl,z0⟩:=by
 exact a6 (l := [x0,x1,x2]) [i0,i1,i2] 3 [(i0,some (mO ts bd pts i1 i2 (bH ts s v.toNat y).1)),(i1,some (flat dC (bH ts s v.toNat y).1.slots)),(i2,some (flat cI (bH ts s v.toNat y).1.read))] hmc (avs := [.optr i0 0,iv v,HD y]) (by simp only [evL,ha0,ha1,ha2]) hdd hM hN (md' := md') (hmd := hmd) kk
theorem mJ (ts:List Int) (bd:List AL.Stmt) (pts:List Pnt) (s:Mc) (v:Int) (y:Sl) (hm:OkM s.cells) (hsl:s.slots.length = ts.length) (hv:0 ≤ v ∧ v < ts.length):MC Tryz.prog 197 [.optr 0 0,iv v,HD y] [(0,some (mO ts bd pts 1 2 s)),(1,some (flat dC s.slots)),(2,some (flat cI s.read))] 3 (fun _:Unit => True) (fun _ => iv (bH ts s v.toNat y).2) (fun _ => [(0,some (mO ts bd pts 1 2 (bH ts s v.toNat y).1)),(1,some (flat dC (bH ts s v.toNat y).1.slots)),(2,some (flat cI (bH ts s v.toNat y).1.read))]):=by
 have h := ME ts bd pts s v.toNat y hm hsl (by omega)
 rw [Int.toNat_of_nonneg hv.1] at h
 exact h
theorem Fh {ts:List Int}{bd:List AL.Stmt}{pts:List Pnt}{s:Mc}{v:Int}{x0 x1:Operand}{i0 i1 i2:Nat}(ha0:ev (lk tsl) x0 = some (.optr i0 0)) (ha1:ev (lk tsl) x1 = some (iv v)) (hH0:aQ hsl i0 = some (mO ts bd pts i1 i2 s)) (hH1:aQ hsl i1 = some (flat dC s.slots)) (hH2:aQ hsl i2 = some (flat cI s.read)) (hdd:Go.AL.distinct [i0,i1,i2] = true) (hmc:MC Tryz.prog 204 [.optr 0 0,iv v] [(0,some (mO ts bd pts 1 2 s)),(1,some (flat dC s.slots)),(2,some (flat cI s.read))] 3 (fun _:Unit => True) (fun _ => iv (jX (aY s.cells s.slots[v.toNat]!.ptr true))) (fun _ => [(0,some ([aG ts bd pts,.own 1 0 ts.length 4,sl bJ (gO s.cells s.slots[v.toNat]!.ptr),.own 2 0 s.read.length 1])),(1,some (flat dC s.slots)),(2,some (flat cI s.read))])) (hM:Nat.ble (nidl + 0) aT = true) (hN:Nat.blt d N = true){md':Md}[hmd:MdA md (fJ [x0,x1] ++ [.inr i0,.inr i1,.inr i2]) (List.map Sum.inr (List.map Prod.fst ([(i0,some ([aG ts bd pts,.own i1 0 ts.length 4,sl bJ (gO s.cells s.slots[v.toNat]!.ptr),.own i2 0 s.read.length 1])),(i1,some (flat dC s.slots)),(i2,some (flat cI s.read))]:List (Nat × Option (List AV)))) ++ [.inl d]) md'] (kk:RW Tryz.prog N all Q md' rest ⟨(d,iv (jX (aY s.cells s.slots[v.toNat]!.ptr true))) :: tsl,iA hsl [(i0,some ([aG ts bd pts,.own i1 0 ts.length 4,sl bJ (gO s.cells s.slots[v.toNat]!.ptr),.own i2 0 s.read.length 1])),(i1,some (flat dC s.slots)),(i2,some (flat cI s.read))],nidl + 0,z0⟩):RW Tryz.prog N all Q md (⟨some d,.call ⟨.value (.func 204),#[x0,x1],tys⟩,ty,pos,af,none⟩ :: rest) ⟨tsl,hsl,nidl,z0⟩:=by
 exact a6 (l := [x0,x1]) [i0,i1,i2] 3 [(i0,some ([aG ts bd pts,.own i1 0 ts.length 4,sl bJ (gO s.cells s.slots[v.toNat]!.ptr),.own i2 0 s.read.length 1])),(i1,some (flat dC s.slots)),(i2,some (flat cI s.read))] hmc (avs := [.optr i0 0,iv v]) (by simp only [evL,ha0,ha1]) hdd hM hN (md' := md') (hmd := hmd) kk
theorem Jq (ts:List Int) (bd:List AL.Stmt) (pts:List Pnt) (s:Mc) (v:Int) (hm:OkM s.cells) (hsl:s.slots.length = ts.length) (hv:0 ≤ v ∧ v < ts.length):MC Tryz.prog 204 [.optr 0 0,iv v] [(0,some (mO ts bd pts 1 2 s)),(1,some (flat dC s.slots)),(2,some (flat cI s.read))] 3 (fun _:Unit => True) (fun _ => iv (jX (aY s.cells s.slots[v.toNat]!.ptr true))) (fun _ => [(0,some ([aG ts bd pts,.own 1 0 ts.length 4,sl bJ (gO s.cells s.slots[v.toNat]!.ptr),.own 2 0 s.read.length 1])),(1,some (flat dC s.slots)),(2,some (flat cI s.read))]):=by
 have h := yQ ts bd pts s v.toNat hm hsl (by omega)
 rw [Int.toNat_of_nonneg hv.1] at h
 exact h
theorem OM (ts:List Int) (bd:List AL.Stmt) (pts:List Pnt) (s:Mc) (x:Pnt) (htl:ts.length ≤ 6) (hm:OkM s.cells) (hsl:s.slots.length = ts.length) (ho:x.op = 1) (hx:0 ≤ x.x ∧ x.x < ts.length):MC Tryz.prog 140 [.optr 0 0,dS x] [(0,some (mO ts bd pts 1 2 s)),(1,some (flat dC s.slots)),(2,some (flat cI s.read))] 3 (fun _:Unit => True) (fun _ => iv (dU ts s x).2) (fun _ => [(0,some (mO ts bd pts 1 2 (dU ts s x).1)),(1,some (flat dC (dU ts s x).1.slots)),(2,some (flat cI (dU ts s x).1.read))]):=by
 have hus := gJ ts bd pts x htl
 have hsm : Sm (wS ts x [1,2,3]) := bV (by omega)
 obtain ⟨L,hL⟩ : ∃ L,L = aZ (wS ts x [1,2,3]) := ⟨_,rfl⟩
 have hLl : L.length ≤ 62 := by rw [hL]; exact cC _
 have hmem : ∀ k, k < L.length → 0 ≤ L[k]! ∧ L[k]! < s.slots.length := fun k hk => by
  rw [hsl]; exact g7 (by rw [← hL]; exact aR _ _ hk)
 refine aU Tryz.func140 Tryz.ntmps140 ?_
 repeat' (first|(apply aF;first|(apply aA (k := 158);rfl;exact hus;exact Pur.pf;rfl)|(apply aA (k := 120);rfl;(apply fQ <;> (assumption));(rfl);rfl))|refine aE ?_|refine bQ ?_|fail)
 rw [← hL]
 refine aH (σ := Nat) [0,3,26,27] [0,1,2,3] (fun k => [(28,iv (k : Int))]) (fun k => []) (fun k => k ≤ L.length ∧ ∀ j,j < k → s.slots[(L[j]!).toNat]!.set = true) (fun k => L.length - k) (0) ⟨Nat.zero_le _,fun j h => absurd h (by omega)⟩ ?_
 rintro k ⟨hk,hall⟩
 by_cases hkn : k < L.length
 ·have hmk := hmem k hkn
  repeat' (first|refine aE ?_|(refine aK ?_ ?_ <;> intro hc hq <;> try (exfalso;omega))|fail)
  ·have hu : b7 ts s x = true := (cK htl).2 ⟨L[k]!, by rw [← hL]; exact aR _ _ hkn, by assumption⟩
   rw [vT hu]
   (refine aD rfl ?_; refine aS () trivial ?_ ⟨sE ?_,⟨sE ?_,⟨sE ?_,trivial⟩⟩⟩)
   ·rfl
   ·rfl
   ·rfl
   ·rfl
  ·(refine bC (k + 1) (Le.renA [(3, 3)]) ?_ ?_)
   ·refine ⟨by omega, fun j hj => ?_⟩
    rcases Nat.lt_or_ge j k with h|h
    ·exact hall j h
    ·rw [show j = k by omega]; assumption
   ·omega
 ·have hu : b7 ts s x = false := by
   cases q : b7 ts s x with
   | false => rfl
   | true =>
    obtain ⟨v,hv,hs⟩ := (cK htl).1 q
    rw [← hL] at hv
    obtain ⟨j,hj,e⟩ := List.getElem_of_mem hv
    have h1 := hall j (by omega)
    rw [a7 _ _ hj,e,hs] at h1;cases h1
  rw [rT hu]
  have hd : bO ts s x = bH ts s x.x.toNat ⟨true,x.n,⟨0,0⟩⟩ := by unfold bO;rw [if_pos ho]
  rw [hd]
  have hp := mJ ts bd pts s x.x ⟨true,x.n,⟨0,0⟩⟩ hm hsl hx
  repeat' (first|(apply aF;(apply kL (ts := ts) (bd := bd) (pts := pts) (s := s) (v := x.x) (y := ⟨true,x.n,⟨0,0⟩⟩);rfl;rfl;rfl;rfl;rfl;rfl;rfl;exact hp;rfl;rfl))|refine aE ?_|(refine aK ?_ ?_ <;> intro hc hq <;> try (exfalso;omega))|fail)
  (refine aD rfl ?_; refine aS () trivial ?_ ⟨sE ?_,⟨sE ?_,⟨sE ?_,trivial⟩⟩⟩)
  ·rfl
  ·rfl
  ·rfl
  ·rfl
theorem Ow (ts:List Int) (bd:List AL.Stmt) (pts:List Pnt) (s:Mc) (x:Pnt) (htl:ts.length ≤ 6) (hm:OkM s.cells) (hsl:s.slots.length = ts.length) (ho:x.op = 2) (hn:0 ≤ x.n ∧ x.n ≤ 9) (hx:0 ≤ x.x ∧ x.x < ts.length):MC Tryz.prog 140 [.optr 0 0,dS x] [(0,some (mO ts bd pts 1 2 s)),(1,some (flat dC s.slots)),(2,some (flat cI s.read))] 3 (fun _:Unit => True) (fun _ => iv (dU ts s x).2) (fun _ => [(0,some (mO ts bd pts 1 2 (dU ts s x).1)),(1,some (flat dC (dU ts s x).1.slots)),(2,some (flat cI (dU ts s x).1.read))]):=by
 have hus := gJ ts bd pts x htl
 have hsm : Sm (wS ts x [1,2,3]) := bV (by omega)
 obtain ⟨L,hL⟩ : ∃ L,L = aZ (wS ts x [1,2,3]) := ⟨_,rfl⟩
 have hLl : L.length ≤ 62 := by rw [hL]; exact cC _
 have hmem : ∀ k, k < L.length → 0 ≤ L[k]! ∧ L[k]! < s.slots.length := fun k hk => by
  rw [hsl]; exact g7 (by rw [← hL]; exact aR _ _ hk)
 refine aU Tryz.func140 Tryz.ntmps140 ?_
 repeat' (first|(apply aF;first|(apply aA (k := 158);rfl;exact hus;exact Pur.pf;rfl)|(apply aA (k := 120);rfl;(apply fQ <;> (assumption));(rfl);rfl))|refine aE ?_|refine bQ ?_|fail)
 rw [← hL]
 refine aH (σ := Nat) [0,3,26,27] [0,1,2,3] (fun k => [(28,iv (k : Int))]) (fun k => []) (fun k => k ≤ L.length ∧ ∀ j,j < k → s.slots[(L[j]!).toNat]!.set = true) (fun k => L.length - k) (0) ⟨Nat.zero_le _,fun j h => absurd h (by omega)⟩ ?_
 rintro k ⟨hk,hall⟩
 by_cases hkn : k < L.length
 ·have hmk := hmem k hkn
  repeat' (first|refine aE ?_|(refine aK ?_ ?_ <;> intro hc hq <;> try (exfalso;omega))|fail)
  ·have hu : b7 ts s x = true := (cK htl).2 ⟨L[k]!, by rw [← hL]; exact aR _ _ hkn, by assumption⟩
   rw [vT hu]
   (refine aD rfl ?_; refine aS () trivial ?_ ⟨sE ?_,⟨sE ?_,⟨sE ?_,trivial⟩⟩⟩)
   ·rfl
   ·rfl
   ·rfl
   ·rfl
  ·(refine bC (k + 1) (Le.renA [(3, 3)]) ?_ ?_)
   ·refine ⟨by omega, fun j hj => ?_⟩
    rcases Nat.lt_or_ge j k with h|h
    ·exact hall j h
    ·rw [show j = k by omega]; assumption
   ·omega
 ·have hu : b7 ts s x = false := by
   cases q : b7 ts s x with
   | false => rfl
   | true =>
    obtain ⟨v,hv,hs⟩ := (cK htl).1 q
    rw [← hL] at hv
    obtain ⟨j,hj,e⟩ := List.getElem_of_mem hv
    have h1 := hall j (by omega)
    rw [a7 _ _ hj,e,hs] at h1;cases h1
  rw [rT hu]
  have hml := hm.l
  have hnc := B5 s.cells hm x.n
  by_cases h2 : s.cells.length = 200
  ·rw [if_neg (by omega)] at hnc
   have hd : bO ts s x = (s,1) := by unfold bO;rw [if_neg (show ¬ x.op = 1 by omega),if_pos ho,if_pos h2]
   rw [hd]
   repeat' (first|(apply aF;(apply aA (k := 198);rfl;exact hnc;exact Pur.pf;rfl))|refine aE ?_|(refine aK ?_ ?_ <;> intro hc hq <;> try (exfalso;omega))|refine bQ ?_|fail)
   (refine aD rfl ?_; refine aS () trivial ?_ ⟨sE ?_,⟨sE ?_,⟨sE ?_,trivial⟩⟩⟩)
   ·rfl
   ·rfl
   ·rfl
   ·rfl
  ·rw [if_pos (by omega)] at hnc
   have hp := mJ ts bd pts ⟨s.slots,s.cells ++ [nO x.n],s.read⟩ x.x ⟨true,0,⟨s.cells.length,0⟩⟩ (hm.nw hn (by omega)) hsl hx
   have hd : bO ts s x = bH ts ⟨s.slots,s.cells ++ [nO x.n],s.read⟩ x.x.toNat ⟨true,0,⟨s.cells.length,0⟩⟩ := by unfold bO;rw [if_neg (show ¬ x.op = 1 by omega),if_pos ho,if_neg h2]
   rw [hd]
   repeat' (first|(apply aF;first|(apply aA (k := 198);rfl;exact hnc;exact Pur.pf;rfl)|(apply kL (ts := ts) (bd := bd) (pts := pts) (s := ⟨s.slots,s.cells ++ [nO x.n],s.read⟩) (v := x.x) (y := ⟨true,0,⟨s.cells.length,0⟩⟩);rfl;rfl;rfl;rfl;rfl;rfl;rfl;exact hp;rfl;rfl))|refine aE ?_|(refine aK ?_ ?_ <;> intro hc hq <;> try (exfalso;omega))|refine bQ ?_|fail)
   (refine aD rfl ?_; refine aS () trivial ?_ ⟨sE ?_,⟨sE ?_,⟨sE ?_,trivial⟩⟩⟩)
   ·rfl
   ·rfl
   ·rfl
   ·rfl
theorem OO (ts:List Int) (bd:List AL.Stmt) (pts:List Pnt) (s:Mc) (x:Pnt) (htl:ts.length ≤ 6) (hm:OkM s.cells) (hsl:s.slots.length = ts.length) (ho:x.op = 3) (hx:0 ≤ x.x ∧ x.x < ts.length) (hy:0 ≤ x.y ∧ x.y < ts.length):MC Tryz.prog 140 [.optr 0 0,dS x] [(0,some (mO ts bd pts 1 2 s)),(1,some (flat dC s.slots)),(2,some (flat cI s.read))] 3 (fun _:Unit => True) (fun _ => iv (dU ts s x).2) (fun _ => [(0,some (mO ts bd pts 1 2 (dU ts s x).1)),(1,some (flat dC (dU ts s x).1.slots)),(2,some (flat cI (dU ts s x).1.read))]):=by
 have hus := gJ ts bd pts x htl
 have hsm : Sm (wS ts x [1,2,3]) := bV (by omega)
 obtain ⟨L,hL⟩ : ∃ L,L = aZ (wS ts x [1,2,3]) := ⟨_,rfl⟩
 have hLl : L.length ≤ 62 := by rw [hL]; exact cC _
 have hmem : ∀ k, k < L.length → 0 ≤ L[k]! ∧ L[k]! < s.slots.length := fun k hk => by
  rw [hsl]; exact g7 (by rw [← hL]; exact aR _ _ hk)
 refine aU Tryz.func140 Tryz.ntmps140 ?_
 repeat' (first|(apply aF;first|(apply aA (k := 158);rfl;exact hus;exact Pur.pf;rfl)|(apply aA (k := 120);rfl;(apply fQ <;> (assumption));(rfl);rfl))|refine aE ?_|refine bQ ?_|fail)
 rw [← hL]
 refine aH (σ := Nat) [0,3,26,27] [0,1,2,3] (fun k => [(28,iv (k : Int))]) (fun k => []) (fun k => k ≤ L.length ∧ ∀ j,j < k → s.slots[(L[j]!).toNat]!.set = true) (fun k => L.length - k) (0) ⟨Nat.zero_le _,fun j h => absurd h (by omega)⟩ ?_
 rintro k ⟨hk,hall⟩
 by_cases hkn : k < L.length
 ·have hmk := hmem k hkn
  repeat' (first|refine aE ?_|(refine aK ?_ ?_ <;> intro hc hq <;> try (exfalso;omega))|fail)
  ·have hu : b7 ts s x = true := (cK htl).2 ⟨L[k]!, by rw [← hL]; exact aR _ _ hkn, by assumption⟩
   rw [vT hu]
   (refine aD rfl ?_; refine aS () trivial ?_ ⟨sE ?_,⟨sE ?_,⟨sE ?_,trivial⟩⟩⟩)
   ·rfl
   ·rfl
   ·rfl
   ·rfl
  ·(refine bC (k + 1) (Le.renA [(3, 3)]) ?_ ?_)
   ·refine ⟨by omega, fun j hj => ?_⟩
    rcases Nat.lt_or_ge j k with h|h
    ·exact hall j h
    ·rw [show j = k by omega]; assumption
   ·omega
 ·have hu : b7 ts s x = false := by
   cases q : b7 ts s x with
   | false => rfl
   | true =>
    obtain ⟨v,hv,hs⟩ := (cK htl).1 q
    rw [← hL] at hv
    obtain ⟨j,hj,e⟩ := List.getElem_of_mem hv
    have h1 := hall j (by omega)
    rw [a7 _ _ hj,e,hs] at h1;cases h1
  rw [rT hu]
  have hd : bO ts s x = bH ts (if vM ts[x.y.toNat]! = true then ⟨s.slots.set x.y.toNat fZ,s.cells,s.read⟩ else s) x.x.toNat s.slots[x.y.toNat]! := by unfold bO;rw [if_neg (show ¬ x.op = 1 by omega),if_neg (show ¬ x.op = 2 by omega),if_pos ho]
  rw [hd]
  have htk := zH ts bd pts x.y hy
  by_cases hk : vM ts[x.y.toNat]! = true
  ·rw [hk] at htk
   rw [if_pos hk]
   have hp := mJ ts bd pts ⟨s.slots.set x.y.toNat fZ,s.cells,s.read⟩ x.x s.slots[x.y.toNat]! hm (by show (s.slots.set _ _).length = _; rw [List.length_set]; exact hsl) hx
   repeat' (first|(apply aF;first|(apply aA (k := 199);rfl;exact htk;exact Pur.pf;rfl)|(apply kL (ts := ts) (bd := bd) (pts := pts) (s := ⟨s.slots.set x.y.toNat fZ,s.cells,s.read⟩) (v := x.x) (y := s.slots[x.y.toNat]!);rfl;rfl;rfl;rfl;rfl;rfl;rfl;exact hp;rfl;rfl)|(apply bB;rfl;rfl;rfl;rfl;rfl;(case hl => (first|(rw [aI]; simp only [gD] <;> omega)|(simp;done)));(exact xL (by (omega)))))|refine aE ?_|(refine aK ?_ ?_ <;> intro hc hq <;> try (exfalso;omega))|refine bQ ?_|fail)
   (refine aD rfl ?_; refine aS () trivial ?_ ⟨sE ?_,⟨sE ?_,⟨sE ?_,trivial⟩⟩⟩)
   ·rfl
   ·rfl
   ·rfl
   ·rfl
  ·have hk2 : vM ts[x.y.toNat]! = false := by simpa using hk
   rw [hk2] at htk
   rw [if_neg hk]
   have hp := mJ ts bd pts s x.x s.slots[x.y.toNat]! hm hsl hx
   repeat' (first|(apply aF;first|(apply aA (k := 199);rfl;exact htk;exact Pur.pf;rfl)|(apply kL (ts := ts) (bd := bd) (pts := pts) (s := s) (v := x.x) (y := s.slots[x.y.toNat]!);rfl;rfl;rfl;rfl;rfl;rfl;rfl;exact hp;rfl;rfl))|refine aE ?_|(refine aK ?_ ?_ <;> intro hc hq <;> try (exfalso;omega))|refine bQ ?_|fail)
   (refine aD rfl ?_; refine aS () trivial ?_ ⟨sE ?_,⟨sE ?_,⟨sE ?_,trivial⟩⟩⟩)
   ·rfl
   ·rfl
   ·rfl
   ·rfl
theorem Ns (ts:List Int) (bd:List AL.Stmt) (pts:List Pnt) (s:Mc) (x:Pnt) (htl:ts.length ≤ 6) (hm:OkM s.cells) (hsl:s.slots.length = ts.length) (ho:x.op = 4 ∨ x.op = 5) (hx:0 ≤ x.x ∧ x.x < ts.length) (hy:0 ≤ x.y ∧ x.y < ts.length):MC Tryz.prog 140 [.optr 0 0,dS x] [(0,some (mO ts bd pts 1 2 s)),(1,some (flat dC s.slots)),(2,some (flat cI s.read))] 3 (fun _:Unit => True) (fun _ => iv (dU ts s x).2) (fun _ => [(0,some (mO ts bd pts 1 2 (dU ts s x).1)),(1,some (flat dC (dU ts s x).1.slots)),(2,some (flat cI (dU ts s x).1.read))]):=by
 have hus := gJ ts bd pts x htl
 have hsm : Sm (wS ts x [1,2,3]) := bV (by omega)
 obtain ⟨L,hL⟩ : ∃ L,L = aZ (wS ts x [1,2,3]) := ⟨_,rfl⟩
 have hLl : L.length ≤ 62 := by rw [hL]; exact cC _
 have hmem : ∀ k, k < L.length → 0 ≤ L[k]! ∧ L[k]! < s.slots.length := fun k hk => by
  rw [hsl]; exact g7 (by rw [← hL]; exact aR _ _ hk)
 refine aU Tryz.func140 Tryz.ntmps140 ?_
 repeat' (first|(apply aF;first|(apply aA (k := 158);rfl;exact hus;exact Pur.pf;rfl)|(apply aA (k := 120);rfl;(apply fQ <;> (assumption));(rfl);rfl))|refine aE ?_|refine bQ ?_|fail)
 rw [← hL]
 refine aH (σ := Nat) [0,3,26,27] [0,1,2,3] (fun k => [(28,iv (k : Int))]) (fun k => []) (fun k => k ≤ L.length ∧ ∀ j,j < k → s.slots[(L[j]!).toNat]!.set = true) (fun k => L.length - k) (0) ⟨Nat.zero_le _,fun j h => absurd h (by omega)⟩ ?_
 rintro k ⟨hk,hall⟩
 by_cases hkn : k < L.length
 ·have hmk := hmem k hkn
  repeat' (first|refine aE ?_|(refine aK ?_ ?_ <;> intro hc hq <;> try (exfalso;omega))|fail)
  ·have hu : b7 ts s x = true := (cK htl).2 ⟨L[k]!, by rw [← hL]; exact aR _ _ hkn, by assumption⟩
   rw [vT hu]
   (refine aD rfl ?_; refine aS () trivial ?_ ⟨sE ?_,⟨sE ?_,⟨sE ?_,trivial⟩⟩⟩)
   ·rfl
   ·rfl
   ·rfl
   ·rfl
  ·(refine bC (k + 1) (Le.renA [(3, 3)]) ?_ ?_)
   ·refine ⟨by omega, fun j hj => ?_⟩
    rcases Nat.lt_or_ge j k with h|h
    ·exact hall j h
    ·rw [show j = k by omega]; assumption
   ·omega
 ·have hu : b7 ts s x = false := by
   cases q : b7 ts s x with
   | false => rfl
   | true =>
    obtain ⟨v,hv,hs⟩ := (cK htl).1 q
    rw [← hL] at hv
    obtain ⟨j,hj,e⟩ := List.getElem_of_mem hv
    have h1 := hall j (by omega)
    rw [a7 _ _ hj,e,hs] at h1;cases h1
  rw [rT hu]
  have hle := Lt s.cells hm s.slots[x.y.toNat]!.ptr (decide (x.op = 5))
  by_cases hk : j7 s.cells s.slots[x.y.toNat]!.ptr (decide (x.op = 5)) = 0
  ·have hp := mJ ts bd pts ⟨s.slots, jI s.cells s.slots[x.y.toNat]!.ptr (decide (x.op = 5)), s.read⟩ x.x ⟨true, 0, oH s.cells s.slots[x.y.toNat]!.ptr (decide (x.op = 5))⟩ (hm.ln _ _) hsl hx
   have hd : bO ts s x = bH ts ⟨s.slots,jI s.cells s.slots[x.y.toNat]!.ptr (decide (x.op = 5)),s.read⟩ x.x.toNat ⟨true,0,oH s.cells s.slots[x.y.toNat]!.ptr (decide (x.op = 5))⟩ := by unfold bO;rw [if_neg (show ¬ x.op = 1 by omega),if_neg (show ¬ x.op = 2 by omega),if_neg (show ¬ x.op = 3 by omega),if_pos ho,if_pos hk]
   rw [hd]
   rw [hk] at hle
   repeat' (first|(apply aF;first|(apply iW;(case hx|hH => rfl);(case hf|hg|hα => infer_instance);(case hk => omega);(case hj => decide);(case hc => exact (rfl:_=[_,_]));(case h0|hN => rfl))|(apply aA (k := 200);rfl;exact hle;exact Pur.pf;rfl)|(apply kL (ts := ts) (bd := bd) (pts := pts) (s := ⟨s.slots,jI s.cells s.slots[x.y.toNat]!.ptr (decide (x.op = 5)),s.read⟩) (v := x.x) (y := ⟨true,0,oH s.cells s.slots[x.y.toNat]!.ptr (decide (x.op = 5))⟩);(case ha0|ha1|ha2|hH0|hH1|hH2|hdd => rfl);(case hmc => exact hp);(case hM|hN => rfl)))|refine aE ?_|(refine aK ?_ ?_ <;> intro hc hq <;> try (exfalso;omega))|refine bQ ?_|fail)
   all_goals (
    (refine aD rfl ?_; refine aS () trivial ?_ ⟨sE ?_,⟨sE ?_,⟨sE ?_,trivial⟩⟩⟩)
    ·rfl
    ·rfl
    ·rfl
    ·rfl)
  ·have hd : bO ts s x = (s, dY (j7 s.cells s.slots[x.y.toNat]!.ptr (decide (x.op = 5)))) := by unfold bO; rw [if_neg (show ¬ x.op = 1 by omega), if_neg (show ¬ x.op = 2 by omega), if_neg (show ¬ x.op = 3 by omega), if_pos ho, if_neg hk]
   rw [hd]
   repeat' (first|(apply aF;first|(apply iW;(case hx|hH => rfl);(case hf|hg|hα => infer_instance);(case hk => omega);(case hj => decide);(case hc => exact (rfl:_=[_,_]));(case h0|hN => rfl))|(apply aA (k := 200);rfl;exact hle;exact Pur.pf;rfl)|(apply aA (k := 201);rfl;(apply sS);(rfl);rfl))|refine aE ?_|(refine aK ?_ ?_ <;> intro hc hq <;> try (exfalso;omega))|refine bQ ?_|fail)
   all_goals (
    (refine aD rfl ?_; refine aS () trivial ?_ ⟨sE ?_,⟨sE ?_,⟨sE ?_,trivial⟩⟩⟩)
    ·rfl
    ·rfl
    ·rfl
    ·rfl)
theorem Pe (ts:List Int) (bd:List AL.Stmt) (pts:List Pnt) (s:Mc) (x:Pnt) (htl:ts.length ≤ 6) (hm:OkM s.cells) (hsl:s.slots.length = ts.length) (ho:x.op = 6) (hrl:s.read.length ≤ 1000) (hx:0 ≤ x.x ∧ x.x < ts.length) (hy:0 ≤ x.y ∧ x.y < ts.length) (hz:¬ aY s.cells s.slots[x.y.toNat]!.ptr false = 0):MC Tryz.prog 140 [.optr 0 0,dS x] [(0,some (mO ts bd pts 1 2 s)),(1,some (flat dC s.slots)),(2,some (flat cI s.read))] 3 (fun _:Unit => True) (fun _ => iv (dU ts s x).2) (fun _ => [(0,some (mO ts bd pts 1 2 (dU ts s x).1)),(1,some (flat dC (dU ts s x).1.slots)),(2,some (flat cI (dU ts s x).1.read))]):=by
 have hus := gJ ts bd pts x htl
 have hsm : Sm (wS ts x [1,2,3]) := bV (by omega)
 obtain ⟨L,hL⟩ : ∃ L,L = aZ (wS ts x [1,2,3]) := ⟨_,rfl⟩
 have hLl : L.length ≤ 62 := by rw [hL]; exact cC _
 have hmem : ∀ k, k < L.length → 0 ≤ L[k]! ∧ L[k]! < s.slots.length := fun k hk => by
  rw [hsl]; exact g7 (by rw [← hL]; exact aR _ _ hk)
 refine aU Tryz.func140 Tryz.ntmps140 ?_
 repeat' (first|(apply aF;first|(apply aA (k := 158);rfl;exact hus;exact Pur.pf;rfl)|(apply aA (k := 120);rfl;(apply fQ <;> (assumption));(rfl);rfl))|refine aE ?_|refine bQ ?_|fail)
 rw [← hL]
 refine aH (σ := Nat) [0,3,26,27] [0,1,2,3] (fun k => [(28,iv (k : Int))]) (fun k => []) (fun k => k ≤ L.length ∧ ∀ j,j < k → s.slots[(L[j]!).toNat]!.set = true) (fun k => L.length - k) (0) ⟨Nat.zero_le _,fun j h => absurd h (by omega)⟩ ?_
 rintro k ⟨hk,hall⟩
 by_cases hkn : k < L.length
 ·have hmk := hmem k hkn
  repeat' (first|refine aE ?_|(refine aK ?_ ?_ <;> intro hc hq <;> try (exfalso;omega))|fail)
  ·have hu : b7 ts s x = true := (cK htl).2 ⟨L[k]!, by rw [← hL]; exact aR _ _ hkn, by assumption⟩
   rw [vT hu]
   (refine aD rfl ?_; refine aS () trivial ?_ ⟨sE ?_,⟨sE ?_,⟨sE ?_,trivial⟩⟩⟩)
   ·rfl
   ·rfl
   ·rfl
   ·rfl
  ·(refine bC (k + 1) (Le.renA [(3, 3)]) ?_ ?_)
   ·refine ⟨by omega, fun j hj => ?_⟩
    rcases Nat.lt_or_ge j k with h|h
    ·exact hall j h
    ·rw [show j = k by omega]; assumption
   ·omega
 ·have hu : b7 ts s x = false := by
   cases q : b7 ts s x with
   | false => rfl
   | true =>
    obtain ⟨v,hv,hs⟩ := (cK htl).1 q
    rw [← hL] at hv
    obtain ⟨j,hj,e⟩ := List.getElem_of_mem hv
    have h1 := hall j (by omega)
    rw [a7 _ _ hj,e,hs] at h1;cases h1
  rw [rT hu]
  have hrc := rH s.cells hm s.slots[x.y.toNat]!.ptr
  have hd : bO ts s x = (s,dY (aY s.cells s.slots[x.y.toNat]!.ptr false)) := by unfold bO;rw [if_neg (show ¬ x.op = 1 by omega),if_neg (show ¬ x.op = 2 by omega),if_neg (show ¬ x.op = 3 by omega),if_neg (show ¬ (x.op = 4 ∨ x.op = 5) by omega),if_pos ho,if_neg hz]
  rw [hd]
  repeat' (first|(apply aF;first|(apply iW;(case hx|hH => rfl);(case hf|hg|hα => infer_instance);(case hk => omega);(case hj => decide);(case hc => exact (rfl:_=[_,_]));(case h0|hN => rfl))|(apply aA (k := 202);rfl;exact hrc;exact Pur.pf;rfl)|(apply aA (k := 201);rfl;(apply sS);(rfl);rfl))|refine aE ?_|(refine aK ?_ ?_ <;> intro hc hq <;> try (exfalso;omega))|refine bQ ?_|fail)
  (refine aD rfl ?_; refine aS () trivial ?_ ⟨sE ?_,⟨sE ?_,⟨sE ?_,trivial⟩⟩⟩)
  ·rfl
  ·rfl
  ·rfl
  ·rfl
theorem OR (ts:List Int) (bd:List AL.Stmt) (pts:List Pnt) (s:Mc) (x:Pnt) (htl:ts.length ≤ 6) (hm:OkM s.cells) (hsl:s.slots.length = ts.length) (ho:x.op = 7) (hx:0 ≤ x.x ∧ x.x < ts.length) (hy:0 ≤ x.y ∧ x.y < ts.length):MC Tryz.prog 140 [.optr 0 0,dS x] [(0,some (mO ts bd pts 1 2 s)),(1,some (flat dC s.slots)),(2,some (flat cI s.read))] 3 (fun _:Unit => True) (fun _ => iv (dU ts s x).2) (fun _ => [(0,some (mO ts bd pts 1 2 (dU ts s x).1)),(1,some (flat dC (dU ts s x).1.slots)),(2,some (flat cI (dU ts s x).1.read))]):=by
 have hus := gJ ts bd pts x htl
 have hsm : Sm (wS ts x [1,2,3]) := bV (by omega)
 obtain ⟨L,hL⟩ : ∃ L,L = aZ (wS ts x [1,2,3]) := ⟨_,rfl⟩
 have hLl : L.length ≤ 62 := by rw [hL]; exact cC _
 have hmem : ∀ k, k < L.length → 0 ≤ L[k]! ∧ L[k]! < s.slots.length := fun k hk => by
  rw [hsl]; exact g7 (by rw [← hL]; exact aR _ _ hk)
 refine aU Tryz.func140 Tryz.ntmps140 ?_
 repeat' (first|(apply aF;first|(apply aA (k := 158);rfl;exact hus;exact Pur.pf;rfl)|(apply aA (k := 120);rfl;(apply fQ <;> (assumption));(rfl);rfl))|refine aE ?_|refine bQ ?_|fail)
 rw [← hL]
 refine aH (σ := Nat) [0,3,26,27] [0,1,2,3] (fun k => [(28,iv (k : Int))]) (fun k => []) (fun k => k ≤ L.length ∧ ∀ j,j < k → s.slots[(L[j]!).toNat]!.set = true) (fun k => L.length - k) (0) ⟨Nat.zero_le _,fun j h => absurd h (by omega)⟩ ?_
 rintro k ⟨hk,hall⟩
 by_cases hkn : k < L.length
 ·have hmk := hmem k hkn
  repeat' (first|refine aE ?_|(refine aK ?_ ?_ <;> intro hc hq <;> try (exfalso;omega))|fail)
  ·have hu : b7 ts s x = true := (cK htl).2 ⟨L[k]!, by rw [← hL]; exact aR _ _ hkn, by assumption⟩
   rw [vT hu]
   (refine aD rfl ?_; refine aS () trivial ?_ ⟨sE ?_,⟨sE ?_,⟨sE ?_,trivial⟩⟩⟩)
   ·rfl
   ·rfl
   ·rfl
   ·rfl
  ·(refine bC (k + 1) (Le.renA [(3, 3)]) ?_ ?_)
   ·refine ⟨by omega, fun j hj => ?_⟩
    rcases Nat.lt_or_ge j k with h|h
    ·exact hall j h
    ·rw [show j = k by omega]; assumption
   ·omega
 ·have hu : b7 ts s x = false := by
   cases q : b7 ts s x with
   | false => rfl
   | true =>
    obtain ⟨v,hv,hs⟩ := (cK htl).1 q
    rw [← hL] at hv
    obtain ⟨j,hj,e⟩ := List.getElem_of_mem hv
    have h1 := hall j (by omega)
    rw [a7 _ _ hj,e,hs] at h1;cases h1
  rw [rT hu]
  have hwr := zS s.cells hm s.slots[x.x.toNat]!.ptr s.slots[x.y.toNat]!.num
  have hd : bO ts s x = (⟨s.slots,nU s.cells s.slots[x.x.toNat]!.ptr s.slots[x.y.toNat]!.num,s.read⟩,jX (o6 s.cells s.slots[x.x.toNat]!.ptr s.slots[x.y.toNat]!.num)) := by unfold bO;rw [if_neg (show ¬ x.op = 1 by omega),if_neg (show ¬ x.op = 2 by omega),if_neg (show ¬ x.op = 3 by omega),if_neg (show ¬ (x.op = 4 ∨ x.op = 5) by omega),if_neg (show ¬ x.op = 6 by omega),if_pos ho]
  rw [hd]
  repeat' (first|(apply aF;first|(apply iW;(case hx|hH => rfl);(case hf|hg|hα => infer_instance);(case hk => omega);(case hj => decide);(case hc => exact (rfl:_=[_,_]));(case h0|hN => rfl))|(apply aA (k := 203);rfl;exact hwr;exact Pur.pf;rfl)|(apply aA (k := 201);rfl;(apply sS);(rfl);rfl))|refine aE ?_|(refine aK ?_ ?_ <;> intro hc hq <;> try (exfalso;omega))|refine bQ ?_|fail)
  ·have hk : ¬ o6 s.cells s.slots[x.x.toNat]!.ptr s.slots[x.y.toNat]!.num = 0 := by assumption
   (refine aD rfl ?_; refine aS () trivial ?_ ⟨sE ?_,⟨sE ?_,⟨sE ?_,trivial⟩⟩⟩)
   ·show iv (dY _) = iv (jX _)
    unfold jX;rw [if_neg hk]
   ·rfl
   ·rfl
   ·rfl
  ·have hk : o6 s.cells s.slots[x.x.toNat]!.ptr s.slots[x.y.toNat]!.num = 0 := by assumption
   (refine aD rfl ?_; refine aS () trivial ?_ ⟨sE ?_,⟨sE ?_,⟨sE ?_,trivial⟩⟩⟩)
   ·rw [hk]; rfl
   ·rfl
   ·rfl
   ·rfl
theorem Ph (ts:List Int) (bd:List AL.Stmt) (pts:List Pnt) (s:Mc) (x:Pnt) (htl:ts.length ≤ 6) (hm:OkM s.cells) (hsl:s.slots.length = ts.length) (ho:x.op = 8) (hx:0 ≤ x.x ∧ x.x < ts.length):MC Tryz.prog 140 [.optr 0 0,dS x] [(0,some (mO ts bd pts 1 2 s)),(1,some (flat dC s.slots)),(2,some (flat cI s.read))] 3 (fun _:Unit => True) (fun _ => iv (dU ts s x).2) (fun _ => [(0,some (mO ts bd pts 1 2 (dU ts s x).1)),(1,some (flat dC (dU ts s x).1.slots)),(2,some (flat cI (dU ts s x).1.read))]):=by
 have hus := gJ ts bd pts x htl
 have hsm : Sm (wS ts x [1,2,3]) := bV (by omega)
 obtain ⟨L,hL⟩ : ∃ L,L = aZ (wS ts x [1,2,3]) := ⟨_,rfl⟩
 have hLl : L.length ≤ 62 := by rw [hL]; exact cC _
 have hmem : ∀ k, k < L.length → 0 ≤ L[k]! ∧ L[k]! < s.slots.length := fun k hk => by
  rw [hsl]; exact g7 (by rw [← hL]; exact aR _ _ hk)
 refine aU Tryz.func140 Tryz.ntmps140 ?_
 repeat' (first|(apply aF;first|(apply aA (k := 158);rfl;exact hus;exact Pur.pf;rfl)|(apply aA (k := 120);rfl;(apply fQ <;> (assumption));(rfl);rfl))|refine aE ?_|refine bQ ?_|fail)
 rw [← hL]
 refine aH (σ := Nat) [0,3,26,27] [0,1,2,3] (fun k => [(28,iv (k : Int))]) (fun k => []) (fun k => k ≤ L.length ∧ ∀ j,j < k → s.slots[(L[j]!).toNat]!.set = true) (fun k => L.length - k) (0) ⟨Nat.zero_le _,fun j h => absurd h (by omega)⟩ ?_
 rintro k ⟨hk,hall⟩
 by_cases hkn : k < L.length
 ·have hmk := hmem k hkn
  repeat' (first|refine aE ?_|(refine aK ?_ ?_ <;> intro hc hq <;> try (exfalso;omega))|fail)
  ·have hu : b7 ts s x = true := (cK htl).2 ⟨L[k]!, by rw [← hL]; exact aR _ _ hkn, by assumption⟩
   rw [vT hu]
   (refine aD rfl ?_; refine aS () trivial ?_ ⟨sE ?_,⟨sE ?_,⟨sE ?_,trivial⟩⟩⟩)
   ·rfl
   ·rfl
   ·rfl
   ·rfl
  ·(refine bC (k + 1) (Le.renA [(3, 3)]) ?_ ?_)
   ·refine ⟨by omega, fun j hj => ?_⟩
    rcases Nat.lt_or_ge j k with h|h
    ·exact hall j h
    ·rw [show j = k by omega]; assumption
   ·omega
 ·have hu : b7 ts s x = false := by
   cases q : b7 ts s x with
   | false => rfl
   | true =>
    obtain ⟨v,hv,hs⟩ := (cK htl).1 q
    rw [← hL] at hv
    obtain ⟨j,hj,e⟩ := List.getElem_of_mem hv
    have h1 := hall j (by omega)
    rw [a7 _ _ hj,e,hs] at h1;cases h1
  rw [rT hu]
  have hfr := Jq ts bd pts s x.x hm hsl hx
  have hd : bO ts s x = (⟨s.slots.set x.x.toNat fZ,gO s.cells s.slots[x.x.toNat]!.ptr,s.read⟩,jX (aY s.cells s.slots[x.x.toNat]!.ptr true)) := by unfold bO;rw [if_neg (show ¬ x.op = 1 by omega),if_neg (show ¬ x.op = 2 by omega),if_neg (show ¬ x.op = 3 by omega),if_neg (show ¬ (x.op = 4 ∨ x.op = 5) by omega),if_neg (show ¬ x.op = 6 by omega),if_neg (show ¬ x.op = 7 by omega),if_pos ho]
  rw [hd]
  repeat' (first|(apply aF;first|(apply Fh (ts := ts) (bd := bd) (pts := pts) (s := s) (v := x.x);rfl;rfl;rfl;rfl;rfl;rfl;exact hfr;rfl;rfl)|(apply bB;rfl;rfl;rfl;rfl;rfl;(rw [aI]; simp only [gD] <;> omega);(exact xL (by (omega)))))|refine aE ?_|(refine aK ?_ ?_ <;> intro hc hq <;> try (exfalso;omega))|refine bQ ?_|fail)
  (refine aD rfl ?_; refine aS () trivial ?_ ⟨sE ?_,⟨sE ?_,⟨sE ?_,trivial⟩⟩⟩)
  ·rfl
  ·rfl
  ·rfl
  ·rfl
end Go.Proofs.YtahdccneecdmmaaGreat
