/-
 A part of the proofs over this program: rules and contracts of its functions (the contracts).
-/
import Derived.Test.YtjcpngimjdckmaaGreatQ2B04
set_option linter.unusedVariables false
set_option linter.unusedSimpArgs false
set_option maxHeartbeats 8000000
set_option maxRecDepth 4000
attribute [local irreducible] Go.AL.RW Go.AL.AW Go.AL.Stop
namespace Go.Proofs.YtjcpngimjdckmaaGreat
open Go.AL Go.RowKit
theorem iD {m:List Cl}{N:Nat}{Q:Exit → AS → Prop}{all:Array Oper}{rest:List Oper}{tsl:List (Nat × AV)}{hsl:List (Nat × Option (List AV))}{nidl:Nat}{z0:Lo}{md:Md}{d:Nat}{ty:TypeId}{pos:String}{af:Array Edge}{tys:Array TypeId}{x0:Operand}(ha0:ev (lk tsl) x0 = some (sl eF m)) (hmc:MC Tryz.prog 189 [sl eF m] [] 0 (fun _:Unit => True) (fun _ => .own 1 0 m.length 4) (fun _ => [(1,some (flat eF m))])) (hM:Nat.ble (nidl + 2) dJ = true) (hN:Nat.blt d N = true){md':Md}[hmd:MdA md (hO [x0] ++ []) (List.map Sum.inr (List.map Prod.fst ([((nidl + 1),some (flat eF m))]:List (Nat × Option (List AV)))) ++ [.inl d]) md'] (kk:RW Tryz.prog N all Q md' rest ⟨(d,.own (nidl + 1) 0 m.length 4) :: tsl,iY hsl [((nidl + 1),some (flat eF m))],nidl + 2,z0⟩):RW Tryz.prog N all Q md (⟨some d,.call ⟨.value (.func 189),#[x0],tys⟩,ty,pos,af,none⟩ :: rest) ⟨tsl,hsl,nidl,z0⟩ := by
 refine cL [] 2 [((nidl + 1), some (flat eF m))] hmc (avs := [sl eF m]) ?_ rfl ?_ rfl ?_ (by simpa using hM) ?_ ?_ ?_ hN (md' := md') (hmd := hmd) kk
 ·show evL (lk tsl) [x0] = _
  simp only [evL, ha0]
 ·exact trivial
 ·(repeat' (exact RnL.purI inferInstance))
 ·(repeat' (exact RnV.own rfl))
 ·simp [dT]
 ·(repeat' (first|exact trivial|(refine And.intro ⟨1, _, rfl, rfl, ?_⟩ ?_)|exact RnL.purI inferInstance))
theorem pO {m:List Cl}{j:Nat}{N:Nat}{Q:Exit → AS → Prop}{all:Array Oper}{rest:List Oper}{tsl:List (Nat × AV)}{hsl:List (Nat × Option (List AV))}{nidl:Nat}{z0:Lo}{md:Md}{d:Nat}{ty:TypeId}{pos:String}{af:Array Edge}{tys:Array TypeId}{x0:Operand}(ha0:ev (lk tsl) x0 = some (sl eF m)) (hmc:MC Tryz.prog 189 [sl eF m] [] 0 (fun _:Unit => True) (fun _ => .own 1 0 m.length 4) (fun _ => [(1,some (flat g8 (fC m j (.own 2 0 m[j]!.stk.length 2)))),(2,some (flat eO m[j]!.stk))])) (hM:Nat.ble (nidl + 3) dJ = true) (hN:Nat.blt d N = true){md':Md}[hmd:MdA md (hO [x0] ++ []) (List.map Sum.inr (List.map Prod.fst ([((nidl + 1),some (flat g8 (fC m j (.own (nidl + 2) 0 m[j]!.stk.length 2)))),((nidl + 2),some (flat eO m[j]!.stk))]:List (Nat × Option (List AV)))) ++ [.inl d]) md'] (kk:RW Tryz.prog N all Q md' rest ⟨(d,.own (nidl + 1) 0 m.length 4) :: tsl,iY hsl [((nidl + 1),some (flat g8 (fC m j (.own (nidl + 2) 0 m[j]!.stk.length 2)))),((nidl + 2),some (flat eO m[j]!.stk))],nidl + 3,z0⟩):RW Tryz.prog N all Q md (⟨some d,.call ⟨.value (.func 189),#[x0],tys⟩,ty,pos,af,none⟩ :: rest) ⟨tsl,hsl,nidl,z0⟩ := by
 refine cL [] 3 [((nidl + 1), some (flat g8 (fC m j (.own (nidl + 2) 0 m[j]!.stk.length 2)))), ((nidl + 2), some (flat eO m[j]!.stk))] hmc (avs := [sl eF m]) ?_ rfl ?_ rfl ?_ (by simpa using hM) ?_ ?_ ?_ hN (md' := md') (hmd := hmd) kk
 ·show evL (lk tsl) [x0] = _
  simp only [evL, ha0]
 ·exact trivial
 ·(repeat' (exact RnL.purI inferInstance))
 ·(repeat' (exact RnV.own rfl))
 ·simp [dT]
 ·(repeat' (first|exact trivial|(refine And.intro ⟨1, _, rfl, rfl, ?_⟩ ?_)|(refine And.intro ⟨2, _, rfl, rfl, ?_⟩ ?_)|exact RnL.purI inferInstance|exact oH rfl))
theorem mP {α:Type}[Inhabited α] (l:List α) (k:Nat):l.set k l[k]! = l := by
 rcases Nat.lt_or_ge k l.length with h|h
 ·rw [cK _ _ h]; simp
 ·exact List.set_eq_of_length_le h
theorem DX {m:List Cl}{i:Nat}(hi:i < m.length):hZ (flat eF m) (0 + i * 4 + 3) [sl eO m[i]!.stk] = flat eF m := by
 have h := Ks (xs := m) (k := i) (s := m[i]!.stk) hi
 rw [show m.set i { m[i]! with stk := m[i]!.stk } = m from mP m i] at h
 exact h
theorem CO {m:List Cl}{i j:Nat}{X:AV}(hi:i < m.length) (h:i ≠ j):(fC m j X)[i]! = sB m[i]! := by
 unfold fC
 rw [cK _ _ (by rw [List.length_set, List.length_map]; exact hi), List.getElem_set_ne (fun e => h e.symm), List.getElem_map, cK _ _ hi]
theorem IM {m:List Cl}{i j:Nat}{X:AV}(h:i < m.length ∧ i ≠ j):hZ (flat g8 (fC m j X)) (0 + i * 4 + 3) [sl eO m[i]!.stk] = flat g8 (fC m j X) := by
 have hl := eZ (m := m) (j := j) (X := X)
 have e : (fC m j X).set i { (fC m j X)[i]! with av := sl eO m[i]!.stk } = fC m j X := by
  rw [CO h.1 h.2]
  have : ({ sB m[i]! with av := sl eO m[i]!.stk } : Co) = (fC m j X)[i]! := by rw [CO h.1 h.2]; rfl
  rw [this]; exact mP _ _
 rw [← e]
 have := gF (f := g8) (xs := fC m j X) (k := i) (j := 3) (new := [sl eO m[i]!.stk]) (y := { (fC m j X)[i]! with av := sl eO m[i]!.stk }) (by rw [hl]; exact h.1) (by simp) rfl
 rw [e] at this ⊢
 exact this
theorem o4 {mp:List (Nat × Nat)}{lo:Lo}:∀ {cs:List AV},c9 cs = true → All2 (E9 mp lo) cs cs
 | [], _ => .nil
 | c :: cs, h => by
  simp only [c9, Bool.and_eq_true] at h
  exact .cons (.inl ⟨rfl, h.1⟩) (o4 h.2)
theorem tQ {α β:Type}{R:α → β → Prop}:∀ {a:List α}{b:List β}{c:List α}{d:List β},All2 R a b → All2 R c d → All2 R (a ++ c) (b ++ d)
 | _, _, _, _, .nil, h => h
 | _, _, _, _, .cons h1 h2, h => .cons h1 (tQ h2 h)
theorem Ed {mp:List (Nat × Nat)}{lo:Lo}{m:List Cl}{j k i i':Nat}(h:j < m.length) (hr:Lx mp lo (.own i 0 k 2) = some (.own i' 0 k 2)):All2 (E9 mp lo) (flat g8 (fC m j (.own i 0 k 2))) (flat g8 (fC m j (.own i' 0 k 2))) := by
 rw [jY h, jY h]
 exact tQ (o4 (inferInstance : Pur (flat eF _)).pf) (tQ (o4 (inferInstance : Pur [iv _, bv _, iv _]).pf) (.cons (.inr hr) (o4 (inferInstance : Pur (flat eF _)).pf)))
theorem kP (m:List Cl) (hm:OkM m):MC Tryz.prog 189 [sl eF m] [] 0 (fun _:Unit => True) (fun _ => .own 1 0 m.length 4) (fun _ => [(1,some (flat eF m))]) := by
 have hml := hm.l
 have hcc := Bp m (by omega)
 (refine cC Tryz.func189 rfl (by simp [Tryz.ntmps189]) ?_; rw [Tryz.ntmps189])
 repeat' (first|(apply aK;first|(apply wN;rfl;exact hcc;rfl;rfl)|(apply aE;rfl;rfl)|(apply aC;rfl;rfl)|(apply a8;rfl;rfl;rfl)|(apply aF;kernel_rfl))|(apply aL;first|apply aH|apply aB|apply aM)|with_reducible apply aA)
 refine bF (σ := Nat) [3, 8, 9] [(3, _), (8, _), (9, _)] [] [] (fun k => [(10, iv (k : Int))]) (fun k => [(1, some (flat eF m))]) (fun k => k ≤ m.length) (fun k => m.length - k) (0) (Nat.zero_le _) rfl rfl (by repeat' (first|exact trivial|refine And.intro rfl ?_)) (by repeat' (first|exact trivial|refine And.intro (.inr rfl) ?_)) ?_
 rintro i hi
 by_cases hin : i < m.length
 ·have hst : m[i]!.stk.length ≤ 200 := (((jB m).1 hm).2 i hin).l.2
  have hct := Ab m[i]!.stk (by omega)
  repeat' (first|(apply aK;first|(apply qH;rfl;exact hct;rfl;rfl)|(with_reducible apply dE (d := 20))|(apply aE;rfl;rfl)|(first|(apply iA;(case hx|hH => rfl);(case hf|hg|hα => infer_instance);(case hk => omega);(case h0|hN => rfl))|(apply aJ;rfl;rfl;rfl;rfl))|(apply aD;rfl;rfl;rfl)|(apply aS;rfl;rfl;rfl;rfl)|(apply aC;rfl;rfl)|(apply cM;rfl;rfl;(assumption);rfl)|(apply aF;kernel_rfl)|(apply bB;rfl;rfl)|(apply aV;rfl;rfl;rfl;rfl;rfl;(case hl => (simp;done));(exact (rfl:_=[_, _, _, _]))))|(apply aL;first|apply aH|apply aB|(apply aN;rfl;all_goals intro hc;have hq:=hc;(try simp only [cH] at hq);try exfalso;omega)|apply aM|apply aR)|with_reducible apply aA)
  refine eX (kL ?_ (Le.frzD (d := 19) (i := 4) rfl rfl))
  repeat' (first|(apply aK;first|(apply aE;rfl;rfl)|(apply aD;rfl;rfl;rfl)|(apply bR;rfl;rfl;omega;rfl)|(apply cM;rfl;rfl;(assumption);rfl)|(apply aF;kernel_rfl)|(apply aV;rfl;rfl;rfl;rfl;rfl;(rw [aQ]; simp only [gN] <;> omega);(exact DX (by (assumption)))))|(apply aL;(apply aB))|with_reducible apply aA|with_reducible apply aW)
  (apply dV (i + 1);focus (refine Le.ren [(1, 1)] rfl (by decide) ?_ ?_ <;> repeat' (first|exact trivial|refine And.intro ⟨_, rfl, ?_⟩ ?_|refine And.intro ⟨_, _, rfl, rfl, ?_⟩ ?_|exact Or.inr rfl|refine Or.inl ⟨?_, (by first|rfl|exact aZ _ _)⟩|rfl)))
  ·omega
  ·omega
 ·repeat' (first | (apply aK; first | (apply aE;rfl;rfl) | (apply aS;rfl;rfl;rfl;rfl) | (apply aC;rfl;rfl) | (apply aF;kernel_rfl)) | (apply aL; first | apply aH | apply aB | (apply aN;rfl;all_goals intro hc;have hq:=hc;(try simp only [cH] at hq);try exfalso;omega) | apply bI | apply aP) | with_reducible apply aA | with_reducible apply bJ | with_reducible apply bG)
  (refine aO rfl ?_; refine bY () trivial ?_ ⟨.inr (Eq.trans (b := some _) rfl ?_), trivial⟩)
  ·rfl
  ·rfl
theorem vE (m:List Cl) (j:Nat) (hm:OkM m) (hj:j < m.length):MC Tryz.prog 189 [sl eF m] [] 0 (fun _:Unit => True) (fun _ => .own 1 0 m.length 4) (fun _ => [(1,some (flat g8 (fC m j (.own 2 0 m[j]!.stk.length 2)))),(2,some (flat eO m[j]!.stk))]) := by
 have hml := hm.l
 have hcc := Bp m (by omega)
 (refine cC Tryz.func189 rfl (by simp [Tryz.ntmps189]) ?_; rw [Tryz.ntmps189])
 repeat' (first|(apply aK;first|(apply wN;rfl;exact hcc;rfl;rfl)|(apply aE;rfl;rfl)|(apply aC;rfl;rfl)|(apply a8;rfl;rfl;rfl)|(apply aF;kernel_rfl))|(apply aL;first|apply aH|apply aB|apply aM)|with_reducible apply aA)
 refine AW.le ?_ (Le.bump 1)
 refine bF (σ := Nat × Bool) [3, 8, 9] [(3, _), (8, _), (9, _)] [] [] (fun k => [(10, iv (k.1 : Int))]) (fun k => [(1, some (cond k.2 (flat g8 (fC m j (.own 2 0 m[j]!.stk.length 2))) (flat eF m))), (2, cond k.2 (some (flat eO m[j]!.stk)) none)]) (fun k => k.1 ≤ m.length ∧ k.2 = decide (j < k.1)) (fun k => m.length - k.1) (0, false) ⟨Nat.zero_le _, by simp⟩ rfl rfl (by repeat' (first|exact trivial|refine And.intro rfl ?_)) (by repeat' (first|exact trivial|refine And.intro (.inr rfl) ?_)) ?_
 rintro ⟨i, b⟩ ⟨hi, hb⟩
 dsimp only at hi hb ⊢
 by_cases hin : i < m.length
 ·have hst : m[i]!.stk.length ≤ 200 := (((jB m).1 hm).2 i hin).l.2
  have hct := Ab m[i]!.stk (by omega)
  by_cases hij : j < i
  ·rw [decide_eq_true hij] at hb; subst hb
   simp only [cond_true]
   have hol := eZ (m := m) (j := j) (X := .own 2 0 m[j]!.stk.length 2)
   have hon := CO (m := m) (i := i) (j := j) (X := .own 2 0 m[j]!.stk.length 2) hin (by omega)
   repeat' (first|(apply aK;first|(with_reducible apply dE (d := 5))|(apply aE;rfl;rfl)|(apply iA;(case hx|hH => rfl);(case hf|hg|hα => infer_instance);(case hk => omega);(case h0|hN => rfl))|(apply aS;rfl;rfl;rfl;rfl)|(apply cM;rfl;rfl;(assumption);rfl)|(apply aF;kernel_rfl))|(apply aL;first|apply aH|apply aB|(apply aN;rfl;all_goals intro hc;have hq:=hc;(try simp only [cH] at hq);try exfalso;omega)|apply aM|apply aR)|with_reducible apply aA)
   refine eX ?_
   rw [hon]
   dsimp only [sB]
   repeat' (first|(apply aK;first|(apply qH;rfl;exact hct;rfl;rfl)|(with_reducible apply dE (d := 20))|(apply aE;rfl;rfl)|(apply aJ;rfl;rfl;rfl;rfl)|(apply aD;rfl;rfl;rfl)|(apply aC;rfl;rfl)|(apply aF;kernel_rfl)|(apply bB;rfl;rfl)|(apply aV;rfl;rfl;rfl;rfl;rfl;(case hl => (simp;done));(exact (rfl:_=[_, _, _, _]))))|(apply aL;(apply aB))|with_reducible apply aA)
   refine eX (kL ?_ (Le.frzD (d := 19) (i := 5) rfl rfl))
   repeat' (first|(apply aK;first|(apply aE;rfl;rfl)|(apply aD;rfl;rfl;rfl)|(apply bR;rfl;rfl;omega;rfl)|(apply cM;rfl;rfl;(assumption);rfl)|(apply aF;kernel_rfl)|(apply aV;rfl;rfl;rfl;rfl;rfl;(rw [aQ]; simp only [gN] <;> omega);(exact IM (by (omega)))))|(apply aL;(apply aB))|with_reducible apply aA|with_reducible apply aW)
   (apply dV (i + 1, true);focus (refine Le.ren [(1, 1), (2, 2)] rfl (by decide) ?_ ?_ <;> repeat' (first|exact trivial|refine And.intro ⟨_, rfl, ?_⟩ ?_|refine And.intro ⟨_, _, rfl, rfl, ?_⟩ ?_|exact Or.inr rfl|refine Or.inl ⟨?_, (by first|rfl|exact aZ _ _)⟩|rfl)))
   ·exact Or.inr (Ed hj rfl)
   ·exact ⟨by dsimp only;omega, by dsimp only;rw [decide_eq_true (by omega)]⟩
   ·dsimp only;omega
  ·rw [decide_eq_false hij] at hb; subst hb
   simp only [cond_false]
   repeat' (first|(apply aK;first|(apply qH;rfl;exact hct;rfl;rfl)|(with_reducible apply dE (d := 20))|(apply aE;rfl;rfl)|(first|(apply iA;(case hx|hH => rfl);(case hf|hg|hα => infer_instance);(case hk => omega);(case h0|hN => rfl))|(apply aJ;rfl;rfl;rfl;rfl))|(apply aD;rfl;rfl;rfl)|(apply aS;rfl;rfl;rfl;rfl)|(apply aC;rfl;rfl)|(apply cM;rfl;rfl;(assumption);rfl)|(apply aF;kernel_rfl)|(apply bB;rfl;rfl)|(apply aV;rfl;rfl;rfl;rfl;rfl;(case hl => (simp;done));(exact (rfl:_=[_, _, _, _]))))|(apply aL;first|apply aH|apply aB|(apply aN;rfl;all_goals intro hc;have hq:=hc;(try simp only [cH] at hq);try exfalso;omega)|apply aM|apply aR)|with_reducible apply aA)
   by_cases hie : i = j
   ·subst hie
    refine eX ?_
    repeat' (first|(apply aK;first|(apply aE;rfl;rfl)|(apply aD;rfl;rfl;rfl)|(apply bR;rfl;rfl;omega;rfl)|(apply cM;rfl;rfl;(assumption);rfl)|(apply aF;kernel_rfl)|(apply aV;rfl;rfl;rfl;rfl;rfl;(rw [aQ]; simp only [gN] <;> omega);(exact JL (by (assumption)))))|(apply aL;(apply aB))|with_reducible apply aA|with_reducible apply aW)
    (apply dV (i + 1, true);focus (refine Le.ren [(1, 1), (2, 5)] rfl (by decide) ?_ ?_ <;> repeat' (first|exact trivial|refine And.intro ⟨_, rfl, ?_⟩ ?_|refine And.intro ⟨_, _, rfl, rfl, ?_⟩ ?_|exact Or.inr rfl|refine Or.inl ⟨?_, (by first|rfl|exact aZ _ _)⟩|rfl)))
    ·exact Or.inr (Ed hin rfl)
    ·exact ⟨by dsimp only;omega, by dsimp only;rw [decide_eq_true (by omega)]⟩
    ·dsimp only;omega
   ·refine eX (kL ?_ (Le.frzD (d := 19) (i := 5) rfl rfl))
    repeat' (first|(apply aK;first|(apply aE;rfl;rfl)|(apply aD;rfl;rfl;rfl)|(apply bR;rfl;rfl;omega;rfl)|(apply cM;rfl;rfl;(assumption);rfl)|(apply aF;kernel_rfl)|(apply aV;rfl;rfl;rfl;rfl;rfl;(rw [aQ]; simp only [gN] <;> omega);(exact DX (by (assumption)))))|(apply aL;(apply aB))|with_reducible apply aA|with_reducible apply aW)
    (apply dV (i + 1, false);focus (refine Le.ren [(1, 1)] rfl (by decide) ?_ ?_ <;> repeat' (first|exact trivial|refine And.intro ⟨_, rfl, ?_⟩ ?_|refine And.intro ⟨_, _, rfl, rfl, ?_⟩ ?_|exact Or.inr rfl|refine Or.inl ⟨?_, (by first|rfl|exact aZ _ _)⟩|rfl)))
    ·exact ⟨by dsimp only;omega, by dsimp only;rw [decide_eq_false (by omega)]⟩
    ·dsimp only;omega
 ·rw [decide_eq_true (by omega)] at hb; subst hb
  simp only [cond_true]
  repeat' (first|(apply aK;first|(apply aE;rfl;rfl)|(apply aS;rfl;rfl;rfl;rfl)|(apply aC;rfl;rfl)|(apply aF;kernel_rfl))|(apply aL;first|apply aH|apply aB|(apply aN;rfl;all_goals intro hc;have hq:=hc;(try simp only [cH] at hq);try exfalso;omega)|apply bI|apply aP)|with_reducible apply aA|with_reducible apply bJ|with_reducible apply bG)
  (refine aO rfl ?_; refine bY () trivial ?_ ⟨.inr (Eq.trans (b := some _) rfl ?_), ⟨.inr (Eq.trans (b := some _) rfl ?_), trivial⟩⟩)
  ·rfl
  ·rfl
  ·rfl
theorem nN {m:List Cl}{x:Pt}{wr:Bool}{n:Nat}{N:Nat}{Q:Exit → AS → Prop}{all:Array Oper}{rest:List Oper}{tsl:List (Nat × AV)}{hsl:List (Nat × Option (List AV))}{nidl:Nat}{z0:Lo}{md:Md}{d:Nat}{ty:TypeId}{pos:String}{af:Array Edge}{tys:Array TypeId}{x0 x1 x2:Operand}{i0:Nat}(ha0:ev (lk tsl) x0 = some (.own i0 0 n 4)) (ha1:ev (lk tsl) x1 = some (FZ x)) (ha2:ev (lk tsl) x2 = some (bv wr)) (hH0:cA hsl i0 = some (flat eF m)) (hmc:MC Tryz.prog 190 [.own 0 0 n 4,FZ x,bv wr] [(0,some (flat eF m))] 1 (fun _:Unit => True) (fun _ => iv (cS m x wr)) (fun _ => [(0,some (flat eF m))])) (hM:Nat.ble (nidl + 0) dJ = true) (hN:Nat.blt d N = true){md':Md}[hmd:MdA md (hO [x0,x1,x2] ++ [.inr i0]) (List.map Sum.inr (List.map Prod.fst ([(i0,some (flat eF m))]:List (Nat × Option (List AV)))) ++ [.inl d]) md'] (kk:RW Tryz.prog N all Q md' rest ⟨(d,iv (cS m x wr)) :: tsl,iY hsl [(i0,some (flat eF m))],nidl + 0,z0⟩):RW Tryz.prog N all Q md (⟨some d,.call ⟨.value (.func 190),#[x0,x1,x2],tys⟩,ty,pos,af,none⟩ :: rest) ⟨tsl,hsl,nidl,z0⟩ := by
 refine cL [i0] 1 [(i0, some (flat eF m))] hmc (avs := [.own i0 0 n 4, FZ x, bv wr]) ?_ rfl ?_ rfl ?_ (by simpa using hM) ?_ ?_ ?_ hN (md' := md') (hmd := hmd) kk
 ·show evL (lk tsl) [x0, x1, x2] = _
  simp only [evL, ha0, ha1, ha2]
 ·exact ⟨⟨_, _, rfl, hH0, by (repeat' (exact RnL.purI inferInstance))⟩, trivial⟩
 ·(repeat' (first|exact RnL.purI inferInstance|exact RnV.own rfl|refine RnL.cons ?_ ?_))
 ·(repeat' (exact RnV.purI inferInstance))
 ·simp [dT]
 ·(repeat' (first|exact trivial|(refine And.intro ⟨0, _, rfl, rfl, ?_⟩ ?_)|exact RnL.purI inferInstance))
theorem wQ {m:List Cl}{j:Nat}{t:Int}{k n:Nat}{N:Nat}{Q:Exit → AS → Prop}{all:Array Oper}{rest:List Oper}{tsl:List (Nat × AV)}{hsl:List (Nat × Option (List AV))}{nidl:Nat}{z0:Lo}{md:Md}{d:Nat}{ty:TypeId}{pos:String}{af:Array Edge}{tys:Array TypeId}{x0 x1 x2:Operand}{i0 i1:Nat}(ha0:ev (lk tsl) x0 = some (.own i0 0 n 4)) (ha1:ev (lk tsl) x1 = some (.agg [iv (j:Int),iv t])) (ha2:ev (lk tsl) x2 = some (bv true)) (hH0:cA hsl i0 = some (flat g8 (fC m j (.own i1 0 m[j]!.stk.length 2)))) (hH1:cA hsl i1 = some (flat eO m[j]!.stk)) (hdd:Go.AL.distinct [i0,i1] = true) (hmc:MC Tryz.prog 190 [.own 0 0 n 4,.agg [iv (j:Int),iv t],bv true] [(0,some (flat g8 (fC m j (.own 1 0 m[j]!.stk.length 2)))),(1,some (flat eO m[j]!.stk))] 2 (fun _:Unit => True) (fun _ => iv 0) (fun _ => [(0,some (flat g8 (fC m j (.own 1 0 (k + 1) 2)))),(1,some (flat eO (m[j]!.stk.take (k + 1))))])) (hM:Nat.ble (nidl + 0) dJ = true) (hN:Nat.blt d N = true){md':Md}[hmd:MdA md (hO [x0,x1,x2] ++ [.inr i0,.inr i1]) (List.map Sum.inr (List.map Prod.fst ([(i0,some (flat g8 (fC m j (.own i1 0 (k + 1) 2)))),(i1,some (flat eO (m[j]!.stk.take (k + 1))))]:List (Nat × Option (List AV)))) ++ [.inl d]) md'] (kk:RW Tryz.prog N all Q md' rest ⟨(d,iv 0) :: tsl,iY hsl [(i0,some (flat g8 (fC m j (.own i1 0 (k + 1) 2)))),(i1,some (flat eO (m[j]!.stk.take (k + 1))))],nidl + 0,z0⟩):RW Tryz.prog N all Q md (⟨some d,.call ⟨.value (.func 190),#[x0,x1,x2],tys⟩,ty,pos,af,none⟩ :: rest) ⟨tsl,hsl,nidl,z0⟩ := by
 refine cL [i0, i1] 2 [(i0, some (flat g8 (fC m j (.own i1 0 (k + 1) 2)))), (i1, some (flat eO (m[j]!.stk.take (k + 1))))] hmc (avs := [.own i0 0 n 4, .agg [iv (j : Int), iv t], bv true]) ?_ hdd ?_ rfl ?_ (by simpa using hM) ?_ ?_ ?_ hN (md' := md') (hmd := hmd) kk
 ·show evL (lk tsl) [x0, x1, x2] = _
  simp only [evL, ha0, ha1, ha2]
 ·exact ⟨⟨_, _, rfl, hH0, by (repeat' (exact oH rfl))⟩, ⟨⟨_, _, rfl, hH1, by (repeat' (exact RnL.purI inferInstance))⟩, trivial⟩⟩
 ·(repeat' (first|exact RnL.purI inferInstance|exact RnV.own rfl|refine RnL.cons ?_ ?_))
 ·(repeat' (exact RnV.purI inferInstance))
 ·simp [dT]
 ·(repeat' (first|exact trivial|(refine And.intro ⟨0, _, rfl, rfl, ?_⟩ ?_)|(refine And.intro ⟨1, _, rfl, rfl, ?_⟩ ?_)|exact RnL.purI inferInstance|exact oH rfl))
theorem LdL.app {D:List Nat}{H:Nat → Option (List AV)}:∀ {a b c d:List AV},LdL D H a b → LdL D H c d → c9 a = true → LdL D H (a ++ c) (a ++ d)
 | [], _, _, _, _, h, _ => h
 | x :: a, b, c, d, h1, h, hp => by
  simp only [c9, Bool.and_eq_true] at hp
  exact .cons (.pur hp.1) (LdL.app (a := a) (b := a) (.pur hp.2) h hp.2)
theorem LN {D:List Nat}{H:Nat → Option (List AV)}{m:List Cl}{j i k:Nat}{r:List Tg}(hi:i ∈ D) (hH:H i = some (flat eO r)) (hk:k = r.length) (hj:j < m.length):LdL D H (flat g8 (fC m j (.own i 0 k 2))) (flat eF (m.set j { m[j]! with stk := r })) := by
 subst hk
 rw [← BB, jY hj, jY hj]
 have p1 : c9 (flat eF (m.take j)) = true := (inferInstance : Pur (flat eF _)).pf
 have p2 : c9 [iv m[j]!.val, bv m[j]!.alive, iv m[j]!.next] = true := rfl
 exact LdL.app (.pur p1) (LdL.app (.pur p2) (.cons (.own hi hH (.pur (inferInstance : Pur (flat eO r)).pf)) (.pur (inferInstance : Pur (flat eF _)).pf)) p2) p1
theorem DC {D:List Nat}{H:Nat → Option (List AV)}{m:List Cl}{j i:Nat}(hi:i ∈ D) (hH:H i = some (flat eO m[j]!.stk)) (hj:j < m.length):LdL D H (flat g8 (fC m j (.own i 0 m[j]!.stk.length 2))) (flat eF m) := by
 have h := LN (m := m) (r := m[j]!.stk) hi hH rfl hj
 rwa [show m.set j { m[j]! with stk := m[j]!.stk } = m from mP m j] at h
theorem K4 {m:List Cl}{x:Pt}{wr:Bool}(h:0 ≤ x.cell) (h2:x.cell < m.length) (h3:m[x.cell.toNat]!.alive = true) (h4:0 ≤ dM m[x.cell.toNat]!.stk x.tag) (hw:wr = true) (h5:m[x.cell.toNat]!.stk[(dM m[x.cell.toNat]!.stk x.tag).toNat]!.uq = false):cS m x wr = 3 := by
 unfold cS;rw [if_neg (by omega), if_neg (by rw [h3]; decide), if_neg (by omega), if_pos ⟨hw, h5⟩]
theorem pE (m:List Cl) (x:Pt) (wr:Bool) (n:Nat) (hm:OkM m) (hn:n = m.length) (hk:cS m x wr ≠ 0):MC Tryz.prog 190 [.own 0 0 n 4,FZ x,bv wr] [(0,some (flat eF m))] 1 (fun _:Unit => True) (fun _ => iv (cS m x wr)) (fun _ => [(0,some (flat eF m))]) := by
 subst hn
 have hml := hm.l
 have hcv := iF m hm
 have hst : 0 ≤ x.cell → x.cell < m.length → m[x.cell.toNat]!.stk.length ≤ 200 := fun h1 h2 => (((jB m).1 hm).2 x.cell.toNat (by omega)).l.2
 have hbd := g9 m[x.cell.toNat]!.stk x.tag
 have hidx := fun h => yR m[x.cell.toNat]!.stk x.cell x.tag h
 (refine cC Tryz.func190 rfl (by simp [Tryz.ntmps190]) ?_; rw [Tryz.ntmps190])
 repeat' (first|(apply aK;first|((with_reducible apply oS (k := 187));(case ha => rfl);(case hl => (repeat' (first|exact nL|apply lN|exact nB rfl inferInstance)));(case h => exact hcv);(case hfr|hN => rfl);(case hmd => infer_instance))|((apply iU 4);(case hx|hH|hc|hN => rfl))|((with_reducible apply aI (k := 210));(case ha => rfl);(case h => exact (hidx (by have := hst (by omega) (by omega);omega)));(case hp => (exact Pur.pf));(case hN => rfl))|(with_reducible apply dE (d := 75))|(apply aE;rfl;rfl)|(first|(apply cV;(case hx|hH => rfl);(case hf|hg|hα => infer_instance);(case hk => omega);(case hc|hN => rfl))|(apply aJ;rfl;rfl;rfl;rfl))|(apply aD;rfl;rfl;rfl)|(first|(apply aY;rfl;rfl;rfl;(first|rfl|assumption))|(apply a6;rfl;rfl;rfl;(assumption))|(apply bE;(case hj|hb|hN => rfl);all_goals (intro hg;have hq := hg;(try simp only [cH] at hq);(try (exfalso;omega)))))|(first|(apply e6;rfl;rfl;omega;rfl)|(apply aS;rfl;rfl;rfl;rfl))|(apply aC;rfl;rfl)|(first|(apply bK;rfl;(assumption);rfl;rfl)|(apply bC;rfl;(first|rfl|assumption);rfl;rfl))|(first|(apply cO;(case hx|hi => rfl);(case hm => (omega));(case hml => (rfl));(case hα | hf|hg => infer_instance);(case hN => rfl))|(apply cR;rfl;rfl;(omega);rfl))|((with_reducible apply aI (k := 50));(case ha => rfl);(case h => (apply eA <;> (fail)));(case hp => (rfl));(case hN => rfl))|(apply a8;rfl;rfl;rfl)|(apply aF;kernel_rfl)|(apply cF;rfl;rfl)|(apply bV;rfl;rfl;rfl)|(apply bT;rfl;rfl;rfl;rfl))|(apply aL;first|apply aH|apply aB|(apply cG;rfl;(rfl))|(apply aN;rfl;all_goals intro hc;have hq:=hc;(try simp only [cH] at hq);try exfalso;omega)|apply aM|apply aR|apply aP)|with_reducible apply aA|with_reducible apply bH|with_reducible apply cX)
 ·(refine aO rfl ?_; refine bY () trivial ?_ ⟨.inr (Eq.trans (b := some _) rfl ?_), trivial⟩)
  ·rw [L0 (by omega)]; rfl
  ·rfl
 ·(refine aO rfl ?_; refine bY () trivial ?_ ⟨.inr (Eq.trans (b := some _) rfl ?_), trivial⟩)
  ·rw [Lh (by omega) (by omega) (by assumption)]; rfl
  ·rfl
 ·(refine aO rfl ?_; refine bY () trivial ?_ ⟨.inr (Eq.trans (b := some _) rfl ?_), trivial⟩)
  ·rw [LD (by omega) (by omega) (by assumption) (by assumption)]; rfl
  ·rfl
 ·(refine aO rfl ?_; refine bY () trivial ?_ ⟨.inr (Eq.trans (b := some _) rfl ?_), trivial⟩)
  ·rw [K4 (by omega) (by omega) (by assumption) (by assumption) (by assumption) (by assumption)]; rfl
  ·rfl
 ·exfalso
  have hw : wr = true := by assumption
  have hu : m[x.cell.toNat]!.stk[(dM m[x.cell.toNat]!.stk x.tag).toNat]!.uq = true := by assumption
  subst hw
  refine hk ?_
  rw [Il, if_pos (DV (by omega) (by omega) (by assumption) (by assumption)), if_neg (by rw [hu]; decide)]
 ·exfalso
  have hw : wr = false := by assumption
  subst hw
  exact hk (DV (by omega) (by omega) (by assumption) (by assumption))
theorem uO (m:List Cl) (j:Nat) (t:Int) (k n:Nat) (hm:OkM m) (hn:n = m.length) (hj:j < m.length) (hk:dM m[j]!.stk t = (k:Int)) (hal:m[j]!.alive = true) (hu:m[j]!.stk[k]!.uq = true):MC Tryz.prog 190 [.own 0 0 n 4,.agg [iv (j:Int),iv t],bv true] [(0,some (flat g8 (fC m j (.own 1 0 m[j]!.stk.length 2)))),(1,some (flat eO m[j]!.stk))] 2 (fun _:Unit => True) (fun _ => iv 0) (fun _ => [(0,some (flat g8 (fC m j (.own 1 0 (k + 1) 2)))),(1,some (flat eO (m[j]!.stk.take (k + 1))))]) := by
 subst hn
 have hml := hm.l
 have hcv := iF m hm
 have hst : m[j]!.stk.length ≤ 200 := (((jB m).1 hm).2 j hj).l.2
 have hbd := g9 m[j]!.stk t
 rw [hk] at hbd
 have hidx := yR m[j]!.stk (j : Int) t (by omega)
 rw [hk] at hidx
 have hog := jF (m := m) (j := j) (X := .own 1 0 m[j]!.stk.length 2) hj
 have hol := eZ (m := m) (j := j) (X := .own 1 0 m[j]!.stk.length 2)
 (refine cC Tryz.func190 rfl (by simp [Tryz.ntmps190]) ?_; rw [Tryz.ntmps190])
 repeat' (first|(apply aK;first|((with_reducible apply pB (k := 187) (D := [0, 1]) (h := hcv));(case ha => rfl);(case hl => exact .cons (.own (by simp) rfl (DC (by simp) rfl hj)) .nil);(case hfr|hN => rfl))|(with_reducible apply dE (d := 35))|(apply aE;rfl;rfl)|(first|(apply cV;(case hx|hH => rfl);(case hf|hg|hα => infer_instance);(case hk => omega);(case hc|hN => rfl))|(apply aJ;rfl;rfl;rfl;rfl))|(apply aD;rfl;rfl;rfl)|(apply aY;rfl;rfl;rfl;(rfl))|(apply e6;rfl;rfl;omega;rfl)|(apply aC;rfl;rfl)|(apply bC;rfl;(rfl);rfl;rfl)|(apply cM;rfl;rfl;(assumption);rfl)|((with_reducible apply aI (k := 50));(case ha => rfl);(case h => (apply eA <;> (fail)));(case hp => (rfl));(case hN => rfl))|(apply a8;rfl;rfl;rfl)|(apply aF;kernel_rfl)|(apply cF;rfl;rfl)|(apply bV;rfl;rfl;rfl)|(apply bT;rfl;rfl;rfl;rfl))|(apply aL;first|apply aH|apply aB|(apply aN;rfl;all_goals intro hc;have hq:=hc;(try simp only [cH] at hq);try exfalso;omega)|apply aR|apply aP)|with_reducible apply aA|with_reducible apply bH)
 all_goals (try (exfalso;omega))
 ·exfalso
  have h : (fC m j (.own 1 0 m[j]!.stk.length 2))[j]!.alive = false := by assumption
  rw [hog] at h;simp only [hal] at h;cases h
 refine eX ?_
 rw [hog]
 dsimp only
 repeat' (first|(apply aK;first|((apply iU 4);(case hx|hH|hc|hN => rfl))|((with_reducible apply pB (k := 210) (D := [1]) (h := hidx));(case ha => rfl);(case hl => exact .cons (.own (by simp) rfl (.pur (inferInstance : Pur (flat eO _)).pf)) (.cons (.pur rfl) .nil));(case hfr|hN => rfl))|(with_reducible apply dE (d := 68))|(apply aE;rfl;rfl)|(apply cV;(case hx|hH => rfl);(case hf|hg|hα => infer_instance);(case hk => omega);(case hc|hN => rfl))|(apply aD;rfl;rfl;rfl)|(apply aY;rfl;rfl;rfl;(rfl))|(apply aS;rfl;rfl;rfl;rfl)|(apply aC;rfl;rfl)|(apply aF;kernel_rfl)|(apply bV;rfl;rfl;rfl))|(apply aL;first|apply aH|apply aB|(apply cG;rfl;(rfl))|apply aM)|with_reducible apply aA)
 refine eX ?_
 rw [hog]
 dsimp only
 repeat' (first|(apply aK;first|(with_reducible apply dE (d := 81))|(apply aE;rfl;rfl)|(apply cV;(case hx|hH => rfl);(case hf|hg|hα => infer_instance);(case hk => omega);(case hc|hN => rfl))|(apply aD;rfl;rfl;rfl)|(apply aY;rfl;rfl;rfl;(rfl))|(apply aC;rfl;rfl)|(apply bK;rfl;(rfl);rfl;rfl)|(apply cM;rfl;rfl;(omega);rfl)|(apply aF;kernel_rfl)|(apply cF;rfl;rfl)|(apply bV;rfl;rfl;rfl))|(apply aL;first|apply aH|apply aB|(apply bU;rfl;(rfl))|(apply aN;rfl;all_goals intro hc;have hq:=hc;(try simp only [cH] at hq);try exfalso;omega)|apply aP)|with_reducible apply aA|with_reducible apply bH|with_reducible apply cX)
 ·exfalso
  have h : m[j]!.stk[k]!.uq = false := by assumption
  rw [hu] at h;cases h
 refine eX ?_
 rw [hog]
 dsimp only
 repeat' (first|(apply aK;first|((apply gB (d := 83) (l := 0) (h := k + 1));(case hx|hn|hl => rfl);(case hh => exact gP rfl (by omega));(case hp => exact if_pos (by omega));(case hN => rfl))|(apply aE;rfl;rfl)|(apply aD;rfl;rfl;rfl)|(apply bR;rfl;rfl;omega;rfl)|(apply aC;rfl;rfl)|(apply aF;kernel_rfl)|(apply bV;rfl;rfl;rfl)|(apply aV;rfl;rfl;rfl;rfl;rfl;(rw [aQ]; simp only [gN] <;> omega);(exact x6 (by (assumption)))))|(apply aL;first|apply aH|apply aB|apply aP)|with_reducible apply aA|with_reducible apply aW)
 refine cE (Le.cut (i := 1) ((k + 1) * 2) rfl) ?_
 (refine aO rfl ?_; refine bY () trivial ?_ ⟨.inr (Eq.trans (b := some _) rfl ?_), ⟨.inr (Eq.trans (b := some _) rfl ?_), trivial⟩⟩)
 ·rfl
 ·rfl
 ·rw [eV eO (e := 2)]
theorem EG {xs:List Tg}{k n:Nat}{N:Nat}{Q:Exit → AS → Prop}{all:Array Oper}{rest:List Oper}{tsl:List (Nat × AV)}{hsl:List (Nat × Option (List AV))}{nidl:Nat}{z0:Lo}{md:Md}{d:Nat}{ty:TypeId}{pos:String}{af:Array Edge}{tys:Array TypeId}{x0:Operand}{i0:Nat}(ha0:ev (lk tsl) x0 = some (.own i0 (0 + k * 2) n 2)) (hH0:cA hsl i0 = some (flat eO xs)) (hmc:MC Tryz.prog 209 [.own 0 (0 + k * 2) n 2] [(0,some (flat eO xs))] 1 (fun _:Unit => True) (fun _ => .own 2 0 n 2) (fun _ => [(0,some (flat eO xs)),(2,some (flat eO (xs.drop k)))])) (hM:Nat.ble (nidl + 2) dJ = true) (hN:Nat.blt d N = true){md':Md}[hmd:MdA md (hO [x0] ++ [.inr i0]) (List.map Sum.inr (List.map Prod.fst ([(i0,some (flat eO xs)),((nidl + 1),some (flat eO (xs.drop k)))]:List (Nat × Option (List AV)))) ++ [.inl d]) md'] (kk:RW Tryz.prog N all Q md' rest ⟨(d,.own (nidl + 1) 0 n 2) :: tsl,iY hsl [(i0,some (flat eO xs)),((nidl + 1),some (flat eO (xs.drop k)))],nidl + 2,z0⟩):RW Tryz.prog N all Q md (⟨some d,.call ⟨.value (.func 209),#[x0],tys⟩,ty,pos,af,none⟩ :: rest) ⟨tsl,hsl,nidl,z0⟩ := by
 refine cL [i0] 3 [(i0, some (flat eO xs)), ((nidl + 1), some (flat eO (xs.drop k)))] hmc (avs := [.own i0 (0 + k * 2) n 2]) ?_ rfl ?_ rfl ?_ (by simpa using hM) ?_ ?_ ?_ hN (md' := md') (hmd := hmd) kk
 ·show evL (lk tsl) [x0] = _
  simp only [evL, ha0]
 ·exact ⟨⟨_, _, rfl, hH0, by (repeat' (exact RnL.purI inferInstance))⟩, trivial⟩
 ·(repeat' (first|exact RnL.purI inferInstance|exact RnV.own rfl|refine RnL.cons ?_ ?_))
 ·(repeat' (exact RnV.own rfl))
 ·simp [dT]
 ·(repeat' (first|exact trivial|(refine And.intro ⟨0, _, rfl, rfl, ?_⟩ ?_)|(refine And.intro ⟨2, _, rfl, rfl, ?_⟩ ?_)|exact RnL.purI inferInstance))
theorem H9 (xs:List Tg) (k n:Nat) (hn:n = xs.length - k) (hl:xs.length ≤ 1000000):MC Tryz.prog 209 [.own 0 (0 + k * 2) n 2] [(0,some (flat eO xs))] 1 (fun _:Unit => True) (fun _ => .own 2 0 n 2) (fun _ => [(0,some (flat eO xs)),(2,some (flat eO (xs.drop k)))]) := by
 subst hn
 (refine cC Tryz.func209 rfl (by simp [Tryz.ntmps209]) ?_; rw [Tryz.ntmps209])
 repeat' (first|(apply aK;first|(apply EI;rfl;rfl;(intro b hb))|(apply cJ;rfl;rfl;rfl;rfl;rfl;(decide);exact sJ rfl rfl;omega;omega;(exact mH rfl);rfl;rfl)|(apply aE;rfl;rfl)|(apply aC;rfl;rfl)|(apply aF;kernel_rfl)|(apply cD;rfl;rfl;rfl;(rfl);rfl;rfl))|(apply aL;first|apply aH|apply aB|(apply aN;rfl;all_goals intro hc;have hq:=hc;(try simp only [cH] at hq);try exfalso;omega)|apply aR|apply aP)|with_reducible apply aA|with_reducible apply bH)
 ·have h0 : xs.length - k = 0 := hb (by assumption)
  have h1 : xs.drop k = [] := List.drop_eq_nil_of_le (by omega)
  refine cE (Le.bump 1) ?_
  refine cE (Le.nilOwn (d := 2) 2 rfl (by decide)) ?_
  (refine aO rfl ?_; refine bY () trivial ?_ ⟨.inr (Eq.trans (b := some _) rfl ?_), ⟨.inr (Eq.trans (b := some _) rfl ?_), trivial⟩⟩)
  ·show AV.own 2 0 0 2 = _; rw [h0]
  ·rfl
  ·rw [h1]; rfl
 ·(refine aO rfl ?_; refine bY () trivial ?_ ⟨.inr (Eq.trans (b := some _) rfl ?_), ⟨.inr (Eq.trans (b := some _) rfl ?_), trivial⟩⟩)
  ·show AV.own 2 0 (0 + (xs.length - k)) 2 = _
   rw [Nat.zero_add]
  ·rfl
  ·rfl
theorem wR {m:List Cl}{j:Nat}{t:Int}{r:List Tg}{n:Nat}{N:Nat}{Q:Exit → AS → Prop}{all:Array Oper}{rest:List Oper}{tsl:List (Nat × AV)}{hsl:List (Nat × Option (List AV))}{nidl:Nat}{z0:Lo}{md:Md}{d:Nat}{ty:TypeId}{pos:String}{af:Array Edge}{tys:Array TypeId}{x0 x1 x2:Operand}{i0 i1:Nat}(ha0:ev (lk tsl) x0 = some (.own i0 0 n 4)) (ha1:ev (lk tsl) x1 = some (.agg [iv (j:Int),iv t])) (ha2:ev (lk tsl) x2 = some (bv false)) (hH0:cA hsl i0 = some (flat g8 (fC m j (.own i1 0 m[j]!.stk.length 2)))) (hH1:cA hsl i1 = some (flat eO m[j]!.stk)) (hdd:Go.AL.distinct [i0,i1] = true) (hmc:MC Tryz.prog 190 [.own 0 0 n 4,.agg [iv (j:Int),iv t],bv false] [(0,some (flat g8 (fC m j (.own 1 0 m[j]!.stk.length 2)))),(1,some (flat eO m[j]!.stk))] 2 (fun _:Unit => True) (fun _ => iv 0) (fun _ => [(0,some (flat g8 (fC m j (.own 5 0 r.length 2)))),(5,some (flat eO r))])) (hM:Nat.ble (nidl + 4) dJ = true) (hN:Nat.blt d N = true){md':Md}[hmd:MdA md (hO [x0,x1,x2] ++ [.inr i0,.inr i1]) (List.map Sum.inr (List.map Prod.fst ([(i0,some (flat g8 (fC m j (.own (nidl + 3) 0 r.length 2)))),((nidl + 3),some (flat eO r)),(i1,none)]:List (Nat × Option (List AV)))) ++ [.inl d]) md'] (kk:RW Tryz.prog N all Q md' rest ⟨(d,iv 0) :: tsl,iY hsl [(i0,some (flat g8 (fC m j (.own (nidl + 3) 0 r.length 2)))),((nidl + 3),some (flat eO r)),(i1,none)],nidl + 4,z0⟩):RW Tryz.prog N all Q md (⟨some d,.call ⟨.value (.func 190),#[x0,x1,x2],tys⟩,ty,pos,af,none⟩ :: rest) ⟨tsl,hsl,nidl,z0⟩ := by
 refine cL [i0, i1] 6 [(i0, some (flat g8 (fC m j (.own (nidl + 3) 0 r.length 2)))), ((nidl + 3), some (flat eO r)), (i1, none)] hmc (avs := [.own i0 0 n 4, .agg [iv (j : Int), iv t], bv false]) ?_ hdd ?_ rfl ?_ (by simpa using hM) ?_ ?_ ?_ hN (md' := md') (hmd := hmd) kk
 ·show evL (lk tsl) [x0, x1, x2] = _
  simp only [evL, ha0, ha1, ha2]
 ·exact ⟨⟨_, _, rfl, hH0, by (repeat' (exact oH rfl))⟩, ⟨⟨_, _, rfl, hH1, by (repeat' (exact RnL.purI inferInstance))⟩, trivial⟩⟩
 ·(repeat' (first|exact RnL.purI inferInstance|exact RnV.own rfl|refine RnL.cons ?_ ?_))
 ·(repeat' (exact RnV.purI inferInstance))
 ·simp [dT]
 ·(repeat' (first|exact trivial|(refine And.intro ⟨0, _, rfl, rfl, ?_⟩ ?_)|(refine And.intro ⟨5, _, rfl, rfl, ?_⟩ ?_)|exact RnL.purI inferInstance|exact oH rfl))
theorem Bj (m:List Cl) (j:Nat) (t:Int) (r:List Tg) (k n:Nat) (hm:OkM m) (hn:n = m.length) (hj:j < m.length) (hk:dM m[j]!.stk t = (k:Int)) (hal:m[j]!.alive = true) (hr:r = g7 m[j]!.stk k false):MC Tryz.prog 190 [.own 0 0 n 4,.agg [iv (j:Int),iv t],bv false] [(0,some (flat g8 (fC m j (.own 1 0 m[j]!.stk.length 2)))),(1,some (flat eO m[j]!.stk))] 2 (fun _:Unit => True) (fun _ => iv 0) (fun _ => [(0,some (flat g8 (fC m j (.own 5 0 r.length 2)))),(5,some (flat eO r))]) := by
 subst hn
 have hml := hm.l
 have hcv := iF m hm
 have hst : m[j]!.stk.length ≤ 200 := (((jB m).1 hm).2 j hj).l.2
 have hbd := g9 m[j]!.stk t
 rw [hk] at hbd
 have hidx := yR m[j]!.stk (j : Int) t (by omega)
 rw [hk] at hidx
 have hog := jF (m := m) (j := j) (X := .own 1 0 m[j]!.stk.length 2) hj
 have hol := eZ (m := m) (j := j) (X := .own 1 0 m[j]!.stk.length 2)
 (refine cC Tryz.func190 rfl (by simp [Tryz.ntmps190]) ?_; rw [Tryz.ntmps190])
 repeat' (first|(apply aK;first|((with_reducible apply pB (k := 187) (D := [0, 1]) (h := hcv));(case ha => rfl);(case hl => exact .cons (.own (by simp) rfl (DC (by simp) rfl hj)) .nil);(case hfr|hN => rfl))|(with_reducible apply dE (d := 35))|(apply aE;rfl;rfl)|(first|(apply cV;(case hx|hH => rfl);(case hf|hg|hα => infer_instance);(case hk => omega);(case hc|hN => rfl))|(apply aJ;rfl;rfl;rfl;rfl))|(apply aD;rfl;rfl;rfl)|(apply aY;rfl;rfl;rfl;(rfl))|(apply e6;rfl;rfl;omega;rfl)|(apply aC;rfl;rfl)|(apply bC;rfl;(rfl);rfl;rfl)|(apply cM;rfl;rfl;(assumption);rfl)|((with_reducible apply aI (k := 50));(case ha => rfl);(case h => (apply eA <;> (fail)));(case hp => (rfl));(case hN => rfl))|(apply a8;rfl;rfl;rfl)|(apply aF;kernel_rfl)|(apply cF;rfl;rfl)|(apply bV;rfl;rfl;rfl)|(apply bT;rfl;rfl;rfl;rfl))|(apply aL;first|apply aH|apply aB|(apply aN;rfl;all_goals intro hc;have hq:=hc;(try simp only [cH] at hq);try exfalso;omega)|apply aR|apply aP)|with_reducible apply aA|with_reducible apply bH)
 all_goals (try (exfalso;omega))
 ·exfalso
  have h : (fC m j (.own 1 0 m[j]!.stk.length 2))[j]!.alive = false := by assumption
  rw [hog] at h;simp only [hal] at h;cases h
 refine eX ?_
 rw [hog]
 dsimp only
 repeat' (first|(apply aK;first|((apply iU 4);(case hx|hH|hc|hN => rfl))|((with_reducible apply pB (k := 210) (D := [1]) (h := hidx));(case ha => rfl);(case hl => exact .cons (.own (by simp) rfl (.pur (inferInstance : Pur (flat eO _)).pf)) (.cons (.pur rfl) .nil));(case hfr|hN => rfl))|(with_reducible apply dE (d := 41))|(apply aE;rfl;rfl)|(apply cV;(case hx|hH => rfl);(case hf|hg|hα => infer_instance);(case hk => omega);(case hc|hN => rfl))|(apply aD;rfl;rfl;rfl)|(apply a6;rfl;rfl;rfl;(rfl))|(apply aS;rfl;rfl;rfl;rfl)|(apply aC;rfl;rfl)|(apply bC;rfl;(rfl);rfl;rfl)|(apply aF;kernel_rfl)|(apply bV;rfl;rfl;rfl))|(apply aL;first|apply aH|apply aB|(apply cG;rfl;(rfl))|apply aM)|with_reducible apply aA)
 refine eX ?_
 rw [hog]
 dsimp only
 repeat' (first|(apply aK;first|((apply gB (d := 43) (l := k + 1) (h := m[j]!.stk.length));(case hx|hn => rfl);(case hl => exact gP rfl (by omega));(case hh => rfl);(case hp => exact if_pos (by omega));(case hN => rfl))|(apply EG;rfl;rfl;exact H9 _ _ _ rfl (by omega);rfl;rfl)|(apply I5;rfl;rfl;rfl;exact KS _ _ (by rw [List.length_drop]) (by omega);rfl;rfl)|(with_reducible apply dE (d := 51))|(apply aE;rfl;rfl)|(apply cV;(case hx|hH => rfl);(case hf|hg|hα => infer_instance);(case hk => omega);(case hc|hN => rfl))|(apply aD;rfl;rfl;rfl)|(apply bR;rfl;rfl;omega;rfl)|(apply aC;rfl;rfl)|(apply aF;kernel_rfl)|(apply bV;rfl;rfl;rfl))|(apply aL;(apply aB))|with_reducible apply aA)
 refine eX ?_
 rw [hog]
 dsimp only
 have hfl : (flat eO m[j]!.stk).length = m[j]!.stk.length * 2 := aQ eO _
 have hsl : (shr (List.drop (k + 1) m[j]!.stk)).length ≤ 200 := Nat.le_trans (List.length_filter_le _ _) (by rw [List.length_drop]; omega)
 repeat' (first|(apply aK;first|((apply gB (d := 53) (l := 0) (h := k + 1));(case hx|hn|hl => rfl);(case hh => exact gP rfl (by omega));(case hp => exact if_pos (by omega));(case hN => rfl))|(apply cJ;rfl;rfl;rfl;rfl;rfl;(rw [hfl]; omega);exact sJ (k := 0) rfl rfl;omega;omega;rfl;rfl;rfl)|(apply aE;rfl;rfl)|(apply aD;rfl;rfl;rfl)|(apply bR;rfl;rfl;omega;rfl)|(apply aC;rfl;rfl)|(apply aF;kernel_rfl)|(apply bV;rfl;rfl;rfl)|(apply aV;rfl;rfl;rfl;rfl;rfl;(rw [aQ]; simp only [gN] <;> omega);(exact x6 (by (assumption)))))|(apply aL;first|apply aH|apply aB|apply aP)|with_reducible apply aA|with_reducible apply aW)
 have hre : r = m[j]!.stk.take (k + 1) ++ shr (m[j]!.stk.drop (k + 1)) := by rw [hr]; rfl
 have hrl : r.length = k + 1 + (shr (List.drop (k + 1) m[j]!.stk)).length := by rw [hre, List.length_append, List.length_take]; omega
 (refine aO rfl ?_; refine bY () trivial ?_ ⟨.inr (Eq.trans (b := some _) rfl ?_), ⟨.inr (Eq.trans (b := some _) rfl ?_), trivial⟩⟩)
 ·rfl
 ·refine congrArg some ?_
  show flat g8 (fC m j (AV.own 5 0 (k + 1 - 0 + (shr (List.drop (k + 1) m[j]!.stk)).length) 2)) = _
  rw [hrl]; rfl
 ·refine congrArg some ?_
  show (List.drop 0 (flat eO m[j]!.stk)).take ((k + 1) * 2) ++ flat eO (List.drop 0 (shr (List.drop (k + 1) m[j]!.stk))) = _
  rw [List.drop_zero, List.drop_zero, eV eO (e := 2), dP, ← hre]
theorem Jz {m:List Cl}{j:Nat}{X:AV}{v:Int}(h:j < m.length):hZ (flat g8 (fC m j X)) (0 + j * 4 + 0) [iv v] = flat g8 (fC (m.set j { m[j]! with val := v }) j X) := by
 have e : fC (m.set j { m[j]! with val := v }) j X = (fC m j X).set j ⟨v, m[j]!.alive, m[j]!.next, X⟩ := by
  have e2 : (m.set j { m[j]! with val := v })[j]! = { m[j]! with val := v } := by rw [cK _ _ (by rw [List.length_set]; exact h), List.getElem_set_self]
  unfold fC
  rw [e2, List.map_set, List.set_set, List.set_set]; rfl
 rw [e]
 exact gF (by rw [eZ]; exact h) (by simp) (by rw [jF h]; rfl)
theorem Iu {m:List Cl}{j:Nat}{X:AV}{b:Bool}(h:j < m.length):hZ (flat g8 (fC m j X)) (0 + j * 4 + 1) [.v (.bool b)] = flat g8 (fC (m.set j { m[j]! with alive := b }) j X) := by
 have e : fC (m.set j { m[j]! with alive := b }) j X = (fC m j X).set j ⟨m[j]!.val, b, m[j]!.next, X⟩ := by
  have e2 : (m.set j { m[j]! with alive := b })[j]! = { m[j]! with alive := b } := by rw [cK _ _ (by rw [List.length_set]; exact h), List.getElem_set_self]
  unfold fC
  rw [e2, List.map_set, List.set_set, List.set_set]; rfl
 rw [e]
 exact gF (by rw [eZ]; exact h) (by simp) (by rw [jF h]; rfl)
theorem rM (m:List Cl) (hm:OkM m) (x:Pt):PC Tryz.prog 157 [sl eF m,FZ x] (fun r => r = .tup [sl eF (gG m x false),iv (wC m x),iv (cS m x false)]) := by
 have hml := hm.l
 by_cases hk : cS m x false = 0
 ·obtain ⟨c, t⟩ := x
  obtain ⟨h1, h2, h3, h4, _⟩ := jD hk
  obtain ⟨j, rfl⟩ := Int.eq_ofNat_of_zero_le (show 0 ≤ c from h1)
  have hj : j < m.length := by have : (j : Int) < m.length := h2;omega
  obtain ⟨k, hkk⟩ := Int.eq_ofNat_of_zero_le (show 0 ≤ dM m[j]!.stk t from h4)
  obtain ⟨r, hr⟩ : ∃ r, r = g7 m[j]!.stk k false := ⟨_, rfl⟩
  have hto := Bj m j t r k m.length hm rfl hj hkk h3 hr
  have hog := jF (m := m) (j := j) (X := .own (0 + 1 + 3 + 3) 0 r.length 2) hj
  have hol := eZ (m := m) (j := j) (X := .own (0 + 1 + 3 + 3) 0 r.length 2)
  (refine aT Tryz.func157 rfl (by simp [Tryz.ntmps157]) ?_; rw [Tryz.ntmps157])
  repeat' (first|(apply aK;first|((apply pO (j := j));(case ha0 => rfl);(case hmc => exact vE m j hm hj);(case hM|hN => rfl))|((apply wR (m := m) (j := j) (t := t) (r := r) (n := m.length));(case ha0|ha1|ha2|hH0|hH1|hdd => rfl);(case hmc => exact hto);(case hM|hN => rfl))|(apply aE;rfl;rfl)|(first|(apply cV;(case hx|hH => rfl);(case hf|hg|hα => infer_instance);(case hk => omega);(case hc|hN => rfl))|(apply aJ;rfl;rfl;rfl;rfl)|(apply aU;rfl;rfl;(exact (rfl:_=[_, _]));rfl;rfl;rfl))|(apply aD;rfl;rfl;rfl)|(apply aS;rfl;rfl;rfl;rfl)|(apply aC;rfl;rfl)|(apply cM;rfl;rfl;(assumption);rfl)|(apply aF;kernel_rfl)|(apply bT;rfl;rfl;rfl;rfl))|(apply aL;first|apply aH|apply aB|(apply bZ;kernel_rfl)|(apply cG;rfl;(rfl))|apply aR|apply aP)|with_reducible apply aA)
  refine cE (Le.cls (o := 2) (q := 7) (j := j) (k := r.length) (m := m) (r := r) rfl rfl rfl hj (by decide)) ?_
  refine cE (Le.frzD (d := 4) (i := 2) rfl rfl) ?_
  rw [hog]
  refine aO (l := [.imm m.length (flat eF (m.set j { m[j]! with stk := r })), iv m[j]!.val, iv 0]) rfl ?_
  have eM : gG m ⟨j, t⟩ false = m.set j { m[j]! with stk := r } := by
   unfold gG iT;rw [if_pos hk]; dsimp only
   rw [Int.toNat_natCast, hkk, Int.toNat_natCast, hr]
  have eN : wC m ⟨j, t⟩ = m[j]!.val := by unfold wC;rw [if_pos hk]; rfl
  rw [eM, eN, hk, mS (by rw [List.length_set])]
  exact ⟨rfl, by (exact Pur.pf)⟩
 ·(refine aT Tryz.func157 rfl (by simp [Tryz.ntmps157]) ?_; rw [Tryz.ntmps157])
  repeat' (first|(apply aK;first|(apply iD;rfl;exact kP m hm;rfl;rfl)|((apply nN (m := m) (x := x) (wr := false) (n := m.length));(case ha0|ha1|ha2|hH0 => rfl);(case hmc => exact pE m x false _ hm rfl hk);(case hM|hN => rfl))|(apply aE;rfl;rfl)|(apply aU;rfl;rfl;(exact (rfl:_=[_, _]));rfl;rfl;rfl)|(apply aS;rfl;rfl;rfl;rfl)|(apply aC;rfl;rfl)|(apply aF;kernel_rfl)|(apply bT;rfl;rfl;rfl;rfl))|(apply aL;first|apply aH|apply aB|(apply aN;rfl;all_goals intro hc;have hq:=hc;(try simp only [cH] at hq);try exfalso;omega)|apply aP)|with_reducible apply aA|with_reducible apply bH)
  (refine cE (Le.frzD (d := 4) (i := 2) rfl rfl) ?_; refine aO rfl ?_)
  refine ⟨?_, by (exact Pur.pf)⟩
  simp only [b8]
  unfold gG wC;rw [if_neg hk, if_neg hk]
theorem AK (m:List Cl) (hm:OkM m) (x:Pt):PC Tryz.prog 191 [sl eF m,FZ x] (fun r => r = .tup [sl eF (jG m x),iv (cS m x true)]) := by
 have hml := hm.l
 by_cases hk : cS m x true = 0
 ·obtain ⟨c, t⟩ := x
  obtain ⟨h1, h2, h3, h4, hu⟩ := jD hk
  obtain ⟨j, rfl⟩ := Int.eq_ofNat_of_zero_le (show 0 ≤ c from h1)
  have hj : j < m.length := by have : (j : Int) < m.length := h2;omega
  obtain ⟨k, hkk⟩ := Int.eq_ofNat_of_zero_le (show 0 ≤ dM m[j]!.stk t from h4)
  have huk : m[j]!.stk[k]!.uq = true := by
   have h : m[j]!.stk[(dM m[j]!.stk t).toNat]!.uq = true := hu rfl
   rwa [hkk, Int.toNat_natCast] at h
  have htw := uO m j t k m.length hm rfl hj hkk h3 huk
  have hrl : (m[j]!.stk.take (k + 1)).length = k + 1 := by
   have hb := g9 m[j]!.stk t
   rw [List.length_take]; omega
  have hol := eZ (m := m) (j := j) (X := .own (0 + 1 + 2) 0 (k + 1) 2)
  have hls : (m.set j { m[j]! with alive := false }).length = m.length := List.length_set
  (refine aT Tryz.func191 rfl (by simp [Tryz.ntmps191]) ?_; rw [Tryz.ntmps191])
  repeat' (first|(apply aK;first|((apply pO (j := j));(case ha0 => rfl);(case hmc => exact vE m j hm hj);(case hM|hN => rfl))|((apply wQ (m := m) (j := j) (t := t) (k := k) (n := m.length));(case ha0|ha1|ha2|hH0|hH1|hdd => rfl);(case hmc => exact htw);(case hM|hN => rfl))|(apply aV;rfl;rfl;rfl;rfl;rfl;(rw [aQ]; simp only [List.length_append, List.length_cons, List.length_nil]; omega);exact Iu hj)|(apply aE;rfl;rfl)|(first|(apply aJ;rfl;rfl;rfl;rfl)|(apply aU;rfl;rfl;(exact (rfl:_=[_, _]));rfl;rfl;rfl))|(apply aD;rfl;rfl;rfl)|(apply aS;rfl;rfl;rfl;rfl)|(apply aC;rfl;rfl)|(apply cM;rfl;rfl;(assumption);rfl)|(apply aF;kernel_rfl)|(apply bT;rfl;rfl;rfl;rfl))|(apply aL;first|apply aH|apply aB|(apply bU;rfl;(rfl))|apply aP)|with_reducible apply aA)
  refine cE (Le.cls (o := 2) (q := 3) (j := j) (k := k + 1) (m := m.set j { m[j]! with alive := false }) (r := m[j]!.stk.take (k + 1)) rfl rfl hrl.symm (by rw [hls]; exact hj) (by decide)) ?_
  refine cE (Le.frzD (d := 4) (i := 2) rfl rfl) ?_
  rw [sY hj, set_set]
  refine aO (l := [.imm m.length (flat eF (m.set j { m[j]! with alive := false, stk := m[j]!.stk.take (k + 1) })), iv 0]) rfl ?_
  have eM : jG m ⟨j, t⟩ = m.set j { m[j]! with alive := false, stk := m[j]!.stk.take (k + 1) } := by
   unfold jG iT;rw [if_pos hk]; dsimp only
   rw [Int.toNat_natCast, hkk, Int.toNat_natCast]; unfold g7;rw [if_pos rfl]
  rw [eM, hk, mS (by rw [List.length_set])]
  exact ⟨rfl, by (exact Pur.pf)⟩
 ·(refine aT Tryz.func191 rfl (by simp [Tryz.ntmps191]) ?_; rw [Tryz.ntmps191])
  repeat' (first|(apply aK;first|(apply iD;rfl;exact kP m hm;rfl;rfl)|((apply nN (m := m) (x := x) (wr := true) (n := m.length));(case ha0|ha1|ha2|hH0 => rfl);(case hmc => exact pE m x true _ hm rfl hk);(case hM|hN => rfl))|(apply aE;rfl;rfl)|(apply aU;rfl;rfl;(exact (rfl:_=[_, _]));rfl;rfl;rfl)|(apply aS;rfl;rfl;rfl;rfl)|(apply aC;rfl;rfl)|(apply aF;kernel_rfl)|(apply bT;rfl;rfl;rfl;rfl))|(apply aL;first|apply aH|apply aB|(apply aN;rfl;all_goals intro hc;have hq:=hc;(try simp only [cH] at hq);try exfalso;omega)|apply aR|apply aP)|with_reducible apply aA)
  (refine cE (Le.frzD (d := 4) (i := 2) rfl rfl) ?_; refine aO rfl ?_)
  refine ⟨?_, by (exact Pur.pf)⟩
  simp only [b8]
  unfold jG;rw [if_neg hk]
theorem y6 (m:List Cl) (hm:OkM m) (x:Pt) (v:Int):PC Tryz.prog 158 [sl eF m,FZ x,iv v] (fun r => r = .tup [sl eF (qK m x v),iv (r7 m x v)]) := by
 have hml := hm.l
 by_cases hv : 0 ≤ v ∧ v ≤ 9
 case neg =>
  have hwk : r7 m x v = 4 := by unfold r7;rw [if_neg hv]
  have e : qK m x v = m := by unfold qK;rw [if_neg (by rw [hwk]; decide)]
  (refine aT Tryz.func158 rfl (by simp [Tryz.ntmps158]) ?_; rw [Tryz.ntmps158])
  repeat' (first|(apply aK;first|(apply iD;rfl;exact kP m hm;rfl;rfl)|(apply aE;rfl;rfl)|(apply aC;rfl;rfl)|((with_reducible apply aI (k := 50));(case ha => rfl);(case h => (apply eA <;> (fail)));(case hp => (rfl));(case hN => rfl))|(apply aF;kernel_rfl)|(apply cF;rfl;rfl)|(apply bT;rfl;rfl;rfl;rfl))|(apply aL;first|apply aH|apply aB|(apply aN;rfl;all_goals intro hc;have hq:=hc;(try simp only [cH] at hq);try exfalso;omega)|apply aP)|with_reducible apply aA|with_reducible apply bH)
  all_goals (try (exfalso;omega))
  all_goals (
   (refine cE (Le.frzD (d := 6) (i := 2) rfl rfl) ?_; refine aO rfl ?_)
   refine ⟨?_, by (exact Pur.pf)⟩
   simp only [b8]
   rw [e, hwk])
 case pos =>
 have hwk : r7 m x v = cS m x true := by unfold r7;rw [if_pos hv]
 by_cases hk : cS m x true = 0
 ·obtain ⟨c, t⟩ := x
  obtain ⟨h1, h2, h3, h4, hu⟩ := jD hk
  obtain ⟨j, rfl⟩ := Int.eq_ofNat_of_zero_le (show 0 ≤ c from h1)
  have hj : j < m.length := by have : (j : Int) < m.length := h2;omega
  obtain ⟨k, hkk⟩ := Int.eq_ofNat_of_zero_le (show 0 ≤ dM m[j]!.stk t from h4)
  have huk : m[j]!.stk[k]!.uq = true := by
   have h : m[j]!.stk[(dM m[j]!.stk t).toNat]!.uq = true := hu rfl
   rwa [hkk, Int.toNat_natCast] at h
  have htw := uO m j t k m.length hm rfl hj hkk h3 huk
  have hrl : (m[j]!.stk.take (k + 1)).length = k + 1 := by
   have hb := g9 m[j]!.stk t
   rw [List.length_take]; omega
  have hol := eZ (m := m) (j := j) (X := .own (0 + 1 + 2) 0 (k + 1) 2)
  have hls : (m.set j { m[j]! with val := v }).length = m.length := List.length_set
  (refine aT Tryz.func158 rfl (by simp [Tryz.ntmps158]) ?_; rw [Tryz.ntmps158])
  repeat' (first|(apply aK;first|((apply pO (j := j));(case ha0 => rfl);(case hmc => exact vE m j hm hj);(case hM|hN => rfl))|((apply wQ (m := m) (j := j) (t := t) (k := k) (n := m.length));(case ha0|ha1|ha2|hH0|hH1|hdd => rfl);(case hmc => exact htw);(case hM|hN => rfl))|(apply aV;rfl;rfl;rfl;rfl;rfl;(rw [aQ]; simp only [List.length_append, List.length_cons, List.length_nil]; omega);exact Jz hj)|(apply aE;rfl;rfl)|(first|(apply aJ;rfl;rfl;rfl;rfl)|(apply aU;rfl;rfl;(exact (rfl:_=[_, _]));rfl;rfl;rfl))|(apply aD;rfl;rfl;rfl)|(apply aS;rfl;rfl;rfl;rfl)|(apply aC;rfl;rfl)|(apply cM;rfl;rfl;(assumption);rfl)|((with_reducible apply aI (k := 50));(case ha => rfl);(case h => (apply eA <;> (fail)));(case hp => (rfl));(case hN => rfl))|(apply aF;kernel_rfl)|(apply cF;rfl;rfl)|(apply bT;rfl;rfl;rfl;rfl))|(apply aL;first|apply aH|apply aB|(apply bU;rfl;(rfl))|(apply aN;rfl;all_goals intro hc;have hq:=hc;(try simp only [cH] at hq);try exfalso;omega)|apply aR|apply aP)|with_reducible apply aA)
  refine cE (Le.cls (o := 2) (q := 3) (j := j) (k := k + 1) (m := m.set j { m[j]! with val := v }) (r := m[j]!.stk.take (k + 1)) rfl rfl hrl.symm (by rw [hls]; exact hj) (by decide)) ?_
  refine cE (Le.frzD (d := 6) (i := 2) rfl rfl) ?_
  rw [sY hj, set_set]
  refine aO (l := [.imm m.length (flat eF (m.set j { m[j]! with val := v, stk := m[j]!.stk.take (k + 1) })), iv 0]) rfl ?_
  have eM : qK m ⟨j, t⟩ v = m.set j { m[j]! with val := v, stk := m[j]!.stk.take (k + 1) } := by
   unfold qK iT;rw [hwk, if_pos hk]; dsimp only
   rw [Int.toNat_natCast, hkk, Int.toNat_natCast]; unfold g7;rw [if_pos rfl]
  rw [eM, hwk, hk, mS (by rw [List.length_set])]
  exact ⟨rfl, by (exact Pur.pf)⟩
 ·(refine aT Tryz.func158 rfl (by simp [Tryz.ntmps158]) ?_; rw [Tryz.ntmps158])
  repeat' (first|(apply aK;first|(apply iD;rfl;exact kP m hm;rfl;rfl)|((apply nN (m := m) (x := x) (wr := true) (n := m.length));(case ha0|ha1|ha2|hH0 => rfl);(case hmc => exact pE m x true _ hm rfl hk);(case hM|hN => rfl))|(apply aE;rfl;rfl)|(apply aU;rfl;rfl;(exact (rfl:_=[_, _]));rfl;rfl;rfl)|(apply aS;rfl;rfl;rfl;rfl)|(apply aC;rfl;rfl)|((with_reducible apply aI (k := 50));(case ha => rfl);(case h => (apply eA <;> (fail)));(case hp => (rfl));(case hN => rfl))|(apply aF;kernel_rfl)|(apply cF;rfl;rfl)|(apply bT;rfl;rfl;rfl;rfl))|(apply aL;first|apply aH|apply aB|(apply aN;rfl;all_goals intro hc;have hq:=hc;(try simp only [cH] at hq);try exfalso;omega)|apply aR|apply aP)|with_reducible apply aA)
  (refine cE (Le.frzD (d := 6) (i := 2) rfl rfl) ?_; refine aO rfl ?_)
  refine ⟨?_, by (exact Pur.pf)⟩
  simp only [b8]
  unfold qK;rw [hwk, if_neg hk]
theorem CS (m:List Cl) (hm:OkM m) (v:Int):PC Tryz.prog 188 [sl eF m,iv v] (fun r => r = .tup [sl eF (m ++ [pX v]),.agg [iv m.length,iv 0]]) := by
 have hml := hm.l
 (refine aT Tryz.func188 rfl (by simp [Tryz.ntmps188]) ?_; rw [Tryz.ntmps188])
 repeat' (first|(apply aK;first|(apply iD;rfl;exact kP m hm;rfl;rfl)|(apply aE;rfl;rfl)|(apply aC;rfl;rfl)|(first|(apply a8;rfl;rfl;rfl)|(apply cJ;rfl;rfl;rfl;rfl;rfl;(rw [aQ]; omega);(rfl);omega;omega;(rfl);rfl;rfl))|(apply aF;kernel_rfl)|(apply bW;rfl;(first|exact (rfl:_=some [_, _])|exact (rfl:_=some [_, _, _, _]));(first|exact (rfl:_=[_, _])|exact (rfl:_=[_, _, _, _]));rfl)|(apply bB;rfl;rfl)|((apply bS (t := _));(case hze|hsm|hl => rfl);(case hfl => (first|exact (rfl:_=some [_, _])|exact (rfl:_=some [_, _, _, _])));(case hM|hN => rfl))|(apply aV;rfl;rfl;rfl;rfl;rfl;(case hl => (simp;done));(exact (rfl:_=[_, _]))))|(apply aL;first|apply aH|apply aB|apply aP)|with_reducible apply aA)
 have e2 : AV.imm (m.length + 1) (((flat eF m).drop 0).take (m.length * 4) ++ [iv v, bv true, iv 1, .imm 1 [iv 0, bv true]]) = sl eF (m ++ [pX v]) := by
  have e : ((flat eF m).drop 0).take (m.length * 4) ++ [iv v, bv true, iv 1, .imm 1 [iv 0, bv true]] = flat eF (m ++ [pX v]) := iH rfl rfl
  rw [e]; exact mS (by rw [List.length_append]; rfl)
 refine cE (Le.frzD (d := 4) (i := 5) rfl rfl) ?_
 refine aO (l := [AV.imm (m.length + 1) (((flat eF m).drop 0).take (m.length * 4) ++ [iv v, bv true, iv 1, .imm 1 [iv 0, bv true]]), .agg [iv m.length, iv 0]]) rfl ?_
 rw [e2]
 exact ⟨rfl, by (exact Pur.pf)⟩
theorem Cx (m:List Cl) (hm:OkM m) (v:Int):PC Tryz.prog 153 [sl eF m,iv v] (fun r => r = .tup (if 0 ≤ v ∧ v ≤ 9 ∧ m.length < 200 then [sl eF (m ++ [pX v]),.agg [iv m.length,iv 0],bv true] else [sl eF [],.agg [iv 0,iv 0],bv false])) := by
 have hml := hm.l
 have hcv := iF m hm
 have hnc := CS m hm v
 (refine aT Tryz.func153 rfl (by simp [Tryz.ntmps153]) ?_; rw [Tryz.ntmps153])
 repeat' (first|(apply aK;first|((with_reducible apply aI (k := 187));(case ha => rfl);(case h => exact hcv);(case hp => (exact Pur.pf));(case hN => rfl))|((with_reducible apply aI (k := 188));(case ha => rfl);(case h => exact hnc);(case hp => (exact Pur.pf));(case hN => rfl))|(apply aE;rfl;rfl)|(apply aU;rfl;rfl;(exact (rfl:_=[_, _]));rfl;rfl;rfl)|(first|(apply aY;rfl;rfl;rfl;(first|rfl|assumption))|(apply a6;rfl;rfl;rfl;(assumption))|(apply bE;(case hj|hb|hN => rfl);all_goals (intro hg;have hq := hg;(try simp only [cH] at hq);(try (exfalso;omega)))))|(apply aS;rfl;rfl;rfl;rfl)|(apply aC;rfl;rfl)|(first|(apply bK;rfl;(assumption);rfl;rfl)|(apply bC;rfl;(first|rfl|assumption);rfl;rfl))|((with_reducible apply aI (k := 50));(case ha => rfl);(case h => (apply eA <;> (fail)));(case hp => (rfl));(case hN => rfl))|(apply a8;rfl;rfl;rfl)|(apply aF;kernel_rfl)|(apply bW;rfl;(exact (rfl:_=some [_, _]));(exact (rfl:_=[_, _]));rfl)|(apply cF;rfl;rfl)|(apply bB;rfl;rfl)|(apply b0;rfl;rfl;rfl)|(apply aV;rfl;rfl;rfl;rfl;rfl;(case hl => (first|decide|(simp;done)));(exact (rfl:_=[_, _]))))|(apply aL;first|apply aH|apply aB|(apply bZ;kernel_rfl)|(apply bU;rfl;(rfl))|(apply aN;rfl;all_goals intro hc;have hq:=hc;(try simp only [cH] at hq);try exfalso;omega)|apply aR|apply aP)|with_reducible apply aA|with_reducible apply bH)
 ·refine cE (Le.nilImm (d := 4) rfl) ?_
  exact aO (l := [sl eF [], .agg [iv 0, iv 0], bv false]) rfl ⟨by rw [if_neg (by omega)]; rfl, rfl⟩
 ·exact aO (l := [sl eF (m ++ [pX v]), .agg [iv m.length, iv 0], bv true]) rfl ⟨by rw [if_pos (by omega)]; rfl, by (exact Pur.pf)⟩
 ·refine cE (Le.nilImm (d := 4) rfl) ?_
  exact aO (l := [sl eF [], .agg [iv 0, iv 0], bv false]) rfl ⟨by rw [if_neg (by omega)]; rfl, rfl⟩
theorem Fc {m:List Cl}{j:Nat}{t:Int}{r:List Tg}{n:Nat}{N:Nat}{Q:Exit → AS → Prop}{all:Array Oper}{rest:List Oper}{tsl:List (Nat × AV)}{hsl:List (Nat × Option (List AV))}{nidl:Nat}{z0:Lo}{md:Md}{d:Nat}{ty:TypeId}{pos:String}{af:Array Edge}{tys:Array TypeId}{x0 x1 x2:Operand}{i0 i1:Nat}(ha0:ev (lk tsl) x0 = some (.own i0 0 n 4)) (ha1:ev (lk tsl) x1 = some (.agg [iv (j:Int),iv t])) (ha2:ev (lk tsl) x2 = some (bv true)) (hH0:cA hsl i0 = some (flat g8 (fC m j (.own i1 0 m[j]!.stk.length 2)))) (hH1:cA hsl i1 = some (flat eO m[j]!.stk)) (hdd:Go.AL.distinct [i0,i1] = true) (hmc:MC Tryz.prog 190 [.own 0 0 n 4,.agg [iv (j:Int),iv t],bv true] [(0,some (flat g8 (fC m j (.own 1 0 m[j]!.stk.length 2)))),(1,some (flat eO m[j]!.stk))] 2 (fun _:Unit => True) (fun _ => iv 0) (fun _ => [(0,some (flat g8 (fC m j (.own 1 0 r.length 2)))),(1,some (flat eO r))])) (hM:Nat.ble (nidl + 0) dJ = true) (hN:Nat.blt d N = true){md':Md}[hmd:MdA md (hO [x0,x1,x2] ++ [.inr i0,.inr i1]) (List.map Sum.inr (List.map Prod.fst ([(i0,some (flat g8 (fC m j (.own i1 0 r.length 2)))),(i1,some (flat eO r))]:List (Nat × Option (List AV)))) ++ [.inl d]) md'] (kk:RW Tryz.prog N all Q md' rest ⟨(d,iv 0) :: tsl,iY hsl [(i0,some (flat g8 (fC m j (.own i1 0 r.length 2)))),(i1,some (flat eO r))],nidl + 0,z0⟩):RW Tryz.prog N all Q md (⟨some d,.call ⟨.value (.func 190),#[x0,x1,x2],tys⟩,ty,pos,af,none⟩ :: rest) ⟨tsl,hsl,nidl,z0⟩ := by
 refine cL [i0, i1] 2 [(i0, some (flat g8 (fC m j (.own i1 0 r.length 2)))), (i1, some (flat eO r))] hmc (avs := [.own i0 0 n 4, .agg [iv (j : Int), iv t], bv true]) ?_ hdd ?_ rfl ?_ (by simpa using hM) ?_ ?_ ?_ hN (md' := md') (hmd := hmd) kk
 ·show evL (lk tsl) [x0, x1, x2] = _
  simp only [evL, ha0, ha1, ha2]
 ·exact ⟨⟨_, _, rfl, hH0, by (repeat' (exact oH rfl))⟩, ⟨⟨_, _, rfl, hH1, by (repeat' (exact RnL.purI inferInstance))⟩, trivial⟩⟩
 ·(repeat' (first|exact RnL.purI inferInstance|exact RnV.own rfl|refine RnL.cons ?_ ?_))
 ·(repeat' (exact RnV.purI inferInstance))
 ·simp [dT]
 ·(repeat' (first|exact trivial|(refine And.intro ⟨0, _, rfl, rfl, ?_⟩ ?_)|(refine And.intro ⟨1, _, rfl, rfl, ?_⟩ ?_)|exact RnL.purI inferInstance|exact oH rfl))
theorem GJ (m:List Cl) (j:Nat) (t:Int) (r:List Tg) (k n:Nat) (hm:OkM m) (hn:n = m.length) (hj:j < m.length) (hk:dM m[j]!.stk t = (k:Int)) (hal:m[j]!.alive = true) (hu:m[j]!.stk[k]!.uq = true) (hre:m[j]!.stk.take (k + 1) = r) (hrk:k + 1 = r.length):MC Tryz.prog 190 [.own 0 0 n 4,.agg [iv (j:Int),iv t],bv true] [(0,some (flat g8 (fC m j (.own 1 0 m[j]!.stk.length 2)))),(1,some (flat eO m[j]!.stk))] 2 (fun _:Unit => True) (fun _ => iv 0) (fun _ => [(0,some (flat g8 (fC m j (.own 1 0 r.length 2)))),(1,some (flat eO r))]) := by
 have h := uO m j t k n hm hn hj hk hal hu
 rw [hre, hrk] at h
 exact h
theorem IC (m:List Cl) (hm:OkM m) (j k:Nat) (t:Int) (r:List Tg) (hj:j < m.length) (hkk:dM m[j]!.stk t = (k:Int)) (hk:cS m ⟨(j:Int),t⟩ false = 0) (hr:r = g7 m[j]!.stk k false):PC Tryz.prog 155 [sl eF m,.agg [iv (j:Int),iv t],bv false] (fun z => z = .tup [sl eF (pS m m j false r),FZ (rZ m j r),iv (o9 m j r)]) := by
 have hml := hm.l
 obtain ⟨h1, h2, h3, h4, hu⟩ := jD hk
 have hc := ((jB m).1 hm).2 j hj
 have hb := g9 m[j]!.stk t
 have hrl : r.length ≤ 200 := by rw [hr]; exact Nat.le_trans tchS_sub.length_le hc.l.2
 have hnx := hc.n
 obtain ⟨_, e2, _⟩ := nW hk (r := r) (by rw [hr]; show _ = g7 m[j]!.stk (dM m[j]!.stk t).toNat false;rw [hkk]; rfl)
 have e2' : nX m ⟨(j : Int), t⟩ false = pS m m j false r := e2
 have hok := hm.ln ⟨(j : Int), t⟩ false
 rw [e2'] at hok
 have hto := Bj m j t r k m.length hm rfl hj hkk h3 hr
 have hog := jF (m := m) (j := j) (X := .own (0 + 1 + 1 + 3 + 3) 0 r.length 2) hj
 have hol := eZ (m := m) (j := j) (X := .own (0 + 1 + 1 + 3 + 3) 0 r.length 2)
 have hol2 := eZ (m := m) (j := j) (X := .own (0 + 1 + 1 + 3 + 4 + 1) 0 (r.length + 1) 2)
 have hm2 : (m.set j { m[j]! with next := m[j]!.next + 1 }).length = m.length := List.length_set
 (refine aT Tryz.func155 rfl (by simp [Tryz.ntmps155]) ?_; rw [Tryz.ntmps155])
 repeat' (first|(apply aK;first|((apply pO (j := j));(case ha0 => rfl);(case hmc => exact vE m j hm hj);(case hM|hN => rfl))|((apply wR (m := m) (j := j) (t := t) (r := r) (n := m.length));(case ha0|ha1|ha2|hH0|hH1|hdd => rfl);(case hmc => exact hto);(case hM|hN => rfl))|(with_reducible apply dE (d := 32))|(apply aE;rfl;rfl)|(first|(apply cV;(case hx|hH => rfl);(case hf|hg|hα => infer_instance);(case hk => omega);(case hc|hN => rfl))|(apply aJ;rfl;rfl;rfl;rfl)|(apply aU;rfl;rfl;(exact (rfl:_=[_, _]));rfl;rfl;rfl))|(apply aD;rfl;rfl;rfl)|(apply aS;rfl;rfl;rfl;rfl)|(apply aC;rfl;rfl)|(apply cM;rfl;rfl;(assumption);rfl)|(apply aF;kernel_rfl)|(apply bV;rfl;rfl;rfl)|(apply bT;rfl;rfl;rfl;rfl)|(apply bB;rfl;rfl))|(apply aL;first|apply aH|apply aB|(apply cG;rfl;(rfl))|apply aR)|with_reducible apply aA)
 refine eX ?_
 rw [hog]
 dsimp only
 by_cases hf : uU m j r
 ·have eM : pS m m j false r = m := by unfold pS; rw [if_pos hf]
  have eP : rZ m j r = ⟨0, 0⟩ := by unfold rZ;rw [if_pos hf]
  have eK : o9 m j r = 4 := by unfold o9;rw [if_pos hf]
  rw [eM, eP, eK]
  unfold uU at hf
  repeat' (first|(apply aK;first|(apply iD;rfl;exact kP m hm;rfl;rfl)|(with_reducible apply dE (d := 44))|(apply aE;rfl;rfl)|(apply cV;(case hx|hH => rfl);(case hf|hg|hα => infer_instance);(case hk => omega);(case hc|hN => rfl))|(apply aD;rfl;rfl;rfl)|(first|(apply aY;rfl;rfl;rfl;(assumption))|(apply a6;rfl;rfl;rfl;(assumption))|(apply bE;(case hj|hb|hN => rfl);all_goals (intro hg;have hq := hg;(try simp only [cH] at hq);(try (exfalso;omega)))))|(apply aS;rfl;rfl;rfl;rfl)|(apply aC;rfl;rfl)|(first|(apply bK;rfl;(assumption);rfl;rfl)|(apply bC;rfl;(assumption);rfl;rfl))|(apply a8;rfl;rfl;rfl)|(apply aF;kernel_rfl)|(apply bW;rfl;(exact (rfl:_=some [_, _]));(exact (rfl:_=[_, _]));rfl)|(apply bV;rfl;rfl;rfl)|(apply aV;rfl;rfl;rfl;rfl;rfl;(decide);(exact (rfl:_=[_, _]))))|(apply aL;first|apply aH|apply aB|(apply bU;rfl;(rfl))|(apply aN;rfl;all_goals intro hc;have hq:=hc;(try simp only [cH] at hq);try exfalso;omega)|apply aR|apply aP)|with_reducible apply aA|with_reducible apply bH)
  ·refine cE (Le.frzD (d := 6) (i := 10) rfl rfl) ?_
   exact aO (l := [sl eF m, .agg [iv 0, iv 0], iv 4]) rfl ⟨rfl, by (exact Pur.pf)⟩
  ·exfalso
   have h : ¬ (fC m j (.own (0 + 1 + 1 + 3 + 3) 0 r.length 2))[j]!.next = 1000 := by assumption
   rw [hog] at h
   dsimp only at h
   omega
  ·refine cE (Le.frzD (d := 6) (i := 10) rfl rfl) ?_
   exact aO (l := [sl eF m, .agg [iv 0, iv 0], iv 4]) rfl ⟨rfl, by (exact Pur.pf)⟩
 ·have eM : pS m m j false r = m.set j (psh { m[j]! with stk := r } false) := by unfold pS; rw [if_neg hf]
  have eP : rZ m j r = ⟨j, m[j]!.next⟩ := by unfold rZ;rw [if_neg hf]
  have eK : o9 m j r = 0 := by unfold o9;rw [if_neg hf]
  rw [eM] at hok
  rw [eM, eP, eK]
  unfold uU at hf
  have hown := kP _ hok
  repeat' (first|(apply aK;first|(with_reducible apply dE (d := 41))|(with_reducible apply dE (d := 54))|(apply aE;rfl;rfl)|(apply cV;(case hx|hH => rfl);(case hf|hg|hα => infer_instance);(case hk => omega);(case hc|hN => rfl))|(apply aD;rfl;rfl;rfl)|(first|(apply aY;rfl;rfl;rfl;(assumption))|(apply bE;(case hj|hb|hN => rfl);all_goals (intro hg;have hq := hg;(try simp only [cH] at hq);(try (exfalso;omega)))))|(apply aS;rfl;rfl;rfl;rfl)|(apply aC;rfl;rfl)|(apply bC;rfl;(assumption);rfl;rfl)|(apply a8;rfl;rfl;rfl)|(apply aF;kernel_rfl)|(apply bV;rfl;rfl;rfl))|(apply aL;first|apply aH|apply aB|(apply aN;rfl;all_goals intro hc;have hq:=hc;(try simp only [cH] at hq);try exfalso;omega)|apply aR)|with_reducible apply aA)
  ·exfalso
   have h : (fC m j (.own (0 + 1 + 1 + 3 + 3) 0 r.length 2))[j]!.next = 1000 := by assumption
   rw [hog] at h
   dsimp only at h
   omega
  ·refine eX ?_
   rw [hog]
   dsimp only
   repeat' (first|(apply aK;first|(apply aV;rfl;rfl;rfl;rfl;rfl;(rw [aQ, eZ]; simp only [List.length_append, List.length_cons, List.length_nil]; omega);(first|exact x6 hj|exact Dx hj))|(apply aE;rfl;rfl)|(apply aD;rfl;rfl;rfl)|(apply bR;rfl;rfl;omega;rfl)|(apply cJ;rfl;rfl;rfl;rfl;rfl;(rw [aQ]; omega);(rfl);omega;omega;(exact G2 (by (omega)));rfl;rfl)|(apply aF;kernel_rfl)|(apply bW;rfl;(exact (rfl:_=some [_, _]));(exact (rfl:_=[_, _]));rfl)|(apply bV;rfl;rfl;rfl)|((apply bS (t := _));(case hze|hsm|hl => rfl);(case hfl => (exact (rfl:_=some [_, _])));(case hM|hN => rfl)))|(apply aL;(apply aH))|with_reducible apply aA)
   refine AW.le ?_ (Le.cls (o := 3) (q := 0 + 1 + 1 + 3 + 4 + 1) (j := j) (k := r.length + 1) (m := m.set j { m[j]! with next := m[j]!.next + 1 }) (r := r ++ [⟨m[j]!.next, false⟩]) rfl rfl (by (rw [List.length_append]; rfl)) (by omega) (by decide))
   refine AW.le ?_ (Le.frzD (d := 9) (i := 3) rfl rfl)
   have e : (m.set j { m[j]! with next := m[j]!.next + 1 }).set j { (m.set j { m[j]! with next := m[j]!.next + 1 })[j]! with stk := r ++ [⟨m[j]!.next, false⟩] } = m.set j (psh { m[j]! with stk := r } false) := by
    rw [sY hj, set_set]; rfl
   rw [e, mS (f := eF) (xs := m.set j (psh { m[j]! with stk := r } false)) (by rw [List.length_set])]
   repeat' (first|(apply aK;first|(apply iD;rfl;exact hown;rfl;rfl)|(apply aE;rfl;rfl)|(apply aJ;rfl;rfl;rfl;rfl)|(apply aD;rfl;rfl;rfl)|(apply aC;rfl;rfl)|(apply aF;kernel_rfl)|(apply bW;rfl;(exact (rfl:_=some [_, _]));(exact (rfl:_=[_, _]));rfl)|(apply aV;rfl;rfl;rfl;rfl;rfl;(case hl => (simp;done));(exact (rfl:_=[_, _]))))|(apply aL;first|(apply bZ;kernel_rfl)|apply aP)|with_reducible apply aA)
   refine cE (Le.frzD (d := 6) (i := 12) rfl rfl) ?_
   exact aO (l := [sl eF (m.set j (psh { m[j]! with stk := r } false)), .agg [iv (j : Int), iv m[j]!.next], iv 0]) rfl ⟨rfl, by (exact Pur.pf)⟩
  all_goals (exfalso;omega)
theorem Jk (m:List Cl) (hm:OkM m) (j k:Nat) (t:Int) (r:List Tg) (hj:j < m.length) (hkk:dM m[j]!.stk t = (k:Int)) (hk:cS m ⟨(j:Int),t⟩ true = 0) (hr:r = g7 m[j]!.stk k true):PC Tryz.prog 155 [sl eF m,.agg [iv (j:Int),iv t],bv true] (fun z => z = .tup [sl eF (pS m m j true r),FZ (rZ m j r),iv (o9 m j r)]) := by
 have hml := hm.l
 obtain ⟨h1, h2, h3, h4, hu⟩ := jD hk
 have hc := ((jB m).1 hm).2 j hj
 have hb := g9 m[j]!.stk t
 have hrl : r.length ≤ 200 := by rw [hr]; exact Nat.le_trans tchS_sub.length_le hc.l.2
 have hnx := hc.n
 obtain ⟨_, e2, _⟩ := nW hk (r := r) (by rw [hr]; show _ = g7 m[j]!.stk (dM m[j]!.stk t).toNat true;rw [hkk]; rfl)
 have e2' : nX m ⟨(j : Int), t⟩ true = pS m m j true r := e2
 have hok := hm.ln ⟨(j : Int), t⟩ true
 rw [e2'] at hok
 have huk : m[j]!.stk[k]!.uq = true := by
  have h : m[j]!.stk[(dM m[j]!.stk t).toNat]!.uq = true := hu rfl
  rwa [hkk, Int.toNat_natCast] at h
 have hre : m[j]!.stk.take (k + 1) = r := by rw [hr]; unfold g7;rw [if_pos rfl]
 have hrk : k + 1 = r.length := by rw [← hre, List.length_take]; omega
 have hto := GJ m j t r k m.length hm rfl hj hkk h3 huk hre hrk
 clear hre hrk huk hu hr hkk
 have hog := jF (m := m) (j := j) (X := .own (0 + 1 + 1 + 2) 0 r.length 2) hj
 have hol := eZ (m := m) (j := j) (X := .own (0 + 1 + 1 + 2) 0 r.length 2)
 have hol2 := eZ (m := m) (j := j) (X := .own (0 + 1 + 1 + 3 + 0 + 1) 0 (r.length + 1) 2)
 have hm2 : (m.set j { m[j]! with next := m[j]!.next + 1 }).length = m.length := List.length_set
 (refine aT Tryz.func155 rfl (by simp [Tryz.ntmps155]) ?_; rw [Tryz.ntmps155])
 repeat' (first|(apply aK;first|((apply pO (j := j));(case ha0 => rfl);(case hmc => exact vE m j hm hj);(case hM|hN => rfl))|((apply Fc (m := m) (j := j) (t := t) (r := r) (n := m.length));(case ha0|ha1|ha2|hH0|hH1|hdd => rfl);(case hmc => exact hto);(case hM|hN => rfl))|(with_reducible apply dE (d := 32))|(apply aE;rfl;rfl)|(first|(apply cV;(case hx|hH => rfl);(case hf|hg|hα => infer_instance);(case hk => omega);(case hc|hN => rfl))|(apply aJ;rfl;rfl;rfl;rfl)|(apply aU;rfl;rfl;(exact (rfl:_=[_, _]));rfl;rfl;rfl))|(apply aD;rfl;rfl;rfl)|(apply aS;rfl;rfl;rfl;rfl)|(apply aC;rfl;rfl)|(apply cM;rfl;rfl;(assumption);rfl)|(apply aF;kernel_rfl)|(apply bV;rfl;rfl;rfl)|(apply bT;rfl;rfl;rfl;rfl)|(apply bB;rfl;rfl))|(apply aL;first|apply aH|apply aB|(apply cG;rfl;(rfl))|apply aR)|with_reducible apply aA)
 refine eX ?_
 rw [hog]
 dsimp only
 by_cases hf : uU m j r
 ·have eM : pS m m j true r = m := by unfold pS; rw [if_pos hf]
  have eP : rZ m j r = ⟨0, 0⟩ := by unfold rZ;rw [if_pos hf]
  have eK : o9 m j r = 4 := by unfold o9;rw [if_pos hf]
  rw [eM, eP, eK]
  unfold uU at hf
  repeat' (first|(apply aK;first|(apply iD;rfl;exact kP m hm;rfl;rfl)|(with_reducible apply dE (d := 44))|(apply aE;rfl;rfl)|(apply cV;(case hx|hH => rfl);(case hf|hg|hα => infer_instance);(case hk => omega);(case hc|hN => rfl))|(apply aD;rfl;rfl;rfl)|(first|(apply aY;rfl;rfl;rfl;(assumption))|(apply a6;rfl;rfl;rfl;(assumption))|(apply bE;(case hj|hb|hN => rfl);all_goals (intro hg;have hq := hg;(try simp only [cH] at hq);(try (exfalso;omega)))))|(apply aS;rfl;rfl;rfl;rfl)|(apply aC;rfl;rfl)|(first|(apply bK;rfl;(assumption);rfl;rfl)|(apply bC;rfl;(assumption);rfl;rfl))|(apply a8;rfl;rfl;rfl)|(apply aF;kernel_rfl)|(apply bW;rfl;(exact (rfl:_=some [_, _]));(exact (rfl:_=[_, _]));rfl)|(apply bV;rfl;rfl;rfl)|(apply aV;rfl;rfl;rfl;rfl;rfl;(decide);(exact (rfl:_=[_, _]))))|(apply aL;first|apply aH|apply aB|(apply bU;rfl;(rfl))|(apply aN;rfl;all_goals intro hc;have hq:=hc;(try simp only [cH] at hq);try exfalso;omega)|apply aR|apply aP)|with_reducible apply aA|with_reducible apply bH)
  ·refine cE (Le.frzD (d := 6) (i := 6) rfl rfl) ?_
   exact aO (l := [sl eF m, .agg [iv 0, iv 0], iv 4]) rfl ⟨rfl, by (exact Pur.pf)⟩
  ·exfalso
   have h : ¬ (fC m j (.own (0 + 1 + 1 + 2) 0 r.length 2))[j]!.next = 1000 := by assumption
   rw [hog] at h
   dsimp only at h
   omega
  ·refine cE (Le.frzD (d := 6) (i := 6) rfl rfl) ?_
   exact aO (l := [sl eF m, .agg [iv 0, iv 0], iv 4]) rfl ⟨rfl, by (exact Pur.pf)⟩
 ·have eM : pS m m j true r = m.set j (psh { m[j]! with stk := r } true) := by unfold pS; rw [if_neg hf]
  have eP : rZ m j r = ⟨j, m[j]!.next⟩ := by unfold rZ;rw [if_neg hf]
  have eK : o9 m j r = 0 := by unfold o9;rw [if_neg hf]
  rw [eM] at hok
  rw [eM, eP, eK]
  unfold uU at hf
  have hown := kP _ hok
  repeat' (first|(apply aK;first|(with_reducible apply dE (d := 41))|(with_reducible apply dE (d := 54))|(apply aE;rfl;rfl)|(apply cV;(case hx|hH => rfl);(case hf|hg|hα => infer_instance);(case hk => omega);(case hc|hN => rfl))|(apply aD;rfl;rfl;rfl)|(first|(apply aY;rfl;rfl;rfl;(assumption))|(apply bE;(case hj|hb|hN => rfl);all_goals (intro hg;have hq := hg;(try simp only [cH] at hq);(try (exfalso;omega)))))|(apply aS;rfl;rfl;rfl;rfl)|(apply aC;rfl;rfl)|(apply bC;rfl;(assumption);rfl;rfl)|(apply a8;rfl;rfl;rfl)|(apply aF;kernel_rfl)|(apply bV;rfl;rfl;rfl))|(apply aL;first|apply aH|apply aB|(apply aN;rfl;all_goals intro hc;have hq:=hc;(try simp only [cH] at hq);try exfalso;omega)|apply aR)|with_reducible apply aA)
  ·exfalso
   have h : (fC m j (.own (0 + 1 + 1 + 2) 0 r.length 2))[j]!.next = 1000 := by assumption
   rw [hog] at h
   dsimp only at h
   omega
  ·refine eX ?_
   rw [hog]
   dsimp only
   repeat' (first|(apply aK;first|(apply aV;rfl;rfl;rfl;rfl;rfl;(rw [aQ, eZ]; simp only [List.length_append, List.length_cons, List.length_nil]; omega);(first|exact x6 hj|exact Dx hj))|(apply aE;rfl;rfl)|(apply aD;rfl;rfl;rfl)|(apply bR;rfl;rfl;omega;rfl)|(apply cJ;rfl;rfl;rfl;rfl;rfl;(rw [aQ]; omega);(rfl);omega;omega;(exact G2 (by (omega)));rfl;rfl)|(apply aF;kernel_rfl)|(apply bW;rfl;(exact (rfl:_=some [_, _]));(exact (rfl:_=[_, _]));rfl)|(apply bV;rfl;rfl;rfl)|((apply bS (t := _));(case hze|hsm|hl => rfl);(case hfl => (exact (rfl:_=some [_, _])));(case hM|hN => rfl)))|(apply aL;(apply aH))|with_reducible apply aA)
   refine AW.le ?_ (Le.cls (o := 3) (q := 0 + 1 + 1 + 3 + 0 + 1) (j := j) (k := r.length + 1) (m := m.set j { m[j]! with next := m[j]!.next + 1 }) (r := r ++ [⟨m[j]!.next, true⟩]) rfl rfl (by (rw [List.length_append]; rfl)) (by omega) (by decide))
   refine AW.le ?_ (Le.frzD (d := 9) (i := 3) rfl rfl)
   have e : (m.set j { m[j]! with next := m[j]!.next + 1 }).set j { (m.set j { m[j]! with next := m[j]!.next + 1 })[j]! with stk := r ++ [⟨m[j]!.next, true⟩] } = m.set j (psh { m[j]! with stk := r } true) := by
    rw [sY hj, set_set]; rfl
   rw [e, mS (f := eF) (xs := m.set j (psh { m[j]! with stk := r } true)) (by rw [List.length_set])]
   repeat' (first|(apply aK;first|(apply iD;rfl;exact hown;rfl;rfl)|(apply aE;rfl;rfl)|(apply aJ;rfl;rfl;rfl;rfl)|(apply aD;rfl;rfl;rfl)|(apply aC;rfl;rfl)|(apply aF;kernel_rfl)|(apply bW;rfl;(exact (rfl:_=some [_, _]));(exact (rfl:_=[_, _]));rfl)|(apply aV;rfl;rfl;rfl;rfl;rfl;(case hl => (simp;done));(exact (rfl:_=[_, _]))))|(apply aL;first|(apply bZ;kernel_rfl)|apply aP)|with_reducible apply aA)
   refine cE (Le.frzD (d := 6) (i := 8) rfl rfl) ?_
   exact aO (l := [sl eF (m.set j (psh { m[j]! with stk := r } true)), .agg [iv (j : Int), iv m[j]!.next], iv 0]) rfl ⟨rfl, by (exact Pur.pf)⟩
  all_goals (exfalso;omega)
theorem I1 (m:List Cl) (hm:OkM m) (x:Pt) (u:Bool):PC Tryz.prog 155 [sl eF m,FZ x,bv u] (fun r => r = .tup [sl eF (nX m x u),FZ (BT m x u),iv (rX m x u)]) := by
 have hml := hm.l
 by_cases hk : cS m x u = 0
 ·obtain ⟨c, t⟩ := x
  obtain ⟨h1, h2, h3, h4, hu⟩ := jD hk
  obtain ⟨j, rfl⟩ := Int.eq_ofNat_of_zero_le (show 0 ≤ c from h1)
  have hj : j < m.length := by have : (j : Int) < m.length := h2;omega
  obtain ⟨k, hkk⟩ := Int.eq_ofNat_of_zero_le (show 0 ≤ dM m[j]!.stk t from h4)
  obtain ⟨r, hr⟩ : ∃ r, r = g7 m[j]!.stk k u := ⟨_, rfl⟩
  obtain ⟨e1, e2, e3⟩ := nW hk (r := r) (by rw [hr]; show _ = g7 m[j]!.stk (dM m[j]!.stk t).toNat u;rw [hkk]; rfl)
  rw [e1, e2, e3]
  cases u
  ·exact IC m hm j k t r hj hkk hk hr
  ·exact Jk m hm j k t r hj hkk hk hr
 ·obtain ⟨e1, e2, e3⟩ := MH hk
  rw [e1, e2, e3]
  (refine aT Tryz.func155 rfl (by simp [Tryz.ntmps155]) ?_; rw [Tryz.ntmps155])
  repeat' (first|(apply aK;first|(apply iD;rfl;exact kP m hm;rfl;rfl)|((apply nN (m := m) (x := x) (wr := u) (n := m.length));(case ha0|ha1|ha2|hH0 => rfl);(case hmc => exact pE m x u _ hm rfl hk);(case hM|hN => rfl))|(apply aE;rfl;rfl)|(apply aU;rfl;rfl;(exact (rfl:_=[_, _]));rfl;rfl;rfl)|(apply aS;rfl;rfl;rfl;rfl)|(apply aC;rfl;rfl)|(apply aF;kernel_rfl)|(apply bW;rfl;(exact (rfl:_=some [_, _]));(exact (rfl:_=[_, _]));rfl)|(apply bT;rfl;rfl;rfl;rfl)|(apply bB;rfl;rfl)|(apply aV;rfl;rfl;rfl;rfl;rfl;(decide);(exact (rfl:_=[_, _]))))|(apply aL;first|apply aH|apply aB|(apply aN;rfl;all_goals intro hc;have hq:=hc;(try simp only [cH] at hq);try exfalso;omega)|apply aP)|with_reducible apply aA|with_reducible apply bH)
  refine cE (Le.frzD (d := 6) (i := 3) rfl rfl) ?_
  exact aO (l := [sl eF m, .agg [iv 0, iv 0], iv (cS m x u)]) rfl ⟨rfl, by (exact Pur.pf)⟩
abbrev mO (ts : List Int) (bd : List AL.Stmt) (pts : List Pnt) (i1 i2 : Nat) (s : Mc) : List AV := [aG ts bd pts, .own i1 0 ts.length 4, sl eF s.cells, .own i2 0 s.read.length 1]
theorem Bd {ts:List Int}{bd:List AL.Stmt}{pts:List Pnt}{s:Mc}{v:Nat}{N:Nat}{Q:Exit → AS → Prop}{all:Array Oper}{rest:List Oper}{tsl:List (Nat × AV)}{hsl:List (Nat × Option (List AV))}{nidl:Nat}{z0:Lo}{md:Md}{d:Nat}{ty:TypeId}{pos:String}{af:Array Edge}{tys:Array TypeId}{x0 x1:Operand}{i0 i1 i2:Nat}(ha0:ev (lk tsl) x0 = some (.optr i0 0)) (ha1:ev (lk tsl) x1 = some (iv (v:Int))) (hH0:cA hsl i0 = some (mO ts bd pts i1 i2 s)) (hH1:cA hsl i1 = some (flat e5 s.slots)) (hH2:cA hsl i2 = some (flat cI s.read)) (hdd:Go.AL.distinct [i0,i1,i2] = true) (hmc:MC Tryz.prog 159 [.optr 0 0,iv (v:Int)] [(0,some (mO ts bd pts 1 2 s)),(1,some (flat e5 s.slots)),(2,some (flat cI s.read))] 3 (fun _:Unit => True) (fun _ => iv (l7 (cS s.cells s.slots[v]!.ptr true))) (fun _ => [(0,some ([aG ts bd pts,.own 1 0 ts.length 4,sl eF (jG s.cells s.slots[v]!.ptr),.own 2 0 s.read.length 1])),(1,some (flat e5 s.slots)),(2,some (flat cI s.read))])) (hM:Nat.ble (nidl + 0) dJ = true) (hN:Nat.blt d N = true){md':Md}[hmd:MdA md (hO [x0,x1] ++ [.inr i0,.inr i1,.inr i2]) (List.map Sum.inr (List.map Prod.fst ([(i0,some ([aG ts bd pts,.own i1 0 ts.length 4,sl eF (jG s.cells s.slots[v]!.ptr),.own i2 0 s.read.length 1])),(i1,some (flat e5 s.slots)),(i2,some (flat cI s.read))]:List (Nat × Option (List AV)))) ++ [.inl d]) md'] (kk:RW Tryz.prog N all Q md' rest ⟨(d,iv (l7 (cS s.cells s.slots[v]!.ptr true))) :: tsl,iY hsl [(i0,some ([aG ts bd pts,.own i1 0 ts.length 4,sl eF (jG s.cells s.slots[v]!.ptr),.own i2 0 s.read.length 1])),(i1,some (flat e5 s.slots)),(i2,some (flat cI s.read))],nidl + 0,z0⟩):RW Tryz.prog N all Q md (⟨some d,.call ⟨.value (.func 159),#[x0,x1],tys⟩,ty,pos,af,none⟩ :: rest) ⟨tsl,hsl,nidl,z0⟩ := by
 refine cL [i0, i1, i2] 3 [(i0, some ([aG ts bd pts, .own i1 0 ts.length 4, sl eF (jG s.cells s.slots[v]!.ptr), .own i2 0 s.read.length 1])), (i1, some (flat e5 s.slots)), (i2, some (flat cI s.read))] hmc (avs := [.optr i0 0, iv (v : Int)]) ?_ hdd ?_ rfl ?_ (by simpa using hM) ?_ ?_ ?_ hN (md' := md') (hmd := hmd) kk
 ·show evL (lk tsl) [x0, x1] = _
  simp only [evL, ha0, ha1]
 ·exact ⟨⟨_, _, rfl, hH0, by (repeat' (first|exact RnL.purI inferInstance|exact RnV.purI inferInstance|exact RnV.own rfl|refine RnL.cons ?_ ?_))⟩, ⟨⟨_, _, rfl, hH1, by (repeat' (exact RnL.purI inferInstance))⟩, ⟨⟨_, _, rfl, hH2, by (repeat' (exact RnL.purI inferInstance))⟩, trivial⟩⟩⟩
 ·(repeat' (first|exact RnL.purI inferInstance|exact RnV.optr rfl|refine RnL.cons ?_ ?_))
 ·(repeat' (exact RnV.purI inferInstance))
 ·simp [dT]
 ·(repeat' (first|exact trivial|(refine And.intro ⟨0, _, rfl, rfl, ?_⟩ ?_)|(refine And.intro ⟨1, _, rfl, rfl, ?_⟩ ?_)|(refine And.intro ⟨2, _, rfl, rfl, ?_⟩ ?_)|exact RnL.purI inferInstance|exact RnV.purI inferInstance|exact RnV.own rfl|refine RnL.cons ?_ ?_))
theorem yS (ts:List Int) (bd:List AL.Stmt) (pts:List Pnt) (s:Mc) (v:Nat) (hm:OkM s.cells) (hsl:s.slots.length = ts.length) (hv:v < ts.length):MC Tryz.prog 159 [.optr 0 0,iv (v:Int)] [(0,some (mO ts bd pts 1 2 s)),(1,some (flat e5 s.slots)),(2,some (flat cI s.read))] 3 (fun _:Unit => True) (fun _ => iv (l7 (cS s.cells s.slots[v]!.ptr true))) (fun _ => [(0,some ([aG ts bd pts,.own 1 0 ts.length 4,sl eF (jG s.cells s.slots[v]!.ptr),.own 2 0 s.read.length 1])),(1,some (flat e5 s.slots)),(2,some (flat cI s.read))]) := by
 have hfc := AK s.cells hm s.slots[v]!.ptr
 (refine cC Tryz.func159 rfl (by simp [Tryz.ntmps159]) ?_; rw [Tryz.ntmps159])
 repeat' (first|(apply aK;first|(apply jO;(case hx|hH => rfl);(case hf|hg|hα => infer_instance);(case hk => omega);(case hj => decide);(case hc => exact (rfl:_=[_, _]));(case h0|hN => rfl))|((with_reducible apply aI (k := 191));(case ha => rfl);(case h => exact hfc);(case hp => (exact Pur.pf));(case hN => rfl))|(apply aE;rfl;rfl)|(apply aJ;rfl;rfl;rfl;rfl)|(apply aD;rfl;rfl;rfl)|(apply aS;rfl;rfl;rfl;rfl)|(apply aC;rfl;rfl)|(apply cM;rfl;rfl;(assumption);rfl)|((with_reducible apply aI (k := 156));(case ha => rfl);(case h => (apply s8 <;> (fail)));(case hp => (rfl));(case hN => rfl))|(apply aF;kernel_rfl)|(apply bV;rfl;rfl;rfl)|(apply b0;rfl;rfl;rfl)|(apply aV;rfl;rfl;rfl;rfl;rfl;(case hl => (simp;done));(exact (rfl:_=[_, _, _, _]))))|(apply aL;first|apply aH|apply aB|(apply bZ;kernel_rfl)|(apply aN;rfl;all_goals intro hc;have hq:=hc;(try simp only [cH] at hq);try exfalso;omega)|apply aR|apply aP)|with_reducible apply aA|with_reducible apply bH)
 ·have hk : ¬ cS s.cells s.slots[v]!.ptr true = 0 := by assumption
  (refine aO rfl ?_; refine bY () trivial ?_ ⟨.inr (Eq.trans (b := some _) rfl ?_), ⟨.inr (Eq.trans (b := some _) rfl ?_), ⟨.inr (Eq.trans (b := some _) rfl ?_), trivial⟩⟩⟩)
  ·show iv (jI _) = iv (l7 _)
   unfold l7;rw [if_neg hk]
  ·rfl
  ·rfl
  ·rfl
 ·have hk : cS s.cells s.slots[v]!.ptr true = 0 := by assumption
  (refine aO rfl ?_; refine bY () trivial ?_ ⟨.inr (Eq.trans (b := some _) rfl ?_), ⟨.inr (Eq.trans (b := some _) rfl ?_), ⟨.inr (Eq.trans (b := some _) rfl ?_), trivial⟩⟩⟩)
  ·rw [hk]; rfl
  ·rfl
  ·rfl
  ·rfl
theorem LO (ts:List Int) (bd:List AL.Stmt) (pts:List Pnt) (s:Mc) (v:Nat) (y:Sl) (hm:OkM s.cells) (hsl:s.slots.length = ts.length) (hv:v < ts.length):MC Tryz.prog 152 [.optr 0 0,iv (v:Int),Mg y] [(0,some (mO ts bd pts 1 2 s)),(1,some (flat e5 s.slots)),(2,some (flat cI s.read))] 3 (fun _:Unit => True) (fun _ => iv (dN ts s v y).2) (fun _ => [(0,some (mO ts bd pts 1 2 (dN ts s v y).1)),(1,some (flat e5 (dN ts s v y).1.slots)),(2,some (flat cI (dN ts s v y).1.read))]) := by
 have hfr := yS ts bd pts s v hm hsl hv
 (refine cC Tryz.func152 rfl (by simp [Tryz.ntmps152]) ?_; rw [Tryz.ntmps152])
 repeat' (first|(apply aK;first|((apply Bd (ts := ts) (bd := bd) (pts := pts) (s := s) (v := v));(case ha0|ha1|hH0|hH1|hH2|hdd => rfl);(case hmc => exact hfr);(case hM|hN => rfl))|(apply aE;rfl;rfl)|(first|(apply cV;(case hx|hH => rfl);(case hf|hg|hα => infer_instance);(case hk => omega);(case hc|hN => rfl))|(apply aJ;rfl;rfl;rfl;rfl)|(apply aU;rfl;rfl;(exact (rfl:_=[_, _, _, _]));rfl;rfl;rfl))|(apply aD;rfl;rfl;rfl)|(first|(apply aY;rfl;rfl;rfl;(assumption))|(apply a6;rfl;rfl;rfl;(assumption))|(apply bE;(case hj|hb|hN => rfl);all_goals (intro hg;have hq := hg;(try simp only [cH] at hq);(try (exfalso;omega)))))|(apply aS;rfl;rfl;rfl;rfl)|(apply aC;rfl;rfl)|(first|(apply bK;rfl;(assumption);rfl;rfl)|(apply bC;rfl;(assumption);rfl;rfl))|(first|(apply a7;(case hx|hi => rfl);(case hm => (assumption));(case hml => (rfl));(case hα | hf|hg => infer_instance);(case hN => rfl))|(apply cM;rfl;rfl;(assumption);rfl))|(apply aF;kernel_rfl)|(apply bV;rfl;rfl;rfl)|(apply bT;rfl;rfl;rfl;rfl)|(apply aV;rfl;rfl;rfl;rfl;rfl;(rw [aQ]; simp only [gN] <;> omega);(exact Dw (by (omega)))))|(apply aL;first|apply aH|apply aB|(apply bZ;kernel_rfl)|(apply cG;rfl;(rfl))|(apply aN;rfl;all_goals intro hc;have hq:=hc;(try simp only [cH] at hq);try exfalso;omega)|apply aR|apply aP)|with_reducible apply aA)
 ·have hp : dN ts s v y = (⟨s.slots.set v y, jG s.cells s.slots[v]!.ptr, s.read⟩, l7 (cS s.cells s.slots[v]!.ptr true)) := if_pos ⟨by assumption, by assumption⟩
  rw [hp]
  (refine aO rfl ?_; refine bY () trivial ?_ ⟨.inr (Eq.trans (b := some _) rfl ?_), ⟨.inr (Eq.trans (b := some _) rfl ?_), ⟨.inr (Eq.trans (b := some _) rfl ?_), trivial⟩⟩⟩)
  ·rfl
  ·rfl
  ·rfl
  ·rfl
 all_goals (
  have hp : dN ts s v y = (⟨s.slots.set v y, s.cells, s.read⟩, -1) := if_neg (by
   rintro ⟨q1, q2⟩
   first|(exact (by assumption : ¬ ts[v]! = 2) q1)|(rw [(by assumption : s.slots[v]!.set = false)] at q2;exact absurd q2 (by decide)))
  rw [hp]
  (refine aO rfl ?_; refine bY () trivial ?_ ⟨.inr (Eq.trans (b := some _) rfl ?_), ⟨.inr (Eq.trans (b := some _) rfl ?_), ⟨.inr (Eq.trans (b := some _) rfl ?_), trivial⟩⟩⟩)
  ·rfl
  ·rfl
  ·rfl
  ·rfl)
theorem JS {ts:List Int}{bd:List AL.Stmt}{pts:List Pnt}{s:Mc}{N:Nat}{Q:Exit → AS → Prop}{all:Array Oper}{rest:List Oper}{tsl:List (Nat × AV)}{hsl:List (Nat × Option (List AV))}{nidl:Nat}{z0:Lo}{md:Md}{d:Nat}{ty:TypeId}{pos:String}{af:Array Edge}{tys:Array TypeId}{x0:Operand}{i0 i1 i2:Nat}(ha0:ev (lk tsl) x0 = some (.optr i0 0)) (hH0:cA hsl i0 = some (mO ts bd pts i1 i2 s)) (hH1:cA hsl i1 = some (flat e5 s.slots)) (hH2:cA hsl i2 = some (flat cI s.read)) (hdd:Go.AL.distinct [i0,i1,i2] = true) (hmc:MC Tryz.prog 160 [.optr 0 0] [(0,some (mO ts bd pts 1 2 s)),(1,some (flat e5 s.slots)),(2,some (flat cI s.read))] 3 (fun _:Unit => True) (fun _ => iv (dU ts ts.length 0 s).2) (fun _ => [(0,some (mO ts bd pts 1 2 (dU ts ts.length 0 s).1)),(1,some (flat e5 (dU ts ts.length 0 s).1.slots)),(2,some (flat cI (dU ts ts.length 0 s).1.read))])) (hM:Nat.ble (nidl + 0) dJ = true) (hN:Nat.blt d N = true){md':Md}[hmd:MdA md (hO [x0] ++ [.inr i0,.inr i1,.inr i2]) (List.map Sum.inr (List.map Prod.fst ([(i0,some (mO ts bd pts i1 i2 (dU ts ts.length 0 s).1)),(i1,some (flat e5 (dU ts ts.length 0 s).1.slots)),(i2,some (flat cI (dU ts ts.length 0 s).1.read))]:List (Nat × Option (List AV)))) ++ [.inl d]) md'] (kk:RW Tryz.prog N all Q md' rest ⟨(d,iv (dU ts ts.length 0 s).2) :: tsl,iY hsl [(i0,some (mO ts bd pts i1 i2 (dU ts ts.length 0 s).1)),(i1,some (flat e5 (dU ts ts.length 0 s).1.slots)),(i2,some (flat cI (dU ts ts.length 0 s).1.read))],nidl + 0,z0⟩):RW Tryz.prog N all Q md (⟨some d,.call ⟨.value (.func 160),#[x0],tys⟩,ty,pos,af,none⟩ :: rest) ⟨tsl,hsl,nidl,z0⟩ := by
 refine cL [i0, i1, i2] 3 [(i0, some (mO ts bd pts i1 i2 (dU ts ts.length 0 s).1)), (i1, some (flat e5 (dU ts ts.length 0 s).1.slots)), (i2, some (flat cI (dU ts ts.length 0 s).1.read))] hmc (avs := [.optr i0 0]) ?_ hdd ?_ rfl ?_ (by simpa using hM) ?_ ?_ ?_ hN (md' := md') (hmd := hmd) kk
 ·show evL (lk tsl) [x0] = _
  simp only [evL, ha0]
 ·exact ⟨⟨_, _, rfl, hH0, by (repeat' (first|exact RnL.purI inferInstance|exact RnV.purI inferInstance|exact RnV.own rfl|refine RnL.cons ?_ ?_))⟩, ⟨⟨_, _, rfl, hH1, by (repeat' (exact RnL.purI inferInstance))⟩, ⟨⟨_, _, rfl, hH2, by (repeat' (exact RnL.purI inferInstance))⟩, trivial⟩⟩⟩
 ·(repeat' (first|exact RnL.purI inferInstance|exact RnV.optr rfl|refine RnL.cons ?_ ?_))
 ·(repeat' (exact RnV.purI inferInstance))
 ·simp [dT]
 ·(repeat' (first|exact trivial|(refine And.intro ⟨0, _, rfl, rfl, ?_⟩ ?_)|(refine And.intro ⟨1, _, rfl, rfl, ?_⟩ ?_)|(refine And.intro ⟨2, _, rfl, rfl, ?_⟩ ?_)|exact RnL.purI inferInstance|exact RnV.purI inferInstance|exact RnV.own rfl|refine RnL.cons ?_ ?_))
theorem KL (ts:List Int) (bd:List AL.Stmt) (pts:List Pnt) (s:Mc) (hm:OkM s.cells) (hsl:s.slots.length = ts.length) (hl:ts.length ≤ 1000000):MC Tryz.prog 160 [.optr 0 0] [(0,some (mO ts bd pts 1 2 s)),(1,some (flat e5 s.slots)),(2,some (flat cI s.read))] 3 (fun _:Unit => True) (fun _ => iv (dU ts ts.length 0 s).2) (fun _ => [(0,some (mO ts bd pts 1 2 (dU ts ts.length 0 s).1)),(1,some (flat e5 (dU ts ts.length 0 s).1.slots)),(2,some (flat cI (dU ts ts.length 0 s).1.read))]) := by
 (refine cC Tryz.func160 rfl (by simp [Tryz.ntmps160]) ?_; rw [Tryz.ntmps160])
 repeat' (first|(apply aK;first|(apply aE;rfl;rfl)|(apply aJ;rfl;rfl;rfl;rfl)|(apply aD;rfl;rfl;rfl)|(apply aC;rfl;rfl)|(apply a8;rfl;rfl;rfl)|(apply aF;kernel_rfl)|(apply bV;rfl;rfl;rfl))|(apply aL;first|apply aH|apply aB|apply aM)|with_reducible apply aA)
 refine bF (σ := Nat × Mc) [0, 13, 14] [(0, _), (13, _), (14, _)] [] [] (fun k => [(15, iv (k.1 : Int))]) (fun k => [(0, some (mO ts bd pts 1 2 k.2)), (1, some (flat e5 k.2.slots)), (2, some (flat cI k.2.read))]) (fun k => k.1 ≤ ts.length ∧ dU ts (ts.length - k.1) k.1 k.2 = dU ts ts.length 0 s ∧ OkM k.2.cells ∧ k.2.slots.length = ts.length) (fun k => ts.length - k.1) (0, s) ⟨Nat.zero_le _, rfl, hm, hsl⟩ rfl rfl (by repeat' (first|exact trivial|refine And.intro rfl ?_)) (by repeat' (first|exact trivial|refine And.intro (.inr rfl) ?_)) ?_
 rintro ⟨v, q⟩ ⟨hv, hf, hmq, hlq⟩
 dsimp only at hv hf hmq hlq ⊢
 by_cases hvn : v < ts.length
 ·have hfr := yS ts bd pts q v hmq hlq hvn
  repeat' (first|(apply aK;first|((apply Bd (ts := ts) (bd := bd) (pts := pts) (s := q) (v := v));(case ha0|ha1|hH0|hH1|hH2|hdd => rfl);(case hmc => exact hfr);(case hM|hN => rfl))|(apply aE;rfl;rfl)|(first|(apply cV;(case hx|hH => rfl);(case hf|hg|hα => infer_instance);(case hk => omega);(case hc|hN => rfl))|(apply aJ;rfl;rfl;rfl;rfl))|(apply aD;rfl;rfl;rfl)|(first|(apply aY;rfl;rfl;rfl;(assumption))|(apply a6;rfl;rfl;rfl;(assumption))|(apply bE;(case hj|hb|hN => rfl);all_goals (intro hg;have hq := hg;(try simp only [cH] at hq);(try (exfalso;omega)))))|(first|(apply bR;rfl;rfl;omega;rfl)|(apply aS;rfl;rfl;rfl;rfl))|(apply aC;rfl;rfl)|(first|(apply bK;rfl;(assumption);rfl;rfl)|(apply bC;rfl;(assumption);rfl;rfl))|(first|(apply a7;(case hx|hi => rfl);(case hm => (assumption));(case hml => (rfl));(case hα | hf|hg => infer_instance);(case hN => rfl))|(apply cM;rfl;rfl;(assumption);rfl))|(apply aF;kernel_rfl)|(apply bW;rfl;(exact (rfl:_=some [_, _, _, _]));(exact (rfl:_=[_, _, _, _]));rfl)|(apply cF;rfl;rfl)|(apply bV;rfl;rfl;rfl)|(apply aV;rfl;rfl;rfl;rfl;rfl;(rw [aQ]; simp only [gN] <;> omega);(exact Dw (by (omega)))))|(apply aL;first|apply aH|apply aB|(apply bU;rfl;(rfl))|(apply aN;rfl;all_goals intro hc;have hq:=hc;(try simp only [cH] at hq);try exfalso;omega)|apply aM|apply aR|apply bI|apply aP)|with_reducible apply aA|with_reducible apply bH|with_reducible apply bJ|with_reducible apply aW|with_reducible apply cX|with_reducible apply bG)
  ·(apply dV (v + 1, q); focus (refine Le.ren [] rfl (by decide) ?_ ?_ <;> repeat' (first | exact trivial | refine And.intro ⟨_, rfl, ?_⟩ ?_ | refine And.intro ⟨_, _, rfl, rfl, ?_⟩ ?_ | exact Or.inr rfl | refine Or.inl ⟨?_, (by first | rfl | exact aZ _ _ | exact Pur.pf)⟩ | refine Or.inr (All2.cons ?_ ?_) | refine All2.cons ?_ ?_ | exact All2.nil | rfl)))
   ·refine ⟨by omega, ?_, hmq, hlq⟩
    dsimp only
    rw [← hf, show ts.length - v = (ts.length - (v + 1)) + 1 by omega, Hh (fun h => by
     have h2 : q.slots[v]!.set = false := by assumption
     rw [h2] at h;exact absurd h.2 (by decide))]
   ·dsimp only;omega
  ·have hk : ¬ cS q.cells q.slots[v]!.ptr true = 0 := fun h => by
    have h2 : ¬ l7 (cS q.cells q.slots[v]!.ptr true) = -1 := by assumption
    rw [h] at h2;exact h2 rfl
   have hq2 : dU ts ts.length 0 s = (⟨q.slots, jG q.cells q.slots[v]!.ptr, q.read⟩, jI (cS q.cells q.slots[v]!.ptr true)) := by
    rw [← hf, show ts.length - v = (ts.length - (v + 1)) + 1 by omega, Lj ⟨by assumption, by assumption⟩ hk]
   rw [hq2]
   (refine aO rfl ?_; refine bY () trivial ?_ ⟨.inr (Eq.trans (b := some _) rfl ?_), ⟨.inr (Eq.trans (b := some _) rfl ?_), ⟨.inr (Eq.trans (b := some _) rfl ?_), trivial⟩⟩⟩)
   ·show iv (l7 _) = iv (jI _)
    unfold l7;rw [if_neg hk]
   ·rfl
   ·rfl
   ·rfl
  ·have hk : cS q.cells q.slots[v]!.ptr true = 0 := by
    have h2 : l7 (cS q.cells q.slots[v]!.ptr true) = -1 := by assumption
    unfold l7 at h2
    by_cases h : cS q.cells q.slots[v]!.ptr true = 0
    ·exact h
    ·rw [if_neg h] at h2;unfold jI at h2;split at h2 <;> cases h2
   have hls : (q.slots.set v jZ).length = q.slots.length := List.length_set
   (apply dV (v + 1, ⟨q.slots.set v jZ, jG q.cells q.slots[v]!.ptr, q.read⟩);focus (refine Le.ren [] rfl (by decide) ?_ ?_ <;> repeat' (first|exact trivial|refine And.intro ⟨_, rfl, ?_⟩ ?_|refine And.intro ⟨_, _, rfl, rfl, ?_⟩ ?_|exact Or.inr rfl|refine Or.inl ⟨?_, (by first|rfl|exact aZ _ _|exact Pur.pf)⟩|refine Or.inr (All2.cons ?_ ?_)|refine All2.cons ?_ ?_|exact All2.nil|rfl)))
   ·refine ⟨by dsimp only; omega, ?_, hmq.fr _, by show (q.slots.set v jZ).length = _; rw [List.length_set]; exact hlq⟩
    dsimp only
    rw [← hf, show ts.length - v = (ts.length - (v + 1)) + 1 by omega, L4 ⟨by assumption, by assumption⟩ hk]
   ·dsimp only;omega
  ·(apply dV (v + 1, q); focus (refine Le.ren [] rfl (by decide) ?_ ?_ <;> repeat' (first | exact trivial | refine And.intro ⟨_, rfl, ?_⟩ ?_ | refine And.intro ⟨_, _, rfl, rfl, ?_⟩ ?_ | exact Or.inr rfl | refine Or.inl ⟨?_, (by first | rfl | exact aZ _ _ | exact Pur.pf)⟩ | refine Or.inr (All2.cons ?_ ?_) | refine All2.cons ?_ ?_ | exact All2.nil | rfl)))
   ·refine ⟨by omega, ?_, hmq, hlq⟩
    dsimp only
    rw [← hf, show ts.length - v = (ts.length - (v + 1)) + 1 by omega, Hh (fun h => by
     have h2 : ¬ ts[v]! = 2 := by assumption
     exact h2 h.1)]
   ·dsimp only;omega
 ·have hve : v = ts.length := by omega
  have hq2 : dU ts ts.length 0 s = (q, 0) := by rw [← hf, hve, Nat.sub_self]; rfl
  repeat' (first|(apply aK;first|(apply aS;rfl;rfl;rfl;rfl)|(apply aC;rfl;rfl)|(apply aF;kernel_rfl))|(apply aL;first|apply aH|apply aB|(apply aN;rfl;all_goals intro hc;have hq:=hc;(try simp only [cH] at hq);try exfalso;omega)|apply bI|apply aP)|with_reducible apply aA|with_reducible apply bJ|with_reducible apply bG)
  rw [hq2]
  (refine aO rfl ?_; refine bY () trivial ?_ ⟨.inr (Eq.trans (b := some _) rfl ?_), ⟨.inr (Eq.trans (b := some _) rfl ?_), ⟨.inr (Eq.trans (b := some _) rfl ?_), trivial⟩⟩⟩)
  ·rfl
  ·rfl
  ·rfl
  ·rfl
def e7 (ts : List Int) (s : Mc) (x : Pnt) : Mc × Int := if dB ts s x = true then (s, 2) else dF ts s x
theorem v7 {ts:List Int}{s:Mc}{x:Pnt}(h:dB ts s x = true):e7 ts s x = (s,2) := if_pos h
theorem rT {ts:List Int}{s:Mc}{x:Pnt}(h:dB ts s x = false):e7 ts s x = dF ts s x := if_neg (by rw [h]; decide)
theorem iC {ts:List Int}{x:Pnt}{v:Int}(h:v ∈ cQ (wS ts x [1,2,3])):0 ≤ v ∧ v < ts.length := by
 obtain ⟨v', h3, h4, rfl⟩ := dQ.1 h
 rw [dX, Bool.and_eq_true, decide_eq_true_eq] at h4
 omega
theorem dR {ts:List Int}{s:Mc}{x:Pnt}(htl:ts.length ≤ 6):dB ts s x = true ↔ ∃ v ∈ cQ (wS ts x [1,2,3]),s.slots[v.toNat]!.set = false := by
 constructor
 ·intro h
  obtain ⟨v, hv, hne, hs⟩ := z8 h
  refine ⟨(v : Int), dQ.2 ⟨v, by omega, ?_, rfl⟩, hs⟩
  have hb := o3 ts x v
  rw [dX, decide_eq_true hv, Bool.true_and, decide_eq_true_eq]
  simp only [List.mem_cons, List.not_mem_nil, or_false]; omega
 ·rintro ⟨v, hv, hs⟩
  obtain ⟨v', h3, h4, rfl⟩ := dQ.1 hv
  rw [dX, Bool.and_eq_true, decide_eq_true_eq, decide_eq_true_eq] at h4
  unfold dB
  refine List.any_eq_true.2 ⟨v', List.mem_range.2 h4.1, ?_⟩
  rw [Bool.and_eq_true, decide_eq_true_eq]
  refine ⟨fun e => ?_, by rw [show s.slots[v']!.set = false from hs]; rfl⟩
  have h5 := h4.2
  simp only [List.mem_cons, List.not_mem_nil, or_false] at h5;omega
theorem KD {ts:List Int}{bd:List AL.Stmt}{pts:List Pnt}{s:Mc}{x:Pnt}{N:Nat}{Q:Exit → AS → Prop}{all:Array Oper}{rest:List Oper}{tsl:List (Nat × AV)}{hsl:List (Nat × Option (List AV))}{nidl:Nat}{z0:Lo}{md:Md}{d:Nat}{ty:TypeId}{pos:String}{af:Array Edge}{tys:Array TypeId}{x0 x1:Operand}{i0 i1 i2:Nat}(ha0:ev (lk tsl) x0 = some (.optr i0 0)) (ha1:ev (lk tsl) x1 = some (hG x)) (hH0:cA hsl i0 = some (mO ts bd pts i1 i2 s)) (hH1:cA hsl i1 = some (flat e5 s.slots)) (hH2:cA hsl i2 = some (flat cI s.read)) (hdd:Go.AL.distinct [i0,i1,i2] = true) (hmc:MC Tryz.prog 120 [.optr 0 0,hG x] [(0,some (mO ts bd pts 1 2 s)),(1,some (flat e5 s.slots)),(2,some (flat cI s.read))] 3 (fun _:Unit => True) (fun _ => iv (e7 ts s x).2) (fun _ => [(0,some (mO ts bd pts 1 2 (e7 ts s x).1)),(1,some (flat e5 (e7 ts s x).1.slots)),(2,some (flat cI (e7 ts s x).1.read))])) (hM:Nat.ble (nidl + 0) dJ = true) (hN:Nat.blt d N = true){md':Md}[hmd:MdA md (hO [x0,x1] ++ [.inr i0,.inr i1,.inr i2]) (List.map Sum.inr (List.map Prod.fst ([(i0,some (mO ts bd pts i1 i2 (e7 ts s x).1)),(i1,some (flat e5 (e7 ts s x).1.slots)),(i2,some (flat cI (e7 ts s x).1.read))]:List (Nat × Option (List AV)))) ++ [.inl d]) md'] (kk:RW Tryz.prog N all Q md' rest ⟨(d,iv (e7 ts s x).2) :: tsl,iY hsl [(i0,some (mO ts bd pts i1 i2 (e7 ts s x).1)),(i1,some (flat e5 (e7 ts s x).1.slots)),(i2,some (flat cI (e7 ts s x).1.read))],nidl + 0,z0⟩):RW Tryz.prog N all Q md (⟨some d,.call ⟨.value (.func 120),#[x0,x1],tys⟩,ty,pos,af,none⟩ :: rest) ⟨tsl,hsl,nidl,z0⟩ := by
 refine cL [i0, i1, i2] 3 [(i0, some (mO ts bd pts i1 i2 (e7 ts s x).1)), (i1, some (flat e5 (e7 ts s x).1.slots)), (i2, some (flat cI (e7 ts s x).1.read))] hmc (avs := [.optr i0 0, hG x]) ?_ hdd ?_ rfl ?_ (by simpa using hM) ?_ ?_ ?_ hN (md' := md') (hmd := hmd) kk
 ·show evL (lk tsl) [x0, x1] = _
  simp only [evL, ha0, ha1]
 ·exact ⟨⟨_, _, rfl, hH0, by (repeat' (first|exact RnL.purI inferInstance|exact RnV.purI inferInstance|exact RnV.own rfl|refine RnL.cons ?_ ?_))⟩, ⟨⟨_, _, rfl, hH1, by (repeat' (exact RnL.purI inferInstance))⟩, ⟨⟨_, _, rfl, hH2, by (repeat' (exact RnL.purI inferInstance))⟩, trivial⟩⟩⟩
 ·(repeat' (first|exact RnL.purI inferInstance|exact RnV.optr rfl|refine RnL.cons ?_ ?_))
 ·(repeat' (exact RnV.purI inferInstance))
 ·simp [dT]
 ·(repeat' (first|exact trivial|(refine And.intro ⟨0, _, rfl, rfl, ?_⟩ ?_)|(refine And.intro ⟨1, _, rfl, rfl, ?_⟩ ?_)|(refine And.intro ⟨2, _, rfl, rfl, ?_⟩ ?_)|exact RnL.purI inferInstance|exact RnV.purI inferInstance|exact RnV.own rfl|refine RnL.cons ?_ ?_))
theorem kV {ts:List Int}{bd:List AL.Stmt}{pts:List Pnt}{s:Mc}{v:Int}{y:Sl}{N:Nat}{Q:Exit → AS → Prop}{all:Array Oper}{rest:List Oper}{tsl:List (Nat × AV)}{hsl:List (Nat × Option (List AV))}{nidl:Nat}{z0:Lo}{md:Md}{d:Nat}{ty:TypeId}{pos:String}{af:Array Edge}{tys:Array TypeId}{x0 x1 x2:Operand}{i0 i1 i2:Nat}(ha0:ev (lk tsl) x0 = some (.optr i0 0)) (ha1:ev (lk tsl) x1 = some (iv v)) (ha2:ev (lk tsl) x2 = some (Mg y)) (hH0:cA hsl i0 = some (mO ts bd pts i1 i2 s)) (hH1:cA hsl i1 = some (flat e5 s.slots)) (hH2:cA hsl i2 = some (flat cI s.read)) (hdd:Go.AL.distinct [i0,i1,i2] = true) (hmc:MC Tryz.prog 152 [.optr 0 0,iv v,Mg y] [(0,some (mO ts bd pts 1 2 s)),(1,some (flat e5 s.slots)),(2,some (flat cI s.read))] 3 (fun _:Unit => True) (fun _ => iv (dN ts s v.toNat y).2) (fun _ => [(0,some (mO ts bd pts 1 2 (dN ts s v.toNat y).1)),(1,some (flat e5 (dN ts s v.toNat y).1.slots)),(2,some (flat cI (dN ts s v.toNat y).1.read))])) (hM:Nat.ble (nidl + 0) dJ = true) (hN:Nat.blt d N = true){md':Md}[hmd:MdA md (hO [x0,x1,x2] ++ [.inr i0,.inr i1,.inr i2]) (List.map Sum.inr (List.map Prod.fst ([(i0,some (mO ts bd pts i1 i2 (dN ts s v.toNat y).1)),(i1,some (flat e5 (dN ts s v.toNat y).1.slots)),(i2,some (flat cI (dN ts s v.toNat y).1.read))]:List (Nat × Option (List AV)))) ++ [.inl d]) md'] (kk:RW Tryz.prog N all Q md' rest ⟨(d,iv (dN ts s v.toNat y).2) :: tsl,iY hsl [(i0,some (mO ts bd pts i1 i2 (dN ts s v.toNat y).1)),(i1,some (flat e5 (dN ts s v.toNat y).1.slots)),(i2,some (flat cI (dN ts s v.toNat y).1.read))],nidl + 0,z0⟩):RW Tryz.prog N all Q md (⟨some d,.call ⟨.value (.func 152),#[x0,x1,x2],tys⟩,ty,pos,af,none⟩ :: rest) ⟨tsl,hsl,nidl,z0⟩ := by
 refine cL [i0, i1, i2] 3 [(i0, some (mO ts bd pts i1 i2 (dN ts s v.toNat y).1)), (i1, some (flat e5 (dN ts s v.toNat y).1.slots)), (i2, some (flat cI (dN ts s v.toNat y).1.read))] hmc (avs := [.optr i0 0, iv v, Mg y]) ?_ hdd ?_ rfl ?_ (by simpa using hM) ?_ ?_ ?_ hN (md' := md') (hmd := hmd) kk
 ·show evL (lk tsl) [x0, x1, x2] = _
  simp only [evL, ha0, ha1, ha2]
 ·exact ⟨⟨_, _, rfl, hH0, by (repeat' (first|exact RnL.purI inferInstance|exact RnV.purI inferInstance|exact RnV.own rfl|refine RnL.cons ?_ ?_))⟩, ⟨⟨_, _, rfl, hH1, by (repeat' (exact RnL.purI inferInstance))⟩, ⟨⟨_, _, rfl, hH2, by (repeat' (exact RnL.purI inferInstance))⟩, trivial⟩⟩⟩
 ·(repeat' (first|exact RnL.purI inferInstance|exact RnV.optr rfl|refine RnL.cons ?_ ?_))
 ·(repeat' (exact RnV.purI inferInstance))
 ·simp [dT]
 ·(repeat' (first|exact trivial|(refine And.intro ⟨0, _, rfl, rfl, ?_⟩ ?_)|(refine And.intro ⟨1, _, rfl, rfl, ?_⟩ ?_)|(refine And.intro ⟨2, _, rfl, rfl, ?_⟩ ?_)|exact RnL.purI inferInstance|exact RnV.purI inferInstance|exact RnV.own rfl|refine RnL.cons ?_ ?_))
theorem nR (ts:List Int) (bd:List AL.Stmt) (pts:List Pnt) (s:Mc) (v:Int) (y:Sl) (hm:OkM s.cells) (hsl:s.slots.length = ts.length) (hv:0 ≤ v ∧ v < ts.length):MC Tryz.prog 152 [.optr 0 0,iv v,Mg y] [(0,some (mO ts bd pts 1 2 s)),(1,some (flat e5 s.slots)),(2,some (flat cI s.read))] 3 (fun _:Unit => True) (fun _ => iv (dN ts s v.toNat y).2) (fun _ => [(0,some (mO ts bd pts 1 2 (dN ts s v.toNat y).1)),(1,some (flat e5 (dN ts s v.toNat y).1.slots)),(2,some (flat cI (dN ts s v.toNat y).1.read))]) := by
 have h := LO ts bd pts s v.toNat y hm hsl (by omega)
 rw [Int.toNat_of_nonneg hv.1] at h
 exact h
theorem Fz {ts:List Int}{bd:List AL.Stmt}{pts:List Pnt}{s:Mc}{v:Int}{N:Nat}{Q:Exit → AS → Prop}{all:Array Oper}{rest:List Oper}{tsl:List (Nat × AV)}{hsl:List (Nat × Option (List AV))}{nidl:Nat}{z0:Lo}{md:Md}{d:Nat}{ty:TypeId}{pos:String}{af:Array Edge}{tys:Array TypeId}{x0 x1:Operand}{i0 i1 i2:Nat}(ha0:ev (lk tsl) x0 = some (.optr i0 0)) (ha1:ev (lk tsl) x1 = some (iv v)) (hH0:cA hsl i0 = some (mO ts bd pts i1 i2 s)) (hH1:cA hsl i1 = some (flat e5 s.slots)) (hH2:cA hsl i2 = some (flat cI s.read)) (hdd:Go.AL.distinct [i0,i1,i2] = true) (hmc:MC Tryz.prog 159 [.optr 0 0,iv v] [(0,some (mO ts bd pts 1 2 s)),(1,some (flat e5 s.slots)),(2,some (flat cI s.read))] 3 (fun _:Unit => True) (fun _ => iv (l7 (cS s.cells s.slots[v.toNat]!.ptr true))) (fun _ => [(0,some ([aG ts bd pts,.own 1 0 ts.length 4,sl eF (jG s.cells s.slots[v.toNat]!.ptr),.own 2 0 s.read.length 1])),(1,some (flat e5 s.slots)),(2,some (flat cI s.read))])) (hM:Nat.ble (nidl + 0) dJ = true) (hN:Nat.blt d N = true){md':Md}[hmd:MdA md (hO [x0,x1] ++ [.inr i0,.inr i1,.inr i2]) (List.map Sum.inr (List.map Prod.fst ([(i0,some ([aG ts bd pts,.own i1 0 ts.length 4,sl eF (jG s.cells s.slots[v.toNat]!.ptr),.own i2 0 s.read.length 1])),(i1,some (flat e5 s.slots)),(i2,some (flat cI s.read))]:List (Nat × Option (List AV)))) ++ [.inl d]) md'] (kk:RW Tryz.prog N all Q md' rest ⟨(d,iv (l7 (cS s.cells s.slots[v.toNat]!.ptr true))) :: tsl,iY hsl [(i0,some ([aG ts bd pts,.own i1 0 ts.length 4,sl eF (jG s.cells s.slots[v.toNat]!.ptr),.own i2 0 s.read.length 1])),(i1,some (flat e5 s.slots)),(i2,some (flat cI s.read))],nidl + 0,z0⟩):RW Tryz.prog N all Q md (⟨some d,.call ⟨.value (.func 159),#[x0,x1],tys⟩,ty,pos,af,none⟩ :: rest) ⟨tsl,hsl,nidl,z0⟩ := by
 refine cL [i0, i1, i2] 3 [(i0, some ([aG ts bd pts, .own i1 0 ts.length 4, sl eF (jG s.cells s.slots[v.toNat]!.ptr), .own i2 0 s.read.length 1])), (i1, some (flat e5 s.slots)), (i2, some (flat cI s.read))] hmc (avs := [.optr i0 0, iv v]) ?_ hdd ?_ rfl ?_ (by simpa using hM) ?_ ?_ ?_ hN (md' := md') (hmd := hmd) kk
 ·show evL (lk tsl) [x0, x1] = _
  simp only [evL, ha0, ha1]
 ·exact ⟨⟨_, _, rfl, hH0, by (repeat' (first|exact RnL.purI inferInstance|exact RnV.purI inferInstance|exact RnV.own rfl|refine RnL.cons ?_ ?_))⟩, ⟨⟨_, _, rfl, hH1, by (repeat' (exact RnL.purI inferInstance))⟩, ⟨⟨_, _, rfl, hH2, by (repeat' (exact RnL.purI inferInstance))⟩, trivial⟩⟩⟩
 ·(repeat' (first|exact RnL.purI inferInstance|exact RnV.optr rfl|refine RnL.cons ?_ ?_))
 ·(repeat' (exact RnV.purI inferInstance))
 ·simp [dT]
 ·(repeat' (first|exact trivial|(refine And.intro ⟨0, _, rfl, rfl, ?_⟩ ?_)|(refine And.intro ⟨1, _, rfl, rfl, ?_⟩ ?_)|(refine And.intro ⟨2, _, rfl, rfl, ?_⟩ ?_)|exact RnL.purI inferInstance|exact RnV.purI inferInstance|exact RnV.own rfl|refine RnL.cons ?_ ?_))
theorem Ie (ts:List Int) (bd:List AL.Stmt) (pts:List Pnt) (s:Mc) (v:Int) (hm:OkM s.cells) (hsl:s.slots.length = ts.length) (hv:0 ≤ v ∧ v < ts.length):MC Tryz.prog 159 [.optr 0 0,iv v] [(0,some (mO ts bd pts 1 2 s)),(1,some (flat e5 s.slots)),(2,some (flat cI s.read))] 3 (fun _:Unit => True) (fun _ => iv (l7 (cS s.cells s.slots[v.toNat]!.ptr true))) (fun _ => [(0,some ([aG ts bd pts,.own 1 0 ts.length 4,sl eF (jG s.cells s.slots[v.toNat]!.ptr),.own 2 0 s.read.length 1])),(1,some (flat e5 s.slots)),(2,some (flat cI s.read))]) := by
 have h := yS ts bd pts s v.toNat hm hsl (by omega)
 rw [Int.toNat_of_nonneg hv.1] at h
 exact h
end Go.Proofs.YtjcpngimjdckmaaGreat
