/-
 A part of the proofs over this program: rules and contracts of its functions (the contracts).
-/
import Derived.Test.YtahdccneecdmmaaGreatJ4B04
set_option linter.unusedVariables false
set_option linter.unusedSimpArgs false
set_option maxHeartbeats 8000000
set_option maxRecDepth 4000
attribute [local irreducible] Go.AL.RW Go.AL.AW Go.AL.Stop
namespace Go.Proofs.YtahdccneecdmmaaGreat
open Go.AL Go.RowKit
theorem MR {xs : List Tg} {k : Nat} {a : Int} {b : Bool} (hk : k < xs.length) : gX (flat cC xs) (0 + k * 2) [iv a, bv b] = flat cC (xs.set k ⟨a, b⟩) := gU hk rfl
theorem Fl {cs new : List AV} {k : Nat} (h : k ≤ cs.length) : (gX cs (0 + k) new).take k = cs.take k := by
 unfold gX
 rw [Nat.zero_add, List.append_assoc, List.take_left' (by rw [List.length_take]; omega)]
def shr (xs : List Tg) : List Tg := xs.filter (fun t => !t.uq)
theorem EK {xs : List Tg} (h : qP xs = -1) : shr xs = xs := by
 unfold qP at h
 split at h
 ·omega
 ·rename_i hn
  rw [List.findIdx?_eq_none_iff] at hn
  unfold shr
  rw [List.filter_eq_self]
  intro t ht
  have := hn t ht
  simp [this]
theorem Ev {xs : List Tg} {i : Nat} (h : qP xs = (i : Int)) : i < xs.length ∧ xs[i]!.uq = true ∧ shr (xs.take (i + 1)) = xs.take i := by
 unfold qP at h
 split at h
 ·rename_i k hk
  obtain ⟨h1, h2, h3⟩ := List.findIdx?_eq_some_iff_getElem.1 hk
  have e : k = i := by omega
  subst e
  have hs : shr (xs.take k) = xs.take k := by
   unfold shr
   rw [List.filter_eq_self]
   intro t ht
   obtain ⟨j, hj, rfl⟩ := List.getElem_of_mem ht
   rw [List.length_take] at hj
   have := h3 j (by omega)
   rw [List.getElem_take]; simpa using this
  refine ⟨h1, by rw [bB _ _ h1]; exact h2, ?_⟩
  rw [b7 xs k h1]
  unfold shr at hs ⊢
  rw [List.filter_append, hs, mC (by rw [bB _ _ h1, h2]; rfl), List.append_nil]
 ·omega
theorem I0 (xs : List Tg) : -1 ≤ qP xs ∧ qP xs < xs.length := by
 unfold qP
 split
 ·rename_i k hk
  obtain ⟨h1, _⟩ := List.findIdx?_eq_some_iff_getElem.1 hk
  omega
 ·omega
theorem I7 {xs : List Tg} {j : Nat} (hj : j < xs.length) (h : xs[j]!.uq = false) : shr (xs.take (j + 1)) = shr (xs.take j) ++ [xs[j]!] := by
 rw [b7 xs j hj]; unfold shr
 rw [List.filter_append, pE (by rw [h]; rfl)]
theorem FL {xs : List Tg} {j : Nat} (hj : j < xs.length) (h : xs[j]!.uq = true) : shr (xs.take (j + 1)) = shr (xs.take j) := by
 rw [b7 xs j hj]; unfold shr
 rw [List.filter_append, mC (by rw [h]; rfl), List.append_nil]
theorem Gt {α : Type} [Inhabited α] {L : List α} {i : Nat} {x : α} (h : i < L.length) : (L.set i x).take (i + 1) = L.take i ++ [x] := by
 rw [List.set_eq_take_append_cons_drop, if_pos h]
 have h1 : (L.take i).length = i := by rw [List.length_take]; omega
 rw [List.take_append, h1, show i + 1 - i = 1 by omega, List.take_of_length_le (by omega)]
 rfl
theorem Fm {α : Type} [Inhabited α] {L M : List α} {j : Nat} (h : L.drop j = M.drop j) (hl : L.length = M.length) (hj : j < M.length) : L[j]! = M[j]! := by
 rw [bB _ _ (by omega), bB _ _ hj]
 rw [List.drop_eq_getElem_cons (by omega : j < L.length), List.drop_eq_getElem_cons hj] at h
 exact (List.cons.inj h).1
theorem sZ {α : Type} {L M : List α} {j : Nat} (h : L.drop j = M.drop j) : L.drop (j + 1) = M.drop (j + 1) := by
 rw [← List.drop_drop, h, List.drop_drop]
theorem IZ {xs : List Tg} {m : Nat} {N : Nat} {Q : Exit → AS → Prop} {all : Array Oper} {rest : List Oper} {tsl : List (Nat × AV)} {hsl : List (Nat × Option (List AV))} {nidl : Nat} {z0 : Lo} {md : Md} {d : Nat} {ty : TypeId} {pos : String} {af : Array Edge} {tys : Array TypeId} {x0 x1 : Operand} {i0 : Nat} (ha0 : ev (lk tsl) x0 = some (.own i0 0 m 2)) (ha1 : ev (lk tsl) x1 = some (.v (.func (.func 270) #[] #[]))) (hH0 : aP hsl i0 = some (flat cC xs)) (hmc : MC Tryz.prog 269 [.own 0 0 m 2, .v (.func (.func 270) #[] #[])] [(0, some (flat cC xs))] 1 (fun _ : Unit => True) (fun _ => .own 0 0 (shr xs).length 2) (fun _ => [(0, some (flat cC (shr xs)))])) (hM : Nat.ble (nidl + 0) aS = true) (hN : Nat.blt d N = true) {md' : Md} [hmd : MdA md (fG [x0, x1] ++ [.inr i0]) (List.map Sum.inr (List.map Prod.fst ([(i0, some (flat cC (shr xs)))] : List (Nat × Option (List AV)))) ++ [.inl d]) md'] (kk : RW Tryz.prog N all Q md' rest ⟨(d, .own i0 0 (shr xs).length 2) :: tsl, g6 hsl [(i0, some (flat cC (shr xs)))], nidl + 0, z0⟩) : RW Tryz.prog N all Q md (⟨some d, .call ⟨.value (.func 269), #[x0, x1], tys⟩, ty, pos, af, none⟩ :: rest) ⟨tsl, hsl, nidl, z0⟩ := by
 refine aY [i0] 1 [(i0, some (flat cC (shr xs)))] hmc (avs := [.own i0 0 m 2, .v (.func (.func 270) #[] #[])]) ?_ rfl ?_ rfl ?_ (by simpa using hM) ?_ ?_ ?_ hN (md' := md') (hmd := hmd) kk
 ·show evL (lk tsl) [x0, x1] = _
  simp only [evL, ha0, ha1]
 ·exact ⟨⟨_, _, rfl, hH0, by (repeat' (exact RnL.purI inferInstance))⟩, trivial⟩
 ·(repeat' (first|exact RnL.purI inferInstance|exact RnV.own rfl|refine RnL.cons ?_ ?_))
 ·(repeat' (exact RnV.own rfl))
 ·simp [cK]
 ·(repeat' (first|exact trivial|(refine And.intro ⟨0, _, rfl, rfl, ?_⟩ ?_)|exact RnL.purI inferInstance))
theorem LB (xs : List Tg) (m : Nat) (hm : m = xs.length) (hl : m ≤ 1000000) : MC Tryz.prog 269 [.own 0 0 m 2, .v (.func (.func 270) #[] #[])] [(0, some (flat cC xs))] 1 (fun _ : Unit => True) (fun _ => .own 0 0 (shr xs).length 2) (fun _ => [(0, some (flat cC (shr xs)))]) := by
 subst hm
 have hix := IG xs hl
 have hbd := I0 xs
 by_cases hn : qP xs = -1
 ·rw [hn] at hix
  have hs := EK hn
  refine aT Tryz.func269 Tryz.ntmps269 ?_
  repeat' (first|(apply aH;(apply oD (k := 267);(case ha => rfl);(case hl => (repeat' (first|exact l4|apply kT|exact yJ|exact mL rfl inferInstance)));(case h => exact hix);(case hfr|hN => rfl);(case hmd => infer_instance)))|refine aE ?_|refine aF ?_)
  all_goals (
   (refine aD rfl ?_; refine aQ () trivial ?_ ⟨.inr (Eq.trans (b := some _) rfl ?_), trivial⟩)
   ·rw [hs]; rfl
   ·rw [hs])
 ·obtain ⟨i0, hi0⟩ := Int.eq_ofNat_of_zero_le (show 0 ≤ qP xs by omega)
  obtain ⟨g1, g2, g3⟩ := Ev hi0
  rw [hi0] at hix
  refine aT Tryz.func269 Tryz.ntmps269 ?_
  repeat' (first|(apply aH;(apply oD (k := 267);(case ha => rfl);(case hl => (repeat' (first|exact l4|apply kT|exact yJ|exact mL rfl inferInstance)));(case h => exact hix);(case hfr|hN => rfl);(case hmd => infer_instance)))|refine aE ?_|refine aF ?_)
  all_goals (try (exfalso;omega))
  refine aI (σ := List Tg × Nat × Nat) [0, 1] [] (fun s => [(5, iv (s.2.1 : Int)), (6, iv (s.2.2 : Int))]) (fun s => [(0, some (flat cC s.1))]) (fun s => s.1.length = xs.length ∧ s.1.take s.2.1 = shr (xs.take s.2.2) ∧ s.1.drop s.2.2 = xs.drop s.2.2 ∧ s.2.1 < s.2.2 ∧ s.2.2 ≤ xs.length) (fun s => xs.length - s.2.2) (xs, i0, i0 + 1) ⟨rfl, g3.symm, rfl, by dsimp only;omega, by dsimp only;omega⟩ ?_
  rintro ⟨L, i, j⟩ ⟨hL, ht, hd, hij, hj⟩
  dsimp only at hL ht hd hij hj ⊢
  by_cases hjn : j < xs.length
  ·have hcl := zD L[j]!
   have hg := Fm hd hL hjn
   repeat' (first|(apply aH;first|(apply a7;rfl;rfl;rfl;rfl;rfl;(case hl => (first|(rw [aJ]; simp only [gB] <;> omega)|(simp;done)));(exact MR (by (first|assumption|omega))))|(apply fY;rfl;rfl;infer_instance;rfl;(apply hcl);(rfl);rfl))|refine aE ?_|refine aF ?_|(refine aK ?_ ?_ <;> intro hc hq <;> try (exfalso;omega))|fail)
   ·have hu : L[j]!.uq = false := by assumption
    (refine bC (_, i + 1, j + 1) (Le.renA []) ?_ ?_)
    ·refine ⟨by dsimp only; rw [List.length_set]; exact hL, ?_, ?_, by dsimp only; omega, by dsimp only; omega⟩
     ·dsimp only
      rw [Gt (by omega), ht, I7 hjn (by rw [← hg]; exact hu), hg]
     ·dsimp only
      rw [List.drop_set_of_lt (by omega)]
      exact sZ hd
    ·dsimp only;omega
   ·have hu : L[j]!.uq = true := by assumption
    (refine bC (L, i, j + 1) (Le.renA []) ?_ ?_)
    ·refine ⟨hL, ?_, sZ hd, by dsimp only; omega, by dsimp only; omega⟩
     dsimp only
     rw [ht, FL hjn (by rw [← hg]; exact hu)]
    ·dsimp only;omega
  ·have hfl : (flat cC L).length = L.length * 2 := aJ cC L
   repeat' (first|(apply aH;first|(apply iS (d := 38) (l := i) (h := xs.length);rfl;rfl;exact pJ rfl (by omega);rfl;exact if_pos (by omega);rfl)|(apply iS (d := 41) (l := 0) (h := i);rfl;rfl;rfl;exact pJ rfl (by omega);exact if_pos (by omega);rfl)|(apply Gu;rfl;rfl;omega;rfl;(rw [hfl]; omega);rfl))|refine aE ?_|refine aF ?_|(refine aK ?_ ?_ <;> intro hc hq <;> try (exfalso;omega))|fail)
   refine aU (Le.cut (i := 0) (i * 2) rfl) ?_
   have hje : j = xs.length := by omega
   have hLt : L.take i = shr xs := by rw [ht, hje, List.take_length]
   have hil : (shr xs).length = i := by rw [← hLt, List.length_take]; omega
   (refine aD rfl ?_; refine aQ () trivial ?_ ⟨.inr (Eq.trans (b := some _) rfl ?_), trivial⟩)
   ·show AV.own 0 (0 + 0 * 2) (i - 0) 2 = _
    rw [hil]; rfl
   ·rw [Fl (by omega), eG cC (e := 2), hLt]
theorem gM {m : List Cl} {N : Nat} {Q : Exit → AS → Prop} {all : Array Oper} {rest : List Oper} {tsl : List (Nat × AV)} {hsl : List (Nat × Option (List AV))} {nidl : Nat} {z0 : Lo} {md : Md} {d : Nat} {ty : TypeId} {pos : String} {af : Array Edge} {tys : Array TypeId} {x0 : Operand} (ha0 : ev (lk tsl) x0 = some (sl bI m)) (hmc : MC Tryz.prog 241 [sl bI m] [] 0 (fun _ : Unit => True) (fun _ => .own 1 0 m.length 4) (fun _ => [(1, some (flat bI m))])) (hM : Nat.ble (nidl + 2) aS = true) (hN : Nat.blt d N = true) {md' : Md} [hmd : MdA md (fG [x0] ++ []) (List.map Sum.inr (List.map Prod.fst ([((nidl + 1), some (flat bI m))] : List (Nat × Option (List AV)))) ++ [.inl d]) md'] (kk : RW Tryz.prog N all Q md' rest ⟨(d, .own (nidl + 1) 0 m.length 4) :: tsl, g6 hsl [((nidl + 1), some (flat bI m))], nidl + 2, z0⟩) : RW Tryz.prog N all Q md (⟨some d, .call ⟨.value (.func 241), #[x0], tys⟩, ty, pos, af, none⟩ :: rest) ⟨tsl, hsl, nidl, z0⟩ := by
 refine aY [] 2 [((nidl + 1), some (flat bI m))] hmc (avs := [sl bI m]) ?_ rfl ?_ rfl ?_ (by simpa using hM) ?_ ?_ ?_ hN (md' := md') (hmd := hmd) kk
 ·show evL (lk tsl) [x0] = _
  simp only [evL, ha0]
 ·exact trivial
 ·(repeat' (exact RnL.purI inferInstance))
 ·(repeat' (exact RnV.own rfl))
 ·simp [cK]
 ·(repeat' (first|exact trivial|(refine And.intro ⟨1, _, rfl, rfl, ?_⟩ ?_)|exact RnL.purI inferInstance))
theorem nY {m : List Cl} {j : Nat} {N : Nat} {Q : Exit → AS → Prop} {all : Array Oper} {rest : List Oper} {tsl : List (Nat × AV)} {hsl : List (Nat × Option (List AV))} {nidl : Nat} {z0 : Lo} {md : Md} {d : Nat} {ty : TypeId} {pos : String} {af : Array Edge} {tys : Array TypeId} {x0 : Operand} (ha0 : ev (lk tsl) x0 = some (sl bI m)) (hmc : MC Tryz.prog 241 [sl bI m] [] 0 (fun _ : Unit => True) (fun _ => .own 1 0 m.length 4) (fun _ => [(1, some (flat eQ (c8 m j (.own 2 0 m[j]!.stk.length 2)))), (2, some (flat cC m[j]!.stk))])) (hM : Nat.ble (nidl + 3) aS = true) (hN : Nat.blt d N = true) {md' : Md} [hmd : MdA md (fG [x0] ++ []) (List.map Sum.inr (List.map Prod.fst ([((nidl + 1), some (flat eQ (c8 m j (.own (nidl + 2) 0 m[j]!.stk.length 2)))), ((nidl + 2), some (flat cC m[j]!.stk))] : List (Nat × Option (List AV)))) ++ [.inl d]) md'] (kk : RW Tryz.prog N all Q md' rest ⟨(d, .own (nidl + 1) 0 m.length 4) :: tsl, g6 hsl [((nidl + 1), some (flat eQ (c8 m j (.own (nidl + 2) 0 m[j]!.stk.length 2)))), ((nidl + 2), some (flat cC m[j]!.stk))], nidl + 3, z0⟩) : RW Tryz.prog N all Q md (⟨some d, .call ⟨.value (.func 241), #[x0], tys⟩, ty, pos, af, none⟩ :: rest) ⟨tsl, hsl, nidl, z0⟩ := by
 refine aY [] 3 [((nidl + 1), some (flat eQ (c8 m j (.own (nidl + 2) 0 m[j]!.stk.length 2)))), ((nidl + 2), some (flat cC m[j]!.stk))] hmc (avs := [sl bI m]) ?_ rfl ?_ rfl ?_ (by simpa using hM) ?_ ?_ ?_ hN (md' := md') (hmd := hmd) kk
 ·show evL (lk tsl) [x0] = _
  simp only [evL, ha0]
 ·exact trivial
 ·(repeat' (exact RnL.purI inferInstance))
 ·(repeat' (exact RnV.own rfl))
 ·simp [cK]
 ·(repeat' (first|exact trivial|(refine And.intro ⟨1, _, rfl, rfl, ?_⟩ ?_)|(refine And.intro ⟨2, _, rfl, rfl, ?_⟩ ?_)|exact RnL.purI inferInstance|exact jR rfl))
theorem lO {α : Type} [Inhabited α] (l : List α) (k : Nat) : l.set k l[k]! = l := by
 rcases Nat.lt_or_ge k l.length with h|h
 ·rw [bB _ _ h]; simp
 ·exact List.set_eq_of_length_le h
theorem CR {m : List Cl} {i : Nat} (hi : i < m.length) : gX (flat bI m) (0 + i * 4 + 3) [sl cC m[i]!.stk] = flat bI m := by
 have h := B5 (xs := m) (k := i) (s := m[i]!.stk) hi
 rw [show m.set i { m[i]! with stk := m[i]!.stk } = m from lO m i] at h
 exact h
theorem BL {m : List Cl} {i j : Nat} {X : AV} (hi : i < m.length) (h : i ≠ j) : (c8 m j X)[i]! = qK m[i]! := by
 unfold c8
 rw [bB _ _ (by rw [List.length_set, List.length_map]; exact hi), List.getElem_set_ne (fun e => h e.symm), List.getElem_map, bB _ _ hi]
theorem Iy {m : List Cl} {i j : Nat} {X : AV} (h : i < m.length ∧ i ≠ j) : gX (flat eQ (c8 m j X)) (0 + i * 4 + 3) [sl cC m[i]!.stk] = flat eQ (c8 m j X) := by
 have hl := c5 (m := m) (j := j) (X := X)
 have e : (c8 m j X).set i { (c8 m j X)[i]! with av := sl cC m[i]!.stk } = c8 m j X := by
  rw [BL h.1 h.2]
  have : ({ qK m[i]! with av := sl cC m[i]!.stk } : Co) = (c8 m j X)[i]! := by rw [BL h.1 h.2]; rfl
  rw [this]; exact lO _ _
 rw [← e]
 have := fV (f := eQ) (xs := c8 m j X) (k := i) (j := 3) (new := [sl cC m[i]!.stk]) (y := { (c8 m j X)[i]! with av := sl cC m[i]!.stk }) (by rw [hl]; exact h.1) (by simp) rfl
 rw [e] at this ⊢
 exact this
theorem oZ {mp : List (Nat × Nat)} {lo : Lo} : ∀ {cs : List AV}, bJ cs = true → All2 (ES mp lo) cs cs
 | [], _ => .nil
 | c :: cs, h => by
  simp only [bJ, Bool.and_eq_true] at h
  exact .cons (.inl ⟨rfl, h.1⟩) (oZ h.2)
theorem sI {α β : Type} {R : α → β → Prop} : ∀ {a : List α} {b : List β} {c : List α} {d : List β}, All2 R a b → All2 R c d → All2 R (a ++ c) (b ++ d)
 | _, _, _, _, .nil, h => h
 | _, _, _, _, .cons h1 h2, h => .cons h1 (sI h2 h)
theorem CN {mp : List (Nat × Nat)} {lo : Lo} {m : List Cl} {j k i i' : Nat} (h : j < m.length) (hr : KM mp lo (.own i 0 k 2) = some (.own i' 0 k 2)) : All2 (ES mp lo) (flat eQ (c8 m j (.own i 0 k 2))) (flat eQ (c8 m j (.own i' 0 k 2))) := by
 rw [iU h, iU h]
 exact sI (oZ (inferInstance : Pur (flat bI _)).pf) (sI (oZ (inferInstance : Pur [iv _, bv _, iv _]).pf) (.cons (.inr hr) (oZ (inferInstance : Pur (flat bI _)).pf)))
theorem jT (m : List Cl) (hm : OkM m) : MC Tryz.prog 241 [sl bI m] [] 0 (fun _ : Unit => True) (fun _ => .own 1 0 m.length 4) (fun _ => [(1, some (flat bI m))]) := by
 have hml := hm.l
 have hcc := y6 m (by omega)
 refine aT Tryz.func241 Tryz.ntmps241 ?_
 repeat' (first|(apply aH;(apply vL;rfl;exact hcc;rfl;rfl))|refine aE ?_|refine aF ?_|fail)
 refine aI (σ := Nat) [3, 8, 9] [] (fun k => [(10, iv (k : Int))]) (fun k => [(1, some (flat bI m))]) (fun k => k ≤ m.length) (fun k => m.length - k) (0) (Nat.zero_le _) ?_
 rintro i hi
 by_cases hin : i < m.length
 ·have hst : m[i]!.stk.length ≤ 200 := (((cY m).1 hm).2 i hin).l.2
  have hct := zB m[i]!.stk (by omega)
  repeat' (first|(apply aH;first|(apply pR;rfl;exact hct;rfl;rfl)|(with_reducible apply aV (d := 20)))|refine aE ?_|refine aF ?_|(refine aK ?_ ?_ <;> intro hc hq <;> try (exfalso;omega))|fail)
  refine bV (c7 ?_ (Le.frzD (d := 19) (i := 4) rfl rfl))
  repeat' (first|(apply aH;(apply a7;rfl;rfl;rfl;rfl;rfl;(rw [aJ]; simp only [gB] <;> omega);(exact CR (by (assumption)))))|refine aE ?_|refine aF ?_|fail)
  (apply bC (i + 1);focus (refine Le.ren [(1, 1)] rfl (by decide) ?_ ?_ <;> repeat' (first|exact trivial|refine And.intro ⟨_, rfl, ?_⟩ ?_|refine And.intro ⟨_, _, rfl, rfl, ?_⟩ ?_|exact Or.inr rfl|refine Or.inl ⟨?_, (by first|rfl|exact a6 _ _)⟩|rfl)))
  ·omega
  ·omega
 ·repeat' (first | refine aE ?_ | refine aF ?_ | (refine aK ?_ ?_ <;> intro hc hq <;> try (exfalso; omega))|fail)
  (refine aD rfl ?_; refine aQ () trivial ?_ ⟨.inr (Eq.trans (b := some _) rfl ?_), trivial⟩)
  ·rfl
  ·rfl
theorem tR (m : List Cl) (j : Nat) (hm : OkM m) (hj : j < m.length) : MC Tryz.prog 241 [sl bI m] [] 0 (fun _ : Unit => True) (fun _ => .own 1 0 m.length 4) (fun _ => [(1, some (flat eQ (c8 m j (.own 2 0 m[j]!.stk.length 2)))), (2, some (flat cC m[j]!.stk))]) := by
 have hml := hm.l
 have hcc := y6 m (by omega)
 refine aT Tryz.func241 Tryz.ntmps241 ?_
 repeat' (first|(apply aH;(apply vL;rfl;exact hcc;rfl;rfl))|refine aE ?_|refine aF ?_|fail)
 refine AW.le ?_ (Le.bump 1)
 refine aI (σ := Nat × Bool) [3, 8, 9] [] (fun k => [(10, iv (k.1 : Int))]) (fun k => [(1, some (cond k.2 (flat eQ (c8 m j (.own 2 0 m[j]!.stk.length 2))) (flat bI m))), (2, cond k.2 (some (flat cC m[j]!.stk)) none)]) (fun k => k.1 ≤ m.length ∧ k.2 = decide (j < k.1)) (fun k => m.length - k.1) (0, false) ⟨Nat.zero_le _, by simp⟩ ?_
 rintro ⟨i, b⟩ ⟨hi, hb⟩
 dsimp only at hi hb ⊢
 by_cases hin : i < m.length
 ·have hst : m[i]!.stk.length ≤ 200 := (((cY m).1 hm).2 i hin).l.2
  have hct := zB m[i]!.stk (by omega)
  by_cases hij : j < i
  ·rw [decide_eq_true hij] at hb; subst hb
   simp only [cond_true]
   have hol := c5 (m := m) (j := j) (X := .own 2 0 m[j]!.stk.length 2)
   have hon := BL (m := m) (i := i) (j := j) (X := .own 2 0 m[j]!.stk.length 2) hin (by omega)
   repeat' (first|(apply aH;(with_reducible apply aV (d := 5)))|refine aE ?_|refine aF ?_|(refine aK ?_ ?_ <;> intro hc hq <;> try (exfalso;omega))|fail)
   refine bV ?_
   rw [hon]
   dsimp only [qK]
   repeat' (first|(apply aH;first|(apply pR;rfl;exact hct;rfl;rfl)|(with_reducible apply aV (d := 20)))|refine aE ?_|refine aF ?_|fail)
   refine bV (c7 ?_ (Le.frzD (d := 19) (i := 5) rfl rfl))
   repeat' (first|(apply aH;(apply a7;rfl;rfl;rfl;rfl;rfl;(rw [aJ]; simp only [gB] <;> omega);(exact Iy (by (omega)))))|refine aE ?_|refine aF ?_|fail)
   (apply bC (i + 1, true);focus (refine Le.ren [(1, 1), (2, 2)] rfl (by decide) ?_ ?_ <;> repeat' (first|exact trivial|refine And.intro ⟨_, rfl, ?_⟩ ?_|refine And.intro ⟨_, _, rfl, rfl, ?_⟩ ?_|exact Or.inr rfl|refine Or.inl ⟨?_, (by first|rfl|exact a6 _ _)⟩|rfl)))
   ·exact Or.inr (CN hj rfl)
   ·exact ⟨by dsimp only;omega, by dsimp only;rw [decide_eq_true (by omega)]⟩
   ·dsimp only;omega
  ·rw [decide_eq_false hij] at hb; subst hb
   simp only [cond_false]
   repeat' (first|(apply aH;first|(apply pR;rfl;exact hct;rfl;rfl)|(with_reducible apply aV (d := 20)))|refine aE ?_|refine aF ?_|(refine aK ?_ ?_ <;> intro hc hq <;> try (exfalso;omega))|fail)
   by_cases hie : i = j
   ·subst hie
    refine bV ?_
    repeat' (first|(apply aH;(apply a7;rfl;rfl;rfl;rfl;rfl;(rw [aJ]; simp only [gB] <;> omega);(exact yN (by (assumption)))))|refine aE ?_|refine aF ?_|fail)
    (apply bC (i + 1, true);focus (refine Le.ren [(1, 1), (2, 5)] rfl (by decide) ?_ ?_ <;> repeat' (first|exact trivial|refine And.intro ⟨_, rfl, ?_⟩ ?_|refine And.intro ⟨_, _, rfl, rfl, ?_⟩ ?_|exact Or.inr rfl|refine Or.inl ⟨?_, (by first|rfl|exact a6 _ _)⟩|rfl)))
    ·exact Or.inr (CN hin rfl)
    ·exact ⟨by dsimp only;omega, by dsimp only;rw [decide_eq_true (by omega)]⟩
    ·dsimp only;omega
   ·refine bV (c7 ?_ (Le.frzD (d := 19) (i := 5) rfl rfl))
    repeat' (first|(apply aH;(apply a7;rfl;rfl;rfl;rfl;rfl;(rw [aJ]; simp only [gB] <;> omega);(exact CR (by (assumption)))))|refine aE ?_|refine aF ?_|fail)
    (apply bC (i + 1, false);focus (refine Le.ren [(1, 1)] rfl (by decide) ?_ ?_ <;> repeat' (first|exact trivial|refine And.intro ⟨_, rfl, ?_⟩ ?_|refine And.intro ⟨_, _, rfl, rfl, ?_⟩ ?_|exact Or.inr rfl|refine Or.inl ⟨?_, (by first|rfl|exact a6 _ _)⟩|rfl)))
    ·exact ⟨by dsimp only;omega, by dsimp only;rw [decide_eq_false (by omega)]⟩
    ·dsimp only;omega
 ·rw [decide_eq_true (by omega)] at hb; subst hb
  simp only [cond_true]
  repeat' (first|refine aE ?_|refine aF ?_|(refine aK ?_ ?_ <;> intro hc hq <;> try (exfalso;omega))|fail)
  (refine aD rfl ?_; refine aQ () trivial ?_ ⟨.inr (Eq.trans (b := some _) rfl ?_), ⟨.inr (Eq.trans (b := some _) rfl ?_), trivial⟩⟩)
  ·rfl
  ·rfl
  ·rfl
theorem mE {m : List Cl} {x : Pt} {wr : Bool} {n : Nat} {N : Nat} {Q : Exit → AS → Prop} {all : Array Oper} {rest : List Oper} {tsl : List (Nat × AV)} {hsl : List (Nat × Option (List AV))} {nidl : Nat} {z0 : Lo} {md : Md} {d : Nat} {ty : TypeId} {pos : String} {af : Array Edge} {tys : Array TypeId} {x0 x1 x2 : Operand} {i0 : Nat} (ha0 : ev (lk tsl) x0 = some (.own i0 0 n 4)) (ha1 : ev (lk tsl) x1 = some (mN x)) (ha2 : ev (lk tsl) x2 = some (bv wr)) (hH0 : aP hsl i0 = some (flat bI m)) (hmc : MC Tryz.prog 242 [.own 0 0 n 4, mN x, bv wr] [(0, some (flat bI m))] 1 (fun _ : Unit => True) (fun _ => iv (bD m x wr)) (fun _ => [(0, some (flat bI m))])) (hM : Nat.ble (nidl + 0) aS = true) (hN : Nat.blt d N = true) {md' : Md} [hmd : MdA md (fG [x0, x1, x2] ++ [.inr i0]) (List.map Sum.inr (List.map Prod.fst ([(i0, some (flat bI m))] : List (Nat × Option (List AV)))) ++ [.inl d]) md'] (kk : RW Tryz.prog N all Q md' rest ⟨(d, iv (bD m x wr)) :: tsl, g6 hsl [(i0, some (flat bI m))], nidl + 0, z0⟩) : RW Tryz.prog N all Q md (⟨some d, .call ⟨.value (.func 242), #[x0, x1, x2], tys⟩, ty, pos, af, none⟩ :: rest) ⟨tsl, hsl, nidl, z0⟩ := by
 refine aY [i0] 1 [(i0, some (flat bI m))] hmc (avs := [.own i0 0 n 4, mN x, bv wr]) ?_ rfl ?_ rfl ?_ (by simpa using hM) ?_ ?_ ?_ hN (md' := md') (hmd := hmd) kk
 ·show evL (lk tsl) [x0, x1, x2] = _
  simp only [evL, ha0, ha1, ha2]
 ·exact ⟨⟨_, _, rfl, hH0, by (repeat' (exact RnL.purI inferInstance))⟩, trivial⟩
 ·(repeat' (first|exact RnL.purI inferInstance|exact RnV.own rfl|refine RnL.cons ?_ ?_))
 ·(repeat' (exact RnV.purI inferInstance))
 ·simp [cK]
 ·(repeat' (first|exact trivial|(refine And.intro ⟨0, _, rfl, rfl, ?_⟩ ?_)|exact RnL.purI inferInstance))
theorem vQ {m : List Cl} {j : Nat} {t : Int} {k n : Nat} {N : Nat} {Q : Exit → AS → Prop} {all : Array Oper} {rest : List Oper} {tsl : List (Nat × AV)} {hsl : List (Nat × Option (List AV))} {nidl : Nat} {z0 : Lo} {md : Md} {d : Nat} {ty : TypeId} {pos : String} {af : Array Edge} {tys : Array TypeId} {x0 x1 x2 : Operand} {i0 i1 : Nat} (ha0 : ev (lk tsl) x0 = some (.own i0 0 n 4)) (ha1 : ev (lk tsl) x1 = some (.agg [iv (j : Int), iv t])) (ha2 : ev (lk tsl) x2 = some (bv true)) (hH0 : aP hsl i0 = some (flat eQ (c8 m j (.own i1 0 m[j]!.stk.length 2)))) (hH1 : aP hsl i1 = some (flat cC m[j]!.stk)) (hdd : Go.AL.distinct [i0, i1] = true) (hmc : MC Tryz.prog 242 [.own 0 0 n 4, .agg [iv (j : Int), iv t], bv true] [(0, some (flat eQ (c8 m j (.own 1 0 m[j]!.stk.length 2)))), (1, some (flat cC m[j]!.stk))] 2 (fun _ : Unit => True) (fun _ => iv 0) (fun _ => [(0, some (flat eQ (c8 m j (.own 1 0 (k + 1) 2)))), (1, some (flat cC (m[j]!.stk.take (k + 1))))])) (hM : Nat.ble (nidl + 0) aS = true) (hN : Nat.blt d N = true) {md' : Md} [hmd : MdA md (fG [x0, x1, x2] ++ [.inr i0, .inr i1]) (List.map Sum.inr (List.map Prod.fst ([(i0, some (flat eQ (c8 m j (.own i1 0 (k + 1) 2)))), (i1, some (flat cC (m[j]!.stk.take (k + 1))))] : List (Nat × Option (List AV)))) ++ [.inl d]) md'] (kk : RW Tryz.prog N all Q md' rest ⟨(d, iv 0) :: tsl, g6 hsl [(i0, some (flat eQ (c8 m j (.own i1 0 (k + 1) 2)))), (i1, some (flat cC (m[j]!.stk.take (k + 1))))], nidl + 0, z0⟩) : RW Tryz.prog N all Q md (⟨some d, .call ⟨.value (.func 242), #[x0, x1, x2], tys⟩, ty, pos, af, none⟩ :: rest) ⟨tsl, hsl, nidl, z0⟩ := by
 refine aY [i0, i1] 2 [(i0, some (flat eQ (c8 m j (.own i1 0 (k + 1) 2)))), (i1, some (flat cC (m[j]!.stk.take (k + 1))))] hmc (avs := [.own i0 0 n 4, .agg [iv (j : Int), iv t], bv true]) ?_ hdd ?_ rfl ?_ (by simpa using hM) ?_ ?_ ?_ hN (md' := md') (hmd := hmd) kk
 ·show evL (lk tsl) [x0, x1, x2] = _
  simp only [evL, ha0, ha1, ha2]
 ·exact ⟨⟨_, _, rfl, hH0, by (repeat' (exact jR rfl))⟩, ⟨⟨_, _, rfl, hH1, by (repeat' (exact RnL.purI inferInstance))⟩, trivial⟩⟩
 ·(repeat' (first|exact RnL.purI inferInstance|exact RnV.own rfl|refine RnL.cons ?_ ?_))
 ·(repeat' (exact RnV.purI inferInstance))
 ·simp [cK]
 ·(repeat' (first|exact trivial|(refine And.intro ⟨0, _, rfl, rfl, ?_⟩ ?_)|(refine And.intro ⟨1, _, rfl, rfl, ?_⟩ ?_)|exact RnL.purI inferInstance|exact jR rfl))
theorem LdL.app {D : List Nat} {H : Nat → Option (List AV)} : ∀ {a b c d : List AV}, LdL D H a b → LdL D H c d → bJ a = true → LdL D H (a ++ c) (a ++ d)
 | [], _, _, _, _, h, _ => h
 | x :: a, b, c, d, h1, h, hp => by
  simp only [bJ, Bool.and_eq_true] at hp
  exact .cons (.pur hp.1) (LdL.app (a := a) (b := a) (.pur hp.2) h hp.2)
theorem Lg {D : List Nat} {H : Nat → Option (List AV)} {m : List Cl} {j i k : Nat} {r : List Tg} (hi : i ∈ D) (hH : H i = some (flat cC r)) (hk : k = r.length) (hj : j < m.length) : LdL D H (flat eQ (c8 m j (.own i 0 k 2))) (flat bI (m.set j { m[j]! with stk := r })) := by
 subst hk
 rw [← Ab, iU hj, iU hj]
 have p1 : bJ (flat bI (m.take j)) = true := (inferInstance : Pur (flat bI _)).pf
 have p2 : bJ [iv m[j]!.val, bv m[j]!.alive, iv m[j]!.next] = true := rfl
 exact LdL.app (.pur p1) (LdL.app (.pur p2) (.cons (.own hi hH (.pur (inferInstance : Pur (flat cC r)).pf)) (.pur (inferInstance : Pur (flat bI _)).pf)) p2) p1
theorem CS {D : List Nat} {H : Nat → Option (List AV)} {m : List Cl} {j i : Nat} (hi : i ∈ D) (hH : H i = some (flat cC m[j]!.stk)) (hj : j < m.length) : LdL D H (flat eQ (c8 m j (.own i 0 m[j]!.stk.length 2))) (flat bI m) := by
 have h := Lg (m := m) (r := m[j]!.stk) hi hH rfl hj
 rwa [show m.set j { m[j]! with stk := m[j]!.stk } = m from lO m j] at h
theorem KP {m : List Cl} {x : Pt} {wr : Bool} (h : 0 ≤ x.cell) (h2 : x.cell < m.length) (h3 : m[x.cell.toNat]!.alive = true) (h4 : 0 ≤ cE m[x.cell.toNat]!.stk x.tag) (hw : wr = true) (h5 : m[x.cell.toNat]!.stk[(cE m[x.cell.toNat]!.stk x.tag).toNat]!.uq = false) : bD m x wr = 3 := by
 unfold bD;rw [if_neg (by omega), if_neg (by rw [h3]; decide), if_neg (by omega), if_pos ⟨hw, h5⟩]
theorem oE (m : List Cl) (x : Pt) (wr : Bool) (n : Nat) (hm : OkM m) (hn : n = m.length) (hk : bD m x wr ≠ 0) : MC Tryz.prog 242 [.own 0 0 n 4, mN x, bv wr] [(0, some (flat bI m))] 1 (fun _ : Unit => True) (fun _ => iv (bD m x wr)) (fun _ => [(0, some (flat bI m))]) := by
 subst hn
 have hml := hm.l
 have hcv := gN m hm
 have hst : 0 ≤ x.cell → x.cell < m.length → m[x.cell.toNat]!.stk.length ≤ 200 := fun h1 h2 => (((cY m).1 hm).2 x.cell.toNat (by omega)).l.2
 have hbd := eJ m[x.cell.toNat]!.stk x.tag
 have hidx := fun h => xR m[x.cell.toNat]!.stk x.cell x.tag h
 refine aT Tryz.func242 Tryz.ntmps242 ?_
 repeat' (first|(apply aH;first|(apply oD (k := 239);(case ha => rfl);(case hl => (repeat' (first|exact l4|apply kT|exact mL rfl inferInstance)));(case h => exact hcv);(case hfr|hN => rfl);(case hmd => infer_instance))|((apply fH 4);(case hx|hH|hc|hN => rfl))|(apply aA (k := 267);rfl;(exact (hidx (by have := hst (by omega) (by omega);omega)));exact Pur.pf;rfl)|(with_reducible apply aV (d := 75))|(apply aA (k := 54);rfl;(apply cX);(rfl);rfl))|refine aE ?_|refine aF ?_|(refine aK ?_ ?_ <;> intro hc hq <;> try (exfalso;omega))|(refine bQ ?_ ?_ <;> intro hg hq <;> try (exfalso;omega)))
 ·(refine aD rfl ?_; refine aQ () trivial ?_ ⟨.inr (Eq.trans (b := some _) rfl ?_), trivial⟩)
  ·rw [Bz (by omega)]; rfl
  ·rfl
 ·(refine aD rfl ?_; refine aQ () trivial ?_ ⟨.inr (Eq.trans (b := some _) rfl ?_), trivial⟩)
  ·rw [Gv (by omega) (by omega) (by assumption)]; rfl
  ·rfl
 ·(refine aD rfl ?_; refine aQ () trivial ?_ ⟨.inr (Eq.trans (b := some _) rfl ?_), trivial⟩)
  ·rw [G2 (by omega) (by omega) (by assumption) (by assumption)]; rfl
  ·rfl
 ·(refine aD rfl ?_; refine aQ () trivial ?_ ⟨.inr (Eq.trans (b := some _) rfl ?_), trivial⟩)
  ·rw [KP (by omega) (by omega) (by assumption) (by assumption) (by assumption) (by assumption)]; rfl
  ·rfl
 ·exfalso
  have hw : wr = true := by assumption
  have hu : m[x.cell.toNat]!.stk[(cE m[x.cell.toNat]!.stk x.tag).toNat]!.uq = true := by assumption
  subst hw
  refine hk ?_
  rw [wR, if_pos (rE (by omega) (by omega) (by assumption) (by assumption)), if_neg (by rw [hu]; decide)]
 ·exfalso
  have hw : wr = false := by assumption
  subst hw
  exact hk (rE (by omega) (by omega) (by assumption) (by assumption))
theorem sG (m : List Cl) (j : Nat) (t : Int) (k n : Nat) (hm : OkM m) (hn : n = m.length) (hj : j < m.length) (hk : cE m[j]!.stk t = (k : Int)) (hal : m[j]!.alive = true) (hu : m[j]!.stk[k]!.uq = true) : MC Tryz.prog 242 [.own 0 0 n 4, .agg [iv (j : Int), iv t], bv true] [(0, some (flat eQ (c8 m j (.own 1 0 m[j]!.stk.length 2)))), (1, some (flat cC m[j]!.stk))] 2 (fun _ : Unit => True) (fun _ => iv 0) (fun _ => [(0, some (flat eQ (c8 m j (.own 1 0 (k + 1) 2)))), (1, some (flat cC (m[j]!.stk.take (k + 1))))]) := by
 subst hn
 have hml := hm.l
 have hcv := gN m hm
 have hst : m[j]!.stk.length ≤ 200 := (((cY m).1 hm).2 j hj).l.2
 have hbd := eJ m[j]!.stk t
 rw [hk] at hbd
 have hidx := xR m[j]!.stk (j : Int) t (by omega)
 rw [hk] at hidx
 have hog := gR (m := m) (j := j) (X := .own 1 0 m[j]!.stk.length 2) hj
 have hol := c5 (m := m) (j := j) (X := .own 1 0 m[j]!.stk.length 2)
 refine aT Tryz.func242 Tryz.ntmps242 ?_
 repeat' (first|(apply aH;first|(apply lW (k := 239) (D := [0, 1]) (h := hcv);rfl;exact .cons (.own (by simp) rfl (CS (by simp) rfl hj)) .nil;rfl;rfl)|(with_reducible apply aV (d := 35))|(apply aA (k := 54);rfl;(apply cX);(rfl);rfl))|refine aE ?_|refine aF ?_|(refine aK ?_ ?_ <;> intro hc hq <;> try (exfalso;omega))|fail)
 all_goals (try (exfalso;omega))
 ·exfalso
  have h : (c8 m j (.own 1 0 m[j]!.stk.length 2))[j]!.alive = false := by assumption
  rw [hog] at h;simp only [hal] at h;cases h
 refine bV ?_
 rw [hog]
 dsimp only
 repeat' (first|(apply aH;first|((apply fH 4);(case hx|hH|hc|hN => rfl))|(apply lW (k := 267) (D := [1]) (h := hidx);rfl;exact .cons (.own (by simp) rfl (.pur (inferInstance : Pur (flat cC _)).pf)) (.cons (.pur rfl) .nil);rfl;rfl)|(with_reducible apply aV (d := 68)))|refine aE ?_|refine aF ?_|fail)
 refine bV ?_
 rw [hog]
 dsimp only
 repeat' (first|(apply aH;(with_reducible apply aV (d := 81)))|refine aE ?_|refine aF ?_|(refine aK ?_ ?_ <;> intro hc hq <;> try (exfalso;omega))|fail)
 ·exfalso
  have h : m[j]!.stk[k]!.uq = false := by assumption
  rw [hu] at h;cases h
 refine bV ?_
 rw [hog]
 dsimp only
 repeat' (first|(apply aH;first|(apply iS (d := 83) (l := 0) (h := k + 1);rfl;rfl;rfl;exact pJ rfl (by omega);exact if_pos (by omega);rfl)|(apply a7;rfl;rfl;rfl;rfl;rfl;(rw [aJ]; simp only [gB] <;> omega);(exact tG (by (assumption)))))|refine aE ?_|refine aF ?_|fail)
 refine aU (Le.cut (i := 1) ((k + 1) * 2) rfl) ?_
 (refine aD rfl ?_; refine aQ () trivial ?_ ⟨.inr (Eq.trans (b := some _) rfl ?_), ⟨.inr (Eq.trans (b := some _) rfl ?_), trivial⟩⟩)
 ·rfl
 ·rfl
 ·rw [eG cC (e := 2)]
theorem Er {xs : List Tg} {k n : Nat} {N : Nat} {Q : Exit → AS → Prop} {all : Array Oper} {rest : List Oper} {tsl : List (Nat × AV)} {hsl : List (Nat × Option (List AV))} {nidl : Nat} {z0 : Lo} {md : Md} {d : Nat} {ty : TypeId} {pos : String} {af : Array Edge} {tys : Array TypeId} {x0 : Operand} {i0 : Nat} (ha0 : ev (lk tsl) x0 = some (.own i0 (0 + k * 2) n 2)) (hH0 : aP hsl i0 = some (flat cC xs)) (hmc : MC Tryz.prog 266 [.own 0 (0 + k * 2) n 2] [(0, some (flat cC xs))] 1 (fun _ : Unit => True) (fun _ => .own 2 0 n 2) (fun _ => [(0, some (flat cC xs)), (2, some (flat cC (xs.drop k)))])) (hM : Nat.ble (nidl + 2) aS = true) (hN : Nat.blt d N = true) {md' : Md} [hmd : MdA md (fG [x0] ++ [.inr i0]) (List.map Sum.inr (List.map Prod.fst ([(i0, some (flat cC xs)), ((nidl + 1), some (flat cC (xs.drop k)))] : List (Nat × Option (List AV)))) ++ [.inl d]) md'] (kk : RW Tryz.prog N all Q md' rest ⟨(d, .own (nidl + 1) 0 n 2) :: tsl, g6 hsl [(i0, some (flat cC xs)), ((nidl + 1), some (flat cC (xs.drop k)))], nidl + 2, z0⟩) : RW Tryz.prog N all Q md (⟨some d, .call ⟨.value (.func 266), #[x0], tys⟩, ty, pos, af, none⟩ :: rest) ⟨tsl, hsl, nidl, z0⟩ := by
 refine aY [i0] 3 [(i0, some (flat cC xs)), ((nidl + 1), some (flat cC (xs.drop k)))] hmc (avs := [.own i0 (0 + k * 2) n 2]) ?_ rfl ?_ rfl ?_ (by simpa using hM) ?_ ?_ ?_ hN (md' := md') (hmd := hmd) kk
 ·show evL (lk tsl) [x0] = _
  simp only [evL, ha0]
 ·exact ⟨⟨_, _, rfl, hH0, by (repeat' (exact RnL.purI inferInstance))⟩, trivial⟩
 ·(repeat' (first|exact RnL.purI inferInstance|exact RnV.own rfl|refine RnL.cons ?_ ?_))
 ·(repeat' (exact RnV.own rfl))
 ·simp [cK]
 ·(repeat' (first|exact trivial|(refine And.intro ⟨0, _, rfl, rfl, ?_⟩ ?_)|(refine And.intro ⟨2, _, rfl, rfl, ?_⟩ ?_)|exact RnL.purI inferInstance))
theorem F5 (xs : List Tg) (k n : Nat) (hn : n = xs.length - k) (hl : xs.length ≤ 1000000) : MC Tryz.prog 266 [.own 0 (0 + k * 2) n 2] [(0, some (flat cC xs))] 1 (fun _ : Unit => True) (fun _ => .own 2 0 n 2) (fun _ => [(0, some (flat cC xs)), (2, some (flat cC (xs.drop k)))]) := by
 subst hn
 refine aT Tryz.func266 Tryz.ntmps266 ?_
 repeat' (first|(apply aH;first|(apply El;rfl;rfl;(intro b hb))|(apply bT;rfl;rfl;rfl;rfl;rfl;(decide);exact CD rfl rfl;omega;omega;(exact oF rfl);rfl;rfl))|refine aE ?_|refine aF ?_|(refine aK ?_ ?_ <;> intro hc hq <;> try (exfalso;omega))|fail)
 ·have h0 : xs.length - k = 0 := hb (by assumption)
  have h1 : xs.drop k = [] := List.drop_eq_nil_of_le (by omega)
  refine aU (Le.bump 1) ?_
  refine aU (Le.nilOwn (d := 2) 2 rfl (by decide)) ?_
  (refine aD rfl ?_; refine aQ () trivial ?_ ⟨.inr (Eq.trans (b := some _) rfl ?_), ⟨.inr (Eq.trans (b := some _) rfl ?_), trivial⟩⟩)
  ·show AV.own 2 0 0 2 = _; rw [h0]
  ·rfl
  ·rw [h1]; rfl
 ·(refine aD rfl ?_; refine aQ () trivial ?_ ⟨.inr (Eq.trans (b := some _) rfl ?_), ⟨.inr (Eq.trans (b := some _) rfl ?_), trivial⟩⟩)
  ·show AV.own 2 0 (0 + (xs.length - k)) 2 = _
   rw [Nat.zero_add]
  ·rfl
  ·rfl
theorem vM {m : List Cl} {j : Nat} {t : Int} {r : List Tg} {n : Nat} {N : Nat} {Q : Exit → AS → Prop} {all : Array Oper} {rest : List Oper} {tsl : List (Nat × AV)} {hsl : List (Nat × Option (List AV))} {nidl : Nat} {z0 : Lo} {md : Md} {d : Nat} {ty : TypeId} {pos : String} {af : Array Edge} {tys : Array TypeId} {x0 x1 x2 : Operand} {i0 i1 : Nat} (ha0 : ev (lk tsl) x0 = some (.own i0 0 n 4)) (ha1 : ev (lk tsl) x1 = some (.agg [iv (j : Int), iv t])) (ha2 : ev (lk tsl) x2 = some (bv false)) (hH0 : aP hsl i0 = some (flat eQ (c8 m j (.own i1 0 m[j]!.stk.length 2)))) (hH1 : aP hsl i1 = some (flat cC m[j]!.stk)) (hdd : Go.AL.distinct [i0, i1] = true) (hmc : MC Tryz.prog 242 [.own 0 0 n 4, .agg [iv (j : Int), iv t], bv false] [(0, some (flat eQ (c8 m j (.own 1 0 m[j]!.stk.length 2)))), (1, some (flat cC m[j]!.stk))] 2 (fun _ : Unit => True) (fun _ => iv 0) (fun _ => [(0, some (flat eQ (c8 m j (.own 5 0 r.length 2)))), (5, some (flat cC r))])) (hM : Nat.ble (nidl + 4) aS = true) (hN : Nat.blt d N = true) {md' : Md} [hmd : MdA md (fG [x0, x1, x2] ++ [.inr i0, .inr i1]) (List.map Sum.inr (List.map Prod.fst ([(i0, some (flat eQ (c8 m j (.own (nidl + 3) 0 r.length 2)))), ((nidl + 3), some (flat cC r)), (i1, none)] : List (Nat × Option (List AV)))) ++ [.inl d]) md'] (kk : RW Tryz.prog N all Q md' rest ⟨(d, iv 0) :: tsl, g6 hsl [(i0, some (flat eQ (c8 m j (.own (nidl + 3) 0 r.length 2)))), ((nidl + 3), some (flat cC r)), (i1, none)], nidl + 4, z0⟩) : RW Tryz.prog N all Q md (⟨some d, .call ⟨.value (.func 242), #[x0, x1, x2], tys⟩, ty, pos, af, none⟩ :: rest) ⟨tsl, hsl, nidl, z0⟩ := by
 refine aY [i0, i1] 6 [(i0, some (flat eQ (c8 m j (.own (nidl + 3) 0 r.length 2)))), ((nidl + 3), some (flat cC r)), (i1, none)] hmc (avs := [.own i0 0 n 4, .agg [iv (j : Int), iv t], bv false]) ?_ hdd ?_ rfl ?_ (by simpa using hM) ?_ ?_ ?_ hN (md' := md') (hmd := hmd) kk
 ·show evL (lk tsl) [x0, x1, x2] = _
  simp only [evL, ha0, ha1, ha2]
 ·exact ⟨⟨_, _, rfl, hH0, by (repeat' (exact jR rfl))⟩, ⟨⟨_, _, rfl, hH1, by (repeat' (exact RnL.purI inferInstance))⟩, trivial⟩⟩
 ·(repeat' (first|exact RnL.purI inferInstance|exact RnV.own rfl|refine RnL.cons ?_ ?_))
 ·(repeat' (exact RnV.purI inferInstance))
 ·simp [cK]
 ·(repeat' (first|exact trivial|(refine And.intro ⟨0, _, rfl, rfl, ?_⟩ ?_)|(refine And.intro ⟨5, _, rfl, rfl, ?_⟩ ?_)|exact RnL.purI inferInstance|exact jR rfl))
theorem AJ (m : List Cl) (j : Nat) (t : Int) (r : List Tg) (k n : Nat) (hm : OkM m) (hn : n = m.length) (hj : j < m.length) (hk : cE m[j]!.stk t = (k : Int)) (hal : m[j]!.alive = true) (hr : r = gE m[j]!.stk k false) : MC Tryz.prog 242 [.own 0 0 n 4, .agg [iv (j : Int), iv t], bv false] [(0, some (flat eQ (c8 m j (.own 1 0 m[j]!.stk.length 2)))), (1, some (flat cC m[j]!.stk))] 2 (fun _ : Unit => True) (fun _ => iv 0) (fun _ => [(0, some (flat eQ (c8 m j (.own 5 0 r.length 2)))), (5, some (flat cC r))]) := by
 subst hn
 have hml := hm.l
 have hcv := gN m hm
 have hst : m[j]!.stk.length ≤ 200 := (((cY m).1 hm).2 j hj).l.2
 have hbd := eJ m[j]!.stk t
 rw [hk] at hbd
 have hidx := xR m[j]!.stk (j : Int) t (by omega)
 rw [hk] at hidx
 have hog := gR (m := m) (j := j) (X := .own 1 0 m[j]!.stk.length 2) hj
 have hol := c5 (m := m) (j := j) (X := .own 1 0 m[j]!.stk.length 2)
 refine aT Tryz.func242 Tryz.ntmps242 ?_
 repeat' (first|(apply aH;first|(apply lW (k := 239) (D := [0, 1]) (h := hcv);rfl;exact .cons (.own (by simp) rfl (CS (by simp) rfl hj)) .nil;rfl;rfl)|(with_reducible apply aV (d := 35))|(apply aA (k := 54);rfl;(apply cX);(rfl);rfl))|refine aE ?_|refine aF ?_|(refine aK ?_ ?_ <;> intro hc hq <;> try (exfalso;omega))|fail)
 all_goals (try (exfalso;omega))
 ·exfalso
  have h : (c8 m j (.own 1 0 m[j]!.stk.length 2))[j]!.alive = false := by assumption
  rw [hog] at h;simp only [hal] at h;cases h
 refine bV ?_
 rw [hog]
 dsimp only
 repeat' (first|(apply aH;first|((apply fH 4);(case hx|hH|hc|hN => rfl))|(apply lW (k := 267) (D := [1]) (h := hidx);rfl;exact .cons (.own (by simp) rfl (.pur (inferInstance : Pur (flat cC _)).pf)) (.cons (.pur rfl) .nil);rfl;rfl)|(with_reducible apply aV (d := 41)))|refine aE ?_|refine aF ?_|fail)
 refine bV ?_
 rw [hog]
 dsimp only
 repeat' (first|(apply aH;first|(apply iS (d := 43) (l := k + 1) (h := m[j]!.stk.length);rfl;rfl;exact pJ rfl (by omega);rfl;exact if_pos (by omega);rfl)|(apply Er;rfl;rfl;exact F5 _ _ _ rfl (by omega);rfl;rfl)|(apply IZ;rfl;rfl;rfl;exact LB _ _ (by rw [List.length_drop]) (by omega);rfl;rfl)|(with_reducible apply aV (d := 51)))|refine aE ?_|refine aF ?_|fail)
 refine bV ?_
 rw [hog]
 dsimp only
 have hfl : (flat cC m[j]!.stk).length = m[j]!.stk.length * 2 := aJ cC _
 have hsl : (shr (List.drop (k + 1) m[j]!.stk)).length ≤ 200 := Nat.le_trans (List.length_filter_le _ _) (by rw [List.length_drop]; omega)
 repeat' (first|(apply aH;first|(apply iS (d := 53) (l := 0) (h := k + 1);rfl;rfl;rfl;exact pJ rfl (by omega);exact if_pos (by omega);rfl)|(apply bT;rfl;rfl;rfl;rfl;rfl;(rw [hfl]; omega);exact CD (k := 0) rfl rfl;omega;omega;rfl;rfl;rfl)|(apply a7;rfl;rfl;rfl;rfl;rfl;(rw [aJ]; simp only [gB] <;> omega);(exact tG (by (assumption)))))|refine aE ?_|refine aF ?_|fail)
 have hre : r = m[j]!.stk.take (k + 1) ++ shr (m[j]!.stk.drop (k + 1)) := by rw [hr]; rfl
 have hrl : r.length = k + 1 + (shr (List.drop (k + 1) m[j]!.stk)).length := by rw [hre, List.length_append, List.length_take]; omega
 (refine aD rfl ?_; refine aQ () trivial ?_ ⟨.inr (Eq.trans (b := some _) rfl ?_), ⟨.inr (Eq.trans (b := some _) rfl ?_), trivial⟩⟩)
 ·rfl
 ·refine congrArg some ?_
  show flat eQ (c8 m j (AV.own 5 0 (k + 1 - 0 + (shr (List.drop (k + 1) m[j]!.stk)).length) 2)) = _
  rw [hrl]; rfl
 ·refine congrArg some ?_
  show (List.drop 0 (flat cC m[j]!.stk)).take ((k + 1) * 2) ++ flat cC (List.drop 0 (shr (List.drop (k + 1) m[j]!.stk))) = _
  rw [List.drop_zero, List.drop_zero, eG cC (e := 2), cS, ← hre]
theorem IK {m : List Cl} {j : Nat} {X : AV} {v : Int} (h : j < m.length) : gX (flat eQ (c8 m j X)) (0 + j * 4 + 0) [iv v] = flat eQ (c8 (m.set j { m[j]! with val := v }) j X) := by
 have e : c8 (m.set j { m[j]! with val := v }) j X = (c8 m j X).set j ⟨v, m[j]!.alive, m[j]!.next, X⟩ := by
  have e2 : (m.set j { m[j]! with val := v })[j]! = { m[j]! with val := v } := by rw [bB _ _ (by rw [List.length_set]; exact h), List.getElem_set_self]
  unfold c8
  rw [e2, List.map_set, List.set_set, List.set_set]; rfl
 rw [e]
 exact fV (by rw [c5]; exact h) (by simp) (by rw [gR h]; rfl)
theorem IT {m : List Cl} {j : Nat} {X : AV} {b : Bool} (h : j < m.length) : gX (flat eQ (c8 m j X)) (0 + j * 4 + 1) [.v (.bool b)] = flat eQ (c8 (m.set j { m[j]! with alive := b }) j X) := by
 have e : c8 (m.set j { m[j]! with alive := b }) j X = (c8 m j X).set j ⟨m[j]!.val, b, m[j]!.next, X⟩ := by
  have e2 : (m.set j { m[j]! with alive := b })[j]! = { m[j]! with alive := b } := by rw [bB _ _ (by rw [List.length_set]; exact h), List.getElem_set_self]
  unfold c8
  rw [e2, List.map_set, List.set_set, List.set_set]; rfl
 rw [e]
 exact fV (by rw [c5]; exact h) (by simp) (by rw [gR h]; rfl)
theorem qF (m : List Cl) (hm : OkM m) (x : Pt) : PC Tryz.prog 202 [sl bI m, mN x] (fun r => r = .tup [sl bI (dQ m x false), iv (oH m x), iv (bD m x false)]) := by
 have hml := hm.l
 by_cases hk : bD m x false = 0
 ·obtain ⟨c, t⟩ := x
  obtain ⟨h1, h2, h3, h4, _⟩ := dI hk
  obtain ⟨j, rfl⟩ := Int.eq_ofNat_of_zero_le (show 0 ≤ c from h1)
  have hj : j < m.length := by have : (j : Int) < m.length := h2;omega
  obtain ⟨k, hkk⟩ := Int.eq_ofNat_of_zero_le (show 0 ≤ cE m[j]!.stk t from h4)
  obtain ⟨r, hr⟩ : ∃ r, r = gE m[j]!.stk k false := ⟨_, rfl⟩
  have hto := AJ m j t r k m.length hm rfl hj hkk h3 hr
  have hog := gR (m := m) (j := j) (X := .own (0 + 1 + 3 + 3) 0 r.length 2) hj
  have hol := c5 (m := m) (j := j) (X := .own (0 + 1 + 3 + 3) 0 r.length 2)
  refine aC Tryz.func202 Tryz.ntmps202 ?_
  repeat' (first|(apply aH;first|(apply nY (j := j);rfl;exact tR m j hm hj;rfl;rfl)|(apply vM (m := m) (j := j) (t := t) (r := r) (n := m.length);rfl;rfl;rfl;rfl;rfl;rfl;exact hto;rfl;rfl))|refine aE ?_|refine aF ?_|refine bO ?_|fail)
  refine aU (Le.cls (o := 2) (q := 7) (j := j) (k := r.length) (m := m) (r := r) rfl rfl rfl hj (by decide)) ?_
  refine aU (Le.frzD (d := 4) (i := 2) rfl rfl) ?_
  rw [hog]
  refine aD (l := [.imm m.length (flat bI (m.set j { m[j]! with stk := r })), iv m[j]!.val, iv 0]) rfl ?_
  have eM : dQ m ⟨j, t⟩ false = m.set j { m[j]! with stk := r } := by
   unfold dQ sC;rw [if_pos hk]; dsimp only
   rw [Int.toNat_natCast, hkk, Int.toNat_natCast, hr]
  have eN : oH m ⟨j, t⟩ = m[j]!.val := by unfold oH;rw [if_pos hk]; rfl
  rw [eM, eN, hk, eI (by rw [List.length_set])]
  exact ⟨rfl, by exact Pur.pf⟩
 ·refine aC Tryz.func202 Tryz.ntmps202 ?_
  repeat' (first|(apply aH;first|(apply gM;rfl;exact jT m hm;rfl;rfl)|(apply mE (m := m) (x := x) (wr := false) (n := m.length);rfl;rfl;rfl;rfl;exact oE m x false _ hm rfl hk;rfl;rfl))|refine aE ?_|refine aF ?_|(refine aK ?_ ?_ <;> intro hc hq <;> try (exfalso;omega))|fail)
  (refine aU (Le.frzD (d := 4) (i := 2) rfl rfl) ?_; refine aD rfl ?_)
  refine ⟨?_, by exact Pur.pf⟩
  simp only [aN]
  unfold dQ oH;rw [if_neg hk, if_neg hk]
theorem zI (m : List Cl) (hm : OkM m) (x : Pt) : PC Tryz.prog 243 [sl bI m, mN x] (fun r => r = .tup [sl bI (kW m x), iv (bD m x true)]) := by
 have hml := hm.l
 by_cases hk : bD m x true = 0
 ·obtain ⟨c, t⟩ := x
  obtain ⟨h1, h2, h3, h4, hu⟩ := dI hk
  obtain ⟨j, rfl⟩ := Int.eq_ofNat_of_zero_le (show 0 ≤ c from h1)
  have hj : j < m.length := by have : (j : Int) < m.length := h2;omega
  obtain ⟨k, hkk⟩ := Int.eq_ofNat_of_zero_le (show 0 ≤ cE m[j]!.stk t from h4)
  have huk : m[j]!.stk[k]!.uq = true := by
   have h : m[j]!.stk[(cE m[j]!.stk t).toNat]!.uq = true := hu rfl
   rwa [hkk, Int.toNat_natCast] at h
  have htw := sG m j t k m.length hm rfl hj hkk h3 huk
  have hrl : (m[j]!.stk.take (k + 1)).length = k + 1 := by
   have hb := eJ m[j]!.stk t
   rw [List.length_take]; omega
  have hol := c5 (m := m) (j := j) (X := .own (0 + 1 + 2) 0 (k + 1) 2)
  have hls : (m.set j { m[j]! with alive := false }).length = m.length := List.length_set
  refine aC Tryz.func243 Tryz.ntmps243 ?_
  repeat' (first|(apply aH;first|(apply nY (j := j);rfl;exact tR m j hm hj;rfl;rfl)|(apply vQ (m := m) (j := j) (t := t) (k := k) (n := m.length);rfl;rfl;rfl;rfl;rfl;rfl;exact htw;rfl;rfl)|(apply a7;rfl;rfl;rfl;rfl;rfl;(rw [aJ]; simp only [List.length_append, List.length_cons, List.length_nil]; omega);exact IT hj))|refine aE ?_|refine aF ?_|fail)
  refine aU (Le.cls (o := 2) (q := 3) (j := j) (k := k + 1) (m := m.set j { m[j]! with alive := false }) (r := m[j]!.stk.take (k + 1)) rfl rfl hrl.symm (by rw [hls]; exact hj) (by decide)) ?_
  refine aU (Le.frzD (d := 4) (i := 2) rfl rfl) ?_
  rw [kC hj, set_set]
  refine aD (l := [.imm m.length (flat bI (m.set j { m[j]! with alive := false, stk := m[j]!.stk.take (k + 1) })), iv 0]) rfl ?_
  have eM : kW m ⟨j, t⟩ = m.set j { m[j]! with alive := false, stk := m[j]!.stk.take (k + 1) } := by
   unfold kW sC;rw [if_pos hk]; dsimp only
   rw [Int.toNat_natCast, hkk, Int.toNat_natCast]; unfold gE;rw [if_pos rfl]
  rw [eM, hk, eI (by rw [List.length_set])]
  exact ⟨rfl, by exact Pur.pf⟩
 ·refine aC Tryz.func243 Tryz.ntmps243 ?_
  repeat' (first|(apply aH;first|(apply gM;rfl;exact jT m hm;rfl;rfl)|(apply mE (m := m) (x := x) (wr := true) (n := m.length);rfl;rfl;rfl;rfl;exact oE m x true _ hm rfl hk;rfl;rfl))|refine aE ?_|refine aF ?_|(refine aK ?_ ?_ <;> intro hc hq <;> try (exfalso;omega))|fail)
  (refine aU (Le.frzD (d := 4) (i := 2) rfl rfl) ?_; refine aD rfl ?_)
  refine ⟨?_, by exact Pur.pf⟩
  simp only [aN]
  unfold kW;rw [if_neg hk]
theorem x4 (m : List Cl) (hm : OkM m) (x : Pt) (v : Int) : PC Tryz.prog 203 [sl bI m, mN x, iv v] (fun r => r = .tup [sl bI (zM m x v), iv (u7 m x v)]) := by
 have hml := hm.l
 by_cases hv : 0 ≤ v ∧ v ≤ 9
 case neg =>
  have hwk : u7 m x v = 4 := by unfold u7;rw [if_neg hv]
  have e : zM m x v = m := by unfold zM;rw [if_neg (by rw [hwk]; decide)]
  refine aC Tryz.func203 Tryz.ntmps203 ?_
  repeat' (first|(apply aH;first|(apply gM;rfl;exact jT m hm;rfl;rfl)|(apply aA (k := 54);rfl;(apply cX);(rfl);rfl))|refine aE ?_|refine aF ?_|(refine aK ?_ ?_ <;> intro hc hq <;> try (exfalso;omega))|fail)
  all_goals (try (exfalso;omega))
  all_goals (
   (refine aU (Le.frzD (d := 6) (i := 2) rfl rfl) ?_; refine aD rfl ?_)
   refine ⟨?_, by exact Pur.pf⟩
   simp only [aN]
   rw [e, hwk])
 case pos =>
 have hwk : u7 m x v = bD m x true := by unfold u7;rw [if_pos hv]
 by_cases hk : bD m x true = 0
 ·obtain ⟨c, t⟩ := x
  obtain ⟨h1, h2, h3, h4, hu⟩ := dI hk
  obtain ⟨j, rfl⟩ := Int.eq_ofNat_of_zero_le (show 0 ≤ c from h1)
  have hj : j < m.length := by have : (j : Int) < m.length := h2;omega
  obtain ⟨k, hkk⟩ := Int.eq_ofNat_of_zero_le (show 0 ≤ cE m[j]!.stk t from h4)
  have huk : m[j]!.stk[k]!.uq = true := by
   have h : m[j]!.stk[(cE m[j]!.stk t).toNat]!.uq = true := hu rfl
   rwa [hkk, Int.toNat_natCast] at h
  have htw := sG m j t k m.length hm rfl hj hkk h3 huk
  have hrl : (m[j]!.stk.take (k + 1)).length = k + 1 := by
   have hb := eJ m[j]!.stk t
   rw [List.length_take]; omega
  have hol := c5 (m := m) (j := j) (X := .own (0 + 1 + 2) 0 (k + 1) 2)
  have hls : (m.set j { m[j]! with val := v }).length = m.length := List.length_set
  refine aC Tryz.func203 Tryz.ntmps203 ?_
  repeat' (first|(apply aH;first|(apply nY (j := j);rfl;exact tR m j hm hj;rfl;rfl)|(apply vQ (m := m) (j := j) (t := t) (k := k) (n := m.length);rfl;rfl;rfl;rfl;rfl;rfl;exact htw;rfl;rfl)|(apply a7;rfl;rfl;rfl;rfl;rfl;(rw [aJ]; simp only [List.length_append, List.length_cons, List.length_nil]; omega);exact IK hj)|(apply aA (k := 54);rfl;(apply cX);(rfl);rfl))|refine aE ?_|refine aF ?_|(refine aK ?_ ?_ <;> intro hc hq <;> try (exfalso;omega))|fail)
  refine aU (Le.cls (o := 2) (q := 3) (j := j) (k := k + 1) (m := m.set j { m[j]! with val := v }) (r := m[j]!.stk.take (k + 1)) rfl rfl hrl.symm (by rw [hls]; exact hj) (by decide)) ?_
  refine aU (Le.frzD (d := 6) (i := 2) rfl rfl) ?_
  rw [kC hj, set_set]
  refine aD (l := [.imm m.length (flat bI (m.set j { m[j]! with val := v, stk := m[j]!.stk.take (k + 1) })), iv 0]) rfl ?_
  have eM : zM m ⟨j, t⟩ v = m.set j { m[j]! with val := v, stk := m[j]!.stk.take (k + 1) } := by
   unfold zM sC;rw [hwk, if_pos hk]; dsimp only
   rw [Int.toNat_natCast, hkk, Int.toNat_natCast]; unfold gE;rw [if_pos rfl]
  rw [eM, hwk, hk, eI (by rw [List.length_set])]
  exact ⟨rfl, by exact Pur.pf⟩
 ·refine aC Tryz.func203 Tryz.ntmps203 ?_
  repeat' (first|(apply aH;first|(apply gM;rfl;exact jT m hm;rfl;rfl)|(apply mE (m := m) (x := x) (wr := true) (n := m.length);rfl;rfl;rfl;rfl;exact oE m x true _ hm rfl hk;rfl;rfl)|(apply aA (k := 54);rfl;(apply cX);(rfl);rfl))|refine aE ?_|refine aF ?_|(refine aK ?_ ?_ <;> intro hc hq <;> try (exfalso;omega))|fail)
  (refine aU (Le.frzD (d := 6) (i := 2) rfl rfl) ?_; refine aD rfl ?_)
  refine ⟨?_, by exact Pur.pf⟩
  simp only [aN]
  unfold zM;rw [hwk, if_neg hk]
theorem Cb (m : List Cl) (hm : OkM m) (v : Int) : PC Tryz.prog 240 [sl bI m, iv v] (fun r => r = .tup [sl bI (m ++ [uS v]), .agg [iv m.length, iv 0]]) := by
 have hml := hm.l
 refine aC Tryz.func240 Tryz.ntmps240 ?_
 repeat' (first|(apply aH;first|(apply gM;rfl;exact jT m hm;rfl;rfl)|(apply aM (t := _);rfl;rfl;rfl;(first|exact (rfl:_=some [_, _])|exact (rfl:_=some [_, _, _, _]));rfl;rfl))|refine aE ?_|refine aF ?_|fail)
 have e2 : AV.imm (m.length + 1) (((flat bI m).drop 0).take (m.length * 4) ++ [iv v, bv true, iv 1, .imm 1 [iv 0, bv true]]) = sl bI (m ++ [uS v]) := by
  have e : ((flat bI m).drop 0).take (m.length * 4) ++ [iv v, bv true, iv 1, .imm 1 [iv 0, bv true]] = flat bI (m ++ [uS v]) := dR rfl rfl
  rw [e]; exact eI (by rw [List.length_append]; rfl)
 refine aU (Le.frzD (d := 4) (i := 5) rfl rfl) ?_
 refine aD (l := [AV.imm (m.length + 1) (((flat bI m).drop 0).take (m.length * 4) ++ [iv v, bv true, iv 1, .imm 1 [iv 0, bv true]]), .agg [iv m.length, iv 0]]) rfl ?_
 rw [e2]
 exact ⟨rfl, by exact Pur.pf⟩
theorem By (m : List Cl) (hm : OkM m) (v : Int) : PC Tryz.prog 198 [sl bI m, iv v] (fun r => r = .tup (if 0 ≤ v ∧ v ≤ 9 ∧ m.length < 200 then [sl bI (m ++ [uS v]), .agg [iv m.length, iv 0], bv true] else [sl bI [], .agg [iv 0, iv 0], bv false])) := by
 have hml := hm.l
 have hcv := gN m hm
 have hnc := Cb m hm v
 refine aC Tryz.func198 Tryz.ntmps198 ?_
 repeat' (first|(apply aH;first|(apply aA (k := 239);rfl;exact hcv;exact Pur.pf;rfl)|(apply aA (k := 240);rfl;exact hnc;exact Pur.pf;rfl)|(apply aA (k := 54);rfl;(apply cX);(rfl);rfl))|refine aE ?_|refine aF ?_|(refine aK ?_ ?_ <;> intro hc hq <;> try (exfalso;omega))|(refine bQ ?_ ?_ <;> intro hg hq <;> try (exfalso;omega))|refine bO ?_|fail)
 ·refine aU (Le.nilImm (d := 4) rfl) ?_
  exact aD (l := [sl bI [], .agg [iv 0, iv 0], bv false]) rfl ⟨by rw [if_neg (by omega)]; rfl, rfl⟩
 ·exact aD (l := [sl bI (m ++ [uS v]), .agg [iv m.length, iv 0], bv true]) rfl ⟨by rw [if_pos (by omega)]; rfl, by exact Pur.pf⟩
 ·refine aU (Le.nilImm (d := 4) rfl) ?_
  exact aD (l := [sl bI [], .agg [iv 0, iv 0], bv false]) rfl ⟨by rw [if_neg (by omega)]; rfl, rfl⟩
theorem DB {m : List Cl} {j : Nat} {t : Int} {r : List Tg} {n : Nat} {N : Nat} {Q : Exit → AS → Prop} {all : Array Oper} {rest : List Oper} {tsl : List (Nat × AV)} {hsl : List (Nat × Option (List AV))} {nidl : Nat} {z0 : Lo} {md : Md} {d : Nat} {ty : TypeId} {pos : String} {af : Array Edge} {tys : Array TypeId} {x0 x1 x2 : Operand} {i0 i1 : Nat} (ha0 : ev (lk tsl) x0 = some (.own i0 0 n 4)) (ha1 : ev (lk tsl) x1 = some (.agg [iv (j : Int), iv t])) (ha2 : ev (lk tsl) x2 = some (bv true)) (hH0 : aP hsl i0 = some (flat eQ (c8 m j (.own i1 0 m[j]!.stk.length 2)))) (hH1 : aP hsl i1 = some (flat cC m[j]!.stk)) (hdd : Go.AL.distinct [i0, i1] = true) (hmc : MC Tryz.prog 242 [.own 0 0 n 4, .agg [iv (j : Int), iv t], bv true] [(0, some (flat eQ (c8 m j (.own 1 0 m[j]!.stk.length 2)))), (1, some (flat cC m[j]!.stk))] 2 (fun _ : Unit => True) (fun _ => iv 0) (fun _ => [(0, some (flat eQ (c8 m j (.own 1 0 r.length 2)))), (1, some (flat cC r))])) (hM : Nat.ble (nidl + 0) aS = true) (hN : Nat.blt d N = true) {md' : Md} [hmd : MdA md (fG [x0, x1, x2] ++ [.inr i0, .inr i1]) (List.map Sum.inr (List.map Prod.fst ([(i0, some (flat eQ (c8 m j (.own i1 0 r.length 2)))), (i1, some (flat cC r))] : List (Nat × Option (List AV)))) ++ [.inl d]) md'] (kk : RW Tryz.prog N all Q md' rest ⟨(d, iv 0) :: tsl, g6 hsl [(i0, some (flat eQ (c8 m j (.own i1 0 r.length 2)))), (i1, some (flat cC r))], nidl + 0, z0⟩) : RW Tryz.prog N all Q md (⟨some d, .call ⟨.value (.func 242), #[x0, x1, x2], tys⟩, ty, pos, af, none⟩ :: rest) ⟨tsl, hsl, nidl, z0⟩ := by
 refine aY [i0, i1] 2 [(i0, some (flat eQ (c8 m j (.own i1 0 r.length 2)))), (i1, some (flat cC r))] hmc (avs := [.own i0 0 n 4, .agg [iv (j : Int), iv t], bv true]) ?_ hdd ?_ rfl ?_ (by simpa using hM) ?_ ?_ ?_ hN (md' := md') (hmd := hmd) kk
 ·show evL (lk tsl) [x0, x1, x2] = _
  simp only [evL, ha0, ha1, ha2]
 ·exact ⟨⟨_, _, rfl, hH0, by (repeat' (exact jR rfl))⟩, ⟨⟨_, _, rfl, hH1, by (repeat' (exact RnL.purI inferInstance))⟩, trivial⟩⟩
 ·(repeat' (first|exact RnL.purI inferInstance|exact RnV.own rfl|refine RnL.cons ?_ ?_))
 ·(repeat' (exact RnV.purI inferInstance))
 ·simp [cK]
 ·(repeat' (first|exact trivial|(refine And.intro ⟨0, _, rfl, rfl, ?_⟩ ?_)|(refine And.intro ⟨1, _, rfl, rfl, ?_⟩ ?_)|exact RnL.purI inferInstance|exact jR rfl))
theorem GK (m : List Cl) (j : Nat) (t : Int) (r : List Tg) (k n : Nat) (hm : OkM m) (hn : n = m.length) (hj : j < m.length) (hk : cE m[j]!.stk t = (k : Int)) (hal : m[j]!.alive = true) (hu : m[j]!.stk[k]!.uq = true) (hre : m[j]!.stk.take (k + 1) = r) (hrk : k + 1 = r.length) : MC Tryz.prog 242 [.own 0 0 n 4, .agg [iv (j : Int), iv t], bv true] [(0, some (flat eQ (c8 m j (.own 1 0 m[j]!.stk.length 2)))), (1, some (flat cC m[j]!.stk))] 2 (fun _ : Unit => True) (fun _ => iv 0) (fun _ => [(0, some (flat eQ (c8 m j (.own 1 0 r.length 2)))), (1, some (flat cC r))]) := by
 have h := sG m j t k n hm hn hj hk hal hu
 rw [hre, hrk] at h
 exact h
theorem IB (m : List Cl) (hm : OkM m) (j k : Nat) (t : Int) (r : List Tg) (hj : j < m.length) (hkk : cE m[j]!.stk t = (k : Int)) (hk : bD m ⟨(j : Int), t⟩ false = 0) (hr : r = gE m[j]!.stk k false) : PC Tryz.prog 200 [sl bI m, .agg [iv (j : Int), iv t], bv false] (fun z => z = .tup [sl bI (jG m m j false r), mN (jD m j r), iv (jE m j r)]) := by
 have hml := hm.l
 obtain ⟨h1, h2, h3, h4, hu⟩ := dI hk
 have hc := ((cY m).1 hm).2 j hj
 have hb := eJ m[j]!.stk t
 have hrl : r.length ≤ 200 := by rw [hr]; exact Nat.le_trans tchS_sub.length_le hc.l.2
 have hnx := hc.n
 obtain ⟨_, e2, _⟩ := vD hk (r := r) (by rw [hr]; show _ = gE m[j]!.stk (cE m[j]!.stk t).toNat false;rw [hkk]; rfl)
 have e2' : mY m ⟨(j : Int), t⟩ false = jG m m j false r := e2
 have hok := hm.ln ⟨(j : Int), t⟩ false
 rw [e2'] at hok
 have hto := AJ m j t r k m.length hm rfl hj hkk h3 hr
 have hog := gR (m := m) (j := j) (X := .own (0 + 1 + 1 + 3 + 3) 0 r.length 2) hj
 have hol := c5 (m := m) (j := j) (X := .own (0 + 1 + 1 + 3 + 3) 0 r.length 2)
 have hol2 := c5 (m := m) (j := j) (X := .own (0 + 1 + 1 + 3 + 4 + 1) 0 (r.length + 1) 2)
 have hm2 : (m.set j { m[j]! with next := m[j]!.next + 1 }).length = m.length := List.length_set
 refine aC Tryz.func200 Tryz.ntmps200 ?_
 repeat' (first|(apply aH;first|(apply nY (j := j);rfl;exact tR m j hm hj;rfl;rfl)|(apply vM (m := m) (j := j) (t := t) (r := r) (n := m.length);rfl;rfl;rfl;rfl;rfl;rfl;exact hto;rfl;rfl)|(with_reducible apply aV (d := 32)))|refine aE ?_|refine aF ?_|fail)
 refine bV ?_
 rw [hog]
 dsimp only
 by_cases hf : nL m j r
 ·have eM : jG m m j false r = m := by unfold jG; rw [if_pos hf]
  have eP : jD m j r = ⟨0, 0⟩ := by unfold jD;rw [if_pos hf]
  have eK : jE m j r = 4 := by unfold jE;rw [if_pos hf]
  rw [eM, eP, eK]
  unfold nL at hf
  repeat' (first|(apply aH;first|(apply gM;rfl;exact jT m hm;rfl;rfl)|(with_reducible apply aV (d := 44)))|refine aE ?_|refine aF ?_|(refine aK ?_ ?_ <;> intro hc hq <;> try (exfalso;omega))|(refine bQ ?_ ?_ <;> intro hg hq <;> try (exfalso;omega))|fail)
  ·refine aU (Le.frzD (d := 6) (i := 10) rfl rfl) ?_
   exact aD (l := [sl bI m, .agg [iv 0, iv 0], iv 4]) rfl ⟨rfl, by exact Pur.pf⟩
  ·exfalso
   have h : ¬ (c8 m j (.own (0 + 1 + 1 + 3 + 3) 0 r.length 2))[j]!.next = 1000 := by assumption
   rw [hog] at h
   dsimp only at h
   omega
  ·refine aU (Le.frzD (d := 6) (i := 10) rfl rfl) ?_
   exact aD (l := [sl bI m, .agg [iv 0, iv 0], iv 4]) rfl ⟨rfl, by exact Pur.pf⟩
 ·have eM : jG m m j false r = m.set j (psh { m[j]! with stk := r } false) := by unfold jG; rw [if_neg hf]
  have eP : jD m j r = ⟨j, m[j]!.next⟩ := by unfold jD;rw [if_neg hf]
  have eK : jE m j r = 0 := by unfold jE;rw [if_neg hf]
  rw [eM] at hok
  rw [eM, eP, eK]
  unfold nL at hf
  have hown := jT _ hok
  repeat' (first|(apply aH;first|(with_reducible apply aV (d := 41))|(with_reducible apply aV (d := 54)))|refine aE ?_|refine aF ?_|(refine aK ?_ ?_ <;> intro hc hq <;> try (exfalso;omega))|(refine bQ ?_ ?_ <;> intro hg hq <;> try (exfalso;omega))|fail)
  ·exfalso
   have h : (c8 m j (.own (0 + 1 + 1 + 3 + 3) 0 r.length 2))[j]!.next = 1000 := by assumption
   rw [hog] at h
   dsimp only at h
   omega
  ·refine bV ?_
   rw [hog]
   dsimp only
   repeat' (first|(apply aH;first|(apply a7;rfl;rfl;rfl;rfl;rfl;(rw [aJ, c5]; simp only [List.length_append, List.length_cons, List.length_nil]; omega);(first|exact tG hj|exact yO hj))|(apply bT;rfl;rfl;rfl;rfl;rfl;(rw [aJ]; omega);(rfl);omega;omega;(exact tU (by (omega)));rfl;rfl)|(apply aM (t := _);rfl;rfl;rfl;(exact (rfl:_=some [_, _]));rfl;rfl))|refine aE ?_|refine aF ?_|fail)
   refine AW.le ?_ (Le.cls (o := 3) (q := 0 + 1 + 1 + 3 + 4 + 1) (j := j) (k := r.length + 1) (m := m.set j { m[j]! with next := m[j]!.next + 1 }) (r := r ++ [⟨m[j]!.next, false⟩]) rfl rfl (by (rw [List.length_append]; rfl)) (by omega) (by decide))
   refine AW.le ?_ (Le.frzD (d := 9) (i := 3) rfl rfl)
   have e : (m.set j { m[j]! with next := m[j]!.next + 1 }).set j { (m.set j { m[j]! with next := m[j]!.next + 1 })[j]! with stk := r ++ [⟨m[j]!.next, false⟩] } = m.set j (psh { m[j]! with stk := r } false) := by
    rw [kC hj, set_set]; rfl
   rw [e, eI (f := bI) (xs := m.set j (psh { m[j]! with stk := r } false)) (by rw [List.length_set])]
   repeat' (first|(apply aH;(apply gM;rfl;exact hown;rfl;rfl))|refine aE ?_|refine aF ?_|refine bO ?_|fail)
   refine aU (Le.frzD (d := 6) (i := 12) rfl rfl) ?_
   exact aD (l := [sl bI (m.set j (psh { m[j]! with stk := r } false)), .agg [iv (j : Int), iv m[j]!.next], iv 0]) rfl ⟨rfl, by exact Pur.pf⟩
  all_goals (exfalso;omega)
theorem I4 (m : List Cl) (hm : OkM m) (j k : Nat) (t : Int) (r : List Tg) (hj : j < m.length) (hkk : cE m[j]!.stk t = (k : Int)) (hk : bD m ⟨(j : Int), t⟩ true = 0) (hr : r = gE m[j]!.stk k true) : PC Tryz.prog 200 [sl bI m, .agg [iv (j : Int), iv t], bv true] (fun z => z = .tup [sl bI (jG m m j true r), mN (jD m j r), iv (jE m j r)]) := by
 have hml := hm.l
 obtain ⟨h1, h2, h3, h4, hu⟩ := dI hk
 have hc := ((cY m).1 hm).2 j hj
 have hb := eJ m[j]!.stk t
 have hrl : r.length ≤ 200 := by rw [hr]; exact Nat.le_trans tchS_sub.length_le hc.l.2
 have hnx := hc.n
 obtain ⟨_, e2, _⟩ := vD hk (r := r) (by rw [hr]; show _ = gE m[j]!.stk (cE m[j]!.stk t).toNat true;rw [hkk]; rfl)
 have e2' : mY m ⟨(j : Int), t⟩ true = jG m m j true r := e2
 have hok := hm.ln ⟨(j : Int), t⟩ true
 rw [e2'] at hok
 have huk : m[j]!.stk[k]!.uq = true := by
  have h : m[j]!.stk[(cE m[j]!.stk t).toNat]!.uq = true := hu rfl
  rwa [hkk, Int.toNat_natCast] at h
 have hre : m[j]!.stk.take (k + 1) = r := by rw [hr]; unfold gE;rw [if_pos rfl]
 have hrk : k + 1 = r.length := by rw [← hre, List.length_take]; omega
 have hto := GK m j t r k m.length hm rfl hj hkk h3 huk hre hrk
 clear hre hrk huk hu hr hkk
 have hog := gR (m := m) (j := j) (X := .own (0 + 1 + 1 + 2) 0 r.length 2) hj
 have hol := c5 (m := m) (j := j) (X := .own (0 + 1 + 1 + 2) 0 r.length 2)
 have hol2 := c5 (m := m) (j := j) (X := .own (0 + 1 + 1 + 3 + 0 + 1) 0 (r.length + 1) 2)
 have hm2 : (m.set j { m[j]! with next := m[j]!.next + 1 }).length = m.length := List.length_set
 refine aC Tryz.func200 Tryz.ntmps200 ?_
 repeat' (first|(apply aH;first|(apply nY (j := j);rfl;exact tR m j hm hj;rfl;rfl)|(apply DB (m := m) (j := j) (t := t) (r := r) (n := m.length);rfl;rfl;rfl;rfl;rfl;rfl;exact hto;rfl;rfl)|(with_reducible apply aV (d := 32)))|refine aE ?_|refine aF ?_|fail)
 refine bV ?_
 rw [hog]
 dsimp only
 by_cases hf : nL m j r
 ·have eM : jG m m j true r = m := by unfold jG; rw [if_pos hf]
  have eP : jD m j r = ⟨0, 0⟩ := by unfold jD;rw [if_pos hf]
  have eK : jE m j r = 4 := by unfold jE;rw [if_pos hf]
  rw [eM, eP, eK]
  unfold nL at hf
  repeat' (first|(apply aH;first|(apply gM;rfl;exact jT m hm;rfl;rfl)|(with_reducible apply aV (d := 44)))|refine aE ?_|refine aF ?_|(refine aK ?_ ?_ <;> intro hc hq <;> try (exfalso;omega))|(refine bQ ?_ ?_ <;> intro hg hq <;> try (exfalso;omega))|fail)
  ·refine aU (Le.frzD (d := 6) (i := 6) rfl rfl) ?_
   exact aD (l := [sl bI m, .agg [iv 0, iv 0], iv 4]) rfl ⟨rfl, by exact Pur.pf⟩
  ·exfalso
   have h : ¬ (c8 m j (.own (0 + 1 + 1 + 2) 0 r.length 2))[j]!.next = 1000 := by assumption
   rw [hog] at h
   dsimp only at h
   omega
  ·refine aU (Le.frzD (d := 6) (i := 6) rfl rfl) ?_
   exact aD (l := [sl bI m, .agg [iv 0, iv 0], iv 4]) rfl ⟨rfl, by exact Pur.pf⟩
 ·have eM : jG m m j true r = m.set j (psh { m[j]! with stk := r } true) := by unfold jG; rw [if_neg hf]
  have eP : jD m j r = ⟨j, m[j]!.next⟩ := by unfold jD;rw [if_neg hf]
  have eK : jE m j r = 0 := by unfold jE;rw [if_neg hf]
  rw [eM] at hok
  rw [eM, eP, eK]
  unfold nL at hf
  have hown := jT _ hok
  repeat' (first|(apply aH;first|(with_reducible apply aV (d := 41))|(with_reducible apply aV (d := 54)))|refine aE ?_|refine aF ?_|(refine aK ?_ ?_ <;> intro hc hq <;> try (exfalso;omega))|(refine bQ ?_ ?_ <;> intro hg hq <;> try (exfalso;omega))|fail)
  ·exfalso
   have h : (c8 m j (.own (0 + 1 + 1 + 2) 0 r.length 2))[j]!.next = 1000 := by assumption
   rw [hog] at h
   dsimp only at h
   omega
  ·refine bV ?_
   rw [hog]
   dsimp only
   repeat' (first|(apply aH;first|(apply a7;rfl;rfl;rfl;rfl;rfl;(rw [aJ, c5]; simp only [List.length_append, List.length_cons, List.length_nil]; omega);(first|exact tG hj|exact yO hj))|(apply bT;rfl;rfl;rfl;rfl;rfl;(rw [aJ]; omega);(rfl);omega;omega;(exact tU (by (omega)));rfl;rfl)|(apply aM (t := _);rfl;rfl;rfl;(exact (rfl:_=some [_, _]));rfl;rfl))|refine aE ?_|refine aF ?_|fail)
   refine AW.le ?_ (Le.cls (o := 3) (q := 0 + 1 + 1 + 3 + 0 + 1) (j := j) (k := r.length + 1) (m := m.set j { m[j]! with next := m[j]!.next + 1 }) (r := r ++ [⟨m[j]!.next, true⟩]) rfl rfl (by (rw [List.length_append]; rfl)) (by omega) (by decide))
   refine AW.le ?_ (Le.frzD (d := 9) (i := 3) rfl rfl)
   have e : (m.set j { m[j]! with next := m[j]!.next + 1 }).set j { (m.set j { m[j]! with next := m[j]!.next + 1 })[j]! with stk := r ++ [⟨m[j]!.next, true⟩] } = m.set j (psh { m[j]! with stk := r } true) := by
    rw [kC hj, set_set]; rfl
   rw [e, eI (f := bI) (xs := m.set j (psh { m[j]! with stk := r } true)) (by rw [List.length_set])]
   repeat' (first|(apply aH;(apply gM;rfl;exact hown;rfl;rfl))|refine aE ?_|refine aF ?_|refine bO ?_|fail)
   refine aU (Le.frzD (d := 6) (i := 8) rfl rfl) ?_
   exact aD (l := [sl bI (m.set j (psh { m[j]! with stk := r } true)), .agg [iv (j : Int), iv m[j]!.next], iv 0]) rfl ⟨rfl, by exact Pur.pf⟩
  all_goals (exfalso;omega)
theorem Jg (m : List Cl) (hm : OkM m) (x : Pt) (u : Bool) : PC Tryz.prog 200 [sl bI m, mN x, bv u] (fun r => r = .tup [sl bI (mY m x u), mN (qZ m x u), iv (lP m x u)]) := by
 have hml := hm.l
 by_cases hk : bD m x u = 0
 ·obtain ⟨c, t⟩ := x
  obtain ⟨h1, h2, h3, h4, hu⟩ := dI hk
  obtain ⟨j, rfl⟩ := Int.eq_ofNat_of_zero_le (show 0 ≤ c from h1)
  have hj : j < m.length := by have : (j : Int) < m.length := h2;omega
  obtain ⟨k, hkk⟩ := Int.eq_ofNat_of_zero_le (show 0 ≤ cE m[j]!.stk t from h4)
  obtain ⟨r, hr⟩ : ∃ r, r = gE m[j]!.stk k u := ⟨_, rfl⟩
  obtain ⟨e1, e2, e3⟩ := vD hk (r := r) (by rw [hr]; show _ = gE m[j]!.stk (cE m[j]!.stk t).toNat u;rw [hkk]; rfl)
  rw [e1, e2, e3]
  cases u
  ·exact IB m hm j k t r hj hkk hk hr
  ·exact I4 m hm j k t r hj hkk hk hr
 ·obtain ⟨e1, e2, e3⟩ := FP hk
  rw [e1, e2, e3]
  refine aC Tryz.func200 Tryz.ntmps200 ?_
  repeat' (first|(apply aH;first|(apply gM;rfl;exact jT m hm;rfl;rfl)|(apply mE (m := m) (x := x) (wr := u) (n := m.length);rfl;rfl;rfl;rfl;exact oE m x u _ hm rfl hk;rfl;rfl))|refine aE ?_|refine aF ?_|(refine aK ?_ ?_ <;> intro hc hq <;> try (exfalso;omega))|fail)
  refine aU (Le.frzD (d := 6) (i := 3) rfl rfl) ?_
  exact aD (l := [sl bI m, .agg [iv 0, iv 0], iv (bD m x u)]) rfl ⟨rfl, by exact Pur.pf⟩
abbrev mO (ts : List Int) (bd : List AL.Stmt) (pts : List Pnt) (i1 i2 : Nat) (s : Mc) : List AV := [aG ts bd pts, .own i1 0 ts.length 4, sl bI s.cells, .own i2 0 s.read.length 1]
theorem yY {ts : List Int} {bd : List AL.Stmt} {pts : List Pnt} {s : Mc} {v : Nat} {N : Nat} {Q : Exit → AS → Prop} {all : Array Oper} {rest : List Oper} {tsl : List (Nat × AV)} {hsl : List (Nat × Option (List AV))} {nidl : Nat} {z0 : Lo} {md : Md} {d : Nat} {ty : TypeId} {pos : String} {af : Array Edge} {tys : Array TypeId} {x0 x1 : Operand} {i0 i1 i2 : Nat} (ha0 : ev (lk tsl) x0 = some (.optr i0 0)) (ha1 : ev (lk tsl) x1 = some (iv (v : Int))) (hH0 : aP hsl i0 = some (mO ts bd pts i1 i2 s)) (hH1 : aP hsl i1 = some (flat c9 s.slots)) (hH2 : aP hsl i2 = some (flat cI s.read)) (hdd : Go.AL.distinct [i0, i1, i2] = true) (hmc : MC Tryz.prog 204 [.optr 0 0, iv (v : Int)] [(0, some (mO ts bd pts 1 2 s)), (1, some (flat c9 s.slots)), (2, some (flat cI s.read))] 3 (fun _ : Unit => True) (fun _ => iv (nX (bD s.cells s.slots[v]!.ptr true))) (fun _ => [(0, some ([aG ts bd pts, .own 1 0 ts.length 4, sl bI (kW s.cells s.slots[v]!.ptr), .own 2 0 s.read.length 1])), (1, some (flat c9 s.slots)), (2, some (flat cI s.read))])) (hM : Nat.ble (nidl + 0) aS = true) (hN : Nat.blt d N = true) {md' : Md} [hmd : MdA md (fG [x0, x1] ++ [.inr i0, .inr i1, .inr i2]) (List.map Sum.inr (List.map Prod.fst ([(i0, some ([aG ts bd pts, .own i1 0 ts.length 4, sl bI (kW s.cells s.slots[v]!.ptr), .own i2 0 s.read.length 1])), (i1, some (flat c9 s.slots)), (i2, some (flat cI s.read))] : List (Nat × Option (List AV)))) ++ [.inl d]) md'] (kk : RW Tryz.prog N all Q md' rest ⟨(d, iv (nX (bD s.cells s.slots[v]!.ptr true))) :: tsl, g6 hsl [(i0, some ([aG ts bd pts, .own i1 0 ts.length 4, sl bI (kW s.cells s.slots[v]!.ptr), .own i2 0 s.read.length 1])), (i1, some (flat c9 s.slots)), (i2, some (flat cI s.read))], nidl + 0, z0⟩) : RW Tryz.prog N all Q md (⟨some d, .call ⟨.value (.func 204), #[x0, x1], tys⟩, ty, pos, af, none⟩ :: rest) ⟨tsl, hsl, nidl, z0⟩ := by
 refine aY [i0, i1, i2] 3 [(i0, some ([aG ts bd pts, .own i1 0 ts.length 4, sl bI (kW s.cells s.slots[v]!.ptr), .own i2 0 s.read.length 1])), (i1, some (flat c9 s.slots)), (i2, some (flat cI s.read))] hmc (avs := [.optr i0 0, iv (v : Int)]) ?_ hdd ?_ rfl ?_ (by simpa using hM) ?_ ?_ ?_ hN (md' := md') (hmd := hmd) kk
 ·show evL (lk tsl) [x0, x1] = _
  simp only [evL, ha0, ha1]
 ·exact ⟨⟨_, _, rfl, hH0, by (repeat' (first|exact RnL.purI inferInstance|exact RnV.purI inferInstance|exact RnV.own rfl|refine RnL.cons ?_ ?_))⟩, ⟨⟨_, _, rfl, hH1, by (repeat' (exact RnL.purI inferInstance))⟩, ⟨⟨_, _, rfl, hH2, by (repeat' (exact RnL.purI inferInstance))⟩, trivial⟩⟩⟩
 ·(repeat' (first|exact RnL.purI inferInstance|exact RnV.optr rfl|refine RnL.cons ?_ ?_))
 ·(repeat' (exact RnV.purI inferInstance))
 ·simp [cK]
 ·(repeat' (first|exact trivial|(refine And.intro ⟨0, _, rfl, rfl, ?_⟩ ?_)|(refine And.intro ⟨1, _, rfl, rfl, ?_⟩ ?_)|(refine And.intro ⟨2, _, rfl, rfl, ?_⟩ ?_)|exact RnL.purI inferInstance|exact RnV.purI inferInstance|exact RnV.own rfl|refine RnL.cons ?_ ?_))
theorem wX (ts : List Int) (bd : List AL.Stmt) (pts : List Pnt) (s : Mc) (v : Nat) (hm : OkM s.cells) (hsl : s.slots.length = ts.length) (hv : v < ts.length) : MC Tryz.prog 204 [.optr 0 0, iv (v : Int)] [(0, some (mO ts bd pts 1 2 s)), (1, some (flat c9 s.slots)), (2, some (flat cI s.read))] 3 (fun _ : Unit => True) (fun _ => iv (nX (bD s.cells s.slots[v]!.ptr true))) (fun _ => [(0, some ([aG ts bd pts, .own 1 0 ts.length 4, sl bI (kW s.cells s.slots[v]!.ptr), .own 2 0 s.read.length 1])), (1, some (flat c9 s.slots)), (2, some (flat cI s.read))]) := by
 have hfc := zI s.cells hm s.slots[v]!.ptr
 refine aT Tryz.func204 Tryz.ntmps204 ?_
 repeat' (first|(apply aH;first|(apply iG;(case hx|hH => rfl);(case hf|hg|hα => infer_instance);(case hk => omega);(case hj => decide);(case hc => exact (rfl:_=[_, _]));(case h0|hN => rfl))|(apply aA (k := 243);rfl;exact hfc;exact Pur.pf;rfl)|(apply aA (k := 201);rfl;(apply rC);(rfl);rfl))|refine aE ?_|refine aF ?_|(refine aK ?_ ?_ <;> intro hc hq <;> try (exfalso;omega))|refine bO ?_|fail)
 ·have hk : ¬ bD s.cells s.slots[v]!.ptr true = 0 := by assumption
  (refine aD rfl ?_; refine aQ () trivial ?_ ⟨.inr (Eq.trans (b := some _) rfl ?_), ⟨.inr (Eq.trans (b := some _) rfl ?_), ⟨.inr (Eq.trans (b := some _) rfl ?_), trivial⟩⟩⟩)
  ·show iv (e7 _) = iv (nX _)
   unfold nX;rw [if_neg hk]
  ·rfl
  ·rfl
  ·rfl
 ·have hk : bD s.cells s.slots[v]!.ptr true = 0 := by assumption
  (refine aD rfl ?_; refine aQ () trivial ?_ ⟨.inr (Eq.trans (b := some _) rfl ?_), ⟨.inr (Eq.trans (b := some _) rfl ?_), ⟨.inr (Eq.trans (b := some _) rfl ?_), trivial⟩⟩⟩)
  ·rw [hk]; rfl
  ·rfl
  ·rfl
  ·rfl
theorem KS (ts : List Int) (bd : List AL.Stmt) (pts : List Pnt) (s : Mc) (v : Nat) (y : Sl) (hm : OkM s.cells) (hsl : s.slots.length = ts.length) (hv : v < ts.length) : MC Tryz.prog 197 [.optr 0 0, iv (v : Int), FZ y] [(0, some (mO ts bd pts 1 2 s)), (1, some (flat c9 s.slots)), (2, some (flat cI s.read))] 3 (fun _ : Unit => True) (fun _ => iv (bW ts s v y).2) (fun _ => [(0, some (mO ts bd pts 1 2 (bW ts s v y).1)), (1, some (flat c9 (bW ts s v y).1.slots)), (2, some (flat cI (bW ts s v y).1.read))]) := by
 have hfr := wX ts bd pts s v hm hsl hv
 refine aT Tryz.func197 Tryz.ntmps197 ?_
 repeat' (first|(apply aH;first|(apply yY (ts := ts) (bd := bd) (pts := pts) (s := s) (v := v);rfl;rfl;rfl;rfl;rfl;rfl;exact hfr;rfl;rfl)|(apply a7;rfl;rfl;rfl;rfl;rfl;(rw [aJ]; simp only [gB] <;> omega);(exact vH (by (omega)))))|refine aE ?_|refine aF ?_|(refine aK ?_ ?_ <;> intro hc hq <;> try (exfalso;omega))|(refine bQ ?_ ?_ <;> intro hg hq <;> try (exfalso;omega))|refine bO ?_|fail)
 ·have hp : bW ts s v y = (⟨s.slots.set v y, kW s.cells s.slots[v]!.ptr, s.read⟩, nX (bD s.cells s.slots[v]!.ptr true)) := if_pos ⟨by assumption, by assumption⟩
  rw [hp]
  (refine aD rfl ?_; refine aQ () trivial ?_ ⟨.inr (Eq.trans (b := some _) rfl ?_), ⟨.inr (Eq.trans (b := some _) rfl ?_), ⟨.inr (Eq.trans (b := some _) rfl ?_), trivial⟩⟩⟩)
  ·rfl
  ·rfl
  ·rfl
  ·rfl
 all_goals (
  have hp : bW ts s v y = (⟨s.slots.set v y, s.cells, s.read⟩, -1) := if_neg (by
   rintro ⟨q1, q2⟩
   first|(exact (by assumption : ¬ ts[v]! = 2) q1)|(rw [(by assumption : s.slots[v]!.set = false)] at q2;exact absurd q2 (by decide)))
  rw [hp]
  (refine aD rfl ?_; refine aQ () trivial ?_ ⟨.inr (Eq.trans (b := some _) rfl ?_), ⟨.inr (Eq.trans (b := some _) rfl ?_), ⟨.inr (Eq.trans (b := some _) rfl ?_), trivial⟩⟩⟩)
  ·rfl
  ·rfl
  ·rfl
  ·rfl)
theorem JH {ts : List Int} {bd : List AL.Stmt} {pts : List Pnt} {s : Mc} {N : Nat} {Q : Exit → AS → Prop} {all : Array Oper} {rest : List Oper} {tsl : List (Nat × AV)} {hsl : List (Nat × Option (List AV))} {nidl : Nat} {z0 : Lo} {md : Md} {d : Nat} {ty : TypeId} {pos : String} {af : Array Edge} {tys : Array TypeId} {x0 : Operand} {i0 i1 i2 : Nat} (ha0 : ev (lk tsl) x0 = some (.optr i0 0)) (hH0 : aP hsl i0 = some (mO ts bd pts i1 i2 s)) (hH1 : aP hsl i1 = some (flat c9 s.slots)) (hH2 : aP hsl i2 = some (flat cI s.read)) (hdd : Go.AL.distinct [i0, i1, i2] = true) (hmc : MC Tryz.prog 205 [.optr 0 0] [(0, some (mO ts bd pts 1 2 s)), (1, some (flat c9 s.slots)), (2, some (flat cI s.read))] 3 (fun _ : Unit => True) (fun _ => iv (cV ts ts.length 0 s).2) (fun _ => [(0, some (mO ts bd pts 1 2 (cV ts ts.length 0 s).1)), (1, some (flat c9 (cV ts ts.length 0 s).1.slots)), (2, some (flat cI (cV ts ts.length 0 s).1.read))])) (hM : Nat.ble (nidl + 0) aS = true) (hN : Nat.blt d N = true) {md' : Md} [hmd : MdA md (fG [x0] ++ [.inr i0, .inr i1, .inr i2]) (List.map Sum.inr (List.map Prod.fst ([(i0, some (mO ts bd pts i1 i2 (cV ts ts.length 0 s).1)), (i1, some (flat c9 (cV ts ts.length 0 s).1.slots)), (i2, some (flat cI (cV ts ts.length 0 s).1.read))] : List (Nat × Option (List AV)))) ++ [.inl d]) md'] (kk : RW Tryz.prog N all Q md' rest ⟨(d, iv (cV ts ts.length 0 s).2) :: tsl, g6 hsl [(i0, some (mO ts bd pts i1 i2 (cV ts ts.length 0 s).1)), (i1, some (flat c9 (cV ts ts.length 0 s).1.slots)), (i2, some (flat cI (cV ts ts.length 0 s).1.read))], nidl + 0, z0⟩) : RW Tryz.prog N all Q md (⟨some d, .call ⟨.value (.func 205), #[x0], tys⟩, ty, pos, af, none⟩ :: rest) ⟨tsl, hsl, nidl, z0⟩ := by
 refine aY [i0, i1, i2] 3 [(i0, some (mO ts bd pts i1 i2 (cV ts ts.length 0 s).1)), (i1, some (flat c9 (cV ts ts.length 0 s).1.slots)), (i2, some (flat cI (cV ts ts.length 0 s).1.read))] hmc (avs := [.optr i0 0]) ?_ hdd ?_ rfl ?_ (by simpa using hM) ?_ ?_ ?_ hN (md' := md') (hmd := hmd) kk
 ·show evL (lk tsl) [x0] = _
  simp only [evL, ha0]
 ·exact ⟨⟨_, _, rfl, hH0, by (repeat' (first|exact RnL.purI inferInstance|exact RnV.purI inferInstance|exact RnV.own rfl|refine RnL.cons ?_ ?_))⟩, ⟨⟨_, _, rfl, hH1, by (repeat' (exact RnL.purI inferInstance))⟩, ⟨⟨_, _, rfl, hH2, by (repeat' (exact RnL.purI inferInstance))⟩, trivial⟩⟩⟩
 ·(repeat' (first|exact RnL.purI inferInstance|exact RnV.optr rfl|refine RnL.cons ?_ ?_))
 ·(repeat' (exact RnV.purI inferInstance))
 ·simp [cK]
 ·(repeat' (first|exact trivial|(refine And.intro ⟨0, _, rfl, rfl, ?_⟩ ?_)|(refine And.intro ⟨1, _, rfl, rfl, ?_⟩ ?_)|(refine And.intro ⟨2, _, rfl, rfl, ?_⟩ ?_)|exact RnL.purI inferInstance|exact RnV.purI inferInstance|exact RnV.own rfl|refine RnL.cons ?_ ?_))
theorem LC (ts : List Int) (bd : List AL.Stmt) (pts : List Pnt) (s : Mc) (hm : OkM s.cells) (hsl : s.slots.length = ts.length) (hl : ts.length ≤ 1000000) : MC Tryz.prog 205 [.optr 0 0] [(0, some (mO ts bd pts 1 2 s)), (1, some (flat c9 s.slots)), (2, some (flat cI s.read))] 3 (fun _ : Unit => True) (fun _ => iv (cV ts ts.length 0 s).2) (fun _ => [(0, some (mO ts bd pts 1 2 (cV ts ts.length 0 s).1)), (1, some (flat c9 (cV ts ts.length 0 s).1.slots)), (2, some (flat cI (cV ts ts.length 0 s).1.read))]) := by
 refine aT Tryz.func205 Tryz.ntmps205 ?_
 repeat' (first|refine aE ?_|refine aF ?_|fail)
 refine aI (σ := Nat × Mc) [0, 13, 14] [] (fun k => [(15, iv (k.1 : Int))]) (fun k => [(0, some (mO ts bd pts 1 2 k.2)), (1, some (flat c9 k.2.slots)), (2, some (flat cI k.2.read))]) (fun k => k.1 ≤ ts.length ∧ cV ts (ts.length - k.1) k.1 k.2 = cV ts ts.length 0 s ∧ OkM k.2.cells ∧ k.2.slots.length = ts.length) (fun k => ts.length - k.1) (0, s) ⟨Nat.zero_le _, rfl, hm, hsl⟩ ?_
 rintro ⟨v, q⟩ ⟨hv, hf, hmq, hlq⟩
 dsimp only at hv hf hmq hlq ⊢
 by_cases hvn : v < ts.length
 ·have hfr := wX ts bd pts q v hmq hlq hvn
  repeat' (first|(apply aH;first|(apply yY (ts := ts) (bd := bd) (pts := pts) (s := q) (v := v);rfl;rfl;rfl;rfl;rfl;rfl;exact hfr;rfl;rfl)|(apply a7;rfl;rfl;rfl;rfl;rfl;(rw [aJ]; simp only [gB] <;> omega);(exact vH (by (omega)))))|refine aE ?_|refine aF ?_|(refine aK ?_ ?_ <;> intro hc hq <;> try (exfalso;omega))|(refine bQ ?_ ?_ <;> intro hg hq <;> try (exfalso;omega))|fail)
  ·(refine bC (v + 1, q) (Le.renA []) ?_ ?_)
   ·refine ⟨by omega, ?_, hmq, hlq⟩
    dsimp only
    rw [← hf, show ts.length - v = (ts.length - (v + 1)) + 1 by omega, yG (fun h => by
     have h2 : q.slots[v]!.set = false := by assumption
     rw [h2] at h;exact absurd h.2 (by decide))]
   ·dsimp only;omega
  ·have hk : ¬ bD q.cells q.slots[v]!.ptr true = 0 := fun h => by
    have h2 : ¬ nX (bD q.cells q.slots[v]!.ptr true) = -1 := by assumption
    rw [h] at h2;exact h2 rfl
   have hq2 : cV ts ts.length 0 s = (⟨q.slots, kW q.cells q.slots[v]!.ptr, q.read⟩, e7 (bD q.cells q.slots[v]!.ptr true)) := by
    rw [← hf, show ts.length - v = (ts.length - (v + 1)) + 1 by omega, FU ⟨by assumption, by assumption⟩ hk]
   rw [hq2]
   (refine aD rfl ?_; refine aQ () trivial ?_ ⟨.inr (Eq.trans (b := some _) rfl ?_), ⟨.inr (Eq.trans (b := some _) rfl ?_), ⟨.inr (Eq.trans (b := some _) rfl ?_), trivial⟩⟩⟩)
   ·show iv (nX _) = iv (e7 _)
    unfold nX;rw [if_neg hk]
   ·rfl
   ·rfl
   ·rfl
  ·have hk : bD q.cells q.slots[v]!.ptr true = 0 := by
    have h2 : nX (bD q.cells q.slots[v]!.ptr true) = -1 := by assumption
    unfold nX at h2
    by_cases h : bD q.cells q.slots[v]!.ptr true = 0
    ·exact h
    ·rw [if_neg h] at h2;unfold e7 at h2;split at h2 <;> cases h2
   have hls : (q.slots.set v mQ).length = q.slots.length := List.length_set
   (refine bC (v + 1, ⟨q.slots.set v mQ, kW q.cells q.slots[v]!.ptr, q.read⟩) (Le.renA []) ?_ ?_)
   ·refine ⟨by dsimp only; omega, ?_, hmq.fr _, by show (q.slots.set v mQ).length = _; rw [List.length_set]; exact hlq⟩
    dsimp only
    rw [← hf, show ts.length - v = (ts.length - (v + 1)) + 1 by omega, G7 ⟨by assumption, by assumption⟩ hk]
   ·dsimp only;omega
  ·(refine bC (v + 1, q) (Le.renA []) ?_ ?_)
   ·refine ⟨by omega, ?_, hmq, hlq⟩
    dsimp only
    rw [← hf, show ts.length - v = (ts.length - (v + 1)) + 1 by omega, yG (fun h => by
     have h2 : ¬ ts[v]! = 2 := by assumption
     exact h2 h.1)]
   ·dsimp only;omega
 ·have hve : v = ts.length := by omega
  have hq2 : cV ts ts.length 0 s = (q, 0) := by rw [← hf, hve, Nat.sub_self]; rfl
  repeat' (first|refine aE ?_|refine aF ?_|(refine aK ?_ ?_ <;> intro hc hq <;> try (exfalso;omega))|fail)
  rw [hq2]
  (refine aD rfl ?_; refine aQ () trivial ?_ ⟨.inr (Eq.trans (b := some _) rfl ?_), ⟨.inr (Eq.trans (b := some _) rfl ?_), ⟨.inr (Eq.trans (b := some _) rfl ?_), trivial⟩⟩⟩)
  ·rfl
  ·rfl
  ·rfl
  ·rfl
def dO (ts : List Int) (s : Mc) (x : Pnt) : Mc × Int := if cT ts s x = true then (s, 2) else dG ts s x
theorem uT {ts : List Int} {s : Mc} {x : Pnt} (h : cT ts s x = true) : dO ts s x = (s, 2) := if_pos h
theorem qR {ts : List Int} {s : Mc} {x : Pnt} (h : cT ts s x = false) : dO ts s x = dG ts s x := if_neg (by rw [h]; decide)
theorem gQ {ts : List Int} {x : Pnt} {v : Int} (h : v ∈ aZ (wS ts x [1, 2, 3])) : 0 ≤ v ∧ v < ts.length := by
 obtain ⟨v', h3, h4, rfl⟩ := cO.1 h
 rw [cL, Bool.and_eq_true, decide_eq_true_eq] at h4
 omega
theorem cH {ts : List Int} {s : Mc} {x : Pnt} (htl : ts.length ≤ 6) : cT ts s x = true ↔ ∃ v ∈ aZ (wS ts x [1, 2, 3]), s.slots[v.toNat]!.set = false := by
 constructor
 ·intro h
  obtain ⟨v, hv, hne, hs⟩ := AX h
  refine ⟨(v : Int), cO.2 ⟨v, by omega, ?_, rfl⟩, hs⟩
  have hb := nP ts x v
  rw [cL, decide_eq_true hv, Bool.true_and, decide_eq_true_eq]
  simp only [List.mem_cons, List.not_mem_nil, or_false]; omega
 ·rintro ⟨v, hv, hs⟩
  obtain ⟨v', h3, h4, rfl⟩ := cO.1 hv
  rw [cL, Bool.and_eq_true, decide_eq_true_eq, decide_eq_true_eq] at h4
  unfold cT
  refine List.any_eq_true.2 ⟨v', List.mem_range.2 h4.1, ?_⟩
  rw [Bool.and_eq_true, decide_eq_true_eq]
  refine ⟨fun e => ?_, by rw [show s.slots[v']!.set = false from hs]; rfl⟩
  have h5 := h4.2
  simp only [List.mem_cons, List.not_mem_nil, or_false] at h5;omega
theorem KC {ts : List Int} {bd : List AL.Stmt} {pts : List Pnt} {s : Mc} {x : Pnt} {N : Nat} {Q : Exit → AS → Prop} {all : Array Oper} {rest : List Oper} {tsl : List (Nat × AV)} {hsl : List (Nat × Option (List AV))} {nidl : Nat} {z0 : Lo} {md : Md} {d : Nat} {ty : TypeId} {pos : String} {af : Array Edge} {tys : Array TypeId} {x0 x1 : Operand} {i0 i1 i2 : Nat} (ha0 : ev (lk tsl) x0 = some (.optr i0 0)) (ha1 : ev (lk tsl) x1 = some (dJ x)) (hH0 : aP hsl i0 = some (mO ts bd pts i1 i2 s)) (hH1 : aP hsl i1 = some (flat c9 s.slots)) (hH2 : aP hsl i2 = some (flat cI s.read)) (hdd : Go.AL.distinct [i0, i1, i2] = true) (hmc : MC Tryz.prog 140 [.optr 0 0, dJ x] [(0, some (mO ts bd pts 1 2 s)), (1, some (flat c9 s.slots)), (2, some (flat cI s.read))] 3 (fun _ : Unit => True) (fun _ => iv (dO ts s x).2) (fun _ => [(0, some (mO ts bd pts 1 2 (dO ts s x).1)), (1, some (flat c9 (dO ts s x).1.slots)), (2, some (flat cI (dO ts s x).1.read))])) (hM : Nat.ble (nidl + 0) aS = true) (hN : Nat.blt d N = true) {md' : Md} [hmd : MdA md (fG [x0, x1] ++ [.inr i0, .inr i1, .inr i2]) (List.map Sum.inr (List.map Prod.fst ([(i0, some (mO ts bd pts i1 i2 (dO ts s x).1)), (i1, some (flat c9 (dO ts s x).1.slots)), (i2, some (flat cI (dO ts s x).1.read))] : List (Nat × Option (List AV)))) ++ [.inl d]) md'] (kk : RW Tryz.prog N all Q md' rest ⟨(d, iv (dO ts s x).2) :: tsl, g6 hsl [(i0, some (mO ts bd pts i1 i2 (dO ts s x).1)), (i1, some (flat c9 (dO ts s x).1.slots)), (i2, some (flat cI (dO ts s x).1.read))], nidl + 0, z0⟩) : RW Tryz.prog N all Q md (⟨some d, .call ⟨.value (.func 140), #[x0, x1], tys⟩, ty, pos, af, none⟩ :: rest) ⟨tsl, hsl, nidl, z0⟩ := by
 refine aY [i0, i1, i2] 3 [(i0, some (mO ts bd pts i1 i2 (dO ts s x).1)), (i1, some (flat c9 (dO ts s x).1.slots)), (i2, some (flat cI (dO ts s x).1.read))] hmc (avs := [.optr i0 0, dJ x]) ?_ hdd ?_ rfl ?_ (by simpa using hM) ?_ ?_ ?_ hN (md' := md') (hmd := hmd) kk
 ·show evL (lk tsl) [x0, x1] = _
  simp only [evL, ha0, ha1]
 ·exact ⟨⟨_, _, rfl, hH0, by (repeat' (first|exact RnL.purI inferInstance|exact RnV.purI inferInstance|exact RnV.own rfl|refine RnL.cons ?_ ?_))⟩, ⟨⟨_, _, rfl, hH1, by (repeat' (exact RnL.purI inferInstance))⟩, ⟨⟨_, _, rfl, hH2, by (repeat' (exact RnL.purI inferInstance))⟩, trivial⟩⟩⟩
 ·(repeat' (first|exact RnL.purI inferInstance|exact RnV.optr rfl|refine RnL.cons ?_ ?_))
 ·(repeat' (exact RnV.purI inferInstance))
 ·simp [cK]
 ·(repeat' (first|exact trivial|(refine And.intro ⟨0, _, rfl, rfl, ?_⟩ ?_)|(refine And.intro ⟨1, _, rfl, rfl, ?_⟩ ?_)|(refine And.intro ⟨2, _, rfl, rfl, ?_⟩ ?_)|exact RnL.purI inferInstance|exact RnV.purI inferInstance|exact RnV.own rfl|refine RnL.cons ?_ ?_))
theorem jW {ts : List Int} {bd : List AL.Stmt} {pts : List Pnt} {s : Mc} {v : Int} {y : Sl} {N : Nat} {Q : Exit → AS → Prop} {all : Array Oper} {rest : List Oper} {tsl : List (Nat × AV)} {hsl : List (Nat × Option (List AV))} {nidl : Nat} {z0 : Lo} {md : Md} {d : Nat} {ty : TypeId} {pos : String} {af : Array Edge} {tys : Array TypeId} {x0 x1 x2 : Operand} {i0 i1 i2 : Nat} (ha0 : ev (lk tsl) x0 = some (.optr i0 0)) (ha1 : ev (lk tsl) x1 = some (iv v)) (ha2 : ev (lk tsl) x2 = some (FZ y)) (hH0 : aP hsl i0 = some (mO ts bd pts i1 i2 s)) (hH1 : aP hsl i1 = some (flat c9 s.slots)) (hH2 : aP hsl i2 = some (flat cI s.read)) (hdd : Go.AL.distinct [i0, i1, i2] = true) (hmc : MC Tryz.prog 197 [.optr 0 0, iv v, FZ y] [(0, some (mO ts bd pts 1 2 s)), (1, some (flat c9 s.slots)), (2, some (flat cI s.read))] 3 (fun _ : Unit => True) (fun _ => iv (bW ts s v.toNat y).2) (fun _ => [(0, some (mO ts bd pts 1 2 (bW ts s v.toNat y).1)), (1, some (flat c9 (bW ts s v.toNat y).1.slots)), (2, some (flat cI (bW ts s v.toNat y).1.read))])) (hM : Nat.ble (nidl + 0) aS = true) (hN : Nat.blt d N = true) {md' : Md} [hmd : MdA md (fG [x0, x1, x2] ++ [.inr i0, .inr i1, .inr i2]) (List.map Sum.inr (List.map Prod.fst ([(i0, some (mO ts bd pts i1 i2 (bW ts s v.toNat y).1)), (i1, some (flat c9 (bW ts s v.toNat y).1.slots)), (i2, some (flat cI (bW ts s v.toNat y).1.read))] : List (Nat × Option (List AV)))) ++ [.inl d]) md'] (kk : RW Tryz.prog N all Q md' rest ⟨(d, iv (bW ts s v.toNat y).2) :: tsl, g6 hsl [(i0, some (mO ts bd pts i1 i2 (bW ts s v.toNat y).1)), (i1, some (flat c9 (bW ts s v.toNat y).1.slots)), (i2, some (flat cI (bW ts s v.toNat y).1.read))], nidl + 0, z0⟩) : RW Tryz.prog N all Q md (⟨some d, .call ⟨.value (.func 197), #[x0, x1, x2], tys⟩, ty, pos, af, none⟩ :: rest) ⟨tsl, hsl, nidl, z0⟩ := by
 refine aY [i0, i1, i2] 3 [(i0, some (mO ts bd pts i1 i2 (bW ts s v.toNat y).1)), (i1, some (flat c9 (bW ts s v.toNat y).1.slots)), (i2, some (flat cI (bW ts s v.toNat y).1.read))] hmc (avs := [.optr i0 0, iv v, FZ y]) ?_ hdd ?_ rfl ?_ (by simpa using hM) ?_ ?_ ?_ hN (md' := md') (hmd := hmd) kk
 ·show evL (lk tsl) [x0, x1, x2] = _
  simp only [evL, ha0, ha1, ha2]
 ·exact ⟨⟨_, _, rfl, hH0, by (repeat' (first|exact RnL.purI inferInstance|exact RnV.purI inferInstance|exact RnV.own rfl|refine RnL.cons ?_ ?_))⟩, ⟨⟨_, _, rfl, hH1, by (repeat' (exact RnL.purI inferInstance))⟩, ⟨⟨_, _, rfl, hH2, by (repeat' (exact RnL.purI inferInstance))⟩, trivial⟩⟩⟩
 ·(repeat' (first|exact RnL.purI inferInstance|exact RnV.optr rfl|refine RnL.cons ?_ ?_))
 ·(repeat' (exact RnV.purI inferInstance))
 ·simp [cK]
 ·(repeat' (first|exact trivial|(refine And.intro ⟨0, _, rfl, rfl, ?_⟩ ?_)|(refine And.intro ⟨1, _, rfl, rfl, ?_⟩ ?_)|(refine And.intro ⟨2, _, rfl, rfl, ?_⟩ ?_)|exact RnL.purI inferInstance|exact RnV.purI inferInstance|exact RnV.own rfl|refine RnL.cons ?_ ?_))
theorem mK (ts : List Int) (bd : List AL.Stmt) (pts : List Pnt) (s : Mc) (v : Int) (y : Sl) (hm : OkM s.cells) (hsl : s.slots.length = ts.length) (hv : 0 ≤ v ∧ v < ts.length) : MC Tryz.prog 197 [.optr 0 0, iv v, FZ y] [(0, some (mO ts bd pts 1 2 s)), (1, some (flat c9 s.slots)), (2, some (flat cI s.read))] 3 (fun _ : Unit => True) (fun _ => iv (bW ts s v.toNat y).2) (fun _ => [(0, some (mO ts bd pts 1 2 (bW ts s v.toNat y).1)), (1, some (flat c9 (bW ts s v.toNat y).1.slots)), (2, some (flat cI (bW ts s v.toNat y).1.read))]) := by
 have h := KS ts bd pts s v.toNat y hm hsl (by omega)
 rw [Int.toNat_of_nonneg hv.1] at h
 exact h
theorem EA {ts : List Int} {bd : List AL.Stmt} {pts : List Pnt} {s : Mc} {v : Int} {N : Nat} {Q : Exit → AS → Prop} {all : Array Oper} {rest : List Oper} {tsl : List (Nat × AV)} {hsl : List (Nat × Option (List AV))} {nidl : Nat} {z0 : Lo} {md : Md} {d : Nat} {ty : TypeId} {pos : String} {af : Array Edge} {tys : Array TypeId} {x0 x1 : Operand} {i0 i1 i2 : Nat} (ha0 : ev (lk tsl) x0 = some (.optr i0 0)) (ha1 : ev (lk tsl) x1 = some (iv v)) (hH0 : aP hsl i0 = some (mO ts bd pts i1 i2 s)) (hH1 : aP hsl i1 = some (flat c9 s.slots)) (hH2 : aP hsl i2 = some (flat cI s.read)) (hdd : Go.AL.distinct [i0, i1, i2] = true) (hmc : MC Tryz.prog 204 [.optr 0 0, iv v] [(0, some (mO ts bd pts 1 2 s)), (1, some (flat c9 s.slots)), (2, some (flat cI s.read))] 3 (fun _ : Unit => True) (fun _ => iv (nX (bD s.cells s.slots[v.toNat]!.ptr true))) (fun _ => [(0, some ([aG ts bd pts, .own 1 0 ts.length 4, sl bI (kW s.cells s.slots[v.toNat]!.ptr), .own 2 0 s.read.length 1])), (1, some (flat c9 s.slots)), (2, some (flat cI s.read))])) (hM : Nat.ble (nidl + 0) aS = true) (hN : Nat.blt d N = true) {md' : Md} [hmd : MdA md (fG [x0, x1] ++ [.inr i0, .inr i1, .inr i2]) (List.map Sum.inr (List.map Prod.fst ([(i0, some ([aG ts bd pts, .own i1 0 ts.length 4, sl bI (kW s.cells s.slots[v.toNat]!.ptr), .own i2 0 s.read.length 1])), (i1, some (flat c9 s.slots)), (i2, some (flat cI s.read))] : List (Nat × Option (List AV)))) ++ [.inl d]) md'] (kk : RW Tryz.prog N all Q md' rest ⟨(d, iv (nX (bD s.cells s.slots[v.toNat]!.ptr true))) :: tsl, g6 hsl [(i0, some ([aG ts bd pts, .own i1 0 ts.length 4, sl bI (kW s.cells s.slots[v.toNat]!.ptr), .own i2 0 s.read.length 1])), (i1, some (flat c9 s.slots)), (i2, some (flat cI s.read))], nidl + 0, z0⟩) : RW Tryz.prog N all Q md (⟨some d, .call ⟨.value (.func 204), #[x0, x1], tys⟩, ty, pos, af, none⟩ :: rest) ⟨tsl, hsl, nidl, z0⟩ := by
 refine aY [i0, i1, i2] 3 [(i0, some ([aG ts bd pts, .own i1 0 ts.length 4, sl bI (kW s.cells s.slots[v.toNat]!.ptr), .own i2 0 s.read.length 1])), (i1, some (flat c9 s.slots)), (i2, some (flat cI s.read))] hmc (avs := [.optr i0 0, iv v]) ?_ hdd ?_ rfl ?_ (by simpa using hM) ?_ ?_ ?_ hN (md' := md') (hmd := hmd) kk
 ·show evL (lk tsl) [x0, x1] = _
  simp only [evL, ha0, ha1]
 ·exact ⟨⟨_, _, rfl, hH0, by (repeat' (first|exact RnL.purI inferInstance|exact RnV.purI inferInstance|exact RnV.own rfl|refine RnL.cons ?_ ?_))⟩, ⟨⟨_, _, rfl, hH1, by (repeat' (exact RnL.purI inferInstance))⟩, ⟨⟨_, _, rfl, hH2, by (repeat' (exact RnL.purI inferInstance))⟩, trivial⟩⟩⟩
 ·(repeat' (first|exact RnL.purI inferInstance|exact RnV.optr rfl|refine RnL.cons ?_ ?_))
 ·(repeat' (exact RnV.purI inferInstance))
 ·simp [cK]
 ·(repeat' (first|exact trivial|(refine And.intro ⟨0, _, rfl, rfl, ?_⟩ ?_)|(refine And.intro ⟨1, _, rfl, rfl, ?_⟩ ?_)|(refine And.intro ⟨2, _, rfl, rfl, ?_⟩ ?_)|exact RnL.purI inferInstance|exact RnV.purI inferInstance|exact RnV.own rfl|refine RnL.cons ?_ ?_))
theorem Fe (ts : List Int) (bd : List AL.Stmt) (pts : List Pnt) (s : Mc) (v : Int) (hm : OkM s.cells) (hsl : s.slots.length = ts.length) (hv : 0 ≤ v ∧ v < ts.length) : MC Tryz.prog 204 [.optr 0 0, iv v] [(0, some (mO ts bd pts 1 2 s)), (1, some (flat c9 s.slots)), (2, some (flat cI s.read))] 3 (fun _ : Unit => True) (fun _ => iv (nX (bD s.cells s.slots[v.toNat]!.ptr true))) (fun _ => [(0, some ([aG ts bd pts, .own 1 0 ts.length 4, sl bI (kW s.cells s.slots[v.toNat]!.ptr), .own 2 0 s.read.length 1])), (1, some (flat c9 s.slots)), (2, some (flat cI s.read))]) := by
 have h := wX ts bd pts s v.toNat hm hsl (by omega)
 rw [Int.toNat_of_nonneg hv.1] at h
 exact h
theorem Nn (ts : List Int) (bd : List AL.Stmt) (pts : List Pnt) (s : Mc) (x : Pnt) (htl : ts.length ≤ 6) (hm : OkM s.cells) (hsl : s.slots.length = ts.length) (ho : x.op = 1) (hx : 0 ≤ x.x ∧ x.x < ts.length) : MC Tryz.prog 140 [.optr 0 0, dJ x] [(0, some (mO ts bd pts 1 2 s)), (1, some (flat c9 s.slots)), (2, some (flat cI s.read))] 3 (fun _ : Unit => True) (fun _ => iv (dO ts s x).2) (fun _ => [(0, some (mO ts bd pts 1 2 (dO ts s x).1)), (1, some (flat c9 (dO ts s x).1.slots)), (2, some (flat cI (dO ts s x).1.read))]) := by
 have hus := fT ts bd pts x htl
 have hsm : Sm (wS ts x [1, 2, 3]) := bS (by omega)
 obtain ⟨L, hL⟩ : ∃ L, L = aZ (wS ts x [1, 2, 3]) := ⟨_, rfl⟩
 have hLl : L.length ≤ 62 := by rw [hL]; exact b6 _
 have hmem : ∀ k, k < L.length → 0 ≤ L[k]! ∧ L[k]! < s.slots.length := fun k hk => by
  rw [hsl]; exact gQ (by rw [← hL]; exact aR _ _ hk)
 refine aT Tryz.func140 Tryz.ntmps140 ?_
 repeat' (first|(apply aH;first|(apply aA (k := 158);rfl;exact hus;exact Pur.pf;rfl)|(apply aA (k := 120);rfl;(apply fK <;> (assumption));(rfl);rfl))|refine aE ?_|refine aF ?_|refine bO ?_|fail)
 rw [← hL]
 refine aI (σ := Nat) [0, 3, 26, 27] [0, 1, 2, 3] (fun k => [(28, iv (k : Int))]) (fun k => []) (fun k => k ≤ L.length ∧ ∀ j, j < k → s.slots[(L[j]!).toNat]!.set = true) (fun k => L.length - k) (0) ⟨Nat.zero_le _, fun j h => absurd h (by omega)⟩ ?_
 rintro k ⟨hk, hall⟩
 by_cases hkn : k < L.length
 ·have hmk := hmem k hkn
  repeat' (first|refine aE ?_|refine aF ?_|(refine aK ?_ ?_ <;> intro hc hq <;> try (exfalso;omega))|fail)
  ·have hu : cT ts s x = true := (cH htl).2 ⟨L[k]!, by rw [← hL]; exact aR _ _ hkn, by assumption⟩
   rw [uT hu]
   (refine aD rfl ?_; refine aQ () trivial ?_ ⟨.inr (Eq.trans (b := some _) rfl ?_), ⟨.inr (Eq.trans (b := some _) rfl ?_), ⟨.inr (Eq.trans (b := some _) rfl ?_), trivial⟩⟩⟩)
   ·rfl
   ·rfl
   ·rfl
   ·rfl
  ·(refine bC (k + 1) (Le.renA [(3, 3)]) ?_ ?_)
   ·refine ⟨by omega, fun j hj => ?_⟩
    rcases Nat.lt_or_ge j k with h|h
    ·exact hall j h
    ·rw [show j = k by omega]; assumption
   ·omega
 ·have hu : cT ts s x = false := by
   cases q : cT ts s x with
   | false => rfl
   | true =>
    obtain ⟨v, hv, hs⟩ := (cH htl).1 q
    rw [← hL] at hv
    obtain ⟨j, hj, e⟩ := List.getElem_of_mem hv
    have h1 := hall j (by omega)
    rw [bB _ _ hj, e, hs] at h1;cases h1
  rw [qR hu]
  have hd : dG ts s x = bW ts s x.x.toNat ⟨true, x.n, ⟨0, 0⟩⟩ := by unfold dG;rw [if_pos ho]
  rw [hd]
  have hp := mK ts bd pts s x.x ⟨true, x.n, ⟨0, 0⟩⟩ hm hsl hx
  repeat' (first|(apply aH;(apply jW (ts := ts) (bd := bd) (pts := pts) (s := s) (v := x.x) (y := ⟨true, x.n, ⟨0, 0⟩⟩);rfl;rfl;rfl;rfl;rfl;rfl;rfl;exact hp;rfl;rfl))|refine aE ?_|refine aF ?_|(refine aK ?_ ?_ <;> intro hc hq <;> try (exfalso;omega))|fail)
  (refine aD rfl ?_; refine aQ () trivial ?_ ⟨.inr (Eq.trans (b := some _) rfl ?_), ⟨.inr (Eq.trans (b := some _) rfl ?_), ⟨.inr (Eq.trans (b := some _) rfl ?_), trivial⟩⟩⟩)
  ·rfl
  ·rfl
  ·rfl
  ·rfl
theorem Np (ts : List Int) (bd : List AL.Stmt) (pts : List Pnt) (s : Mc) (x : Pnt) (htl : ts.length ≤ 6) (hm : OkM s.cells) (hsl : s.slots.length = ts.length) (ho : x.op = 2) (hn : 0 ≤ x.n ∧ x.n ≤ 9) (hx : 0 ≤ x.x ∧ x.x < ts.length) : MC Tryz.prog 140 [.optr 0 0, dJ x] [(0, some (mO ts bd pts 1 2 s)), (1, some (flat c9 s.slots)), (2, some (flat cI s.read))] 3 (fun _ : Unit => True) (fun _ => iv (dO ts s x).2) (fun _ => [(0, some (mO ts bd pts 1 2 (dO ts s x).1)), (1, some (flat c9 (dO ts s x).1.slots)), (2, some (flat cI (dO ts s x).1.read))]) := by
 have hus := fT ts bd pts x htl
 have hsm : Sm (wS ts x [1, 2, 3]) := bS (by omega)
 obtain ⟨L, hL⟩ : ∃ L, L = aZ (wS ts x [1, 2, 3]) := ⟨_, rfl⟩
 have hLl : L.length ≤ 62 := by rw [hL]; exact b6 _
 have hmem : ∀ k, k < L.length → 0 ≤ L[k]! ∧ L[k]! < s.slots.length := fun k hk => by
  rw [hsl]; exact gQ (by rw [← hL]; exact aR _ _ hk)
 refine aT Tryz.func140 Tryz.ntmps140 ?_
 repeat' (first|(apply aH;first|(apply aA (k := 158);rfl;exact hus;exact Pur.pf;rfl)|(apply aA (k := 120);rfl;(apply fK <;> (assumption));(rfl);rfl))|refine aE ?_|refine aF ?_|refine bO ?_|fail)
 rw [← hL]
 refine aI (σ := Nat) [0, 3, 26, 27] [0, 1, 2, 3] (fun k => [(28, iv (k : Int))]) (fun k => []) (fun k => k ≤ L.length ∧ ∀ j, j < k → s.slots[(L[j]!).toNat]!.set = true) (fun k => L.length - k) (0) ⟨Nat.zero_le _, fun j h => absurd h (by omega)⟩ ?_
 rintro k ⟨hk, hall⟩
 by_cases hkn : k < L.length
 ·have hmk := hmem k hkn
  repeat' (first|refine aE ?_|refine aF ?_|(refine aK ?_ ?_ <;> intro hc hq <;> try (exfalso;omega))|fail)
  ·have hu : cT ts s x = true := (cH htl).2 ⟨L[k]!, by rw [← hL]; exact aR _ _ hkn, by assumption⟩
   rw [uT hu]
   (refine aD rfl ?_; refine aQ () trivial ?_ ⟨.inr (Eq.trans (b := some _) rfl ?_), ⟨.inr (Eq.trans (b := some _) rfl ?_), ⟨.inr (Eq.trans (b := some _) rfl ?_), trivial⟩⟩⟩)
   ·rfl
   ·rfl
   ·rfl
   ·rfl
  ·(refine bC (k + 1) (Le.renA [(3, 3)]) ?_ ?_)
   ·refine ⟨by omega, fun j hj => ?_⟩
    rcases Nat.lt_or_ge j k with h|h
    ·exact hall j h
    ·rw [show j = k by omega]; assumption
   ·omega
 ·have hu : cT ts s x = false := by
   cases q : cT ts s x with
   | false => rfl
   | true =>
    obtain ⟨v, hv, hs⟩ := (cH htl).1 q
    rw [← hL] at hv
    obtain ⟨j, hj, e⟩ := List.getElem_of_mem hv
    have h1 := hall j (by omega)
    rw [bB _ _ hj, e, hs] at h1;cases h1
  rw [qR hu]
  have hml := hm.l
  have hnc := By s.cells hm x.n
  by_cases h2 : s.cells.length = 200
  ·rw [if_neg (by omega)] at hnc
   have hd : dG ts s x = (s, 1) := by unfold dG;rw [if_neg (show ¬ x.op = 1 by omega), if_pos ho, if_pos h2]
   rw [hd]
   repeat' (first|(apply aH;(apply aA (k := 198);rfl;exact hnc;exact Pur.pf;rfl))|refine aE ?_|refine aF ?_|(refine aK ?_ ?_ <;> intro hc hq <;> try (exfalso;omega))|refine bO ?_|fail)
   (refine aD rfl ?_; refine aQ () trivial ?_ ⟨.inr (Eq.trans (b := some _) rfl ?_), ⟨.inr (Eq.trans (b := some _) rfl ?_), ⟨.inr (Eq.trans (b := some _) rfl ?_), trivial⟩⟩⟩)
   ·rfl
   ·rfl
   ·rfl
   ·rfl
  ·rw [if_pos (by omega)] at hnc
   have hp := mK ts bd pts ⟨s.slots, s.cells ++ [uS x.n], s.read⟩ x.x ⟨true, 0, ⟨s.cells.length, 0⟩⟩ (hm.nw hn (by omega)) hsl hx
   have hd : dG ts s x = bW ts ⟨s.slots, s.cells ++ [uS x.n], s.read⟩ x.x.toNat ⟨true, 0, ⟨s.cells.length, 0⟩⟩ := by unfold dG;rw [if_neg (show ¬ x.op = 1 by omega), if_pos ho, if_neg h2]
   rw [hd]
   repeat' (first|(apply aH;first|(apply aA (k := 198);rfl;exact hnc;exact Pur.pf;rfl)|(apply jW (ts := ts) (bd := bd) (pts := pts) (s := ⟨s.slots, s.cells ++ [uS x.n], s.read⟩) (v := x.x) (y := ⟨true, 0, ⟨s.cells.length, 0⟩⟩);rfl;rfl;rfl;rfl;rfl;rfl;rfl;exact hp;rfl;rfl))|refine aE ?_|refine aF ?_|(refine aK ?_ ?_ <;> intro hc hq <;> try (exfalso;omega))|refine bO ?_|fail)
   (refine aD rfl ?_; refine aQ () trivial ?_ ⟨.inr (Eq.trans (b := some _) rfl ?_), ⟨.inr (Eq.trans (b := some _) rfl ?_), ⟨.inr (Eq.trans (b := some _) rfl ?_), trivial⟩⟩⟩)
   ·rfl
   ·rfl
   ·rfl
   ·rfl
theorem M7 (ts : List Int) (bd : List AL.Stmt) (pts : List Pnt) (s : Mc) (x : Pnt) (htl : ts.length ≤ 6) (hm : OkM s.cells) (hsl : s.slots.length = ts.length) (ho : x.op = 3) (hx : 0 ≤ x.x ∧ x.x < ts.length) (hy : 0 ≤ x.y ∧ x.y < ts.length) : MC Tryz.prog 140 [.optr 0 0, dJ x] [(0, some (mO ts bd pts 1 2 s)), (1, some (flat c9 s.slots)), (2, some (flat cI s.read))] 3 (fun _ : Unit => True) (fun _ => iv (dO ts s x).2) (fun _ => [(0, some (mO ts bd pts 1 2 (dO ts s x).1)), (1, some (flat c9 (dO ts s x).1.slots)), (2, some (flat cI (dO ts s x).1.read))]) := by
 have hus := fT ts bd pts x htl
 have hsm : Sm (wS ts x [1, 2, 3]) := bS (by omega)
 obtain ⟨L, hL⟩ : ∃ L, L = aZ (wS ts x [1, 2, 3]) := ⟨_, rfl⟩
 have hLl : L.length ≤ 62 := by rw [hL]; exact b6 _
 have hmem : ∀ k, k < L.length → 0 ≤ L[k]! ∧ L[k]! < s.slots.length := fun k hk => by
  rw [hsl]; exact gQ (by rw [← hL]; exact aR _ _ hk)
 refine aT Tryz.func140 Tryz.ntmps140 ?_
 repeat' (first|(apply aH;first|(apply aA (k := 158);rfl;exact hus;exact Pur.pf;rfl)|(apply aA (k := 120);rfl;(apply fK <;> (assumption));(rfl);rfl))|refine aE ?_|refine aF ?_|refine bO ?_|fail)
 rw [← hL]
 refine aI (σ := Nat) [0, 3, 26, 27] [0, 1, 2, 3] (fun k => [(28, iv (k : Int))]) (fun k => []) (fun k => k ≤ L.length ∧ ∀ j, j < k → s.slots[(L[j]!).toNat]!.set = true) (fun k => L.length - k) (0) ⟨Nat.zero_le _, fun j h => absurd h (by omega)⟩ ?_
 rintro k ⟨hk, hall⟩
 by_cases hkn : k < L.length
 ·have hmk := hmem k hkn
  repeat' (first|refine aE ?_|refine aF ?_|(refine aK ?_ ?_ <;> intro hc hq <;> try (exfalso;omega))|fail)
  ·have hu : cT ts s x = true := (cH htl).2 ⟨L[k]!, by rw [← hL]; exact aR _ _ hkn, by assumption⟩
   rw [uT hu]
   (refine aD rfl ?_; refine aQ () trivial ?_ ⟨.inr (Eq.trans (b := some _) rfl ?_), ⟨.inr (Eq.trans (b := some _) rfl ?_), ⟨.inr (Eq.trans (b := some _) rfl ?_), trivial⟩⟩⟩)
   ·rfl
   ·rfl
   ·rfl
   ·rfl
  ·(refine bC (k + 1) (Le.renA [(3, 3)]) ?_ ?_)
   ·refine ⟨by omega, fun j hj => ?_⟩
    rcases Nat.lt_or_ge j k with h|h
    ·exact hall j h
    ·rw [show j = k by omega]; assumption
   ·omega
 ·have hu : cT ts s x = false := by
   cases q : cT ts s x with
   | false => rfl
   | true =>
    obtain ⟨v, hv, hs⟩ := (cH htl).1 q
    rw [← hL] at hv
    obtain ⟨j, hj, e⟩ := List.getElem_of_mem hv
    have h1 := hall j (by omega)
    rw [bB _ _ hj, e, hs] at h1;cases h1
  rw [qR hu]
  have hd : dG ts s x = bW ts (if yV ts[x.y.toNat]! = true then ⟨s.slots.set x.y.toNat mQ, s.cells, s.read⟩ else s) x.x.toNat s.slots[x.y.toNat]! := by unfold dG;rw [if_neg (show ¬ x.op = 1 by omega), if_neg (show ¬ x.op = 2 by omega), if_pos ho]
  rw [hd]
  have htk := xQ ts bd pts x.y hy
  by_cases hk : yV ts[x.y.toNat]! = true
  ·rw [hk] at htk
   rw [if_pos hk]
   have hp := mK ts bd pts ⟨s.slots.set x.y.toNat mQ, s.cells, s.read⟩ x.x s.slots[x.y.toNat]! hm (by show (s.slots.set _ _).length = _; rw [List.length_set]; exact hsl) hx
   repeat' (first|(apply aH;first|(apply aA (k := 199);rfl;exact htk;exact Pur.pf;rfl)|(apply jW (ts := ts) (bd := bd) (pts := pts) (s := ⟨s.slots.set x.y.toNat mQ, s.cells, s.read⟩) (v := x.x) (y := s.slots[x.y.toNat]!);rfl;rfl;rfl;rfl;rfl;rfl;rfl;exact hp;rfl;rfl)|(apply a7;rfl;rfl;rfl;rfl;rfl;(case hl => (first|(rw [aJ]; simp only [gB] <;> omega)|(simp;done)));(exact vH (by (omega)))))|refine aE ?_|refine aF ?_|(refine aK ?_ ?_ <;> intro hc hq <;> try (exfalso;omega))|refine bO ?_|fail)
   (refine aD rfl ?_; refine aQ () trivial ?_ ⟨.inr (Eq.trans (b := some _) rfl ?_), ⟨.inr (Eq.trans (b := some _) rfl ?_), ⟨.inr (Eq.trans (b := some _) rfl ?_), trivial⟩⟩⟩)
   ·rfl
   ·rfl
   ·rfl
   ·rfl
  ·have hk2 : yV ts[x.y.toNat]! = false := by simpa using hk
   rw [hk2] at htk
   rw [if_neg hk]
   have hp := mK ts bd pts s x.x s.slots[x.y.toNat]! hm hsl hx
   repeat' (first|(apply aH;first|(apply aA (k := 199);rfl;exact htk;exact Pur.pf;rfl)|(apply jW (ts := ts) (bd := bd) (pts := pts) (s := s) (v := x.x) (y := s.slots[x.y.toNat]!);rfl;rfl;rfl;rfl;rfl;rfl;rfl;exact hp;rfl;rfl))|refine aE ?_|refine aF ?_|(refine aK ?_ ?_ <;> intro hc hq <;> try (exfalso;omega))|refine bO ?_|fail)
   (refine aD rfl ?_; refine aQ () trivial ?_ ⟨.inr (Eq.trans (b := some _) rfl ?_), ⟨.inr (Eq.trans (b := some _) rfl ?_), ⟨.inr (Eq.trans (b := some _) rfl ?_), trivial⟩⟩⟩)
   ·rfl
   ·rfl
   ·rfl
   ·rfl
theorem Lk (ts : List Int) (bd : List AL.Stmt) (pts : List Pnt) (s : Mc) (x : Pnt) (htl : ts.length ≤ 6) (hm : OkM s.cells) (hsl : s.slots.length = ts.length) (ho : x.op = 4 ∨ x.op = 5) (hx : 0 ≤ x.x ∧ x.x < ts.length) (hy : 0 ≤ x.y ∧ x.y < ts.length) : MC Tryz.prog 140 [.optr 0 0, dJ x] [(0, some (mO ts bd pts 1 2 s)), (1, some (flat c9 s.slots)), (2, some (flat cI s.read))] 3 (fun _ : Unit => True) (fun _ => iv (dO ts s x).2) (fun _ => [(0, some (mO ts bd pts 1 2 (dO ts s x).1)), (1, some (flat c9 (dO ts s x).1.slots)), (2, some (flat cI (dO ts s x).1.read))]) := by
 have hus := fT ts bd pts x htl
 have hsm : Sm (wS ts x [1, 2, 3]) := bS (by omega)
 obtain ⟨L, hL⟩ : ∃ L, L = aZ (wS ts x [1, 2, 3]) := ⟨_, rfl⟩
 have hLl : L.length ≤ 62 := by rw [hL]; exact b6 _
 have hmem : ∀ k, k < L.length → 0 ≤ L[k]! ∧ L[k]! < s.slots.length := fun k hk => by
  rw [hsl]; exact gQ (by rw [← hL]; exact aR _ _ hk)
 refine aT Tryz.func140 Tryz.ntmps140 ?_
 repeat' (first|(apply aH;first|(apply aA (k := 158);rfl;exact hus;exact Pur.pf;rfl)|(apply aA (k := 120);rfl;(apply fK <;> (assumption));(rfl);rfl))|refine aE ?_|refine aF ?_|refine bO ?_|fail)
 rw [← hL]
 refine aI (σ := Nat) [0, 3, 26, 27] [0, 1, 2, 3] (fun k => [(28, iv (k : Int))]) (fun k => []) (fun k => k ≤ L.length ∧ ∀ j, j < k → s.slots[(L[j]!).toNat]!.set = true) (fun k => L.length - k) (0) ⟨Nat.zero_le _, fun j h => absurd h (by omega)⟩ ?_
 rintro k ⟨hk, hall⟩
 by_cases hkn : k < L.length
 ·have hmk := hmem k hkn
  repeat' (first|refine aE ?_|refine aF ?_|(refine aK ?_ ?_ <;> intro hc hq <;> try (exfalso;omega))|fail)
  ·have hu : cT ts s x = true := (cH htl).2 ⟨L[k]!, by rw [← hL]; exact aR _ _ hkn, by assumption⟩
   rw [uT hu]
   (refine aD rfl ?_; refine aQ () trivial ?_ ⟨.inr (Eq.trans (b := some _) rfl ?_), ⟨.inr (Eq.trans (b := some _) rfl ?_), ⟨.inr (Eq.trans (b := some _) rfl ?_), trivial⟩⟩⟩)
   ·rfl
   ·rfl
   ·rfl
   ·rfl
  ·(refine bC (k + 1) (Le.renA [(3, 3)]) ?_ ?_)
   ·refine ⟨by omega, fun j hj => ?_⟩
    rcases Nat.lt_or_ge j k with h|h
    ·exact hall j h
    ·rw [show j = k by omega]; assumption
   ·omega
 ·have hu : cT ts s x = false := by
   cases q : cT ts s x with
   | false => rfl
   | true =>
    obtain ⟨v, hv, hs⟩ := (cH htl).1 q
    rw [← hL] at hv
    obtain ⟨j, hj, e⟩ := List.getElem_of_mem hv
    have h1 := hall j (by omega)
    rw [bB _ _ hj, e, hs] at h1;cases h1
  rw [qR hu]
  have hle := Jg s.cells hm s.slots[x.y.toNat]!.ptr (decide (x.op = 5))
  by_cases hk : lP s.cells s.slots[x.y.toNat]!.ptr (decide (x.op = 5)) = 0
  ·have hp := mK ts bd pts ⟨s.slots, mY s.cells s.slots[x.y.toNat]!.ptr (decide (x.op = 5)), s.read⟩ x.x ⟨true, 0, qZ s.cells s.slots[x.y.toNat]!.ptr (decide (x.op = 5))⟩ (hm.ln _ _) hsl hx
   have hd : dG ts s x = bW ts ⟨s.slots, mY s.cells s.slots[x.y.toNat]!.ptr (decide (x.op = 5)), s.read⟩ x.x.toNat ⟨true, 0, qZ s.cells s.slots[x.y.toNat]!.ptr (decide (x.op = 5))⟩ := by unfold dG;rw [if_neg (show ¬ x.op = 1 by omega), if_neg (show ¬ x.op = 2 by omega), if_neg (show ¬ x.op = 3 by omega), if_pos ho, if_pos hk]
   rw [hd]
   rw [hk] at hle
   repeat' (first|(apply aH;first|(apply iG;(case hx|hH => rfl);(case hf|hg|hα => infer_instance);(case hk => omega);(case hj => decide);(case hc => exact (rfl:_=[_, _]));(case h0|hN => rfl))|(apply aA (k := 200);rfl;exact hle;exact Pur.pf;rfl)|(apply jW (ts := ts) (bd := bd) (pts := pts) (s := ⟨s.slots, mY s.cells s.slots[x.y.toNat]!.ptr (decide (x.op = 5)), s.read⟩) (v := x.x) (y := ⟨true, 0, qZ s.cells s.slots[x.y.toNat]!.ptr (decide (x.op = 5))⟩);(case ha0|ha1|ha2|hH0|hH1|hH2|hdd => rfl);(case hmc => exact hp);(case hM|hN => rfl)))|refine aE ?_|refine aF ?_|(refine aK ?_ ?_ <;> intro hc hq <;> try (exfalso;omega))|refine bO ?_|fail)
   all_goals (
    (refine aD rfl ?_; refine aQ () trivial ?_ ⟨.inr (Eq.trans (b := some _) rfl ?_), ⟨.inr (Eq.trans (b := some _) rfl ?_), ⟨.inr (Eq.trans (b := some _) rfl ?_), trivial⟩⟩⟩)
    ·rfl
    ·rfl
    ·rfl
    ·rfl)
  ·have hd : dG ts s x = (s, e7 (lP s.cells s.slots[x.y.toNat]!.ptr (decide (x.op = 5)))) := by unfold dG; rw [if_neg (show ¬ x.op = 1 by omega), if_neg (show ¬ x.op = 2 by omega), if_neg (show ¬ x.op = 3 by omega), if_pos ho, if_neg hk]
   rw [hd]
   repeat' (first|(apply aH;first|(apply iG;(case hx|hH => rfl);(case hf|hg|hα => infer_instance);(case hk => omega);(case hj => decide);(case hc => exact (rfl:_=[_, _]));(case h0|hN => rfl))|(apply aA (k := 200);rfl;exact hle;exact Pur.pf;rfl)|(apply aA (k := 201);rfl;(apply rC);(rfl);rfl))|refine aE ?_|refine aF ?_|(refine aK ?_ ?_ <;> intro hc hq <;> try (exfalso;omega))|refine bO ?_|fail)
   all_goals (
    (refine aD rfl ?_; refine aQ () trivial ?_ ⟨.inr (Eq.trans (b := some _) rfl ?_), ⟨.inr (Eq.trans (b := some _) rfl ?_), ⟨.inr (Eq.trans (b := some _) rfl ?_), trivial⟩⟩⟩)
    ·rfl
    ·rfl
    ·rfl
    ·rfl)
end Go.Proofs.YtahdccneecdmmaaGreat
