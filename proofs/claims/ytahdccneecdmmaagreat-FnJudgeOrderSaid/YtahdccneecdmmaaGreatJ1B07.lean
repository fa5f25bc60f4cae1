/-
 A part of the proofs over this program: rules and contracts of its functions (the contracts).
-/
import Derived.Test.YtahdccneecdmmaaGreatJ1B06
import Derived.Test.YtahdccneecdmmaaGreatRows
import Derived.WalkKit
import Derived.ProofKit
import Derived.OpenShut
import Derived.Carry
import Derived.ChangeSlices
set_option linter.unusedVariables false
set_option linter.unusedSimpArgs false
set_option maxHeartbeats 8000000
set_option maxRecDepth 4000
attribute [local irreducible] Go.AL.RW Go.AL.AW Go.AL.Stop
namespace Go.Proofs.YtahdccneecdmmaaGreat
open Go.AL Go.RowKit
theorem J6 {ts : List Int} {bd : List AL.Stmt} {pts : List Pnt} {s : Mc} {x : Pnt} {N : Nat} {Q : Exit → AS → Prop} {all : Array Oper} {rest : List Oper} {tsl : List (Nat × AV)} {hsl : List (Nat × Option (List AV))} {nidl : Nat} {z0 : Lo} {md : Md} {d : Nat} {ty : TypeId} {pos : String} {af : Array Edge} {tys : Array TypeId} {x0 x1 : Operand} {i0 i1 i2 : Nat} (ha0 : ev (lk tsl) x0 = some (.optr i0 0)) (ha1 : ev (lk tsl) x1 = some (dW x)) (hH0 : aT hsl i0 = some (mO ts bd pts i1 i2 s)) (hH1 : aT hsl i1 = some (flat dH s.slots)) (hH2 : aT hsl i2 = some (flat cI s.read)) (hdd : Go.AL.distinct [i0, i1, i2] = true) (hmc : MC Tryz.prog 140 [.optr 0 0, dW x] [(0, some (mO ts bd pts 1 2 s)), (1, some (flat dH s.slots)), (2, some (flat cI s.read))] 3 (fun _ : Unit => True) (fun _ => iv (dY ts s x).2) (fun _ => [(0, some (mO ts bd pts 1 5 (dY ts s x).1)), (1, some (flat dH (dY ts s x).1.slots)), (5, some (flat cI (dY ts s x).1.read))])) (hM : Nat.ble (nidl + 3) aV = true) (hN : Nat.blt d N = true) {md' : Md} [hmd : MdA md (fK [x0, x1] ++ [.inr i0, .inr i1, .inr i2]) (List.map Sum.inr (List.map Prod.fst ([(i0, some (mO ts bd pts i1 (nidl + 2) (dY ts s x).1)), (i1, some (flat dH (dY ts s x).1.slots)), ((nidl + 2), some (flat cI (dY ts s x).1.read)), (i2, none)] : List (Nat × Option (List AV)))) ++ [.inl d]) md'] (kk : RW Tryz.prog N all Q md' rest ⟨(d, iv (dY ts s x).2) :: tsl, gS hsl [(i0, some (mO ts bd pts i1 (nidl + 2) (dY ts s x).1)), (i1, some (flat dH (dY ts s x).1.slots)), ((nidl + 2), some (flat cI (dY ts s x).1.read)), (i2, none)], nidl + 3, z0⟩) : RW Tryz.prog N all Q md (⟨some d, .call ⟨.value (.func 140), #[x0, x1], tys⟩, ty, pos, af, none⟩ :: rest) ⟨tsl, hsl, nidl, z0⟩ := by
 refine aW [i0, i1, i2] 6 [(i0, some (mO ts bd pts i1 (nidl + 2) (dY ts s x).1)), (i1, some (flat dH (dY ts s x).1.slots)), ((nidl + 2), some (flat cI (dY ts s x).1.read)), (i2, none)] hmc (avs := [.optr i0 0, dW x]) ?_ hdd ?_ rfl ?_ (by simpa using hM) ?_ ?_ ?_ hN (md' := md') (hmd := hmd) kk
 ·show evL (lk tsl) [x0, x1] = _
  simp only [evL, ha0, ha1]
 ·exact ⟨⟨_, _, rfl, hH0, by (repeat' (first|exact RnL.purI inferInstance|exact RnV.purI inferInstance|exact RnV.own rfl|refine RnL.cons ?_ ?_))⟩, ⟨⟨_, _, rfl, hH1, by (repeat' (exact RnL.purI inferInstance))⟩, ⟨⟨_, _, rfl, hH2, by (repeat' (exact RnL.purI inferInstance))⟩, trivial⟩⟩⟩
 ·(repeat' (first|exact RnL.purI inferInstance|exact RnV.optr rfl|refine RnL.cons ?_ ?_))
 ·(repeat' (exact RnV.purI inferInstance))
 ·simp [cE]
 ·(repeat' (first|exact trivial|(refine And.intro ⟨0, _, rfl, rfl, ?_⟩ ?_)|(refine And.intro ⟨1, _, rfl, rfl, ?_⟩ ?_)|(refine And.intro ⟨5, _, rfl, rfl, ?_⟩ ?_)|exact RnL.purI inferInstance|exact RnV.purI inferInstance|exact RnV.own rfl|refine RnL.cons ?_ ?_))
theorem PD (ts : List Int) (bd : List AL.Stmt) (pts : List Pnt) (s : Mc) (x : Pnt) (htl : ts.length ≤ 6) (hm : OkM s.cells) (hsl : s.slots.length = ts.length) (hop : 1 ≤ x.op ∧ x.op ≤ 11) (hrl : s.read.length ≤ 1000)
  (hx : x.op ≤ 8 → 0 ≤ x.x ∧ x.x < ts.length) (hy : 3 ≤ x.op → x.op ≤ 7 → 0 ≤ x.y ∧ x.y < ts.length) (hn : x.op = 2 → 0 ≤ x.n ∧ x.n ≤ 9) (h6 : ¬ (x.op = 6 ∧ bF s.cells s.slots[x.y.toNat]!.ptr false = 0 ∧ cZ ts s x = false)) : MC Tryz.prog 140 [.optr 0 0, dW x] [(0, some (mO ts bd pts 1 2 s)), (1, some (flat dH s.slots)), (2, some (flat cI s.read))] 3 (fun _ : Unit => True) (fun _ => iv (dY ts s x).2) (fun _ => [(0, some (mO ts bd pts 1 2 (dY ts s x).1)), (1, some (flat dH (dY ts s x).1.slots)), (2, some (flat cI (dY ts s x).1.read))]) := by
 by_cases h1 : x.op = 1
 ·exact Pf ts bd pts s x htl hm hsl h1 (hx (by omega))
 by_cases h2 : x.op = 2
 ·exact Pr ts bd pts s x htl hm hsl h2 (hn h2) (hx (by omega))
 by_cases h3 : x.op = 3
 ·exact PE ts bd pts s x htl hm hsl h3 (hx (by omega)) (hy (by omega) (by omega))
 by_cases h4 : x.op = 4 ∨ x.op = 5
 ·exact Oy ts bd pts s x htl hm hsl h4 (hx (by omega)) (hy (by omega) (by omega))
 by_cases h6' : x.op = 6
 ·by_cases hu : cZ ts s x = true
  ·exact Po ts bd pts s x htl hm hsl hu
  ·exact O2 ts bd pts s x htl hm hsl h6' hrl (hx (by omega)) (hy (by omega) (by omega)) (fun q => h6 ⟨h6', q, by simpa using hu⟩)
 by_cases h7 : x.op = 7
 ·exact OY ts bd pts s x htl hm hsl h7 (hx (by omega)) (hy (by omega) (by omega))
 by_cases h8 : x.op = 8
 ·exact O1 ts bd pts s x htl hm hsl h8 (hx (by omega))
 ·exact OU ts bd pts s x htl hm hsl (by omega)
theorem CA (x : Pnt) (h : x.next.length ≤ 1000000) : PC Tryz.prog 91 [dW x] (fun r => r = bv (decide (x.next.length = 2))) := by
 refine aC Tryz.func91 Tryz.ntmps91 ?_
 repeat' (first|refine aE ?_|refine aF ?_|fail)
 refine aD rfl ⟨?_, rfl⟩
 simp only [aO, AV.v.injEq, Value.bool.injEq, decide_eq_decide]; omega
theorem OI {pts : List Pnt} {a : Nat} {C : List Int} (h : pts[a]!.next.length = 2) (hC : 0 < C.length) : iX pts a C = ((pts[a]!.next[(C[0]! % 2).toNat]!).toNat, C.drop 1) := by
 cases C with
 | nil => simp at hC
 | cons c C => unfold iX;rw [if_pos h]; rfl
theorem O0 {pts : List Pnt} {a : Nat} (h : pts[a]!.next.length = 2) : iX pts a [] = ((pts[a]!.next[1]!).toNat, []) := by unfold iX; rw [if_pos h]
theorem H5 {pts : List Pnt} {n a b : Nat} {out C C2 : List Int} {q : List Int × Bool} (h : ¬ pts[a]!.op = 11) (ho : out.length ≤ n) (hs : iX pts a C = (b, C2)) (hq : q = (out ++ (wm pts (n - out.length) a C).1, (wm pts (n - out.length) a C).2)) :
  ((out ++ [(a : Int)]).length ≤ n ∧ q = ((out ++ [(a : Int)]) ++ (wm pts (n - (out ++ [(a : Int)]).length) b C2).1, (wm pts (n - (out ++ [(a : Int)]).length) b C2).2)) ∨ ((out ++ [(a : Int)]).length = n + 1 ∧ q = ((out ++ [(a : Int)]).take n, false)) := by
 have hl : (out ++ [(a : Int)]).length = out.length + 1 := by rw [List.length_append]; rfl
 rcases Nat.lt_or_ge out.length n with h1|h1
 ·exact .inl ⟨by omega, pG h h1 hs hq⟩
 ·refine .inr ⟨by omega, ?_⟩
  have e : out.length = n := by omega
  rw [hq, e, Nat.sub_self, Jr h, ← e, List.take_left' rfl, List.append_nil]
theorem On (ts : List Int) (bd : List AL.Stmt) (pts : List Pnt) (cs : List Int) (n : Nat) (w : WG ts pts) (wa : WA ts pts) (hn : n ≤ 1000) (hcl : cs.length ≤ 1000000) : PC Tryz.prog 139 [aG ts bd pts, sl cI cs, iv (n : Int)] (fun r => r = .tup [sl cI (wm pts n 0 cs).1, bv (wm pts n 0 cs).2]) := by
 have hpl := w.pl
 have hp0 := w.p0
 refine aC Tryz.func139 Tryz.ntmps139 ?_
 repeat' (first|(apply aH;(apply fN (d := 8) (e := 1);rfl;rfl))|refine aE ?_|refine aF ?_|fail)
 refine aI (σ := Int × List Int × Nat × List Int) [0, 2] [] (fun k => [(9, iv k.1), (1, sl cI k.2.2.2), (8, .own 0 0 k.2.2.1 1)]) (fun k => [(0, some (flat cI k.2.1))]) (fun k => (0 ≤ k.1 ∧ k.1 < pts.length) ∧ k.2.2.1 = k.2.1.length ∧ k.2.2.2.length ≤ 1000000 ∧ ((k.2.1.length ≤ n ∧ wm pts n 0 cs = (k.2.1 ++ (wm pts (n - k.2.1.length) k.1.toNat k.2.2.2).1, (wm pts (n - k.2.1.length) k.1.toNat k.2.2.2).2)) ∨ (k.2.1.length = n + 1 ∧ wm pts n 0 cs = (k.2.1.take n, false)))) (fun k => n + 1 - k.2.1.length) (0, [], 0, cs) ⟨⟨Int.le_refl _, by show (0 : Int) < _; omega⟩, rfl, hcl, .inl ⟨Nat.zero_le _, rfl⟩⟩ ?_
 rintro ⟨a, out, m, C⟩ ⟨⟨ha0, ha⟩, hm, hC, hw⟩
 dsimp only at ha0 ha hm hC hw ⊢
 by_cases hout : out.length ≤ n
 ·have hw2 : wm pts n 0 cs = (out ++ (wm pts (n - out.length) a.toNat C).1, (wm pts (n - out.length) a.toNat C).2) := by
   rcases hw with h|h
   ·exact h.2
   ·omega
  have hat : (a.toNat : Int) = a := Int.toNat_of_nonneg ha0
  have hnx := w.nx a.toNat (by omega)
  have hnl := w.nl a.toNat (by omega)
  have hn1 := wa.n a.toNat (by omega)
  have hk : ∀ k, k < pts[a.toNat]!.next.length → 0 ≤ pts[a.toNat]!.next[k]! ∧ pts[a.toNat]!.next[k]! < pts.length := fun k h => hnx _ (aY _ _ h)
  have hch := CA pts[a.toNat]! (by omega)
  repeat' (first|(apply aH;first|(apply aA (k := 91);rfl;exact hch;exact Pur.pf;rfl)|(apply LU;rfl;rfl;rfl)|(apply aK (t := _);rfl;rfl;rfl;exact (rfl:_=some [_]);rfl;rfl))|refine aE ?_|refine aF ?_|(refine aL ?_ ?_ <;> intro hc hq <;> try (exfalso;omega))|refine bQ ?_|fail)
  ·have hop : pts[a.toNat]!.op = 11 := by assumption
   have e : wm pts n 0 cs = (out ++ [a], true) := by rw [hw2, Hn hop, hat]
   rw [e]
   (refine aR (Le.frzD (d := 6) (i := 2) rfl rfl) ?_; refine aD rfl ?_)
   refine ⟨?_, (by exact Pur.pf)⟩
   simp only [aO, sl]
   rw [hm, List.length_append]; rfl
  ·have hop : ¬ pts[a.toNat]!.op = 11 := by assumption
   have hst := H5 hop hout (Ml (by omega)) hw2
   rw [hat] at hst
   have hk := hk 0 (by omega)
   (refine bB (pts[a.toNat]!.next[0]!, _, _, C) (Le.renA [(0, 2)]) ?_ ?_)
   ·exact ⟨hk, by dsimp only;rw [List.length_append, hm]; rfl, hC, hst⟩
   ·dsimp only;rw [List.length_append]; simp only [List.length_singleton]; omega
  ·have hop : ¬ pts[a.toNat]!.op = 11 := by assumption
   have hC0 : 0 < C.length := by omega
   have hst := H5 hop hout (OI (by omega) hC0) hw2
   rw [hat] at hst
   have hk := hk (C[0]! % 2).toNat (by omega)
   have hCe : List.take (C.length - Int.toNat 1) (List.drop (Int.toNat 1) C) = C.drop 1 := List.take_of_length_le (by rw [List.length_drop]; exact Nat.le_refl _)
   rw [hCe]
   (refine bB (pts[a.toNat]!.next[(C[0]! % 2).toNat]!, _, _, C.drop 1) (Le.renA [(0, 2)]) ?_ ?_)
   ·exact ⟨hk, by dsimp only;rw [List.length_append, hm]; rfl, by dsimp only;rw [List.length_drop]; omega, hst⟩
   ·dsimp only;rw [List.length_append]; simp only [List.length_singleton]; omega
  ·have hop : ¬ pts[a.toNat]!.op = 11 := by assumption
   have hC0 : C = [] := List.eq_nil_of_length_eq_zero (by omega)
   subst hC0
   have hst := H5 hop hout (O0 (by omega)) hw2
   rw [hat] at hst
   have hk := hk 1 (by omega)
   (refine bB (pts[a.toNat]!.next[1]!, _, _, []) (Le.renA [(0, 2)]) ?_ ?_)
   ·exact ⟨hk, by dsimp only;rw [List.length_append, hm]; rfl, hC, hst⟩
   ·dsimp only;rw [List.length_append]; simp only [List.length_singleton]; omega
 ·have hw2 : out.length = n + 1 ∧ wm pts n 0 cs = (out.take n, false) := by
   rcases hw with h|h
   ·omega
   ·exact h
  repeat' (first|(apply aH;(apply iH (d := 59) (l := 0) (h := n);rfl;rfl;rfl;exact qF rfl (by omega);exact if_pos (by omega);rfl))|refine aE ?_|refine aF ?_|(refine aL ?_ ?_ <;> intro hc hq <;> try (exfalso;omega))|fail)
  refine aR (Le.cut (i := 0) (n * 1) rfl) ?_
  refine aR (Le.frzD (d := 6) (i := 0) rfl rfl) ?_
  rw [hw2.2, eO cI (e := 1)]
  refine aD (l := [.imm (n - 0) (flat cI (out.take n)), bv false]) rfl ⟨?_, (by exact Pur.pf)⟩
  rw [fA (by rw [List.length_take]; omega)]
  rfl
theorem LD {p : Prg} {cs : List Int} {n : Int} {N : Nat} {Q : Exit → AS → Prop} {all : Array Oper} {rest : List Oper} {tsl : List (Nat × AV)} {hsl : List (Nat × Option (List AV))} {nidl : Nat} {z0 : Lo} {md : Md} {d : Nat} {ty : TypeId} {pos : String} {af : Array Edge} {tys : Array TypeId} {x0 x1 x2 : Operand} (ha0 : ev (lk tsl) x0 = some (bY p)) (ha1 : ev (lk tsl) x1 = some (sl cI cs)) (ha2 : ev (lk tsl) x2 = some (iv n)) (hmc : MC Tryz.prog 69 [bY p, sl cI cs, iv n] [] 0 (fun _ : Unit => True) (fun _ => .tup [.optr 1 0, iv 5, iv 0]) (fun _ => [(1, some ([.v (.pointer none), .imm 0 [], .imm 0 [], .imm 0 []]))])) (hM : Nat.ble (nidl + 2) aV = true) (hN : Nat.blt d N = true) {md' : Md} [hmd : MdA md (fK [x0, x1, x2] ++ []) (List.map Sum.inr (List.map Prod.fst ([((nidl + 1), some ([.v (.pointer none), .imm 0 [], .imm 0 [], .imm 0 []]))] : List (Nat × Option (List AV)))) ++ [.inl d]) md'] (kk : RW Tryz.prog N all Q md' rest ⟨(d, .tup [.optr (nidl + 1) 0, iv 5, iv 0]) :: tsl, gS hsl [((nidl + 1), some ([.v (.pointer none), .imm 0 [], .imm 0 [], .imm 0 []]))], nidl + 2, z0⟩) : RW Tryz.prog N all Q md (⟨some d, .call ⟨.value (.func 69), #[x0, x1, x2], tys⟩, ty, pos, af, none⟩ :: rest) ⟨tsl, hsl, nidl, z0⟩ := by
 refine aW [] 2 [((nidl + 1), some ([.v (.pointer none), .imm 0 [], .imm 0 [], .imm 0 []]))] hmc (avs := [bY p, sl cI cs, iv n]) ?_ rfl ?_ rfl ?_ (by simpa using hM) ?_ ?_ ?_ hN (md' := md') (hmd := hmd) kk
 ·show evL (lk tsl) [x0, x1, x2] = _
  simp only [evL, ha0, ha1, ha2]
 ·exact trivial
 ·(repeat' (exact RnL.purI inferInstance))
 ·(repeat' (first|exact RnL.purI inferInstance|exact RnV.optr rfl|refine RnL.cons ?_ ?_|refine RnV.tup ?_))
 ·simp [cE]
 ·(repeat' (first|exact trivial|(refine And.intro ⟨1, _, rfl, rfl, ?_⟩ ?_)|exact RnL.purI inferInstance))
theorem Le.nilMid {ts : List (Nat × AV)} {hs : List (Nat × Option (List AV))} {n : Nat} {z0 : Lo} {i : Nat} (c1 : List AV) {c2 : List AV} (hi : aT hs i = some (c1 ++ .v (.slice none 0 0) :: c2)) :
  Le ⟨ts, hs, n, z0⟩ ⟨ts, (i, some (c1 ++ .imm 0 [] :: c2)) :: hs, n, z0⟩ :=
 Le.cells hi (by simp) fun w bad ι b β h => sQ (fun y hy => by have := mH (av := .v (.slice none 0 0)) hy;exact this) c1 c2 b β h
theorem ML {ts : List Int} {pts : List Pnt} {a last : Nat} {l : List Nat} {s : Mc} : nV ts pts (a :: l) s last = if (dY ts s pts[a]!).2 = -1 then nV ts pts l (dY ts s pts[a]!).1 a else ((dY ts s pts[a]!).1, (dY ts s pts[a]!).2, a) := by
 rw [nV]
 by_cases h : cZ ts s pts[a]! = true
 ·rw [if_pos h, vV h, if_neg (show ¬ (2 : Int) = -1 by decide)]
 ·have h2 : cZ ts s pts[a]! = false := by simpa using h
  rw [if_neg h, r7 h2]
theorem Pc {ts : List Int} {nt : Nat} {s : Mc} (h : OkS nt s) {x : Pnt} (hx : PtN x) : OkS nt (dY ts s x).1 := by
 unfold dY;split
 ·exact h
 ·exact h.do hx
theorem KG {ts : List Int} {s : Mc} {x : Pnt} : (dY ts s x).1.read.length ≤ s.read.length + 1 := by
 unfold dY;split
 ·dsimp only;omega
 ·exact BO
theorem P8 {ts : List Int} {s : Mc} {x : Pnt} (ho : x.op = 6) (hz : bF s.cells s.slots[x.y.toNat]!.ptr false = 0) (hu : cZ ts s x = false) (ht : ts[x.x.toNat]! = 1) : (dY ts s x).2 = -1 := by
 rw [r7 hu]
 unfold dP
 rw [if_neg (show ¬ x.op = 1 by omega), if_neg (show ¬ x.op = 2 by omega), if_neg (show ¬ x.op = 3 by omega), if_neg (show ¬ (x.op = 4 ∨ x.op = 5) by omega), if_pos ho, if_pos hz]
 unfold cA
 rw [if_neg (fun h => by have := h.1;omega)]
theorem NH (p : Prg) (cs : List Int) (n : Int) (hl : p.types.length ≤ 1000000) (hs : aS p.body ≤ 1000000) (hr : DN p n = false) : MC Tryz.prog 69 [bY p, sl cI cs, iv n] [] 0 (fun _ : Unit => True) (fun _ => .tup [.optr 1 0, iv 5, iv 0]) (fun _ => [(1, some ([.v (.pointer none), .imm 0 [], .imm 0 [], .imm 0 []]))]) := by
 have hg := jG p hl hs
 unfold DN at hr
 by_cases hv : bG p = true
 ·rw [if_pos hv] at hg
  rw [hv] at hr
  have hnn : ¬ (0 ≤ n ∧ n ≤ 150) := fun h => by rw [decide_eq_true h.1, decide_eq_true h.2] at hr;cases hr
  refine aU Tryz.func69 Tryz.ntmps69 ?_
  repeat' (first|(apply aH;first|(apply aA (k := 72);rfl;exact hg;exact Pur.pf;rfl)|(apply aA (k := 54);rfl;(apply dN);(rfl);rfl))|refine aE ?_|refine aF ?_|(refine aL ?_ ?_ <;> intro hc hq <;> try (exfalso;omega))|fail)
  ·(refine aD rfl ?_; refine aP () trivial ?_ ⟨.inr (Eq.trans (b := some _) rfl ?_), trivial⟩)
   ·rfl
   ·rfl
 ·rw [if_neg hv] at hg
  refine aU Tryz.func69 Tryz.ntmps69 ?_
  repeat' (first|(apply aH;(apply aA (k := 72);rfl;exact hg;exact Pur.pf;rfl))|refine aE ?_|refine aF ?_|fail)
  (refine aD rfl ?_; refine aP () trivial ?_ ⟨.inr (Eq.trans (b := some _) rfl ?_), trivial⟩)
  ·rfl
  ·rfl
theorem MK (p : Prg) (cs : List Int) (n : Nat) (q : Mc × Int × Nat) (hqq : q = j1 p.types (aB p) cs n) (hv : bG p = true) (hl : p.types.length ≤ 1000000) (hs : aS p.body ≤ 1000000) (hn : n ≤ 150) (hcl : cs.length ≤ 1000000) : MC Tryz.prog 69 [bY p, sl cI cs, iv (n : Int)] [] 0 (fun _ : Unit => True) (fun _ => .tup [.optr 2 0, iv q.2.1, iv (q.2.2 : Int)]) (fun _ => [(2, some (mO p.types p.body (aB p) 1 3 q.1)), (1, some (flat dH q.1.slots)), (3, some (flat cI q.1.read))]) := by
 have hg := jG p hl hs
 rw [if_pos hv] at hg
 have w := WG.of_valid hv
 have wa := WA.of_valid hv
 have hru := On p.types p.body (aB p) cs n w wa (by omega) hcl
 have htl := w.tl
 have hpl := w.pl
 have hL := Cu w wa n 0 cs w.p0
 have hLl := sI (pts := aB p) n 0 cs
 unfold j1 at hqq
 unfold wm at hru
 obtain ⟨L, hLe⟩ : ∃ L, L = (g7 (aB p) n 0 cs).1 := ⟨_, rfl⟩
 obtain ⟨dn, hdn⟩ : ∃ dn, dn = (g7 (aB p) n 0 cs).2 := ⟨_, rfl⟩
 rw [← hLe, ← hdn] at hru
 rw [← hLe] at hqq hL hLl
 have hgx : ∀ i, i < L.length → (L.map (fun a : Nat => (a : Int)))[i]! = (L[i]! : Int) := fun i h => by rw [bE _ _ (by rw [List.length_map]; exact h), List.getElem_map, bE _ _ h]
 have hml : (L.map (fun a : Nat => (a : Int))).length = L.length := List.length_map _
 generalize (L.map (fun a : Nat => (a : Int))) = LI at *
 generalize hP : aB p = pts at *
 refine aU Tryz.func69 Tryz.ntmps69 ?_
 repeat' (first|(apply aH;first|(apply aA (k := 72);rfl;exact hg;exact Pur.pf;rfl)|(with_reducible apply aX (d := 40))|(apply aA (k := 54);rfl;(apply dN);(rfl);rfl))|refine aE ?_|refine aF ?_|(refine aL ?_ ?_ <;> intro hc hq <;> try (exfalso;omega))|fail)
 refine bV ?_
 rw [show (List.replicate p.types.length ([Value.bool false, Value.int .i64 0, Value.int .i64 0, Value.int .i64 0].map AV.v)).flatten = flat dH (List.replicate p.types.length nA) from uE rfl]
 apply mE
 case hl => rfl
 case hf => exact (rfl:_=some [_, _, AV.v (.slice none 0 0), AV.v (.slice none 0 0)])
 case hN => rfl
 repeat' (first|(apply aH;(with_reducible apply aX (d := 43)))|refine aE ?_|refine aF ?_|fail)
 refine bV (c6 ?_ (Le.nilMid (i := 2) [_, _] rfl))
 refine c6 ?_ (Le.nilCell (i := 2) 1 [_, _, _] rfl (by decide) (by decide))
 repeat' (first|(apply aH;(apply aA (k := 139);rfl;exact hru;exact Pur.pf;rfl))|refine aE ?_|refine aF ?_|fail)
 refine aI (σ := Nat × Mc × Nat) [9, 11, 49, 50] [] (fun k => [(51, iv (k.1 : Int)), (14, iv (k.2.2 : Int))]) (fun k => [(2, some (mO p.types p.body pts 1 3 k.2.1)), (1, some (flat dH k.2.1.slots)), (3, some (flat cI k.2.1.read))]) (fun k => k.1 ≤ L.length ∧ nV p.types pts (L.drop k.1) k.2.1 k.2.2 = q ∧ OkS p.types.length k.2.1 ∧ k.2.1.read.length ≤ k.1) (fun k => L.length - k.1) (0, mc0 p.types.length, 0) ⟨Nat.zero_le _, hqq.symm, OkS.mc0 _, Nat.le_refl _⟩ ?_
 rintro ⟨i, s, last⟩ ⟨hi, hf, hok, hrd⟩
 dsimp only at hi hf hok hrd ⊢
 by_cases hiL : i < L.length
 ·have hap := hL L[i]! (aY _ _ hiL)
  have hop := w.op L[i]! hap
  have hwx := w.x L[i]! hap
  have hwy := w.y L[i]! hap
  have hA := wa.a L[i]! hap
  have hg2 := hgx i hiL
  have hdr : L.drop i = L[i]! :: L.drop (i + 1) := by rw [List.drop_eq_getElem_cons hiL, bE _ _ hiL]
  rw [hdr, ML] at hf
  have hpt : PtN pts[L[i]!]! := ⟨fun h => hA.n (.inr h)⟩
  have hdo := Pc (ts := p.types) hok hpt
  have hdr2 := KG (ts := p.types) (s := s) (x := pts[L[i]!]!)
  by_cases h6 : pts[L[i]!]!.op = 6 ∧ bF s.cells s.slots[(pts[L[i]!]!).y.toNat]!.ptr false = 0 ∧ cZ p.types s pts[L[i]!]! = false
  ·have hm6 := Ot p.types p.body pts s pts[L[i]!]! htl hok.m hok.l h6.1 (by omega) (by omega) (by omega) h6.2.1 h6.2.2
   repeat' (first|(apply aH;(with_reducible apply aX (d := 16)))|refine aE ?_|refine aF ?_|(refine aL ?_ ?_ <;> intro hc hq <;> try (exfalso;omega))|fail)
   refine bV ?_
   rw [hg2]
   repeat' (first|(apply aH;(apply J6 (ts := p.types) (bd := p.body) (pts := pts) (s := s) (x := pts[L[i]!]!);rfl;rfl;rfl;rfl;rfl;rfl;exact hm6;rfl;rfl))|refine aE ?_|refine aF ?_|(refine aL ?_ ?_ <;> intro hc hq <;> try (exfalso;omega))|fail)
   ·exfalso
    have h9 : ¬ (dY p.types s pts[L[i]!]!).2 = -1 := by assumption
    exact h9 (P8 h6.1 h6.2.1 h6.2.2 (hA.t6 h6.1).1)
   ·(refine bB (i + 1, (dY p.types s pts[L[i]!]!).1, L[i]!) (Le.renA [(1, 1), (2, 2), (3, 6)]) ?_ ?_)
    ·refine ⟨by dsimp only; omega, ?_, hdo, by dsimp only; omega⟩
     dsimp only
     rw [if_pos (by assumption)] at hf
     exact hf
    ·dsimp only;omega
  ·have hmd := PD p.types p.body pts s pts[L[i]!]! htl hok.m hok.l hop (by omega) (fun h => by omega) (fun h h2 => by omega) (fun h => hA.n (.inr h)) h6
   repeat' (first|(apply aH;(with_reducible apply aX (d := 16)))|refine aE ?_|refine aF ?_|(refine aL ?_ ?_ <;> intro hc hq <;> try (exfalso;omega))|fail)
   refine bV ?_
   rw [hg2]
   repeat' (first|(apply aH;(apply MB (ts := p.types) (bd := p.body) (pts := pts) (s := s) (x := pts[L[i]!]!);rfl;rfl;rfl;rfl;rfl;rfl;exact hmd;rfl;rfl))|refine aE ?_|refine aF ?_|(refine aL ?_ ?_ <;> intro hc hq <;> try (exfalso;omega))|fail)
   ·have h9 : ¬ (dY p.types s pts[L[i]!]!).2 = -1 := by assumption
    rw [if_neg h9] at hf
    rw [← hf]
    (refine aD rfl ?_; refine aP () trivial ?_ ⟨.inr (Eq.trans (b := some _) rfl ?_), ⟨.inr (Eq.trans (b := some _) rfl ?_), ⟨.inr (Eq.trans (b := some _) rfl ?_), trivial⟩⟩⟩)
    ·rfl
    ·rfl
    ·rfl
    ·rfl
   ·(refine bB (i + 1, (dY p.types s pts[L[i]!]!).1, L[i]!) (Le.renA [(1, 1), (2, 2), (3, 3)]) ?_ ?_)
    ·refine ⟨by dsimp only; omega, ?_, hdo, by dsimp only; omega⟩
     dsimp only
     rw [if_pos (by assumption)] at hf
     exact hf
    ·dsimp only;omega
 ·repeat' (first | refine aE ?_ | refine aF ?_ | (refine aL ?_ ?_ <;> intro hc hq <;> try (exfalso; omega))|fail)
  have hie : i = L.length := by omega
  have hq2 : q = (s, 1, last) := by rw [← hf, hie, List.drop_length]; rfl
  rw [hq2]
  (refine aD rfl ?_; refine aP () trivial ?_ ⟨.inr (Eq.trans (b := some _) rfl ?_), ⟨.inr (Eq.trans (b := some _) rfl ?_), ⟨.inr (Eq.trans (b := some _) rfl ?_), trivial⟩⟩⟩)
  ·rfl
  ·rfl
  ·rfl
  ·rfl
theorem IN {p : Prg} {cs : List Int} {n : Int} {q : Mc × Int × Nat} {N : Nat} {Q : Exit → AS → Prop} {all : Array Oper} {rest : List Oper} {tsl : List (Nat × AV)} {hsl : List (Nat × Option (List AV))} {nidl : Nat} {z0 : Lo} {md : Md} {d : Nat} {ty : TypeId} {pos : String} {af : Array Edge} {tys : Array TypeId} {x0 x1 x2 : Operand} (ha0 : ev (lk tsl) x0 = some (bY p)) (ha1 : ev (lk tsl) x1 = some (sl cI cs)) (ha2 : ev (lk tsl) x2 = some (iv n)) (hmc : MC Tryz.prog 69 [bY p, sl cI cs, iv n] [] 0 (fun _ : Unit => True) (fun _ => .tup [.optr 2 0, iv q.2.1, iv (q.2.2 : Int)]) (fun _ => [(2, some (mO p.types p.body (aB p) 1 3 q.1)), (1, some (flat dH q.1.slots)), (3, some (flat cI q.1.read))])) (hM : Nat.ble (nidl + 4) aV = true) (hN : Nat.blt d N = true) {md' : Md} [hmd : MdA md (fK [x0, x1, x2] ++ []) (List.map Sum.inr (List.map Prod.fst ([((nidl + 2), some (mO p.types p.body (aB p) (nidl + 1) (nidl + 3) q.1)), ((nidl + 1), some (flat dH q.1.slots)), ((nidl + 3), some (flat cI q.1.read))] : List (Nat × Option (List AV)))) ++ [.inl d]) md'] (kk : RW Tryz.prog N all Q md' rest ⟨(d, .tup [.optr (nidl + 2) 0, iv q.2.1, iv (q.2.2 : Int)]) :: tsl, gS hsl [((nidl + 2), some (mO p.types p.body (aB p) (nidl + 1) (nidl + 3) q.1)), ((nidl + 1), some (flat dH q.1.slots)), ((nidl + 3), some (flat cI q.1.read))], nidl + 4, z0⟩) : RW Tryz.prog N all Q md (⟨some d, .call ⟨.value (.func 69), #[x0, x1, x2], tys⟩, ty, pos, af, none⟩ :: rest) ⟨tsl, hsl, nidl, z0⟩ := by
 refine aW [] 4 [((nidl + 2), some (mO p.types p.body (aB p) (nidl + 1) (nidl + 3) q.1)), ((nidl + 1), some (flat dH q.1.slots)), ((nidl + 3), some (flat cI q.1.read))] hmc (avs := [bY p, sl cI cs, iv n]) ?_ rfl ?_ rfl ?_ (by simpa using hM) ?_ ?_ ?_ hN (md' := md') (hmd := hmd) kk
 ·show evL (lk tsl) [x0, x1, x2] = _
  simp only [evL, ha0, ha1, ha2]
 ·exact trivial
 ·(repeat' (exact RnL.purI inferInstance))
 ·(repeat' (first|exact RnL.purI inferInstance|exact RnV.optr rfl|refine RnL.cons ?_ ?_|refine RnV.tup ?_))
 ·simp [cE]
 ·(repeat' (first|exact trivial|(refine And.intro ⟨1, _, rfl, rfl, ?_⟩ ?_)|(refine And.intro ⟨2, _, rfl, rfl, ?_⟩ ?_)|(refine And.intro ⟨3, _, rfl, rfl, ?_⟩ ?_)|exact RnL.purI inferInstance|exact RnV.purI inferInstance|exact RnV.own rfl|refine RnL.cons ?_ ?_))
theorem wF (p : Prg) (cs : List Int) (most : Int) (hl : p.types.length ≤ 1000000) (hs : aS p.body ≤ 1000000) (hcl : cs.length ≤ 1000000) : PC Tryz.prog 35 [bY p, sl cI cs, iv most] (fun r => r = .tup (if DN p most = true then [iv (j1 p.types (aB p) cs most.toNat).2.1, iv (j1 p.types (aB p) cs most.toNat).2.2] else [iv 5, iv 0])) := by
 by_cases h : DN p most = true
 ·have h' := h
  unfold DN at h'
  simp only [Bool.and_eq_true, decide_eq_true_eq] at h'
  obtain ⟨hv, h0, h1⟩ := h'
  have hru := MK p cs most.toNat _ rfl hv hl hs (by omega) hcl
  have hok := Oz (cs := cs) (n := most.toNat) hv
  have hrl := CW (ts := p.types) (pts := aB p) (cs := cs) (n := most.toNat) (by omega)
  have htl := (WG.of_valid hv).tl
  rw [Int.toNat_of_nonneg h0] at hru
  rw [if_pos h]
  have hon := Int.toNat_of_nonneg h0
  have hm := hok.m
  have hml := hm.l
  have hsl := hok.l
  generalize j1 p.types (aB p) cs most.toNat = q at *
  refine aC Tryz.func35 Tryz.ntmps35 ?_
  repeat' (first|(apply aH;(apply IN (p := p) (cs := cs) (n := most) (q := q);rfl;rfl;rfl;exact hru;rfl;rfl))|refine aE ?_|refine aF ?_|fail)
  exact aD (l := [iv q.2.1, iv q.2.2]) rfl ⟨rfl, rfl⟩
 ·rw [if_neg h]
  have h2 : DN p most = false := by simpa using h
  refine aC Tryz.func35 Tryz.ntmps35 ?_
  repeat' (first|(apply aH;(apply LD (p := p) (cs := cs) (n := most);rfl;rfl;rfl;exact NH p cs most hl hs h2;rfl;rfl))|refine aE ?_|refine aF ?_|fail)
  exact aD (l := [iv 5, iv 0]) rfl ⟨rfl, rfl⟩
def Gx (p : Prg) (cs : List Int) (n : Int) : Int := if DN p n = true then (j1 p.types (aB p) cs n.toNat).2.1 else 5
def Nq (p : Prg) (cs : List Int) (n : Int) : Int := if DN p n = true then ((j1 p.types (aB p) cs n.toNat).2.2 : Int) else 0
theorem NR (p : Prg) (cs : List Int) (n : Int) (hl : p.types.length ≤ 1000000) (hs : aS p.body ≤ 1000000) (hcl : cs.length ≤ 1000000) : PC Tryz.prog 35 [bY p, sl cI cs, iv n] (fun r => r = .tup [iv (Gx p cs n), iv (Nq p cs n)]) := by
 have h := wF p cs n hl hs hcl
 unfold Gx Nq
 split
 ·rename_i h2;rw [if_pos h2] at h;exact h
 ·rename_i h2;rw [if_neg h2] at h;exact h
theorem Mz (p : Prg) (cs : List Int) (n : Int) (hl : p.types.length ≤ 1000000) (hs : aS p.body ≤ 1000000) (hcl : cs.length ≤ 1000000) : PC Tryz.prog 84 [bY p, sl cI cs, iv n] (fun r => r = .tup [iv (Gx p cs n), iv (Nq p cs n)]) := by
 have h := v7 p cs n hl hs hcl
 unfold Gx Nq
 split
 ·rename_i h2;rw [if_pos h2] at h;exact h
 ·rename_i h2;rw [if_neg h2] at h;exact h
def wL (n l : Nat) : List Int := (List.range l).map fun i => ((n / 2 ^ i % 2 : Nat) : Int)
theorem sV (n l : Nat) : (wL n l).length = l := by unfold wL; rw [List.length_map, List.length_range]
theorem B9 (n l : Nat) : wL n (l + 1) = wL n l ++ [((n / 2 ^ l % 2 : Nat) : Int)] := by
 unfold wL;rw [List.range_succ, List.map_append]; rfl
def oC (p : Prg) (l n : Nat) : Bool := decide (Gx p (wL n l) 80 ≠ 0) && decide (Gx p (wL n l) 80 ≠ 1)
def Cy (p : Prg) (l k : Nat) : Nat := ((List.range k).filter (oC p l)).length
theorem J3 {p : Prg} {l k : Nat} (h : oC p l k = true) : Cy p l (k + 1) = Cy p l k + 1 := by
 unfold Cy;rw [List.range_succ, List.filter_append, List.length_append]; simp [h]
theorem Ix {p : Prg} {l k : Nat} (h : oC p l k = false) : Cy p l (k + 1) = Cy p l k := by
 unfold Cy;rw [List.range_succ, List.filter_append, List.length_append]; simp [h]
theorem MS {p : Prg} {l k : Nat} : Cy p l k ≤ k := by
 unfold Cy;exact Nat.le_trans (List.length_filter_le _ _) (by rw [List.length_range]; exact Nat.le_refl _)
theorem A9 (n l : Nat) (hl : l ≤ 100) (hn : n ≤ 1000000) : PC Tryz.prog 229 [iv (n : Int), iv (l : Int)] (fun r => r = sl cI (wL n l)) := by
 refine aC Tryz.func229 Tryz.ntmps229 ?_
 repeat' (first|refine aE ?_|refine aF ?_|fail)
 refine aI (σ := Nat × Nat × List Int × Nat) [1] [] (fun k => [(6, iv (k.1 : Int)), (0, iv (k.2.1 : Int)), (5, .own 0 0 k.2.2.2 1)]) (fun k => [(0, some (flat cI k.2.2.1))]) (fun k => k.1 ≤ l ∧ k.2.1 = n / 2 ^ k.1 ∧ k.2.2.1 = wL n k.1 ∧ k.2.2.2 = k.1) (fun k => l - k.1) (0, n, [], 0) ⟨Nat.zero_le _, by simp, rfl, rfl⟩ ?_
 rintro ⟨i, n', xs, m⟩ ⟨hi, hn', hxs, hm⟩
 dsimp only at hi hn' hxs hm ⊢
 have hnl : n' ≤ 1000000 := by rw [hn']; exact Nat.le_trans (Nat.div_le_self _ _) hn
 have hxl : xs.length = m := by rw [hxs, sV, hm]
 repeat' (first|(apply aH;(apply aK (t := _);rfl;rfl;rfl;exact (rfl:_=some [_]);rfl;rfl))|refine aE ?_|refine aF ?_|(refine aL ?_ ?_ <;> intro hc hq <;> try (exfalso;omega))|fail)
 ·(refine bB (i + 1, n' / 2, _, m + 1) (Le.renA [(0, 2)]) ?_ ?_)
  ·refine ⟨by dsimp only; omega, ?_, ?_, by dsimp only; omega⟩
   ·dsimp only;rw [hn', Nat.pow_succ, Nat.div_div_eq_div_mul]
   ·dsimp only;rw [B9, ← hxs, ← hn']; rfl
  ·dsimp only;omega
 ·(refine aR (Le.frzD (d := 4) (i := 0) rfl rfl) ?_; refine aD rfl ?_)
  refine ⟨?_, (by (exact a8 _ _))⟩
  have hie : i = l := by omega
  simp only [aO, sl]
  rw [← hxl, hxs, hie]
theorem I3 (l : Nat) (hl : l ≤ 10) : PC Tryz.prog 227 [iv (l : Int)] (fun r => r = iv ((2 ^ l : Nat) : Int)) := by
 refine aC Tryz.func227 Tryz.ntmps227 ?_
 repeat' (first|refine aE ?_|refine aF ?_|fail)
 refine aI (σ := Nat) [0] [] (fun k => [(4, iv (k : Int)), (3, iv ((2 ^ k : Nat) : Int))]) (fun k => []) (fun k => k ≤ l) (fun k => l - k) (0) (Nat.zero_le _) ?_
 rintro k hk
 have hp : 2 ^ k ≤ 2 ^ 10 := Nat.pow_le_pow_right (by decide) (by omega)
 repeat' (first|refine aE ?_|refine aF ?_|(refine aL ?_ ?_ <;> intro hc hq <;> try (exfalso;omega))|fail)
 ·have hw : IntKind.i64.wrap (((2 ^ k : Nat) : Int) * 2) = ((2 ^ (k + 1) : Nat) : Int) := by
   rw [show (((2 ^ k : Nat) : Int) * 2) = ((2 ^ (k + 1) : Nat) : Int) by rw [Nat.pow_succ, Int.natCast_mul]; rfl]
   exact pE (Sm.pow (by omega)).pf
  rw [hw]
  (refine bB (k + 1) (Le.renA []) ?_ ?_)
  ·omega
  ·omega
 ·refine aD rfl ⟨?_, rfl⟩
  rw [show l = k by omega]; rfl
def rX (p : Prg) (l : Int) : Bool := bG p && (decide (0 ≤ l) && decide (l ≤ 6))
theorem sK {p : Prg} {l : Int} : rX p l = true ↔ bG p = true ∧ 0 ≤ l ∧ l ≤ 6 := by unfold rX; simp only [Bool.and_eq_true, decide_eq_true_eq]
theorem w5 (p : Prg) (l : Int) (hl : p.types.length ≤ 1000000) (hs : aS p.body ≤ 1000000) : PC Tryz.prog 178 [bY p, iv l] (fun r => r = bv (rX p l)) := by
 have hval := fT p hl (by omega)
 refine aC Tryz.func178 Tryz.ntmps178 ?_
 repeat' (first|(apply aH;(apply aA (k := 61);rfl;exact hval;exact Pur.pf;rfl))|refine aE ?_|refine aF ?_|(refine bS ?_ ?_ <;> intro hg hq <;> try (exfalso;omega))|fail)
 all_goals (refine aD rfl ⟨?_, rfl⟩; simp only [aO, AV.v.injEq, Value.bool.injEq]; unfold rX;grind)
theorem Iu : PC Tryz.prog 262 [] (fun r => r = iv 80) := by
 refine aC Tryz.func262 Tryz.ntmps262 ?_
 repeat' (first|refine aE ?_|refine aF ?_|fail)
 exact aD rfl ⟨rfl, rfl⟩
theorem FY (p : Prg) (cs : List Int) (hl : p.types.length ≤ 1000000) (hs : aS p.body ≤ 1000000) (hcl : cs.length ≤ 1000000) : PC Tryz.prog 228 [bY p, sl cI cs] (fun r => r = .tup [bv (decide (Gx p cs 80 ≠ 0) && decide (Gx p cs 80 ≠ 1)), iv (Nq p cs 80)]) := by
 have h := Mz p cs 80 hl hs hcl
 have hm := Iu
 generalize Gx p cs 80 = e at *
 generalize Nq p cs 80 = a at *
 refine aC Tryz.func228 Tryz.ntmps228 ?_
 repeat' (first|(apply aH;first|(apply aA (k := 84);rfl;exact h;exact Pur.pf;rfl)|(apply aA (k := 262);rfl;exact hm;(rfl);rfl))|refine aE ?_|refine aF ?_|(refine bS ?_ ?_ <;> intro hg hq <;> try (exfalso;omega))|refine bQ ?_|fail)
 ·refine aD (l := [bv _, iv a]) ?_ ⟨rfl, rfl⟩
  have hd : (decide (e ≠ 0) && decide (e ≠ 1)) = !decide (e = 1) := by simp_all
  rw [hd]; rfl
 ·refine aD (l := [bv _, iv a]) ?_ ⟨rfl, rfl⟩
  have hd : (decide (e ≠ 0) && decide (e ≠ 1)) = false := by simp_all
  rw [hd]; rfl
theorem Dk (l : Int) : PC Tryz.prog 257 [iv l] (fun r => r = bv (decide (0 ≤ l) && decide (l ≤ 6))) := by
 have hw := dN l 0 6
 refine aC Tryz.func257 Tryz.ntmps257 ?_
 repeat' (first|(apply aH;(apply aA (k := 54);rfl;exact hw;(rfl);rfl))|refine aE ?_|refine aF ?_|fail)
 exact aD rfl ⟨rfl, rfl⟩
theorem AX (n l : Nat) (hl : l ≤ 60) (hn : n ≤ 1000000) : PC Tryz.prog 258 [iv (n : Int), iv (l : Int)] (fun r => r = sl cI (wL n l)) := by
 have : Sm n := ⟨by omega⟩
 refine aC Tryz.func258 Tryz.ntmps258 ?_
 repeat' (first|refine aE ?_|refine aF ?_|fail)
 refine AW.le ?_ (Le.nilOwn (d := 5) 1 rfl (by decide))
 refine aI (σ := Nat × List Int × Nat) [0, 7] [] (fun k => [(8, iv (k.1 : Int)), (5, .own 0 0 k.2.2 1)]) (fun k => [(0, some (flat cI k.2.1))]) (fun k => k.1 ≤ l ∧ k.2.1 = wL n k.1 ∧ k.2.2 = k.1) (fun k => l - k.1) (0, [], 0) ⟨Nat.zero_le _, rfl, rfl⟩ ?_
 rintro ⟨i, xs, m⟩ ⟨hi, hxs, hm⟩
 dsimp only at hi hxs hm ⊢
 have hxl : xs.length = m := by rw [hxs, sV, hm]
 repeat' (first|(apply aH;(apply aK (t := _);rfl;rfl;rfl;exact (rfl:_=some [_]);rfl;rfl))|refine aE ?_|refine aF ?_|(refine aL ?_ ?_ <;> intro hc hq <;> try (exfalso;omega))|fail)
 ·(refine bB (i + 1, _, m + 1) (Le.renA [(0, 2)]) ?_ ?_)
  ·refine ⟨by dsimp only; omega, ?_, by dsimp only; omega⟩
   have hz : n >>> (i : Int).toNat &&& 1 = n / 2 ^ i % 2 := by rw [Int.toNat_natCast, Nat.shiftRight_eq_div_pow]; exact Nat.and_one_is_mod _
   dsimp only;rw [B9, ← hxs, ← hz]
  ·dsimp only;omega
 ·refine aR (Le.frzD (d := 4) (i := 0) rfl rfl) ?_
  refine aD rfl ⟨?_, (by (exact a8 _ _))⟩
  have hie : i = l := by omega
  simp only [aO, sl]
  rw [← hxl, hxs, hie]
theorem Og (a b c : Int) (h0 : 0 ≤ c) (h1 : c ≤ 100) : MC Tryz.prog 221 [iv a, iv b, .optr 0 0] [(0, some [iv c])] 1 (fun _ : Unit => True) (fun _ => .tup []) (fun _ => [(0, some [iv (c + 1)])]) := by
 refine aU Tryz.func221 Tryz.ntmps221 ?_
 repeat' (first|refine aE ?_|refine aF ?_|fail)
 refine y9 (l := []) rfl ?_
 exact aP () trivial rfl ⟨.inr rfl, trivial⟩
theorem HM (p : Prg) (l : Int) (hl : p.types.length ≤ 1000000) (hs : aS p.body ≤ 1000000) : MC Tryz.prog 220 [bY p, iv l, .clos (.func 221) [] [.optr 0 0]] [(0, some [iv 0])] 1 (fun _ : Unit => True) (fun _ => bv (rX p l)) (fun _ => [(0, some [iv (if rX p l = true then (Cy p l.toNat (2 ^ l.toNat) : Int) else 0)])]) := by
 have hv0 := kW p hl (by omega)
 have hil := Dk l
 by_cases h : rX p l = true
 ·obtain ⟨hv, h0, h1⟩ := sK.1 h
  rw [hv] at hv0
  rw [h, if_pos rfl]
  obtain ⟨L, rfl⟩ := Int.eq_ofNat_of_zero_le h0
  rw [show (decide (0 ≤ (L : Int)) && decide ((L : Int) ≤ 6)) = true by rw [decide_eq_true h0, decide_eq_true h1]; rfl] at hil
  have hp : 2 ^ L ≤ 2 ^ 6 := Nat.pow_le_pow_right (by decide) (by omega)
  rw [Int.toNat_natCast]
  refine aU Tryz.func220 Tryz.ntmps220 ?_
  repeat' (first|(apply aH;first|(apply aA (k := 39);rfl;exact hv0;exact Pur.pf;rfl)|(apply aA (k := 257);rfl;exact hil;(rfl);rfl)|(apply gP;rfl;rfl;infer_instance;omega;rfl;(case' kk => intro hsm)))|refine aE ?_|refine aF ?_|fail)
  rw [Int.toNat_natCast]
  generalize hT : 2 ^ L = T at *
  refine aI (σ := Nat × Nat) [1, 2, 3, 19] [] (fun s => [(20, iv (s.1 : Int))]) (fun s => [(0, some [iv (s.2 : Int)]), (1, some [sl cI p.types, sl aN p.body])]) (fun s => s.1 ≤ T ∧ s.2 = Cy p L s.1) (fun s => T - s.1) (0, 0) ⟨Nat.zero_le _, rfl⟩ ?_
  rintro ⟨k, c⟩ ⟨hk, hc⟩
  dsimp only at hk hc ⊢
  have hcb := MS (p := p) (l := L) (k := k)
  have hch1 := J3 (p := p) (l := L) (k := k)
  have hcs1 := Ix (p := p) (l := L) (k := k)
  rw [← hc] at hcb hch1 hcs1
  have hch := AX k L (by omega) (by omega)
  have hru := NR p (wL k L) 80 hl hs (by rw [sV]; omega)
  have hbd : oC p L k = (decide (Gx p (wL k L) 80 ≠ 0) && decide (Gx p (wL k L) 80 ≠ 1)) := rfl
  generalize Gx p (wL k L) 80 = e at hru hbd
  generalize Nq p (wL k L) 80 = a at hru
  repeat' (first|(apply aH;first|(apply aA (k := 258);rfl;exact hch;(rfl);rfl)|(apply aA (k := 35);rfl;exact hru;exact Pur.pf;rfl))|refine aE ?_|refine aF ?_|(refine aL ?_ ?_ <;> intro hc hq <;> try (exfalso;omega))|(refine bS ?_ ?_ <;> intro hg hq <;> try (exfalso;omega))|refine bQ ?_|fail)
  ·have hbt : oC p L k = true := by rw [hbd]; simp_all
   refine EI (k := 221) (avs := [iv (k : Int), iv a]) (avs0 := [iv (k : Int), iv a, .optr 0 0]) (rr' := .tup []) [0] 1 [(0, some [iv ((c : Int) + 1)])] (Og (k : Int) a (c : Int) (by omega) (by omega)) rfl rfl rfl rfl ⟨⟨_, _, rfl, rfl, RnL.purI inferInstance⟩, trivial⟩ rfl (RnL.cons (RnV.purI inferInstance) (RnL.cons (RnV.purI inferInstance) (RnL.cons (RnV.optr rfl) .nil))) rfl (RnV.purI inferInstance) rfl ⟨⟨0, _, rfl, rfl, RnL.purI inferInstance⟩, trivial⟩ rfl ?_
   repeat' (first|refine aE ?_|refine aF ?_|fail)
   (apply bB (k + 1, c + 1);focus (refine Le.of (nQ ?_) (j9 ?_) (Nat.le_refl 2) rfl <;> repeat' (first|exact trivial|refine And.intro rfl ?_|refine And.intro (.inr rfl) ?_)))
   ·exact ⟨by dsimp only;omega, (hch1 hbt).symm⟩
   ·dsimp only;omega
  ·have hbf : oC p L k = false := by rw [hbd]; simp_all
   (apply bB (k + 1, c);focus (refine Le.of (nQ ?_) (j9 ?_) (Nat.le_refl 2) rfl <;> repeat' (first|exact trivial|refine And.intro rfl ?_|refine And.intro (.inr rfl) ?_)))
   ·exact ⟨by dsimp only;omega, (hcs1 hbf).symm⟩
   ·dsimp only;omega
  ·have hbf : oC p L k = false := by rw [hbd]; simp_all
   (apply bB (k + 1, c);focus (refine Le.of (nQ ?_) (j9 ?_) (Nat.le_refl 2) rfl <;> repeat' (first|exact trivial|refine And.intro rfl ?_|refine And.intro (.inr rfl) ?_)))
   ·exact ⟨by dsimp only;omega, (hcs1 hbf).symm⟩
   ·dsimp only;omega
  all_goals
   obtain rfl : k = T := by omega
   obtain rfl : c = Cy p L k := by assumption
   refine aD rfl ?_
   exact aP () trivial rfl ⟨.inr rfl, trivial⟩
 ·have h2 : rX p l = false := by simpa using h
  rw [h2, if_neg (by decide)]
  by_cases hv : bG p = true
  ·have hil2 : (decide (0 ≤ l) && decide (l ≤ 6)) = false := by unfold rX at h2; rw [hv] at h2; simpa using h2
   rw [hv] at hv0
   rw [hil2] at hil
   refine aU Tryz.func220 Tryz.ntmps220 ?_
   repeat' (first|(apply aH;first|(apply aA (k := 39);rfl;exact hv0;exact Pur.pf;rfl)|(apply aA (k := 257);rfl;exact hil;(rfl);rfl))|refine aE ?_|refine aF ?_|fail)
   refine aD rfl ?_
   exact aP () trivial rfl ⟨.inr rfl, trivial⟩
  ·have hv2 : bG p = false := by simpa using hv
   rw [hv2] at hv0
   refine aU Tryz.func220 Tryz.ntmps220 ?_
   repeat' (first|(apply aH;(apply aA (k := 39);rfl;exact hv0;exact Pur.pf;rfl))|refine aE ?_|refine aF ?_|fail)
   refine aD rfl ?_
   exact aP () trivial rfl ⟨.inr rfl, trivial⟩
theorem wA (p : Prg) (l : Int) (hl : p.types.length ≤ 1000000) (hs : aS p.body ≤ 1000000) : PC Tryz.prog 168 [bY p, iv l] (fun r => r = .tup (if rX p l = true then [iv (Cy p l.toNat (2 ^ l.toNat)), iv ((2 ^ l.toNat : Nat) : Int)] else [iv 0, iv 0])) := by
 have hw := HM p l hl hs
 have harg : RnL (([1] : List Nat)[·]?) [bY p, iv l, .clos (.func 221) [] [.optr 0 0]] [bY p, iv l, .clos (.func 221) [] [.optr 1 0]] := RnL.cons (RnV.purI inferInstance) (RnL.cons (RnV.purI inferInstance) (RnL.cons (RnV.clos .nil (RnL.cons (RnV.optr rfl) .nil)) .nil))
 by_cases h : rX p l = true
 ·obtain ⟨hv, h0, h1⟩ := sK.1 h
  rw [h, if_pos rfl] at hw
  rw [h, if_pos rfl]
  obtain ⟨L, rfl⟩ := Int.eq_ofNat_of_zero_le h0
  have hp : 2 ^ L ≤ 2 ^ 6 := Nat.pow_le_pow_right (by decide) (by omega)
  rw [Int.toNat_natCast] at *
  refine aC Tryz.func168 Tryz.ntmps168 ?_
  repeat' (first|refine aE ?_|refine aF ?_|fail)
  refine aW (k := 220) (avs := [bY p, iv (L : Int), .clos (.func 221) [] [.optr 1 0]]) (rr' := bv true) [1] 1 [(1, some [iv (Cy p L (2 ^ L) : Int)])] hw rfl rfl ⟨⟨_, _, rfl, rfl, RnL.purI inferInstance⟩, trivial⟩ rfl harg rfl (RnV.purI inferInstance) rfl ⟨⟨0, _, rfl, rfl, RnL.purI inferInstance⟩, trivial⟩ rfl ?_
  repeat' (first|(apply aH;(apply gP;rfl;rfl;infer_instance;omega;rfl;(case' kk => intro hsm)))|refine aE ?_|refine aF ?_|refine bQ ?_|fail)
  exact aD (l := [iv _, iv _]) rfl ⟨rfl, rfl⟩
 ·have h2 : rX p l = false := by simpa using h
  rw [h2, if_neg (by decide)] at hw
  rw [if_neg h]
  refine aC Tryz.func168 Tryz.ntmps168 ?_
  repeat' (first|refine aE ?_|refine aF ?_|fail)
  refine aW (k := 220) (avs := [bY p, iv l, .clos (.func 221) [] [.optr 1 0]]) (rr' := bv false) [1] 1 [(1, some [iv 0])] hw rfl rfl ⟨⟨_, _, rfl, rfl, RnL.purI inferInstance⟩, trivial⟩ rfl harg rfl (RnV.purI inferInstance) rfl ⟨⟨0, _, rfl, rfl, RnL.purI inferInstance⟩, trivial⟩ rfl ?_
  repeat' (first|refine aE ?_|refine aF ?_|fail)
  exact aD (l := [iv 0, iv 0]) rfl ⟨rfl, rfl⟩
def OK (p : Prg) (l : Int) : Int := if rX p l = true then (Cy p l.toNat (2 ^ l.toNat) : Int) else 0
def Mp (p : Prg) (l : Int) : Int := if rX p l = true then ((2 ^ l.toNat : Nat) : Int) else 0
theorem Pv (p : Prg) (l : Int) (hl : p.types.length ≤ 1000000) (hs : aS p.body ≤ 1000000) : PC Tryz.prog 168 [bY p, iv l] (fun r => r = .tup [iv (OK p l), iv (Mp p l)]) := by
 have h := wA p l hl hs
 unfold OK Mp
 split
 ·rename_i h2;rw [if_pos h2] at h;exact h
 ·rename_i h2;rw [if_neg h2] at h;exact h
theorem M9 (p : Prg) (l : Int) : 0 ≤ Mp p l ∧ Mp p l ≤ 64 := by
 unfold Mp
 split
 ·rename_i h
  obtain ⟨_, h0, h1⟩ := sK.1 h
  have hp : 2 ^ l.toNat ≤ 2 ^ 6 := Nat.pow_le_pow_right (by decide) (by omega)
  have h64 : (2 ^ 6 : Nat) = 64 := rfl
  rw [h64] at hp
  exact ⟨Int.natCast_nonneg _, by exact_mod_cast hp⟩
 ·omega
def AE (p : Prg) (l : Int) : Option Nat := if rX p l = true then (List.range (2 ^ l.toNat)).find? (oC p l.toNat) else none
def OF (p : Prg) (l : Int) : List Int := match AE p l with | some n => wL n l.toNat | none => []
theorem LK {P : Nat → Bool} {k T : Nat} (hk : k < T) (h : P k = true) (hb : ∀ j, j < k → P j = false) : (List.range T).find? P = some k := by
 rw [List.find?_range_eq_some]
 exact ⟨h, List.mem_range.2 hk, fun j hj => by rw [hb j hj]; rfl⟩
theorem L9 {P : Nat → Bool} {T : Nat} (hb : ∀ j, j < T → P j = false) : (List.range T).find? P = none := by
 rw [List.find?_eq_none]; intro x hx;rw [hb x (List.mem_range.1 hx)]; decide
theorem wJ (p : Prg) (l : Int) (hl : p.types.length ≤ 1000000) (hs : aS p.body ≤ 1000000) : PC Tryz.prog 177 [bY p, iv l] (fun r => r = .tup [sl cI (OF p l), bv (AE p l).isSome]) := by
 have hr := w5 p l hl hs
 by_cases h : rX p l = true
 ·obtain ⟨hv, h0, h1⟩ := sK.1 h
  rw [h] at hr
  obtain ⟨L, rfl⟩ := Int.eq_ofNat_of_zero_le h0
  have e : AE p (L : Int) = (List.range (2 ^ L)).find? (oC p L) := by unfold AE;rw [if_pos h, Int.toNat_natCast]
  have e2 : OF p (L : Int) = match (List.range (2 ^ L)).find? (oC p L) with|some n => wL n L|none => [] := by unfold OF;rw [e, Int.toNat_natCast]
  rw [e, e2]
  have hru := I3 L (by omega)
  have hp : 2 ^ L ≤ 2 ^ 6 := Nat.pow_le_pow_right (by decide) (by omega)
  generalize hT : 2 ^ L = T at *
  refine aC Tryz.func177 Tryz.ntmps177 ?_
  repeat' (first|(apply aH;(apply aA (k := 178);rfl;exact hr;exact Pur.pf;rfl))|refine aE ?_|refine aF ?_|fail)
  refine aI (σ := Nat) [1, 2] [0] (fun k => [(6, iv (k : Int))]) (fun k => []) (fun k => k ≤ T ∧ ∀ j, j < k → oC p L j = false) (fun k => T - k) (0) ⟨Nat.zero_le _, fun j hj => by omega⟩ ?_
  rintro k ⟨hk, hb⟩
  have hch := A9 k L (by omega) (by omega)
  have hwr := FY p (wL k L) hl hs (by rw [sV]; omega)
  change PC _ _ _ (fun r => r = .tup [bv (oC p L k), _]) at hwr
  repeat' (first|(apply aH;first|(apply aA (k := 229);rfl;exact hch;(rfl);rfl)|(apply aA (k := 228);rfl;exact hwr;exact Pur.pf;rfl)|(apply aA (k := 227);rfl;exact hru;(rfl);rfl)|(apply aK (t := _);rfl;rfl;rfl;(rfl);rfl;rfl))|refine aE ?_|refine aF ?_|(refine aL ?_ ?_ <;> intro hc hq <;> try (exfalso;omega))|refine bQ ?_|fail)
  ·rw [LK (by omega) (by assumption) hb]
   exact aD (l := [sl cI (wL k L), bv true]) rfl ⟨rfl, Pur.pf⟩
  ·(refine bB (k + 1) (Le.renA [(0, 0)]) ?_ ?_)
   ·refine ⟨by omega, fun j hj => ?_⟩
    by_cases q : j = k
    ·subst q;assumption
    ·exact hb j (by omega)
   ·omega
  ·obtain rfl : k = T := by omega
   rw [L9 hb]
   exact aD (l := [.imm 0 [], bv false]) rfl ⟨rfl, rfl⟩
 ·have h2 : rX p l = false := by simpa using h
  rw [h2] at hr
  have e : AE p l = none := by unfold AE;rw [if_neg h]
  have e2 : OF p l = [] := by unfold OF;rw [e]
  rw [e, e2]
  refine aC Tryz.func177 Tryz.ntmps177 ?_
  repeat' (first|(apply aH;first|(apply aA (k := 178);rfl;exact hr;exact Pur.pf;rfl)|(apply aK (t := _);rfl;rfl;rfl;(rfl);rfl;rfl))|refine aE ?_|refine aF ?_|fail)
  exact aD (l := [.imm 0 [], bv false]) rfl ⟨rfl, rfl⟩
theorem KV (p : Prg) (l : Int) (hl : p.types.length ≤ 1000000) (hs : aS p.body ≤ 1000000) : PC Tryz.prog 99 [bY p, iv l] (fun r => r = bv (rX p l && (AE p l).isNone)) := by
 have h1 := wJ p l hl hs
 have h2 := w5 p l hl hs
 have e : (AE p l).isNone = !(AE p l).isSome := by cases AE p l <;> rfl
 rw [e]
 generalize (AE p l).isSome = b at *
 refine aC Tryz.func99 Tryz.ntmps99 ?_
 repeat' (first|(apply aH;first|(apply aA (k := 177);rfl;exact h1;exact Pur.pf;rfl)|(apply aA (k := 178);rfl;exact h2;exact Pur.pf;rfl))|refine aE ?_|refine aF ?_|(refine bS ?_ ?_ <;> intro hg hq <;> try (exfalso;omega))|fail)
 all_goals (refine aD rfl ⟨?_, rfl⟩; simp only [aO]; simp_all)
theorem LZ (p : Prg) (l : Int) : (decide (0 < Mp p l) && decide (OK p l = 0)) = (rX p l && (AE p l).isNone) := by
 unfold Mp OK AE
 by_cases h : rX p l = true
 ·rw [if_pos h, if_pos h, if_pos h, h]
  have hp : 0 < 2 ^ l.toNat := Nat.pow_pos (by decide)
  rw [decide_eq_true (by omega : (0 : Int) < ((2 ^ l.toNat : Nat) : Int)), Bool.true_and, Bool.true_and, Bool.eq_iff_iff, decide_eq_true_eq, Option.isNone_iff_eq_none, List.find?_eq_none]
  unfold Cy
  constructor
  ·intro q x hx hb
   have : (List.range (2 ^ l.toNat)).filter (oC p l.toNat) = [] := List.length_eq_zero_iff.1 (by omega)
   have hm : x ∈ (List.range (2 ^ l.toNat)).filter (oC p l.toNat) := List.mem_filter.2 ⟨hx, hb⟩
   rw [this] at hm;cases hm
  ·intro q
   have : (List.range (2 ^ l.toNat)).filter (oC p l.toNat) = [] := List.filter_eq_nil_iff.2 q
   rw [this]; rfl
 ·rw [if_neg h, if_neg h, if_neg h]
  have h2 : rX p l = false := by simpa using h
  rw [h2]; rfl
theorem Kb (p : Prg) (l : Int) (hl : p.types.length ≤ 1000000) (hs : aS p.body ≤ 1000000) : PC Tryz.prog 95 [bY p, iv l] (fun r => r = bv (rX p l && (AE p l).isNone)) := by
 have h1 := Pv p l hl hs
 rw [← LZ]
 have hb := M9 p l
 generalize Mp p l = a at *
 generalize OK p l = c at *
 refine aC Tryz.func95 Tryz.ntmps95 ?_
 repeat' (first|(apply aH;(apply aA (k := 168);rfl;exact h1;exact Pur.pf;rfl))|refine aE ?_|refine aF ?_|(refine bS ?_ ?_ <;> intro hg hq <;> try (exfalso;omega))|fail)
 all_goals (refine aD rfl ⟨?_, rfl⟩; simp only [aO]; first|(simp_all;done)|(simp_all;omega))
end Go.Proofs.YtahdccneecdmmaaGreat
namespace Go.Proofs.YtahdccneecdmmaaGreat
open Go.AL Go.ChangeShapes Go.WideShapes Go.ChangeAt Go.RowKit
theorem xR {w : World} {bad : Nat → Prop} {ι : Pl} {b : Nat} : ∀ (bs : List UInt8) (o : Nat), ¬ bad b → (∀ j, j < bs.length → w.cell? ⟨b, o + j, none⟩ = some (.int .u8 ((bs[j]!).toNat : Int))) → RdC w bad ι (flat cU bs) b o
 | [], _, _, _ => by simp only [flat, List.flatMap_nil, RdC]
 | x :: bs, o, hb, h => by
  have h0 := h 0 (by simp)
  have e : flat cU (x :: bs) = .v (.int .u8 (x.toNat : Int)) :: flat cU bs := rfl
  rw [e]
  simp only [RdC]
  refine ⟨⟨.int .u8 (x.toNat : Int), by simpa using h0, rfl, by simp only [Rd]⟩, xR bs (o + 1) hb fun j hj => ?_⟩
  have := h (j + 1) (by simpa using hj)
  rw [show o + 1 + j = o + (j + 1) from by omega]
  simpa using this
theorem A1 {P : Program} {k : FuncId} {bs : List UInt8} (h : PC P k [sl cU bs] (fun r => r = bv true)) {W : World} {v : Value} (hv : Rd W (fun _ => False) (fun _ => none) (sl cU bs) v) :
  Calls P k #[v] W fun e W' => e = .returned (.bool true) ∧ Below W.heap.size W W' := by
 let C : Ctx := { N := 0, w0 := W, W0 := fun _ => False, X := fun _ => False, ι0 := fun _ => none, xlt := fun _ h => h.elim }
 have hbad : ∀ b, ¬ aM C.X (fun _ => none) (aT []) b := by
  rintro b (h | ⟨id, cs, β, h1, h2⟩)
  ·exact h
  ·cases h2
 have g : HG C (fun _ => none) (fun j => 0 ≤ j) (aT []) W :=
  ⟨fun id cs h => by simp [aT] at h, fun id id' cs cs' b β β' h => by simp [aT] at h, Fr.refl _ _, fun _ _ h => h, fun _ _ => rfl⟩
 have hcar : Carry W (fun _ => False) (fun _ => none) W (aM C.X (fun _ => none) (aT [])) (fun _ => none) := ⟨fun b o x _ h2 => ⟨hbad b, h2⟩, fun _ _ h => h, fun _ => Nat.le_refl _⟩
 have ha : RdV W (aM C.X (fun _ => none) (aT [])) (fun _ => none) [sl cU bs] [v] := by
  simp only [RdV]
  exact ⟨v, [], rfl, Rd.carry hcar _ _ hv, rfl⟩
 refine (h C _ W [v] rfl rfl g ha).mono ?_
 rintro e W' ⟨v', r, H', ι', rfl, ⟨rfl, _⟩, h4, h5⟩
 simp only [Rd] at h4
 subst h4
 have f := h5.fr
 exact ⟨rfl, f.os, f.tape, f.output, f.size, fun b hb => f.block b hb (fun h => h)⟩
theorem PS : laidOutB Tryz.prog = true := by kernel_rfl
theorem Nr : Tryz.prog.cellsOf 5 = 1 := by kernel_rfl
theorem Je {H : Type} {enc : TypeId × Value → H} {W : World} {base : Nat} {v0 : Value} {d0 : DataW H} {p : List MemPlace} (hval : Value.okWide Tryz.prog W .any base 22 v0) (h0 : DataW.Trod enc Tryz.prog W 0 (fun _ => true) true 22 v0 d0 p) :
  ∃ bs : List UInt8, Rd W (fun _ => False) (fun _ => none) (sl cU bs) v0 := by
 obtain ⟨a0, len, cap, rfl⟩ := okWide_slice Tryz.underlying22 hval
 obtain ⟨fuel, hf⟩ := h0
 rcases open_ints Tryz.underlying22 Tryz.underlying5 Nr hf with ⟨hcs, hx⟩ | ⟨a, len', cap', zs, hcs, _, hl, hm, hz, hx, hcell, hwz⟩
 ·simp [Value.cells] at hcs
  obtain ⟨rfl, rfl, rfl⟩ := hcs
  refine ⟨[], ?_⟩
  simp only [Rd]
  exact ⟨none, 0, rfl, .inl rfl⟩
 ·simp [Value.cells] at hcs
  obtain ⟨rfl, rfl, rfl⟩ := hcs
  simp only [if_true] at hz
  refine ⟨(zs.take len).map fun n => UInt8.ofNat n.toNat, ?_⟩
  have hlen : ((zs.take len).map fun n => UInt8.ofNat n.toNat).length = len := by simp;omega
  simp only [Rd]
  refine ⟨some a, cap, by rw [hlen], ?_⟩
  by_cases h00 : len = 0
  ·exact .inl (by rw [hlen]; exact h00)
  ·obtain ⟨b, off, spot⟩ := a
   have hspot : spot = none := by simpa [Addr.add] using World.cell?_spot (hcell 0 (by omega))
   subst hspot
   refine .inr ⟨b, off, by rw [hlen]; exact hl, rfl, .inr ⟨fun h => h, xR _ _ (fun h => h) fun j hj => ?_⟩⟩
   rw [hlen] at hj
   have hcj := hcell j (by omega)
   rw [Addr.add_lit] at hcj
   rw [hcj]
   have e : zs.getD j 0 = zs[j]'(by omega) := by simp [List.getD, List.getElem?_eq_getElem (show j < zs.length by omega)]
   have hw := hwz (zs[j]'(by omega)) (List.getElem_mem _)
   have hr : 0 ≤ zs[j]'(by omega) ∧ zs[j]'(by omega) ≤ 255 := by simpa [Lit.wf, IntKind.min, IntKind.max, IntKind.signed, IntKind.bits] using hw
   rw [e, bE _ _ (by rw [hlen]; exact hj)]
   simp only [List.getElem_map, List.getElem_take]
   congr 2
   simp only [UInt8.toNat_ofNat']
   omega
end Go.Proofs.YtahdccneecdmmaaGreat
namespace Go.Proofs.YtahdccneecdmmaaGreat
open Go.AL Go.RowKit
theorem IM (ck : Nat) [hck : CaT Tryz.prog ck] (ts : List Int) (bd : List AL.Stmt) (pts : List Pnt) (Aa Am Al Af Ap : List Nat) (w : WG ts pts) (ga : n0 ts pts Aa) (gm : mV ts pts Am) (hll : Al.length = pts.length) (hAlb : ∀ i, i < pts.length → Al[i]! < 2 ^ ts.length) (gf : o6 ts pts Af) (gp : nY ts pts Ap)
  (hcl : ∀ i : Int, 0 ≤ i ∧ i < pts.length → PC Tryz.prog ck [iv i, .iptr [.imm pts.length (flat cW Af)]] (fun r => r = .agg (flat cW (cG Af i.toNat)))) :
  PC Tryz.prog 105 [aG ts bd pts, .imm pts.length (flat cN Al), .clos (.func ck) [] [.iptr [.imm pts.length (flat cW Af)]]] (fun r => r = sl dV (iN ts pts Aa Am Al Af Ap pts.length)) := by
 have hpl := w.pl
 have htl := w.tl
 have hla := ga.1
 have hlm := gm.1
 have hlf := gf.1
 have hlp := gp.1
 refine aC Tryz.func105 Tryz.ntmps105 ?_
 repeat' (first|(apply aH;first|(apply fN (d := 10) (e := 3);rfl;rfl)|(first|(apply aA (k := 102);rfl;(apply sY <;> (assumption));exact Pur.pf;rfl)|(apply aA (k := 121);rfl;(apply s7 <;> (assumption));exact Pur.pf;rfl)|(apply aA (k := 184);rfl;(apply vR <;> (assumption));exact Pur.pf;rfl)))|refine aE ?_|refine aF ?_|fail)
 refine aI (σ := Nat × List Iss × Nat) [0, 1, 2, 7, 8, 9, 27, 28] [] (fun k => [(29, iv (k.1 : Int)), (10, .own 0 0 k.2.2 3)]) (fun k => [(0, some (flat dV k.2.1))]) (fun k => k.1 ≤ pts.length ∧ k.2.1 = iN ts pts Aa Am Al Af Ap k.1 ∧ k.2.2 = k.2.1.length ∧ k.2.2 ≤ k.1 * 124) (fun k => pts.length - k.1) (0, [], 0) ⟨by omega, rfl, rfl, Nat.le_refl _⟩ ?_
 rintro ⟨i, u, m⟩ ⟨hk, hu, hm, hmk⟩
 dsimp only at hk hu hm hmk ⊢
 by_cases hin : i < pts.length
 ·have hst := w.set i hin
  have hsU : Sm (wS ts pts[i]! [1, 2, 3]) := bU (by omega)
  have bl : ∀ {A : Nat} {n : Nat}, n ≤ 62 → (∀ v, A.testBit v = true → v < n) → A < 2 ^ n := fun _ hv => Nat.lt_pow_two_of_testBit _ fun v h => by
   cases hq : Nat.testBit _ v with
   | false => rfl
   | true => have := hv v hq;omega
  have hAa : Sm Aa[i]! := ⟨bl (n := 62) (by omega) fun v hv => by have := ((ga.2 i hin v).1 hv).1;omega⟩
  have hAm : Sm Am[i]! := ⟨bl (n := 62) (by omega) fun v hv => by have := rU w ((gm.2 i hin v).1 hv);dsimp only at this;omega⟩
  have hAl := hAlb i hin
  have hAl2 : Sm Al[i]! := ⟨Nat.lt_of_lt_of_le hAl (Nat.pow_le_pow_right (by decide) (by omega))⟩
  have hAp : Ap[i]! < 2 ^ pts.length := bl (by omega) fun v hv => (m5 ((gp.2 i hin v).1 hv)).1
  have hAp2 : Sm Ap[i]! := ⟨Nat.lt_of_lt_of_le hAp (Nat.pow_le_pow_right (by decide) (by omega))⟩
  have hrl := eF hlf hin
  have hrs : ∀ z : Nat, Sm (cG Af i)[z]! := by
   intro z
   by_cases hz : z < 6
   ·rw [dX hlf hin hz]
    exact ⟨bl (n := 62) (by omega) fun v hv => by have := (xT w ((gf.2 i z hin hz v).1 hv)).2.2;dsimp only at this;omega⟩
   ·rw [getElem!_neg _ z (by rw [hrl]; exact hz)]; exact ⟨by decide⟩
  have hkp : lQ ts pts[(i : Int).toNat]! Al[i]! (cG Af (i : Int).toNat) < 2 ^ pts.length := by
   refine bl (by omega) fun v hv => ?_
   unfold lQ at hv
   rw [dU] at hv
   rcases hv with hv | ⟨z, hz, hv⟩
   ·simp at hv
   ·obtain ⟨q, h1, h2, rfl⟩ := b9.1 hz
    rw [cD, Bool.and_eq_true] at h2
    have h3 := cL hAl h2.1
    have h4 : q < 6 := by omega
    have h5 : (cG Af i)[q]!.testBit v = true := hv
    rw [dX hlf hin h4] at h5
    exact (xT w ((gf.2 i q hin h4 v).1 h5)).2.2
  have hkp2 : Sm (lQ ts pts[(i : Int).toNat]! Al[i]! (cG Af (i : Int).toNat)) := ⟨Nat.lt_of_lt_of_le hkp (Nat.pow_le_pow_right (by decide) (by omega))⟩
  have hlo : lQ ts pts[(i : Int).toNat]! Al[i]! (cG Af (i : Int).toNat) &&& Ap[i]! < 2 ^ pts.length := Nat.and_lt_two_pow _ hAp
  have hcf := qQ w (Am := Am) (Al := Al) (Af := Af) (i := i) hAp
  have hcf2 : Sm (uK ts pts Am Al Af Ap i) := ⟨Nat.lt_of_lt_of_le hcf (Nat.pow_le_pow_right (by decide) (by omega))⟩
  have hcf3 : Sm (EF pts (lQ ts pts[(i : Int).toNat]! Al[i]! (cG Af (i : Int).toNat) &&& Ap[i]!) (fR ts pts[(i : Int).toNat]! (Am[i]!.testBit (aQ pts[(i : Int).toNat]!).toNat)) 0) := hcf2
  have hb1 := cF (iO (wS ts pts[i]! [1, 2, 3]) Aa[i]!)
  have hb2 := cF (uK ts pts Am Al Af Ap i)
  repeat' (first|(apply aH;(first|(apply aA (k := 120);rfl;(apply fY <;> (infer_instance));(rfl);rfl)|(apply aA (k := 158);rfl;(apply gV <;> (assumption));exact Pur.pf;rfl)))|refine aE ?_|refine aF ?_|(refine aL ?_ ?_ <;> intro hc hq <;> try (exfalso;omega))|refine bQ ?_|fail)
  have hb1b : ∀ j, j < (a7 (iO (wS ts pts[i]! [1, 2, 3]) Aa[i]!)).length → 0 ≤ (a7 (iO (wS ts pts[i]! [1, 2, 3]) Aa[i]!))[j]! := fun j h => (gN (inferInstance : Sm (iO (wS ts pts[i]! [1, 2, 3]) Aa[i]!)).pf h).1
  refine aI (σ := Nat × List Iss × Nat) [0, 1, 2, 7, 8, 9, 11, 27, 28, 29, 42, 43] [] (fun j => [(44, iv (j.1 : Int)), (10, .own 0 0 j.2.2 3)]) (fun j => [(0, some (flat dV j.2.1))]) (fun j => j.1 ≤ (a7 (iO (wS ts pts[i]! [1, 2, 3]) Aa[i]!)).length ∧ j.2.1 = u ++ oE i ((a7 (iO (wS ts pts[i]! [1, 2, 3]) Aa[i]!)).take j.1) ∧ j.2.2 = j.2.1.length ∧ j.2.2 ≤ i * 124 + j.1) (fun j => (a7 (iO (wS ts pts[i]! [1, 2, 3]) Aa[i]!)).length - j.1) (0, u, m) ⟨by omega, by simp [oE], hm, by omega⟩ ?_
  rintro ⟨j, u2, m2⟩ ⟨hj, hu2, hm2, hmk2⟩
  dsimp only at hj hu2 hm2 hmk2 ⊢
  by_cases hjn : j < (a7 (iO (wS ts pts[i]! [1, 2, 3]) Aa[i]!)).length
  ·repeat' (first | (apply aH; (apply aK (t := _);rfl;rfl;rfl;(exact (rfl:_=some [_, _, _]));rfl;rfl)) | refine aE ?_ | refine aF ?_ | (refine aL ?_ ?_ <;> intro hc hq <;> try (exfalso; omega))|fail)
   (refine bB (j + 1, _, _) (Le.renA [(0, 3)]) ?_ ?_)
   ·dsimp only
    refine ⟨by omega, ?_, by simp;omega, by omega⟩
    rw [hu2]; unfold oE;rw [cX _ _ _ hjn, List.append_assoc]
   ·dsimp only;omega
  ·have hu3 : u2 = u ++ oE i (a7 (iO (wS ts pts[i]! [1, 2, 3]) Aa[i]!)) := by rw [hu2, List.take_of_length_le (by omega)]
   have hcl0 := hcl (i : Int) (by omega)
   repeat' (first|(apply aH;first|(first|(apply aA (k := 76);rfl;(apply lF <;> (assumption));(rfl);rfl)|(apply aA (k := 185);rfl;(apply qN <;> (first|assumption|omega));exact Pur.pf;rfl)|(apply aA (k := 186);rfl;(apply Cs <;> (first|assumption|omega));exact Pur.pf;rfl))|(apply gR;rfl;rfl;infer_instance;rfl;(apply hcl0);exact Pur.pf;rfl))|refine aE ?_|refine aF ?_|(refine aL ?_ ?_ <;> intro hc hq <;> try (exfalso;omega))|refine bQ ?_|fail)
   generalize hL : a7 (EF pts (lQ ts pts[(i : Int).toNat]! Al[i]! (cG Af (i : Int).toNat) &&& Ap[i]!) (fR ts pts[(i : Int).toNat]! (Am[i]!.testBit (aQ pts[(i : Int).toNat]!).toNat)) 0) = L2
   have hL2 : a7 (uK ts pts Am Al Af Ap i) = L2 := hL
   have hbd : ∀ j, j < L2.length → 0 ≤ L2[j]! ∧ L2[j]! < pts.length := fun j h => by rw [← hL2] at h ⊢; exact gN hcf h
   rw [hL2] at hb2
   refine aI (σ := Nat × List Iss × Nat) [0, 1, 2, 7, 8, 9, 11, 27, 28, 29, 77, 78] [] (fun l => [(79, iv (l.1 : Int)), (10, .own 0 0 l.2.2 3)]) (fun l => [(0, some (flat dV l.2.1))]) (fun l => l.1 ≤ L2.length ∧ l.2.1 = u2 ++ oA pts i (L2.take l.1) ∧ l.2.2 = l.2.1.length ∧ l.2.2 ≤ i * 124 + 62 + l.1) (fun l => L2.length - l.1) (0, u2, m2) ⟨by omega, by simp [oA], hm2, Nat.le_trans hmk2 (by omega)⟩ ?_
   rintro ⟨l, u4, m4⟩ ⟨hl, hu4, hm4, hmk4⟩
   dsimp only at hl hu4 hm4 hmk4 ⊢
   by_cases hln : l < L2.length
   ·have hbl := hbd l hln
    repeat' (first|(apply aH;(apply aK (t := _);rfl;rfl;rfl;(exact (rfl:_=some [_, _, _]));rfl;rfl))|refine aE ?_|refine aF ?_|(refine aL ?_ ?_ <;> intro hc hq <;> try (exfalso;omega))|fail)
    ·(refine bB (l + 1, _, _) (Le.renA [(0, 3)]) ?_ ?_)
     ·dsimp only
      refine ⟨by omega, ?_, by simp;omega, by omega⟩
      rw [hu4]; unfold oA;rw [cX _ _ _ hln, List.append_assoc, if_pos hq]
     ·dsimp only;omega
    ·(refine bB (l + 1, _, _) (Le.renA [(0, 3)]) ?_ ?_)
     ·dsimp only
      refine ⟨by omega, ?_, by simp;omega, by omega⟩
      rw [hu4]; unfold oA;rw [cX _ _ _ hln, List.append_assoc, if_neg hq]
     ·dsimp only;omega
   ·repeat' (first | refine aE ?_ | refine aF ?_ | (refine aL ?_ ?_ <;> intro hc hq <;> try (exfalso; omega))|fail)
    (refine bB (i + 1, u4, m4) (Le.renA [(0, 0)]) ?_ ?_)
    ·dsimp only
     refine ⟨by omega, ?_, hm4, by omega⟩
     rw [jE, hu4, List.take_of_length_le (by omega), hu3, ← hL2, hu, List.append_assoc]; rfl
    ·dsimp only;omega
 ·repeat' (first | refine aE ?_ | refine aF ?_ | (refine aL ?_ ?_ <;> intro hc hq <;> try (exfalso; omega))|fail)
  (refine aR (Le.frzD (d := 6) (i := 0) rfl rfl) ?_; refine aD rfl ?_)
  refine ⟨?_, (by (exact a8 _ _))⟩
  simp only [aO, sl]
  rw [hm, hu, show i = pts.length by omega]
theorem IB (n : Nat) (A : List Nat) (i : Int) (hA : A.length = n * 6) (hi : 0 ≤ i ∧ i < n) : PC Tryz.prog 106 [iv i, .iptr [.imm n (flat cW A)]] (fun r => r = .agg (flat cW (cG A i.toNat))) := by
 have h6 : ((A.drop (i.toNat * 6)).take 6).length = 6 := eF hA (by omega)
 refine aC Tryz.func106 Tryz.ntmps106 ?_
 repeat' (first|refine aE ?_|refine aF ?_|fail)
 refine aD (g9 (z := 6) rfl rfl h6 (by decide)) ⟨rfl, (by (exact a8 _ _))⟩
theorem MX {ts : List Int} {pts : List Pnt} (w : WG ts pts) {Am : List Nat} (gm : mV ts pts Am) (i : Nat) (hi : i < pts.length) : (xO ts pts Am)[i]! < 2 ^ ts.length := by
 rw [pB _ _ _ hi]
 refine nE w hi (Nat.lt_pow_two_of_testBit _ fun v hv => ?_)
 rw [Bool.eq_false_iff]; intro hq
 have := rU w ((gm.2 i hi v).1 hq);dsimp only at this;omega
theorem xX (p : Prg) (f : Flows p.types (aB p)) (hv : bG p = true) (hl : p.types.length ≤ 1000000) (hs : aS p.body ≤ 1000000) : PC Tryz.prog 40 [bY p] (fun r => r = sl dV (wE p f)) := by
 have w := WG.of_valid hv
 have hg := jG p hl hs
 rw [if_pos hv] at hg
 have hpl := w.pl
 have hck := IM 106 p.types p.body (aB p) f.Aa f.Am (xO p.types (aB p) f.Am) f.Af f.Ap w f.ga f.gm (Em _ _ _) (MX w f.gm) f.gf f.gp (fun i hi => IB _ _ i f.gf.1 hi)
 have hml := f.gm.1
 have hsm : ∀ z : Nat, Sm f.Am[z]! := by
  intro z
  by_cases hz : z < (aB p).length
  ·refine ⟨Nat.lt_of_lt_of_le (Nat.lt_pow_two_of_testBit _ (n := 6) fun v hv => ?_) (by decide)⟩
   cases hq : f.Am[z]!.testBit v with
   | false => rfl
   | true => have := rU w ((f.gm.2 z hz v).1 hq);have := w.tl;dsimp only at *; omega
  ·rw [getElem!_neg f.Am z (by rw [hml]; exact hz)]; exact ⟨by decide⟩
 have hms := sY p.types p.body (aB p) f.Am w f.gm
 have hln := w9 p.types p.body (aB p) f.Af w f.gf
 refine aC Tryz.func40 Tryz.ntmps40 ?_
 repeat' (first|(apply aH;first|(apply aA (k := 72);rfl;exact hg;exact Pur.pf;rfl)|(apply aA (k := 102);rfl;exact hms;exact Pur.pf;rfl))|refine aE ?_|refine aF ?_|fail)
 refine AW.le ?_ (Le.nilOwn (d := 5) 1 rfl (by decide))
 refine aI (σ := Nat × List Nat) [3, 17, 18] [] (fun k => [(19, iv (k.1 : Int)), (5, .own 1 0 k.1 1)]) (fun k => [(1, some (flat cN k.2))]) (fun k => k.1 ≤ (aB p).length ∧ k.2 = (xO p.types (aB p) f.Am).take k.1) (fun k => (aB p).length - k.1) (0, []) ⟨Nat.zero_le _, rfl⟩ ?_
 rintro ⟨k, u⟩ ⟨hk, hu⟩
 dsimp only at hk hu ⊢
 have hvll := Em p.types (aB p) f.Am
 have hul : u.length = k := by rw [hu, List.length_take]; omega
 repeat' (first|(apply aH;first|(apply aA (k := 104);rfl;exact hln;exact Pur.pf;rfl)|(with_reducible apply aX (d := 34))|(apply aA (k := 103);rfl;(apply tD <;> (first|assumption|omega|infer_instance));exact Pur.pf;rfl))|refine aE ?_|refine aF ?_|(refine aL ?_ ?_ <;> intro hc hq <;> try (exfalso;omega))|fail)
 ·(refine bB (k + 1, _) (Le.renA [(1, 3)]) ?_ ?_)
  ·dsimp only
   refine ⟨by omega, ?_⟩
   rw [hu, bH _ _ (by omega), pB _ _ _ (by omega)]; rfl
  ·dsimp only;omega
 ·have huu : u = xO p.types (aB p) f.Am := by rw [hu, List.take_of_length_le (by omega)]
  refine bV (c6 ?_ (Le.frzD (d := 5) (i := 1) rfl rfl))
  rw [huu, show k = (aB p).length by omega]
  repeat' (first|(apply aH;first|(apply l3;rfl;rfl;rfl)|(apply aA (k := 105);rfl;exact hck;exact Pur.pf;rfl))|refine aE ?_|refine aF ?_|fail)
  exact aD rfl ⟨rfl, (by (exact a8 _ _))⟩
theorem CU (p : Prg) (f : Flows p.types (aB p)) (Al : List Nat) (hal : ∀ i, i < (aB p).length → Al[i]! < 2 ^ p.types.length) (hs : aS p.body ≤ 1000000) (w : WG p.types (aB p)) (hr : Rch (aB p)) : PC Tryz.prog 169 [bY p, sl gJ (bI p.types.length (aB p).length Al)] (fun r => r = sl dV (iN p.types (aB p) f.Aa f.Am Al f.Af f.Ap (aB p).length)) := by
 have hpl := w.pl
 have hp0 := w.p0
 have htl := w.tl
 have hfa := fH p true f.Aa hs w hr (by unfold kI;exact f.ga)
 have hfm := fH p false f.Am hs w hr (by unfold kI;exact f.gm)
 have hfl := tJ p f.Af f.Ap hs w f.gf f.gp
 have hra := cV p.types.length (aB p).length f.Aa
 have hrm := cV p.types.length (aB p).length f.Am
 have hrl := cV p.types.length (aB p).length Al
 have hfll : ((List.range (aB p).length).map (eZ p.types.length (aB p).length f.Af f.Ap)).length = (aB p).length := by simp
 refine aC Tryz.func169 Tryz.ntmps169 ?_
 repeat' (first|(apply aH;first|(apply aA (k := 132);rfl;exact dK p hs;exact Pur.pf;rfl)|(apply aA (k := 64) (d := 20);rfl;exact hfa;exact Pur.pf;rfl)|(apply aA (k := 64) (d := 22);rfl;exact hfm;exact Pur.pf;rfl)|(apply aA (k := 171);rfl;exact hfl;exact Pur.pf;rfl))|refine aE ?_|refine aF ?_|fail)
 refine aI (σ := Nat × List Iss × Nat) [1, 2, 6, 7, 8, 9] [0] (fun s => [(10, iv (s.1 : Int)), (5, .own 1 0 s.2.2 3)]) (fun s => [(1, some (flat dV s.2.1))]) (fun s => s.1 ≤ (aB p).length ∧ s.2.1 = iN p.types (aB p) f.Aa f.Am Al f.Af f.Ap s.1 ∧ s.2.2 = s.2.1.length ∧ s.2.2 ≤ 67 * s.1) (fun s => (aB p).length - s.1) (0, [], 0) ⟨Nat.zero_le _, rfl, rfl, Nat.le_refl _⟩ ?_
 rintro ⟨i, L, m⟩ ⟨hi, hL, hm, hmb⟩
 dsimp only at hi hL hm hmb
 try dsimp only
 by_cases hin : i < (aB p).length
 ·repeat' (first | refine aE ?_ | refine aF ?_ | (refine aL ?_ ?_ <;> intro hc hq <;> try (exfalso; omega))|fail)
  refine aI (σ := Nat × List Iss × Nat) [1, 2, 6, 7, 8, 9, 10] [0] (fun s => [(11, iv (s.1 : Int)), (5, .own 1 0 s.2.2 3)]) (fun s => [(1, some (flat dV s.2.1))]) (fun s => s.1 ≤ p.types.length ∧ s.2.1 = L ++ J2 p.types (aB p) f.Aa i s.1 ∧ s.2.2 = s.2.1.length ∧ s.2.2 ≤ 67 * i + s.1) (fun s => p.types.length - s.1) (0, L, m) ⟨Nat.zero_le _, (List.append_nil L).symm, hm, hmb⟩ ?_
  rintro ⟨v, L2, m2⟩ ⟨hv, hL2, hm2, hmb2⟩
  dsimp only at hv hL2 hm2 hmb2
  try dsimp only
  by_cases hvn : v < p.types.length
  ·have hga := hO p.types.length (aB p).length f.Aa i v hin hvn
   have hgl : (bI p.types.length (aB p).length f.Aa)[i]!.length = p.types.length := by rw [cP _ _ _ _ hin]; simp
   repeat' (first|(apply aH;(apply aA (k := 173);rfl;(apply kA <;> (omega));exact Pur.pf;rfl))|refine aE ?_|refine aF ?_|(refine aL ?_ ?_ <;> intro hc hq <;> try (exfalso;omega))|(refine bS ?_ ?_ <;> intro hg hq <;> try (exfalso;omega))|refine bQ ?_|fail)
   ·(refine bB (v + 1, L2 ++ [⟨i, 1, v⟩], m2 + 1) (Le.renA [(0, 0), (1, 3)]) ?_ ?_)
    ·have hu : rM p.types (aB p) f.Aa i v = true := by
      unfold rM;rw [← hga, decide_eq_false (by assumption), (by assumption : (bI p.types.length (aB p).length f.Aa)[i]![v]! = false)]; rfl
     exact ⟨(by show v + 1 ≤ p.types.length;omega), (by show L2 ++ [⟨i, 1, v⟩] = _; rw [hL2, List.append_assoc, ← yH hu]), (by show m2 + 1 = (L2 ++ [_]).length;rw [List.length_append, List.length_singleton, hm2]), (by show m2 + 1 ≤ 67 * i + (v + 1);omega)⟩
    ·show p.types.length - (v + 1) < p.types.length - v;omega
   ·(refine bB (v + 1, L2, m2) (Le.renA [(0, 0), (1, 1)]) ?_ ?_)
    ·have hu : rM p.types (aB p) f.Aa i v = false := by
      unfold rM;rw [← hga, (by assumption : (bI p.types.length (aB p).length f.Aa)[i]![v]! = true)]; simp
     exact ⟨(by show v + 1 ≤ p.types.length;omega), (by show L2 = _; rw [kO hu]; exact hL2), hm2, (by show m2 ≤ 67 * i + (v + 1);omega)⟩
    ·show p.types.length - (v + 1) < p.types.length - v;omega
   ·(refine bB (v + 1, L2, m2) (Le.renA [(0, 0), (1, 1)]) ?_ ?_)
    ·have hu : rM p.types (aB p) f.Aa i v = false := by
      unfold rM;rw [decide_eq_true (by assumption)]; rfl
     exact ⟨(by show v + 1 ≤ p.types.length;omega), (by show L2 = _; rw [kO hu]; exact hL2), hm2, (by show m2 ≤ 67 * i + (v + 1);omega)⟩
    ·show p.types.length - (v + 1) < p.types.length - v;omega
  ·have hvN : v = p.types.length := by omega
   have hset := w.set i hin
   have hy := w.y i hin
   have hfi : ((List.range (aB p).length).map (eZ p.types.length (aB p).length f.Af f.Ap))[i]! = eZ p.types.length (aB p).length f.Af f.Ap i := a6 _ _ _ hin
   have hgm : (bI p.types.length (aB p).length f.Am)[i]!.length = p.types.length := by rw [cP _ _ _ _ hin]; simp
   have hgl : (bI p.types.length (aB p).length Al)[i]!.length = p.types.length := by rw [cP _ _ _ _ hin]; simp
   have hf2 : (eZ p.types.length (aB p).length f.Af f.Ap i).2.length = (aB p).length := by simp [eZ]
   have hf1 : (eZ p.types.length (aB p).length f.Af f.Ap i).1.length = p.types.length := by simp [eZ]
   have hf3 : ∀ v, v < p.types.length → (eZ p.types.length (aB p).length f.Af f.Ap i).1[v]!.length = (eZ p.types.length (aB p).length f.Af f.Ap i).2.length := fun v hv => by
    rw [hf2]; unfold eZ;dsimp only;rw [a6 _ _ _ hv]; simp
   have hacc := lN p.types (aB p)[i]! (bI p.types.length (aB p).length f.Am)[i]! htl hgm hset.1 hy
   have hlv := uF p.types (aB p)[i]! ((List.range (aB p).length).map (eZ p.types.length (aB p).length f.Af f.Ap))[i]!.1 ((List.range (aB p).length).map (eZ p.types.length (aB p).length f.Af f.Ap))[i]!.2 (bI p.types.length (aB p).length Al)[i]! htl (by rw [hfi, hf2]; exact hpl) hgl (by rw [hfi]; exact hf1) (by rw [hfi]; exact hf3)
   have hlvl : (tY p.types (aB p)[i]! ((List.range (aB p).length).map (eZ p.types.length (aB p).length f.Af f.Ap))[i]!.1 (bI p.types.length (aB p).length Al)[i]! ((List.range (aB p).length).map (eZ p.types.length (aB p).length f.Af f.Ap))[i]!.2.length).length = (aB p).length := by unfold tY;rw [List.length_map, List.length_range, hfi, hf2]
   have hcn := kL (aB p) (fR p.types (aB p)[i]! (bI p.types.length (aB p).length f.Am)[i]![(aQ (aB p)[i]!).toNat]!) ((List.range (aB p).length).map (eZ p.types.length (aB p).length f.Af f.Ap))[i]!.1 ((List.range (aB p).length).map (eZ p.types.length (aB p).length f.Af f.Ap))[i]!.2 (tY p.types (aB p)[i]! ((List.range (aB p).length).map (eZ p.types.length (aB p).length f.Af f.Ap))[i]!.1 (bI p.types.length (aB p).length Al)[i]! ((List.range (aB p).length).map (eZ p.types.length (aB p).length f.Af f.Ap))[i]!.2.length) hpl (by have := oP p.types (aB p)[i]! (bI p.types.length (aB p).length f.Am)[i]![(aQ (aB p)[i]!).toNat]!; omega) (by rw [hfi]; exact hf2) hlvl
   have hcf : J7 (aB p) (fR p.types (aB p)[i]! (bI p.types.length (aB p).length f.Am)[i]![(aQ (aB p)[i]!).toNat]!) ((List.range (aB p).length).map (eZ p.types.length (aB p).length f.Af f.Ap))[i]!.2 (tY p.types (aB p)[i]! ((List.range (aB p).length).map (eZ p.types.length (aB p).length f.Af f.Ap))[i]!.1 (bI p.types.length (aB p).length Al)[i]! ((List.range (aB p).length).map (eZ p.types.length (aB p).length f.Af f.Ap))[i]!.2.length) = Ac p.types (aB p) f.Am Al f.Af f.Ap i := by
    rw [hfi, hf2]; rfl
   have hcl : (Ac p.types (aB p) f.Am Al f.Af f.Ap i).length = (aB p).length := by unfold Ac;rw [o9]
   repeat' (first|(apply aH;first|(apply aA (k := 175);rfl;exact hacc;exact Pur.pf;rfl)|(apply aA (k := 176);rfl;exact hlv;exact Pur.pf;rfl)|(apply aA (k := 174);rfl;exact hcn;exact Pur.pf;rfl)|(with_reducible apply aX (d := 14)))|refine aE ?_|refine aF ?_|(refine aL ?_ ?_ <;> intro hc hq <;> try (exfalso;omega))|refine bQ ?_|fail)
   refine bV ?_
   rw [hcf]
   repeat' (first|refine aE ?_|refine aF ?_|fail)
   refine aI (σ := Nat × List Iss × Nat) [1, 2, 6, 7, 8, 9, 10, 13] [0] (fun s => [(14, iv (s.1 : Int)), (5, .own 1 0 s.2.2 3)]) (fun s => [(1, some (flat dV s.2.1))]) (fun s => s.1 ≤ (aB p).length ∧ s.2.1 = L2 ++ Kw (aB p) (Ac p.types (aB p) f.Am Al f.Af f.Ap i) i s.1 ∧ s.2.2 = s.2.1.length ∧ s.2.2 ≤ 67 * i + 6 + s.1) (fun s => (aB p).length - s.1) (0, L2, m2) ⟨Nat.zero_le _, (List.append_nil L2).symm, hm2, by show m2 ≤ 67 * i + 6 + 0;omega⟩ ?_
   rintro ⟨l, L3, m3⟩ ⟨hl, hL3, hm3, hmb3⟩
   dsimp only at hl hL3 hm3 hmb3
   try dsimp only
   by_cases hln : l < (aB p).length
   ·repeat' (first | refine aE ?_ | refine aF ?_ | (refine aL ?_ ?_ <;> intro hc hq <;> try (exfalso; omega))|fail)
    ·(refine bB (l + 1, L3, m3) (Le.renA [(0, 0), (1, 1)]) ?_ ?_)
     ·exact ⟨(by show l + 1 ≤ (aB p).length;omega), (by show L3 = _; rw [s8 (by assumption)]; exact hL3), hm3, (by show m3 ≤ 67 * i + 6 + (l + 1);omega)⟩
     ·show (aB p).length - (l + 1) < (aB p).length - l;omega
    ·(refine bB (l + 1, L3 ++ [⟨i, 3, l⟩], m3 + 1) (Le.renA [(0, 0), (1, 3)]) ?_ ?_)
     ·have hk : Dq (aB p) l = 3 := by unfold Dq; rw [if_pos (by assumption)]
      exact ⟨(by show l + 1 ≤ (aB p).length;omega), (by show L3 ++ [⟨i, 3, l⟩] = _; rw [hL3, List.append_assoc, ← hk, ← nN (by assumption)]), (by show m3 + 1 = (L3 ++ [_]).length;rw [List.length_append, List.length_singleton, hm3]), (by show m3 + 1 ≤ 67 * i + 6 + (l + 1);omega)⟩
     ·show (aB p).length - (l + 1) < (aB p).length - l;omega
    ·(refine bB (l + 1, L3 ++ [⟨i, 2, l⟩], m3 + 1) (Le.renA [(0, 0), (1, 3)]) ?_ ?_)
     ·have hk : Dq (aB p) l = 2 := by unfold Dq; rw [if_neg (by assumption)]
      exact ⟨(by show l + 1 ≤ (aB p).length;omega), (by show L3 ++ [⟨i, 2, l⟩] = _; rw [hL3, List.append_assoc, ← hk, ← nN (by assumption)]), (by show m3 + 1 = (L3 ++ [_]).length;rw [List.length_append, List.length_singleton, hm3]), (by show m3 + 1 ≤ 67 * i + 6 + (l + 1);omega)⟩
     ·show (aB p).length - (l + 1) < (aB p).length - l;omega
   ·repeat' (first | refine aE ?_ | refine aF ?_ | (refine aL ?_ ?_ <;> intro hc hq <;> try (exfalso; omega))|fail)
    (refine bB (i + 1, L3, m3) (Le.renA [(0, 0), (1, 1)]) ?_ ?_)
    ·refine ⟨(by show i + 1 ≤ (aB p).length; omega), ?_, hm3, (by show m3 ≤ 67 * (i + 1); omega)⟩
     show L3 = iN p.types (aB p) f.Aa f.Am Al f.Af f.Ap (i + 1)
     rw [jE, ← JW w f f.gf.1 hin (hal i hin), hL3, hL2, hL, hvN, show l = (aB p).length by omega, List.append_assoc]
     rfl
    ·show (aB p).length - (i + 1) < (aB p).length - i;omega
 ·repeat' (first | refine aE ?_ | refine aF ?_ | (refine aL ?_ ?_ <;> intro hc hq <;> try (exfalso; omega))|fail)
  have hiN : i = (aB p).length := by omega
  refine aR (Le.frzD (d := 4) (i := 1) rfl rfl) ?_
  refine aD rfl ⟨?_, (by (exact a8 _ _))⟩
  simp only [aO]
  rw [hm, hL, hiN]
theorem MT {ts : List Int} {pts : List Pnt} (w : WG ts pts) {Am : List Nat} {i : Nat} (hi : i < pts.length) : iP ts pts[i]! (bI ts.length pts.length Am)[i]! = (bI ts.length pts.length (xO ts pts Am))[i]! := by
 have hst := (w.set i hi).1
 have htl := w.tl
 have hset : aQ pts[i]! < 62 := by omega
 rw [cP _ _ _ _ hi, cP _ _ _ _ hi, pB _ _ _ hi]
 refine bT (by simp [iP]) fun v hv => ?_
 have hvn : v < ts.length := by simpa [iP] using hv
 unfold iP
 rw [a6 _ _ _ (by simpa using hvn), a6 _ _ _ hvn, a6 _ _ _ hvn, dD hset, decide_eq_true hvn, Bool.true_and]
 cases decide (aQ pts[i]! = (v : Int)) <;> cases Am[i]!.testBit v <;> simp
theorem L8 {xs : List (List Bool)} {m : Nat} {r : List Bool} (hm : m = xs.length) : ((flat gJ xs).drop 0).take (m * 1) ++ [sl cB r] = flat gJ (xs ++ [r]) := eI hm rfl
theorem F6 (p : Prg) (f : Flows p.types (aB p)) (hv : bG p = true) (hl : p.types.length ≤ 1000000) (hs : aS p.body ≤ 1000000) : PC Tryz.prog 96 [bY p] (fun r => r = sl dV (wE p f)) := by
 have w := WG.of_valid hv
 have hr := Rch.of p
 have hval := fT p hl (by omega)
 rw [hv] at hval
 have htl := w.tl
 have hpl := w.pl
 have hpt := dK p hs
 have hfm := fH p false f.Am hs w hr (by unfold kI;exact f.gm)
 have hal : ∀ i, i < (aB p).length → (xO p.types (aB p) f.Am)[i]! < 2 ^ p.types.length := fun i hi => by
  rw [pB _ _ _ hi]
  refine nE w hi (Nat.lt_pow_two_of_testBit _ fun v hv => ?_)
  rw [Bool.eq_false_iff]; intro hq
  have := rU w ((f.gm.2 i hi v).1 hq);dsimp only at this;omega
 have hck := CU p f (xO p.types (aB p) f.Am) hal hs w hr
 have hrm := cV p.types.length (aB p).length f.Am
 refine aC Tryz.func96 Tryz.ntmps96 ?_
 repeat' (first|(apply aH;first|(apply aA (k := 61);rfl;exact hval;exact Pur.pf;rfl)|(apply aA (k := 132);rfl;exact hpt;exact Pur.pf;rfl)|(apply aA (k := 64);rfl;exact hfm;exact Pur.pf;rfl))|refine aE ?_|refine aF ?_|fail)
 refine aI (σ := Nat × List (List Bool)) [1, 3, 4] [0] (fun k => [(6, iv (k.1 : Int)), (5, .own 1 0 k.1 1)]) (fun k => [(1, some (flat gJ k.2))]) (fun k => k.1 ≤ (aB p).length ∧ k.2 = (bI p.types.length (aB p).length (xO p.types (aB p) f.Am)).take k.1) (fun k => (aB p).length - k.1) (0, []) ⟨Nat.zero_le _, rfl⟩ ?_
 rintro ⟨k, u⟩ ⟨hk, hu⟩
 dsimp only at hk hu ⊢
 have hrv := cV p.types.length (aB p).length (xO p.types (aB p) f.Am)
 have hul : u.length = k := by rw [hu, List.length_take]; omega
 have haf : k < (aB p).length → PC Tryz.prog 133 [sl cI p.types, dW (aB p)[k]!, sl cB (bI p.types.length (aB p).length f.Am)[k]!] (fun r => r = sl cB (bI p.types.length (aB p).length (xO p.types (aB p) f.Am))[k]!) := fun h => by
  rw [← MT w h]
  exact xM p.types (aB p)[k]! (bI p.types.length (aB p).length f.Am)[k]! (by rw [cP _ _ _ _ h]; simp) htl (w.set k h).1
 repeat' (first|(apply aH;first|(apply aA (k := 133);rfl;exact haf (by omega);exact Pur.pf;rfl)|(with_reducible apply aX (d := 36))|(apply bW;rfl;rfl;rfl;rfl;rfl;(rw [aJ]; omega);(rfl);omega;omega;(exact L8 (by (omega)));rfl;rfl))|refine aE ?_|refine aF ?_|(refine aL ?_ ?_ <;> intro hc hq <;> try (exfalso;omega))|refine bQ ?_|fail)
 ·(refine bB (k + 1, _) (Le.renA [(0, 0), (1, 3)]) ?_ ?_)
  ·dsimp only
   refine ⟨by omega, ?_⟩
   rw [hu, bH _ _ (by omega)]
  ·dsimp only;omega
 ·have huu : u = bI p.types.length (aB p).length (xO p.types (aB p) f.Am) := by rw [hu, List.take_of_length_le (by omega)]
  refine bV (c6 ?_ (Le.frzD (d := 5) (i := 1) rfl rfl))
  rw [huu, show AV.imm k (flat gJ (bI p.types.length (aB p).length (xO p.types (aB p) f.Am))) = sl gJ (bI p.types.length (aB p).length (xO p.types (aB p) f.Am)) from by unfold sl;rw [hrv, show k = (aB p).length by omega]]
  repeat' (first|(apply aH;(apply aA (k := 169);rfl;exact hck;exact Pur.pf;rfl))|refine aE ?_|refine aF ?_|fail)
  exact aD rfl ⟨rfl, (by (exact a8 _ _))⟩
theorem K9 {xs : List AL.Stmt} {m : Nat} {s : AL.Stmt} (hm : m = xs.length) : ((flat aN xs).drop 0).take (m * 6) ++ ([iv s.op, iv s.x, iv s.y, iv s.n, sl aN s.th, sl aN s.el].drop 0).take (1 * 6) = flat aN (xs ++ [s]) := eI hm (by rw [c9]; rfl)
theorem M0 : PC Tryz.prog 162 [] (fun r => r = sl cI [1, 2, 3, 4]) := by
 refine aC Tryz.func162 Tryz.ntmps162 ?_
 repeat' (first|(apply aH;(apply aK (t := _);rfl;rfl;rfl;(exact (rfl:_=some [_, _, _, _]));rfl;rfl))|refine aE ?_|refine aF ?_|fail)
 exact aD rfl ⟨rfl, rfl⟩
theorem NM : PC Tryz.prog 163 [] (fun r => r = sl aN smL) := by
 refine aC Tryz.func163 Tryz.ntmps163 ?_
 repeat' (first|(apply aH;(apply aK (cs := flat aN smL);rfl;rfl;rfl;rfl;rfl;rfl))|refine aE ?_|refine aF ?_|fail)
 exact aD rfl ⟨rfl, (by (rfl))⟩
theorem NG : PC Tryz.prog 164 [] (fun r => r = iv 4) := by
 refine aC Tryz.func164 Tryz.ntmps164 ?_
 repeat' (first|refine aE ?_|refine aF ?_|fail)
 exact aD rfl ⟨rfl, rfl⟩
theorem NL (n : Nat) (hn : n < 4096) : PC Tryz.prog 92 [iv (n : Int)] (fun r => r = bY (Mk n)) := by
 have h8 : smL.length = 8 := rfl
 have hst := NM
 have hty := M0
 have hz := NG
 refine aC Tryz.func92 Tryz.ntmps92 ?_
 repeat' (first|(apply aH;first|(apply aA (k := 162);rfl;exact hty;(rfl);rfl)|(apply aA (k := 163);rfl;exact hst;(rfl);rfl))|refine aE ?_|refine aF ?_|fail)
 refine aI (σ := Nat × Nat × List AL.Stmt × Nat) [2, 3, 4] [0] (fun k => [(5, iv (k.1 : Int)), (0, iv (k.2.1 : Int))]) (fun k => [(2, some [sl cI [1, 2, 3, 4], .own 1 0 k.2.2.2 6]), (1, some (flat aN k.2.2.1))]) (fun k => k.1 ≤ 4 ∧ k.2.1 ≤ 4096 ∧ k.2.2.1 ++ JG k.2.1 (4 - k.1) = (Mk n).body ∧ k.2.2.2 = k.2.2.1.length ∧ k.2.2.2 = 2 + k.1) (fun k => 4 - k.1) (0, n, Qc, 2) ⟨Nat.zero_le _, by show n ≤ 4096;omega, rfl, rfl, rfl⟩ ?_
 rintro ⟨k, m, B, bl⟩ ⟨hk, hm9, hB, hbl, hb2⟩
 dsimp only at hk hm9 hB hbl hb2 ⊢
 repeat' (first|(apply aH;first|(apply aA (k := 164);rfl;exact hz;(rfl);rfl)|(apply bW;rfl;rfl;rfl;rfl;rfl;(rw [aJ]; omega);(rfl);omega;omega;(exact K9 (by (assumption)));rfl;rfl))|refine aE ?_|refine aF ?_|(refine aL ?_ ?_ <;> intro hc hq <;> try (exfalso;omega))|refine bQ ?_|fail)
 ·(refine bB (k + 1, m / 8, B ++ [smL[m % 8]!], bl + 1) (Le.renA [(0, 0), (1, 4), (2, 2)]) ?_ ?_)
  ·refine ⟨by show k + 1 ≤ 4; omega, by show m / 8 ≤ 4096; omega, ?_, by show bl + 1 = (B ++ [_]).length; rw [List.length_append, hbl]; rfl, by show bl + 1 = 2 + (k + 1); omega⟩
   show (B ++ [smL[m % 8]!]) ++ JG (m / 8) (4 - (k + 1)) = _
   rw [← hB, show 4 - k = (4 - (k + 1)) + 1 by omega, JG, List.append_assoc]; rfl
  ·show 4 - (k + 1) < 4 - k;omega
 ·have e : B = (Mk n).body := by rw [← hB, show 4 - k = 0 by omega, JG, List.append_nil]
  refine aR (Le.frzC (j := 0) (i := 1) [_] rfl rfl (by decide)) ?_
  rw [hbl, e]
  exact aD (l := [bY (Mk n)]) rfl ⟨rfl, Pur.pf⟩
def Eo (l : List Iss) : List AV := [sl dV l]
instance : FlT Eo 1 := ⟨fun _ => rfl⟩
instance : FE Eo (fun r => [sl dV r]) := ⟨fun _ => rfl⟩
instance (r : List Iss) : Pur (Eo r) := ⟨by show (AV.pur (sl dV r) && true) = true; rw [Bool.and_true]; exact a8 dV r⟩
theorem E4 (p : Prg) (hv : bG p = false) (hl : p.types.length ≤ 1000000) (hs : aS p.body ≤ 1000000) : PC Tryz.prog 37 [bY p] (fun r => r = .tup [iv 0, bv false]) := by
 have h3 := kW p hl (by omega)
 rw [hv] at h3
 refine aC Tryz.func37 Tryz.ntmps37 ?_
 repeat' (first|(apply aH;(apply aA (k := 39);rfl;exact h3;exact Pur.pf;rfl))|refine aE ?_|refine aF ?_|fail)
 exact aD rfl ⟨rfl, rfl⟩
theorem I1 (p : Prg) (A B C : List Iss) (b : Bool) (hv : bG p = true) (hl : p.types.length ≤ 1000000) (hs : aS p.body ≤ 1000000) (h1 : PC Tryz.prog 40 [bY p] (fun r => r = sl dV A)) (h2 : PC Tryz.prog 41 [bY p] (fun r => r = sl dV B))
  (h4 : PC Tryz.prog 70 [bY p] (fun r => r = sl dV C)) (h5 : PC Tryz.prog 95 [bY p, iv 3] (fun r => r = bv b)) : PC Tryz.prog 37 [bY p] (fun r => r = .tup [iv (v5 [A, B, C] : Int), bv b]) := by
 have h3 := kW p hl (by omega)
 rw [hv] at h3
 refine aC Tryz.func37 Tryz.ntmps37 ?_
 repeat' (first|(apply aH;first|(apply aA (k := 39);rfl;exact h3;exact Pur.pf;rfl)|(apply aA (k := 40);rfl;exact h1;exact Pur.pf;rfl)|(apply aA (k := 41);rfl;exact h2;exact Pur.pf;rfl)|(apply aA (k := 70);rfl;exact h4;exact Pur.pf;rfl))|refine aE ?_|refine aF ?_|refine bQ ?_|fail)
 refine AW.le ?_ (Le.frzD (d := 16) (i := 1) (cs := flat Eo [A, B, C]) rfl rfl)
 have hLl : [A, B, C].length = 3 := rfl
 generalize [A, B, C] = L at *
 refine aI (σ := Nat × Nat) [1, 16, 17] [0] (fun k => [(18, iv (k.1 : Int)), (4, iv (k.2 : Int))]) (fun k => []) (fun k => k.1 ≤ 3 ∧ k.2 = v5 (L.take k.1) ∧ k.2 ≤ k.1) (fun k => 3 - k.1) (0, 0) ⟨Nat.zero_le _, rfl, Nat.le_refl _⟩ ?_
 rintro ⟨k, c⟩ ⟨hk, hc0, hck⟩
 dsimp only at hk hc0 hck ⊢
 have hst : k < 3 → v5 (L.take (k + 1)) = c + (if L[k]! = [] then 0 else 1) := fun h => by rw [bH _ _ (by omega), Ho, ← hc0]
 repeat' (first|(apply aH;(apply aA (k := 95);rfl;exact h5;exact Pur.pf;rfl))|refine aE ?_|refine aF ?_|(refine aL ?_ ?_ <;> intro hc hq <;> try (exfalso;omega))|fail)
 ·(refine bB (k + 1, c + 1) (Le.renA [(0, 0)]) ?_ ?_)
  ·refine ⟨by show k + 1 ≤ 3; omega, ?_, by show c + 1 ≤ k + 1; omega⟩
   show c + 1 = v5 (L.take (k + 1))
   rw [hst (by omega), if_neg (fun e => by rw [e] at hq;simp at hq)]
  ·show 3 - (k + 1) < 3 - k;omega
 ·(refine bB (k + 1, c) (Le.renA [(0, 0)]) ?_ ?_)
  ·refine ⟨by show k + 1 ≤ 3; omega, ?_, by show c ≤ k + 1; omega⟩
   show c = v5 (L.take (k + 1))
   rw [hst (by omega), if_pos (List.eq_nil_of_length_eq_zero (by omega))]; rfl
  ·show 3 - (k + 1) < 3 - k;omega
 ·have e : c = v5 L := by rw [hc0, List.take_of_length_le (by omega)]
  rw [e]
  exact aD rfl ⟨rfl, rfl⟩
theorem LY (A B C : List Iss) : v5 [A, B, C] = (if 0 < A.length then 1 else 0) + (if 0 < B.length then 1 else 0) + (if 0 < C.length then 1 else 0) := by
 cases A <;> cases B <;> cases C <;> rfl
theorem FP (p : Prg) (hv : bG p = false) (hl : p.types.length ≤ 1000000) (hs : aS p.body ≤ 1000000) : PC Tryz.prog 38 [bY p] (fun r => r = .tup [iv 0, bv false]) := by
 have h3 := fT p hl (by omega)
 rw [hv] at h3
 refine aC Tryz.func38 Tryz.ntmps38 ?_
 repeat' (first|(apply aH;(apply aA (k := 61);rfl;exact h3;exact Pur.pf;rfl))|refine aE ?_|refine aF ?_|fail)
 exact aD rfl ⟨rfl, rfl⟩
theorem GN (p : Prg) (A B C : List Iss) (b : Bool) (hv : bG p = true) (hl : p.types.length ≤ 1000000) (hs : aS p.body ≤ 1000000) (h1 : PC Tryz.prog 96 [bY p] (fun r => r = sl dV A)) (h2 : PC Tryz.prog 97 [bY p] (fun r => r = sl dV B))
  (h4 : PC Tryz.prog 98 [bY p] (fun r => r = sl dV C)) (h5 : PC Tryz.prog 99 [bY p, iv 3] (fun r => r = bv b)) : PC Tryz.prog 38 [bY p] (fun r => r = .tup [iv (v5 [A, B, C] : Int), bv b]) := by
 have h3 := fT p hl (by omega)
 rw [hv] at h3
 refine aC Tryz.func38 Tryz.ntmps38 ?_
 repeat' (first|(apply aH;first|(apply aA (k := 61);rfl;exact h3;exact Pur.pf;rfl)|(apply aA (k := 96);rfl;exact h1;exact Pur.pf;rfl)|(apply aA (k := 97);rfl;exact h2;exact Pur.pf;rfl)|(apply aA (k := 98);rfl;exact h4;exact Pur.pf;rfl)|(apply aA (k := 99);rfl;exact h5;exact Pur.pf;rfl))|refine aE ?_|refine aF ?_|(refine aL ?_ ?_ <;> intro hc hq <;> try (exfalso;omega))|fail)
 all_goals (refine aD rfl ⟨?_, rfl⟩; simp only [aO]; rw [LY]; split <;> split <;> split <;> first|(exfalso;omega)|rfl)
theorem OV (z : Int) (h : 0 ≤ z ∧ z < 4096) : PC Tryz.prog 92 [iv z] (fun r => r = bY (Mk z.toNat)) := by
 obtain ⟨k, rfl⟩ : ∃ k : Nat, z = k := ⟨z.toNat, by omega⟩
 exact NL k (by omega)
noncomputable def Oc (p : Prg) : Nat × Bool := if hv : bG p = true then (v5 (Ma p hv), rX p 3 && (AE p 3).isNone) else (0, false)
theorem Hl (p : Prg) (hv : bG p = true) : Oc p = (v5 (Ma p hv), rX p 3 && (AE p 3).isNone) := dif_pos hv
theorem Mf (p : Prg) (hv : bG p = false) : Oc p = (0, false) := dif_neg (by rw [hv]; decide)
theorem FL (p : Prg) (hl : p.types.length ≤ 1000000) (hs : aS p.body ≤ 1000000) : PC Tryz.prog 37 [bY p] (fun r => r = .tup [iv ((Oc p).1 : Int), bv (Oc p).2]) := by
 cases hv : bG p
 ·rw [Mf p hv]; exact E4 p hv hl hs
 ·rw [Hl p hv]
  have hc := Cd p (lY p hv) hl hs
  rw [show yA p (lY p hv) = (lY p hv).iss from if_pos hv] at hc
  exact I1 p _ _ _ _ hv hl hs (xX p (lY p hv) hv hl hs) (w6 p (lY p hv) (JH p hv) (Ab p hv) hv hl hs) hc (Kb p 3 hl hs)
theorem FG (p : Prg) (hl : p.types.length ≤ 1000000) (hs : aS p.body ≤ 1000000) : PC Tryz.prog 38 [bY p] (fun r => r = .tup [iv ((Oc p).1 : Int), bv (Oc p).2]) := by
 cases hv : bG p
 ·rw [Mf p hv]; exact FP p hv hl hs
 ·rw [Hl p hv]
  have hc := GZ p (lY p hv) hl hs
  rw [show yA p (lY p hv) = (lY p hv).iss from if_pos hv] at hc
  exact GN p _ _ _ _ hv hl hs (F6 p (lY p hv) hv hl hs) (Gi p (lY p hv) (JH p hv) (Ab p hv) hv hl hs) hc (KV p 3 hl hs)
theorem Lm (bs : List UInt8) (hb : bs.length ≤ 1048576) : PC Tryz.prog 36 [sl cU bs] (fun r => ∃ q : Prg, r = bY q ∧ aS q.body ≤ 20000 ∧ q.types.length ≤ 1000) := by
 have hb2 : (bs.take 2000).length ≤ 2000 := by rw [List.length_take]; omega
 have h1 := e5 (bs.take 2000) (0 + 1) 64
 have h2 := e5 (bs.take 2000) (0 + 1 + 1) 64
 refine aC Tryz.func36 Tryz.ntmps36 ?_
 repeat' (first|(apply aH;first|(apply tF (k := 94);exact Ou (bs.take 2000) (0 + 1) hb2 (by decide);rfl;rfl;rfl;rfl;rfl;(rintro ⟨q, p1⟩ ⟨hq1, hq2, hq3⟩);(dsimp only at hq1 hq2 hq3))|(apply tF (k := 93);exact Jx (bs.take 2000) p1 q hb2 (by omega) (by omega) (by omega);rfl;exact Pur.pf;rfl;rfl;rfl;(rintro ⟨q2, p2⟩ ⟨hr1, hr2, hr3⟩);(dsimp only at hr1 hr2 hr3))|(apply aA (k := 92);rfl;exact OV _ (by omega);(rfl);rfl)|(first|(apply CM;rfl;(apply F8 <;> (assumption));rfl;rfl)|(apply lJ;rfl;rfl;(rfl);(apply n8 <;> (first|assumption|omega));rfl;rfl)))|refine aE ?_|refine aF ?_|(refine aL ?_ ?_ <;> intro hc hq <;> try (exfalso;omega))|fail)
 ·exact aD (l := [bY (Mk _)]) rfl ⟨⟨Mk _, rfl, by rw [J0]; decide, by show 4 ≤ 1000;decide⟩, Pur.pf⟩
 ·exact aD (l := [bY q2]) rfl ⟨⟨q2, rfl, by omega, by omega⟩, Pur.pf⟩
theorem Mw (p : Prg) (hv : bG p = true) (hl : p.types.length ≤ 1000000) (hs : aS p.body ≤ 1000000) : PC Tryz.prog 20 [bY p] (fun r => r = bv (lY p hv).iss.isEmpty) := by
 have h := CI p (lY p hv) hl hs
 rw [hv, Bool.true_and, show yA p (lY p hv) = (lY p hv).iss from if_pos hv] at h
 exact h
theorem Kv {L : List Iss} : L.isEmpty = true ↔ L = [] := List.isEmpty_iff
theorem uO (bs : List UInt8) : PC Tryz.prog 6 [sl cU bs] (fun r => r = bv true) := by
 rcases Nat.lt_or_ge 1048576 bs.length with hb|hb
 ·refine aC Tryz.func6 Tryz.ntmps6 ?_
  repeat' (first|refine aE ?_|refine aF ?_|(refine aL ?_ ?_ <;> intro hc hq <;> try (exfalso;omega))|fail)
  exact aD rfl ⟨rfl, rfl⟩
 refine aC Tryz.func6 Tryz.ntmps6 ?_
 repeat' (first|(apply aH;first|((with_reducible apply j3 (k := 36));(case ha => rfl);(case h => exact Lm bs hb);(case hp => (exact Pur.pf));(case hN => rfl);(rintro _ ⟨q, rfl, hq1, hq2⟩ _))|(with_reducible apply aX (d := 16)))|refine aE ?_|refine aF ?_|(refine aL ?_ ?_ <;> intro hc hq <;> try (exfalso;omega))|fail)
 refine bV ?_
 have h1 := FL q (by omega) (by omega)
 have h2 := FG q (by omega) (by omega)
 have h3 := kW q (by omega) (by omega)
 cases hv : bG q with
 | false =>
  rw [hv] at h3
  generalize Oc q = J at *
  repeat' (first|(apply aH;first|((with_reducible apply aA (k := 37));(case ha => rfl);(case h => exact h1);(case hp => (exact Pur.pf));(case hN => rfl))|((with_reducible apply aA (k := 38));(case ha => rfl);(case h => exact h2);(case hp => (exact Pur.pf));(case hN => rfl))|((with_reducible apply aA (k := 39));(case ha => rfl);(case h => exact h3);(case hp => (exact Pur.pf));(case hN => rfl)))|refine aE ?_|refine aF ?_|(refine bS ?_ ?_ <;> intro hg hq <;> try (exfalso;omega))|fail)
  all_goals first
   | (exfalso;exact (by assumption : ¬ True) trivial)
   | (refine aD rfl ⟨?_, rfl⟩; simp only [aO, decide_true]; done)
 | true =>
  rw [hv] at h3
  have h4 := xX q (lY q hv) hv (by omega) (by omega)
  have h5 := w6 q (lY q hv) (JH q hv) (Ab q hv) hv (by omega) (by omega)
  have h6 := Mw q hv (by omega) (by omega)
  have ho := K3 q hv
  rw [Hl q hv] at h1 h2
  generalize (rX q 3 && (AE q 3).isNone) = sf at *
  generalize v5 (Ma q hv) = J at *
  generalize wE q (lY q hv) = A at *
  generalize v8 q (lY q hv) (JH q hv) = B at *
  generalize (lY q hv).iss = L at *
  rw [← Kv, ← List.length_eq_zero_iff (l := A), ← List.length_eq_zero_iff (l := B)] at ho
  obtain ⟨o1, _, o2, o3, o4⟩ := ho
  have p2 : (A.length : Int) = 0 → L.isEmpty = true := fun h => o2 (by omega)
  have p3 : (B.length : Int) = 0 → L.isEmpty = true := fun h => o3 (by omega)
  have p4 : (J : Int) = 0 ↔ (A.length : Int) = 0 ∧ (B.length : Int) = 0 := by omega
  repeat' (first|(apply aH;first|((with_reducible apply aA (k := 37));(case ha => rfl);(case h => exact h1);(case hp => (exact Pur.pf));(case hN => rfl))|((with_reducible apply aA (k := 38));(case ha => rfl);(case h => exact h2);(case hp => (exact Pur.pf));(case hN => rfl))|((with_reducible apply aA (k := 39));(case ha => rfl);(case h => exact h3);(case hp => (exact Pur.pf));(case hN => rfl))|((with_reducible apply aA (k := 40));(case ha => rfl);(case h => exact h4);(case hp => (exact Pur.pf));(case hN => rfl))|((with_reducible apply aA (k := 41));(case ha => rfl);(case h => exact h5);(case hp => (exact Pur.pf));(case hN => rfl))|((with_reducible apply aA (k := 20));(case ha => rfl);(case h => exact h6);(case hp => (exact Pur.pf));(case hN => rfl)))|refine aE ?_|refine aF ?_|(refine bS ?_ ?_ <;> intro hg hq <;> try (exfalso;omega))|fail)
  all_goals first
   | (exfalso;exact (by assumption : ¬ True) trivial)
   | (refine aD rfl ⟨?_, rfl⟩; simp only [aO]; refine congrArg (fun b => AV.v (Value.bool b)) ?_; clear h1 h2 h3 h4 h5 h6;simp_all;done)
   | (refine aD rfl ⟨?_, rfl⟩; simp only [aO]; refine congrArg (fun b => AV.v (Value.bool b)) ?_; clear h1 h2 h3 h4 h5 h6;grind)
end Go.Proofs.YtahdccneecdmmaaGreat
