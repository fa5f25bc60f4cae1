/-
 A part of the proofs over this program: rules and contracts of its functions (the rules).
-/
import Derived.Test.YtjnhlgpbojggnaaGreatDoorS2A06
import Derived.MapKept
import Derived.Orders
import Derived.Sort.Grow
import Derived.Laws.IdiomCopy
import Derived.Lib.Join
import Derived.Lib.SplitLaws
import Derived.RangeFuncKeeps
import Derived.Shelf.Strings.BuilderK
import Derived.Shelf.Strings.Split
import Derived.Lib.IndexBytes
set_option linter.unusedVariables false
set_option linter.unusedSimpArgs false
namespace Go.AL
structure PtA (ts : List Int) (x : Pnt) : Prop where
 n : x.op = 1 ∨ x.op = 2 → 0 ≤ x.n ∧ x.n ≤ 9
 t1 : x.op = 1 → ts[x.x.toNat]! = 1
 t2 : x.op = 2 ∨ x.op = 8 → ts[x.x.toNat]! = 2
 t3 : x.op = 3 → ts[x.x.toNat]! = ts[x.y.toNat]! ∧ x.x ≠ x.y
 t4 : x.op = 4 → ts[x.x.toNat]! = 3 ∧ x.x ≠ x.y ∧ 2 ≤ ts[x.y.toNat]!
 t5 : x.op = 5 → ts[x.x.toNat]! = 4 ∧ x.x ≠ x.y ∧ (ts[x.y.toNat]! = 2 ∨ ts[x.y.toNat]! = 4)
 t6 : x.op = 6 → ts[x.x.toNat]! = 1 ∧ 2 ≤ ts[x.y.toNat]!
 t7 : x.op = 7 → (ts[x.x.toNat]! = 2 ∨ ts[x.x.toNat]! = 4) ∧ ts[x.y.toNat]! = 1
theorem PtA.no {ts:List Int}{x:Pnt}(h:9 ≤ x.op):PtA ts x := ⟨fun e => by omega,fun e => by omega,fun e => by omega,fun e => by omega,fun e => by omega,fun e => by omega,fun e => by omega,fun e => by omega⟩
theorem simpleF_op {ts:List Int}{s:Stmt}(h:simpleF ts s = true):s.op ≤ 8:=by
 unfold simpleF at h
 dsimp only at h
 apply Classical.byContradiction
 intro e
 rw [if_neg (by omega),if_neg (by omega)] at h
 split at h
 ·cases h
 ·rw [if_neg (by omega),if_neg (by omega),if_neg (by omega),if_neg (by omega),if_neg (by omega),if_neg (by omega)] at h;cases h
theorem simple_A {ts:List Int}(s:Stmt) (h:simpleF ts s = true):PtA ts ⟨s.op,s.x,s.y,s.n,[]⟩:=by
 have g : ∀ v,0 < typeAt ts v → typeAt ts v = ts[v.toNat]! := fun v => typeAt_get
 have gx := g s.x
 have gy := g s.y
 unfold simpleF at h
 dsimp only at h
 constructor <;> dsimp only <;> intro e
 case n => rcases e with e|e <;> simp [e] at h <;> omega
 case t1 => simp [e] at h;rw [← gx (by omega)]; omega
 case t2 => rcases e with e|e <;> simp [e] at h <;> (rw [← gx (by omega)]; omega)
 case t3 => simp [e] at h;rw [← gx (by omega),← gy (by omega)]; exact ⟨h.2.1,h.2.2.2⟩
 case t4 => simp [e] at h;rw [← gx (by omega),← gy (by omega)]; exact ⟨h.2.1,h.2.2.2,h.2.2.1⟩
 case t5 => simp [e] at h;rw [← gx (by omega),← gy (by omega)]; exact ⟨h.2.1,h.2.2.2,h.2.2.1⟩
 case t6 => simp [e] at h;rw [← gx (by omega),← gy (by omega)]; exact ⟨h.2.1,h.2.2⟩
 case t7 => simp [e] at h;rw [← gx (by omega),← gy (by omega)]; exact ⟨h.2.1,h.2.2⟩
mutual
theorem ptS_A {ts:List Int}:∀ (s:Stmt) (d b:Nat),okS ts d s = true → ∀ x ∈ ptS b s,PtA ts x ∧ x.op ≠ 11 ∧ 0 < x.next.length
 | .mk op x y n th el, d, b, h => by
  simp only [okS] at h
  split at h
  ·rename_i hop
   simp only [Bool.and_eq_true] at h
   have hs := simple_A _ h.2
   have ho := simpleF_op h.2
   simp only [Stmt.op,Stmt.x,Stmt.y,Stmt.n] at hs ho
   simp only [ptS,hop.1,hop.2,if_false,List.mem_singleton]
   rintro z rfl
   exact ⟨⟨hs.n,hs.t1,hs.t2,hs.t3,hs.t4,hs.t5,hs.t6,hs.t7⟩,by dsimp only;omega,by simp⟩
  ·rename_i hop
   cases d with
   | zero => cases h
   | succ d =>
    simp only [Bool.and_eq_true,decide_eq_true_eq] at h
    obtain ⟨⟨⟨_,_⟩,h1⟩,h2⟩ := h
    by_cases h9 : op = 9
    ·subst h9
     simp only [ptS,if_true,List.mem_append,List.mem_singleton]
     rintro z (((rfl|hz)|rfl)|hz)
     ·exact ⟨PtA.no (by simp),by simp,by simp⟩
     ·exact ptL_A th d (b + 1) h1 z hz
     ·exact ⟨PtA.no (by simp),by simp,by simp⟩
     ·exact ptL_A el d (b + 2 + npL th) h2 z hz
    ·have h10 : op = 10 := by omega
     subst h10
     simp only [ptS,if_true,show ((10 : Int) = 9) = False by simp,if_false,List.mem_append,List.mem_singleton]
     rintro z ((rfl|hz)|rfl)
     ·exact ⟨PtA.no (by simp),by simp,by simp⟩
     ·exact ptL_A th d (b + 1) h1 z hz
     ·exact ⟨PtA.no (by simp),by simp,by simp⟩
theorem ptL_A {ts:List Int}:∀ (l:List Stmt) (d b:Nat),okL ts d l = true → ∀ x ∈ ptL b l,PtA ts x ∧ x.op ≠ 11 ∧ 0 < x.next.length
 | [],d,b,h => by simp [ptL]
 | s :: l, d, b, h => by
  simp only [okL,Bool.and_eq_true] at h
  simp only [ptL,List.mem_append]
  rintro x (hx|hx)
  ·exact ptS_A s d b h.1 x hx
  ·exact ptL_A l d (b + npS s) h.2 x hx
end
structure WA (ts : List Int) (pts : List Pnt) : Prop where
 a : ∀ i,i < pts.length → PtA ts pts[i]!
 e : ∀ i,i < pts.length → (pts[i]!.op = 11 ↔ i + 1 = pts.length)
 n : ∀ i,i < pts.length → pts[i]!.op ≠ 11 → 0 < pts[i]!.next.length
theorem WA.of_valid {p:Prg}(h:validF p = true):WA p.types (ptsF p):=by
 unfold validF at h
 simp only [Bool.and_eq_true,decide_eq_true_eq] at h
 obtain ⟨⟨_,hl⟩,_⟩ := h
 have hlen := ptsF_len p
 have hpl := ptL_len p.body 0
 have lo : ∀ i, i + 1 < (ptsF p).length → (ptsF p)[i]! ∈ ptL 0 p.body := fun i hi => by
  have h1 : i < (ptL 0 p.body).length := by omega
  unfold ptsF
  rw [getB _ _ (by rw [List.length_append]; omega),List.getElem_append_left h1]
  exact List.getElem_mem h1
 have hi : ∀ i, i + 1 = (ptsF p).length → (ptsF p)[i]! = ⟨11, 0, 0, 0, []⟩ := fun i hi => by
  have h1 : i = (ptL 0 p.body).length := by omega
  unfold ptsF
  rw [getB _ _ (by rw [List.length_append,List.length_singleton]; omega)]
  simp [h1]
 refine ⟨fun i h => ?_,fun i h => ⟨fun e => ?_,fun e => by rw [hi i e]⟩,fun i h ne => ?_⟩
 ·by_cases q : i + 1 < (ptsF p).length
  ·exact (ptL_A p.body 4 0 hl _ (lo i q)).1
  ·rw [hi i (by omega)]; exact PtA.no (by simp)
 ·by_cases q : i + 1 < (ptsF p).length
  ·exact absurd e (ptL_A p.body 4 0 hl _ (lo i q)).2.1
  ·omega
 ·by_cases q : i + 1 < (ptsF p).length
  ·exact (ptL_A p.body 4 0 hl _ (lo i q)).2.2
  ·exact absurd (by rw [hi i (by omega)]) ne
theorem slot_at {xs:List Sl}{X:Int}(y:Sl){v:Nat}(hX:0 ≤ X ∧ X < xs.length) (hv:v < xs.length):(xs.set X.toNat y)[v]! = if X = (v:Int) then y else xs[v]!:=by
 rw [set_get]
 by_cases h : X = (v : Int)
 ·rw [if_pos h,if_pos ⟨by omega,hv⟩]
 ·rw [if_neg h,if_neg (by omega)]
theorem put_slots (ts:List Int) (s:Mc) (v:Nat) (x:Sl):(putF ts s v x).1.slots = s.slots.set v x:=by
 unfold putF;split <;> rfl
theorem uns_set {ts:List Int}{s:Mc}{x:Pnt}(h:unsF ts s x = false){v:Nat}(hv:v < ts.length) (hu:useAt ts x v ≠ 0):s.slots[v]!.set = true:=by
 unfold unsF at h
 rw [List.any_eq_false] at h
 have h1 := h v (List.mem_range.2 hv)
 rw [decide_eq_true hu,Bool.true_and] at h1
 simpa using h1
theorem tk_iff {t:Int}:tkT t = true ↔ t = 2 ∨ t = 4 := by unfold tkT;simp
theorem do_slots {ts:List Int}{s:Mc}{x:Pnt}(hl:s.slots.length = ts.length) (hu:unsF ts s x = false) (A:PtA ts x) (hop:1 ≤ x.op ∧ x.op ≠ 11) (hx:x.op ≤ 8 → 0 ≤ x.x ∧ x.x < ts.length) (hy:3 ≤ x.op → x.op ≤ 7 → 0 ≤ x.y ∧ x.y < ts.length) (hgo:(doF ts s x).2 = -1) :
  ∃ y : Sl,y.set = true ∧ ∀ v,v < ts.length → (doF ts s x).1.slots[v]! = if setAt x = (v : Int) then y else if useAt ts x v = 2 then sl0 else s.slots[v]! := by
 have hk : ∀ k,endK k ≠ -1 := fun k => by rcases endK_ne k with h|h <;> rw [h] <;> decide
 unfold doF at hgo ⊢
 by_cases h1 : x.op = 1
 ·rw [if_pos h1]
  have hxb := hx (by omega)
  refine ⟨⟨true,x.n,⟨0,0⟩⟩,rfl,fun v hv => ?_⟩
  rw [put_slots,slot_at _ (by omega) (by omega)]
  have e1 : setAt x = x.x := by unfold setAt;rw [if_pos (by omega)]
  have e2 : useAt ts x v = 0 := by unfold useAt;rw [if_neg (by omega),if_neg (by omega),if_neg (by omega),if_neg (by omega)]
  rw [e1,e2]; simp
 rw [if_neg h1] at hgo ⊢
 by_cases h2 : x.op = 2
 ·rw [if_pos h2] at hgo ⊢
  have hxb := hx (by omega)
  by_cases h200 : s.cells.length = 200
  ·rw [if_pos h200] at hgo;cases hgo
  ·rw [if_neg h200]
   refine ⟨⟨true,0,⟨s.cells.length,0⟩⟩,rfl,fun v hv => ?_⟩
   rw [put_slots]
   dsimp only
   rw [slot_at _ (by omega) (by omega)]
   have e1 : setAt x = x.x := by unfold setAt;rw [if_pos (by omega)]
   have e2 : useAt ts x v = 0 := by unfold useAt;rw [if_neg (by omega),if_neg (by omega),if_neg (by omega),if_neg (by omega)]
   rw [e1,e2]; simp
 rw [if_neg h2] at hgo ⊢
 by_cases h3 : x.op = 3
 ·rw [if_pos h3]
  have hxb := hx (by omega)
  have hyb := hy (by omega) (by omega)
  have hne := (A.t3 h3).2
  have e1 : setAt x = x.x := by unfold setAt;rw [if_pos (by omega)]
  have hyn : ((x.y.toNat : Nat) : Int) = x.y := by omega
  have hys : s.slots[x.y.toNat]!.set = true := uns_set hu (v := x.y.toNat) (by omega) (by
   unfold useAt;rw [if_pos h3,if_pos hyn]; split <;> decide)
  refine ⟨s.slots[x.y.toNat]!,hys,fun v hv => ?_⟩
  rw [put_slots]
  have e2 : useAt ts x v = if (v : Int) = x.y then (if ts[x.y.toNat]! = 2 ∨ ts[x.y.toNat]! = 4 then 2 else 1) else 0 := by
   unfold useAt;rw [if_pos h3]
   by_cases q : (v : Int) = x.y
   ·rw [if_pos q,if_pos q,q]
   ·rw [if_neg q,if_neg q]
  rw [e1,e2]
  by_cases ht : tkT ts[x.y.toNat]! = true
  ·rw [if_pos ht]
   dsimp only
   rw [slot_at _ (by rw [List.length_set]; omega) (by rw [List.length_set]; omega),slot_at _ (by omega) (by omega),if_pos (tk_iff.1 ht)]
   by_cases q : x.x = (v : Int)
   ·rw [if_pos q,if_pos q]
   ·rw [if_neg q, if_neg q]
    by_cases q2 : x.y = (v : Int)
    ·rw [if_pos q2,if_pos q2.symm,if_pos rfl]
    ·have q3 : ¬ ((v : Int) = x.y) := fun h => q2 h.symm
     rw [if_neg q2,if_neg q3,if_neg (by decide : ¬ (0 : Int) = 2)]
  ·rw [if_neg ht, slot_at _ (by omega) (by omega), if_neg (fun h => ht (tk_iff.2 h))]
   by_cases q : x.x = (v : Int)
   ·rw [if_pos q,if_pos q]
   ·rw [if_neg q, if_neg q]
    by_cases q2 : (v : Int) = x.y
    ·rw [if_pos q2,if_neg (by decide)]
    ·rw [if_neg q2,if_neg (by decide)]
 rw [if_neg h3] at hgo ⊢
 by_cases h4 : x.op = 4 ∨ x.op = 5
 ·rw [if_pos h4] at hgo ⊢
  have hxb := hx (by omega)
  split at hgo
  ·rename_i hz
   rw [if_pos hz]
   refine ⟨⟨true,0,lnP s.cells s.slots[x.y.toNat]!.ptr (decide (x.op = 5))⟩,rfl,fun v hv => ?_⟩
   rw [put_slots]
   dsimp only
   rw [slot_at _ (by omega) (by omega)]
   have e1 : setAt x = x.x := by unfold setAt;rw [if_pos (by omega)]
   have e2 : useAt ts x v ≠ 2 := by unfold useAt;rw [if_neg (by omega),if_pos (by omega)]; split <;> decide
   rw [e1,if_neg e2]
  ·exact absurd hgo (hk _)
 rw [if_neg h4] at hgo ⊢
 by_cases h6 : x.op = 6
 ·rw [if_pos h6] at hgo ⊢
  have hxb := hx (by omega)
  split at hgo
  ·rename_i hz
   rw [if_pos hz]
   refine ⟨⟨true,rdN s.cells s.slots[x.y.toNat]!.ptr,⟨0,0⟩⟩,rfl,fun v hv => ?_⟩
   rw [put_slots]
   dsimp only
   rw [slot_at _ (by omega) (by omega)]
   have e1 : setAt x = x.x := by unfold setAt;rw [if_pos (by omega)]
   have e2 : useAt ts x v ≠ 2 := by unfold useAt;rw [if_neg (by omega),if_pos (by omega)]; split <;> decide
   rw [e1,if_neg e2]
  ·exact absurd hgo (hk _)
 rw [if_neg h6] at hgo ⊢
 have e1 : setAt x = -1 := by unfold setAt;rw [if_neg (by omega)]
 have e3 : ∀ v : Nat,setAt x ≠ (v : Int) := fun v => by rw [e1]; omega
 by_cases h7 : x.op = 7
 ·rw [if_pos h7]
  refine ⟨⟨true,0,⟨0,0⟩⟩,rfl,fun v hv => ?_⟩
  have e2 : useAt ts x v ≠ 2 := by unfold useAt;rw [if_neg (by omega),if_neg (by omega),if_pos h7]; split;decide;split <;> decide
  rw [if_neg (e3 v),if_neg e2]
 rw [if_neg h7]
 by_cases h8 : x.op = 8
 ·rw [if_pos h8]
  have hxb := hx (by omega)
  refine ⟨⟨true,0,⟨0,0⟩⟩,rfl,fun v hv => ?_⟩
  dsimp only
  rw [if_neg (e3 v),slot_at _ (by omega) (by omega)]
  have e2 : useAt ts x v = if (v : Int) = x.x then 2 else 0 := by unfold useAt;rw [if_neg (by omega),if_neg (by omega),if_neg (by omega),if_pos h8]
  rw [e2]
  by_cases q : x.x = (v : Int)
  ·rw [if_pos q,if_pos q.symm,if_pos rfl]
  ·have q3 : ¬ ((v : Int) = x.x) := fun h => q h.symm
   rw [if_neg q,if_neg q3,if_neg (by decide : ¬ (0 : Int) = 2)]
 ·rw [if_neg h8, if_neg hop.2]
  refine ⟨⟨true,0,⟨0,0⟩⟩,rfl,fun v hv => ?_⟩
  have e2 : useAt ts x v ≠ 2 := by unfold useAt;rw [if_neg (by omega),if_neg (by omega),if_neg (by omega),if_neg (by omega)]; decide
  rw [if_neg (e3 v),if_neg e2]
section
variable {ts : List Int} {pts : List Pnt}
theorem WG.doS (w:WG ts pts) (A:WA ts pts){a:Nat}(ha:a < pts.length){s:Mc}(hl:s.slots.length = ts.length) (hu:unsF ts s pts[a]! = false) (h11:pts[a]!.op ≠ 11) (hgo:(doF ts s pts[a]!).2 = -1) :
  ∃ y : Sl,y.set = true ∧ ∀ v,v < ts.length → (doF ts s pts[a]!).1.slots[v]! = if setAt pts[a]! = (v : Int) then y else if useAt ts pts[a]! v = 2 then sl0 else s.slots[v]! :=
 do_slots hl hu (A.a a ha) ⟨(w.op a ha).1,h11⟩ (fun h => ⟨(w.x a ha).1,(w.x a ha).2 h⟩) (fun h1 h2 => ⟨(w.y a ha).1,(w.y a ha).2 h1 h2⟩) hgo
theorem stp_edge (w:WG ts pts) (A:WA ts pts){a:Nat}(ha:a < pts.length) (h11:pts[a]!.op ≠ 11) (cs:List Int):edge pts a (stpW pts a cs).1:=by
 have key : ∀ j : Nat, j < pts[a]!.next.length → edge pts a (pts[a]!.next[j]!).toNat := fun j hj => by
  have hm := getB_mem pts[a]!.next j hj
  refine ⟨ha,?_⟩
  rw [show (((pts[a]!.next[j]!).toNat : Nat) : Int) = pts[a]!.next[j]! by have := (w.nx a ha _ hm).1;omega]
  exact hm
 have h0 := A.n a ha h11
 unfold stpW
 split
 ·rename_i h2
  split
  ·exact key 1 (by omega)
  ·rename_i c cs
   exact key _ (by omega)
 ·exact key 0 h0
def Out (ts : List Int) (pts : List Pnt) (I : Nat → Mc → Prop) (r : Mc × Int × Nat) : Prop := r.2.1 = 1 ∨ ∃ s',r.2.2 < pts.length ∧ I r.2.2 s' ∧
 ((r.2.1 = 2 ∧ unsF ts s' pts[r.2.2]! = true ∧ r.1 = s') ∨
  (unsF ts s' pts[r.2.2]! = false ∧ (doF ts s' pts[r.2.2]!).2 ≠ -1 ∧ r.1 = (doF ts s' pts[r.2.2]!).1 ∧ r.2.1 = (doF ts s' pts[r.2.2]!).2))
theorem out_one {I:Nat → Mc → Prop}{a:Nat}{l:List Nat}{s:Mc}{last:Nat}(ha:a < pts.length) (hs:I a s)
  (hrec : unsF ts s pts[a]! = false → (doF ts s pts[a]!).2 = -1 → Out ts pts I (runF ts pts l (doF ts s pts[a]!).1 a)) : Out ts pts I (runF ts pts (a :: l) s last) := by
 by_cases h1 : unsF ts s pts[a]! = true
 ·have e : runF ts pts (a :: l) s last = (s, 2, a) := by unfold runF; rw [if_pos h1]
  rw [e]; exact .inr ⟨s,ha,hs,.inl ⟨rfl,h1,rfl⟩⟩
 ·have h1' : unsF ts s pts[a]! = false := by simpa using h1
  by_cases h2 : (doF ts s pts[a]!).2 = -1
  ·have e : runF ts pts (a :: l) s last = runF ts pts l (doF ts s pts[a]!).1 a := by
    conv => lhs;unfold runF
    rw [if_neg h1,if_pos h2]
   rw [e]; exact hrec h1' h2
  ·have e : runF ts pts (a :: l) s last = ((doF ts s pts[a]!).1, (doF ts s pts[a]!).2, a) := by
    unfold runF;rw [if_neg h1,if_neg h2]
   rw [e]; exact .inr ⟨s,ha,hs,.inr ⟨h1',h2,rfl,rfl⟩⟩
theorem out_stop {I:Nat → Mc → Prop}{a:Nat}{s:Mc}{last:Nat}(ha:a < pts.length) (hs:I a s) (h11:pts[a]!.op = 11):Out ts pts I (runF ts pts [a] s last) :=
 out_one ha hs fun h1 h2 => by
  rw [do_11 h11] at h2
  rcases fin_end ts ts.length 0 s with q|q|q <;> (rw [q] at h2;cases h2)
theorem run_inv (w:WG ts pts) (A:WA ts pts) (I:Nat → Mc → Prop)
  (hI : ∀ a s k,a < pts.length → pts[a]!.op ≠ 11 → edge pts a k → I a s → unsF ts s pts[a]! = false → (doF ts s pts[a]!).2 = -1 → I k (doF ts s pts[a]!).1) :
  ∀ n a cs s last,a < pts.length → I a s → Out ts pts I (runF ts pts (wayF pts n a cs).1 s last) := by
 intro n
 induction n with
 | zero =>
  intro a cs s last ha hs
  by_cases h11 : pts[a]!.op = 11
  ·have e : (wayF pts 0 a cs).1 = [a] := by unfold wayF; rw [if_pos h11]
   rw [e]; exact out_stop ha hs h11
  ·have e : (wayF pts 0 a cs).1 = [] := by rw [wayF, if_neg h11]
   rw [e]; exact .inl rfl
 | succ n ih =>
  intro a cs s last ha hs
  by_cases h11 : pts[a]!.op = 11
  ·have e : (wayF pts (n + 1) a cs).1 = [a] := by unfold wayF; rw [if_pos h11]
   rw [e]; exact out_stop ha hs h11
  ·have e : (wayF pts (n + 1) a cs).1 = a :: (wayF pts n (stpW pts a cs).1 (stpW pts a cs).2).1 := by rw [wayF, if_neg h11]
   have he := stp_edge w A ha h11 cs
   rw [e]
   exact out_one ha hs fun h1 h2 => ih _ _ _ _ (edge_lt w he) (hI a s _ ha h11 he hs h1 h2)
end
section
variable {ts : List Int} {pts : List Pnt}
structure Vs (ts : List Int) (pts : List Pnt) (a : Nat) (s : Mc) : Prop where
 l : s.slots.length = ts.length
 u : ∀ v,v < ts.length → s.slots[v]!.set = false → Na ts pts (a,v)
 m : ∀ v,v < ts.length → s.slots[v]!.set = true → Mb ts pts (a,v)
theorem put_len (ts:List Int) (s:Mc) (v:Nat) (x:Sl):(putF ts s v x).1.slots.length = s.slots.length := by rw [put_slots,List.length_set]
theorem fin_len (ts:List Int):∀ n v (s:Mc),(finF ts n v s).1.slots.length = s.slots.length
 | 0,_,_ => rfl
 | n + 1, v, s => by
  unfold finF;split
  ·split
   ·rw [fin_len ts n]; exact List.length_set
   ·rfl
  ·exact fin_len ts n _ _
theorem do_len (ts:List Int) (s:Mc) (x:Pnt):(doF ts s x).1.slots.length = s.slots.length:=by
 unfold doF
 split
 ·exact put_len _ _ _ _
 split
 ·split
  ·rfl
  ·exact put_len _ _ _ _
 split
 ·rw [put_len]; split
  ·exact List.length_set
  ·rfl
 split
 ·split
  ·exact put_len _ _ _ _
  ·rfl
 split
 ·split
  ·exact put_len _ _ _ _
  ·rfl
 split
 ·rfl
 split
 ·exact List.length_set
 split
 ·exact fin_len _ _ _ _
 ·rfl
theorem Vs.start:Vs ts pts 0 (mc0 ts.length):=by
 refine ⟨by simp [mc0],fun v hv _ => .base ⟨hv,.inl rfl⟩,fun v hv h => ?_⟩
 have e : (mc0 ts.length).slots[v]! = sl0 := by
  show (List.replicate ts.length sl0)[v]! = sl0
  rw [getB _ _ (by simpa using hv)]; simp
 rw [e] at h;cases h
theorem Vs.step (w:WG ts pts) (A:WA ts pts) (a:Nat) (s:Mc) (k:Nat) (ha:a < pts.length) (h11:pts[a]!.op ≠ 11) (he:edge pts a k) (h:Vs ts pts a s) (hu:unsF ts s pts[a]! = false) (hgo:(doF ts s pts[a]!).2 = -1):Vs ts pts k (doF ts s pts[a]!).1:=by
 obtain ⟨y,hy,hs⟩ := w.doS A ha h.l hu h11 hgo
 refine ⟨by rw [do_len]; exact h.l,fun v hv hf => ?_,fun v hv ht => ?_⟩
 ·rw [hs v hv] at hf
  by_cases h1 : setAt pts[a]! = (v : Int)
  ·rw [if_pos h1,hy] at hf;cases hf
  ·rw [if_neg h1] at hf
   by_cases h2 : useAt ts pts[a]! v = 2
   ·exact .base ⟨hv,.inr ⟨a,he,h2,h1⟩⟩
   ·rw [if_neg h2] at hf
    exact .step (a := (a,v)) (h.u v hv hf) ⟨rfl,he,h1⟩
 ·rw [hs v hv] at ht
  by_cases h1 : setAt pts[a]! = (v : Int)
  ·exact .base ⟨a,he,h1⟩
  ·rw [if_neg h1] at ht
   by_cases h2 : useAt ts pts[a]! v = 2
   ·rw [if_pos h2] at ht;cases ht
   ·rw [if_neg h2] at ht
    exact .step (a := (a,v)) (h.m v hv ht) ⟨rfl,he,h2⟩
theorem uns_true {s:Mc}{x:Pnt}(h:unsF ts s x = true):∃ v,v < ts.length ∧ useAt ts x v ≠ 0 ∧ s.slots[v]!.set = false:=by
 unfold unsF at h
 obtain ⟨v,hv,h2⟩ := List.any_eq_true.1 h
 rw [Bool.and_eq_true,decide_eq_true_eq] at h2
 exact ⟨v,List.mem_range.1 hv,h2.1,by simpa using h2.2⟩
end
theorem lnK_0 {m:List Cl}{x:Pt}{u:Bool}(h:lnK m x u = 0):tchK m x u = 0:=by
 unfold lnK at h
 by_cases h0 : tchK m x u = 0
 ·exact h0
 ·rw [if_neg h0] at h;exact h
theorem fin_read (ts:List Int):∀ n v (s:Mc),(finF ts n v s).1.read = s.read
 | 0,_,_ => rfl
 | n + 1, v, s => by
  unfold finF;split
  ·split
   ·exact fin_read ts n _ _
   ·rfl
  ·exact fin_read ts n _ _
theorem put_read (ts:List Int) (s:Mc) (v:Nat) (x:Sl):(putF ts s v x).1.read = s.read := by unfold putF;split <;> rfl
theorem do_read {ts:List Int}{s:Mc}{x:Pnt}(hm:OkM s.cells) (hr:∀ z ∈ s.read,0 ≤ z ∧ z ≤ 9):(∀ z ∈ (doF ts s x).1.read,0 ≤ z ∧ z ≤ 9) ∧ ((doF ts s x).2 = -1 → (doF ts s x).1.read.length = s.read.length + (if x.op = 6 then 1 else 0)):=by
 have hk : ∀ k,endK k ≠ -1 := fun k => by rcases endK_ne k with h|h <;> rw [h] <;> decide
 unfold doF
 by_cases h1 : x.op = 1
 ·rw [if_pos h1,put_read,if_neg (by omega)]; exact ⟨hr,fun _ => rfl⟩
 rw [if_neg h1]
 by_cases h2 : x.op = 2
 ·rw [if_pos h2, if_neg (by omega : ¬ x.op = 6)]
  split
  ·exact ⟨hr,fun _ => rfl⟩
  ·rw [put_read]; exact ⟨hr,fun _ => rfl⟩
 rw [if_neg h2]
 by_cases h3 : x.op = 3
 ·rw [if_pos h3, put_read, if_neg (by omega : ¬ x.op = 6)]
  split <;> exact ⟨hr,fun _ => rfl⟩
 rw [if_neg h3]
 by_cases h4 : x.op = 4 ∨ x.op = 5
 ·rw [if_pos h4, if_neg (by omega : ¬ x.op = 6)]
  split
  ·rw [put_read]; exact ⟨hr,fun _ => rfl⟩
  ·exact ⟨hr,fun _ => rfl⟩
 rw [if_neg h4]
 by_cases h6 : x.op = 6
 ·rw [if_pos h6, if_pos h6]
  split
  ·rename_i hz
   rw [put_read]
   refine ⟨fun z hz' => ?_,fun _ => by simp⟩
   rcases List.mem_append.1 hz' with q|q
   ·exact hr z q
   ·rw [List.mem_singleton.1 q]
    unfold rdN;rw [if_pos hz]
    exact (hm.at (tchK_0 hz).2.2).v
  ·exact ⟨hr,fun h => absurd h (hk _)⟩
 rw [if_neg h6,if_neg h6]
 by_cases h7 : x.op = 7
 ·rw [if_pos h7]; exact ⟨hr,fun _ => rfl⟩
 rw [if_neg h7]
 by_cases h8 : x.op = 8
 ·rw [if_pos h8]; exact ⟨hr,fun _ => rfl⟩
 rw [if_neg h8]
 split
 ·rw [fin_read]; exact ⟨hr,fun _ => rfl⟩
 ·exact ⟨hr,fun _ => rfl⟩
theorem run_read {ts:List Int}{pts:List Pnt}(hp:∀ a:Nat,PtN pts[a]!):∀ (l:List Nat) (s:Mc) (last:Nat),OkS ts.length s → (∀ z ∈ s.read,0 ≤ z ∧ z ≤ 9) → ∀ z ∈ (runF ts pts l s last).1.read,0 ≤ z ∧ z ≤ 9
 | [],_,_,_,h => h
 | a :: l, s, _, hs, h => by
  have hd := do_read (ts := ts) (x := pts[a]!) hs.m h
  unfold runF;split
  ·exact h
  ·split
   ·exact run_read hp l _ _ (hs.do (hp a)) hd.1
   ·exact hd.1
open Go.RowKit Go.MapKept
def MapAt (r : Nat) (ks : List Int) (w : World) : Prop := ∃ es ck,w.heap[r]? = some (.map es ck) ∧ ∀ e ∈ es.toList,∃ k ∈ ks,e.key = .int .i64 k
structure GsM (C : Ctx) (s : AS) (r : Nat) (ks : List Int) (a : Act) (w : World) : Prop where
 g : Gs C s a w
 m : MapAt r ks w
 l : C.w0.heap.size ≤ r
theorem Fr.trans2 {W0 W1:Nat → Prop}{w0 w w':World}(h:Fr W0 w0 w) (k:Fr W1 w w') (hW:∀ b,W1 b → W0 b ∨ w0.heap.size ≤ b):Fr W0 w0 w' :=
 ⟨k.os.trans h.os, k.tape.trans h.tape, k.output.trans h.output, Nat.le_trans h.size k.size, fun b hb hw => by
  rw [k.block b (Nat.lt_of_lt_of_le hb h.size) (fun q => (hW b q).elim hw (fun h => by omega))]; exact h.block b hb hw,fun b => Nat.le_trans (h.bs b) (k.bs b)⟩
theorem GsM.base {C:Ctx}{s:AS}{r:Nat}{ks:List Int}{a:Act}{w:World}(h:GsM C s r ks a w):∃ C':Ctx,C'.N = C.N ∧ Gs C' s a w ∧ ∀ s' a' w',Gs C' s' a' w' → GsM C s' r ks a' w':=by
 obtain ⟨⟨h0,ι,g,gh⟩,⟨es,ck,hm,hk⟩,hl⟩ := h
 let C' : Ctx := { C with w0 := w,W0 := fun b => ∃ id cs β,lkH s.hs id = some cs ∧ ι id = some (some (b,β)),xlt := fun b hb => Nat.lt_of_lt_of_le (C.xlt b hb) gh.fr.size }
 have hW : ∀ b, C'.W0 b → C.W0 b ∨ C.w0.heap.size ≤ b := by
  rintro b ⟨id,cs,β,h1,h2⟩
  rcases gh.obj id cs h1 with ⟨h3,_⟩ | ⟨b',β',arr,e,h3,h4,h5,h6,h7,h8⟩
  ·rw [h3] at h2;cases h2
  ·rw [h3] at h2;cases h2;exact h8
 have hr : ¬ C'.W0 r := by
  rintro ⟨id,cs,β,h1,h2⟩
  rcases gh.obj id cs h1 with ⟨h3,_⟩ | ⟨b',β',arr,e,h3,h4,h5,h6,h7,h8⟩
  ·rw [h3] at h2;cases h2
  ·rw [h3] at h2;cases h2;rw [hm] at h4;cases h4
 refine ⟨C',rfl,⟨h0,ι,⟨g.df,g.sz,g.tm⟩,⟨fun id cs h => ?_,gh.sep,Fr.refl _ _,gh.ex,gh.fresh⟩⟩,?_⟩
 ·rcases gh.obj id cs h with h1 | ⟨b', β', arr, e, h3, h4, h5, h6, h7, h8⟩
  ·exact .inl h1
  ·exact .inr ⟨b',β',arr,e,h3,h4,h5,h6,h7,.inl ⟨id,cs,β',h,h3⟩⟩
 ·rintro s' a' w' ⟨h0', ι', g', gh'⟩
  have f : Fr C'.W0 w w' := gh'.fr
  refine ⟨⟨h0',ι',⟨g'.df,g'.sz,g'.tm⟩,⟨fun id cs h => ?_,gh'.sep,gh.fr.trans2 f hW,gh'.ex,gh'.fresh⟩⟩,⟨es,ck,by rw [f.block r (lt_of_heap hm) hr]; exact hm,hk⟩,hl⟩
  rcases gh'.obj id cs h with h1 | ⟨b',β',arr,e,h3,h4,h5,h6,h7,h8⟩
  ·exact .inl h1
  ·refine .inr ⟨b', β', arr, e, h3, h4, h5, h6, h7, ?_⟩
   rcases h8 with h8|h8
   ·exact hW _ h8
   ·exact .inr (Nat.le_trans gh.fr.size h8)
def AWM (P : Program) (N : Nat) (c : Code) (Q : Exit → AS → List Int → Prop) (r : Nat) (ks : List Int) (s : AS) : Prop :=
 ∀ (C : Ctx) (a : Act) (w : World),C.N = N → GsM C s r ks a w → c.wp P (fun e a' w' => ∃ s' ks',Q e s' ks' ∧ GsM C s' r ks' a' w') a w
def RWM (P : Program) (N : Nat) (all : Array Oper) (Q : Exit → AS → List Int → Prop) (r : Nat) (ks : List Int) (l : List Oper) (s : AS) : Prop :=
 ∀ (C : Ctx) (a : Act) (w : World),C.N = N → GsM C s r ks a w → wpList P all (fun e a' w' => ∃ s' ks',Q e s' ks' ∧ GsM C s' r ks' a' w') l a w
def thenM (K : AS → List Int → Prop) (Q : Exit → AS → List Int → Prop) : Exit → AS → List Int → Prop
 | .normal,s,ks => K s ks
 | e,s,ks => Q e s ks
def blkM (id : Nat) (Q : Exit → AS → List Int → Prop) : Exit → AS → List Int → Prop
 | .exit i,s,ks => if i = id then Q .normal s ks else Q (.exit i) s ks
 | e,s,ks => Q e s ks
section
variable {P : Program} {N : Nat} {Q : Exit → AS → List Int → Prop} {s : AS} {r : Nat} {ks : List Int}
theorem awm_lift {c:Code}(h:AW P N c (fun e s' => Q e s' ks) s):AWM P N c Q r ks s:=by
 intro C a w hN g
 obtain ⟨C',h1,h2,h3⟩ := g.base
 exact wp_mono (h C' a w (h1.trans hN) h2) fun e a' w' ⟨s',q1,q2⟩ => ⟨s',ks,q1,h3 _ _ _ q2⟩
theorem awm_seq {x y:Code}(h:AWM P N x (thenM (fun s' ks' => AWM P N y Q r ks' s') Q) r ks s):AWM P N (.seq x y) Q r ks s:=by
 intro C a w hN g
 refine wp_seq (wp_mono (h C a w hN g) ?_)
 rintro e a' w' ⟨s',ks',h1,h2⟩
 cases e with
 | normal => exact h1 C a' w' hN h2
 | _ => exact ⟨s',ks',h1,h2⟩
theorem awm_cond {x y:Code}{c:Operand}{b:Bool}(hc:ev (lk s.ts) c = some (.v (.bool b))) (h1:b = true → AWM P N x Q r ks s) (h2:b = false → AWM P N y Q r ks s):AWM P N (.cond c x y) Q r ks s:=by
 rintro C a w hN ⟨⟨h0,ι,g,gh⟩,hm,hl⟩
 have h := ev_ok g hc
 simp only [Rd] at h
 cases b
 ·exact wp_cond_false h (h2 rfl C a w hN ⟨⟨h0,ι,g,gh⟩,hm,hl⟩)
 ·exact wp_cond_true h (h1 rfl C a w hN ⟨⟨h0,ι,g,gh⟩,hm,hl⟩)
theorem awm_block {id:Nat}{c:Code}(h:AWM P N c (blkM id Q) r ks s):AWM P N (.block id c) Q r ks s:=by
 intro C a w hN g
 refine wp_block (wp_mono (h C a w hN g) ?_)
 rintro e a' w' ⟨s',ks',h1,h2⟩
 cases e with
 | exit i =>
  simp only [Exit.inBlock,blkM] at h1 ⊢
  split
  ·rename_i hi;rw [if_pos hi] at h1;exact ⟨s',ks',h1,h2⟩
  ·rename_i hi;rw [if_neg hi] at h1;exact ⟨s',ks',h1,h2⟩
 | _ => exact ⟨s',ks',h1,h2⟩
theorem awm_skip (h:Q .normal s ks):AWM P N .skip Q r ks s := fun C a w _ g => wp_skip ⟨s,ks,h,g⟩
theorem awm_exit {id:Nat}(h:Q (.exit id) s ks):AWM P N (.exit id) Q r ks s := fun C a w _ g => wp_exit ⟨s,ks,h,g⟩
theorem awm_loop {σ:Type}{c:Code}(p:σ → Prop) (I:σ → AS) (J:σ → List Int) (μ:σ → Nat) (h0:∃ i,p i ∧ Le s (I i) ∧ J i = ks)
  (round : ∀ i,p i → AWM P N c (thenM (fun s' ks' => ∃ j,p j ∧ μ j < μ i ∧ Le s' (I j) ∧ J j = ks') Q) r (J i) (I i)) : AWM P N (.loop c) Q r ks s := by
 intro C a w hN g
 obtain ⟨i,h1,h2,h3⟩ := h0
 subst h3
 refine wp_loop (fun a w => ∃ i,p i ∧ GsM C (I i) r (J i) a w) (fun a w => leastOf fun n => ∃ i,p i ∧ GsM C (I i) r (J i) a w ∧ μ i = n) ⟨i,h1,⟨h2 C a w g.g,g.m,g.l⟩⟩ ?_
 rintro a w ⟨i0,hp0,hg0⟩
 obtain ⟨⟨i,hp,hg,hm⟩,hmin⟩ := leastOf_spec (S := fun n => ∃ i,p i ∧ GsM C (I i) r (J i) a w ∧ μ i = n) ⟨_,i0,hp0,hg0,rfl⟩
 refine wp_mono (round i hp C a w hN hg) ?_
 rintro e a' w' ⟨s',ks',h3,h4⟩
 cases e with
 | normal =>
  obtain ⟨j,q1,q2,q3,rfl⟩ := h3
  have h5 : GsM C (I j) r (J j) a' w' := ⟨q3 C a' w' h4.g,h4.m,h4.l⟩
  refine ⟨⟨j,q1,h5⟩,?_⟩
  have := (leastOf_spec (S := fun n => ∃ i,p i ∧ GsM C (I i) r (J i) a' w' ∧ μ i = n) ⟨_,j,q1,h5,rfl⟩).2 (μ j) ⟨j,q1,h5,rfl⟩
  omega
 | _ => exact ⟨s',ks',h3,h4⟩
theorem awm_loopK {σ:Type}{c:Code}{ts:List (Nat × AV)}{hs:List (Nat × Option (List AV))}{n:Nat}{z0:Lo}(kl:List Nat) (kt:List (Nat × AV)) (js:List Nat) (kh:List (Nat × Option (List AV)))
  (ot : σ → List (Nat × AV)) (oh : σ → List (Nat × Option (List AV))) (J : σ → List Int) (p : σ → Prop) (μ : σ → Nat) (i0 : σ) (h0 : p i0) (hJ : J i0 = ks) (hk : selT kl ts = kt) (hj : selH js hs = kh)
  (h1 : subT ts (ot i0)) (h2 : subH hs (oh i0))
  (round : ∀ i,p i → AWM P N c (thenM (fun s' ks' => ∃ j,p j ∧ μ j < μ i ∧ Le s' ⟨ot j ++ kt,oh j ++ kh,n,z0⟩ ∧ J j = ks') Q) r (J i) ⟨ot i ++ kt,oh i ++ kh,n,z0⟩) :
  AWM P N (.loop c) Q r ks ⟨ts,hs,n,z0⟩ := by
 subst hk hj
 exact awm_loop p (fun i => ⟨ot i ++ selT kl ts,oh i ++ selH js hs,n,z0⟩) J μ ⟨i0,h0,Le.lit (subT_append h1 (selT_sub kl)) (subH_append h2 (selH_sub js)) (Nat.le_refl _),hJ⟩ round
theorem awm_region {id:Nat}{l:List Oper}(h:RWM P N l.toArray Q r ks l s):AWM P N (.region id l.toArray false) Q r ks s :=
 fun C a w hN g => wp_region_lit (h C a w hN g)
variable {all : Array Oper}
theorem wp_chg {o:Oper}{a:Act}{w:World}{K K':Act → World → Prop}{Q1 Q2:Exit → Act → World → Prop}(h:∀ a w,K a w → K' a w) (hq:∀ e a w,Q1 e a w → e = .normal)
  (hh : o.wp P a w K Q1) : o.wp P a w K' Q2 := by
 have hL : ¬ LetsOut Q1 := fun ⟨a,w,q⟩ => by cases hq _ _ _ q
 unfold Oper.wp at *
 generalize (execOp a.eval o).run P w = z at *
 cases z with
 | ok n w' =>
  cases n <;> simp only [Oper.upon] at hh ⊢ <;>
   first
    | exact h _ _ hh
    | exact Calls.mono hh (fun e w'' he => by cases e <;> first|exact h _ _ he|(cases hq _ _ _ he)|exact absurd he hL)
    | exact Rows.mono hh (fun _ _ he => h _ _ he)
 | halt x w' => cases x <;> simp only [Oper.upon] at hh ⊢ <;> (cases hq _ _ _ hh)
theorem wpList_app {Q1 Q2:Exit → Act → World → Prop}{l2:List Oper}(k:∀ e a w,Q1 e a w → e = .normal ∧ wpList P all Q2 l2 a w):∀ (l1:List Oper) (a:Act) (w:World),wpList P all Q1 l1 a w → wpList P all Q2 (l1 ++ l2) a w
 | [],a,w,h => (k _ _ _ h).2
 | o :: l1, a, w, h => by
  have hL : ¬ LetsOut Q1 := fun ⟨a,w,q⟩ => by cases (k _ _ _ q).1
  rw [List.cons_append]
  unfold wpList at h ⊢
  split
  ·rename_i hw
   rw [if_pos hw] at h
   rcases h with h | ⟨_,h⟩
   ·exact .inl (wp_chg (fun a w => wpList_app k l1 a w) (fun e a w q => (k e a w q).1) h)
   ·exact absurd h hL
  ·rename_i hw;rw [if_neg hw] at h;exact wpList_app k l1 _ _ h
theorem rwm_lift {l1 l2:List Oper}(h:RW P N all (fun e s' => e = .normal ∧ RWM P N all Q r ks l2 s') .txt l1 s):RWM P N all Q r ks (l1 ++ l2) s:=by
 intro C a w hN g
 obtain ⟨C',h1,h2,h3⟩ := g.base
 exact wpList_app (fun e a' w' ⟨s',⟨q1,q2⟩,q3⟩ => ⟨q1,q2 C a' w' hN (h3 _ _ _ q3)⟩) l1 a w (h C' a w (h1.trans hN) h2)
theorem rwm_nil (h:Q .normal s ks):RWM P N all Q r ks [] s := fun C a w _ g => wpList_nil ⟨s,ks,h,g⟩
variable {rest : List Oper} {ts : List (Nat × AV)} {hs : List (Nat × Option (List AV))} {n : Nat} {z0 : Lo} {d : Nat} {ty : TypeId} {pos : String} {af : Array Edge}
theorem rwm_guard {dst:Option Tmp}{op:Op}{j e:Nat}{want b:Bool}(hj:(all[j]?).bind (·.dst) = some e) (hb:lk s.ts e = some (.v (.bool b))) (hw:b = want) (h:RWM P N all Q r ks (⟨dst,op,ty,pos,af,none⟩ :: rest) s) :
  RWM P N all Q r ks (⟨dst,op,ty,pos,af,some (j,want)⟩ :: rest) s := by
 subst hw
 intro C a w hN g
 have h' := h C a w hN g
 obtain ⟨⟨h0,ι,g,gh⟩,hm,hl⟩ := g
 have hyl : yielded all a.tmps j = some b := by
  obtain ⟨y,hy,hr⟩ := g.tm e _ hb
  simp only [Rd] at hr
  subst hr
  simp [yielded,hj,hy]
 unfold wpList at h' ⊢
 simp only [Region.wanted,hyl,if_true,beq_self_eq_true] at h' ⊢
 exact h'
theorem run_lookup0 {w:World}{mt kt et:TypeId}{es:Array MapEntry}{ck:Nat}{a:Int}(hu:P.underlying mt = some (.map kt et)) (hk:P.underlying kt = some (.int .i64)) (hz:(P.info? et).bind (·.zero) = some (.bool false))
  (hb : w.heap[r]? = some (.map es ck)) (hn : ∀ e ∈ es.toList,∃ k,k ≠ a ∧ e.key = .int .i64 k) : (Instr.lookup mt (.map (some r)) (.int .i64 a) false).run P w = .ok (.bool false) w ∧ Instr.findNow (.int .i64) (.int .i64 a) es.toList 0 = some none := by
 have hkey : IsKey (.int .i64) (.int .i64 a) := by simp [IsKey]
 have hf : Instr.findNow (.int .i64) (.int .i64 a) es.toList 0 = some none := by
  rcases findNow_spec hkey es.toList 0 (fun x hx => by obtain ⟨k,_,h2⟩ := hn x hx;rw [h2]; simp [IsKey]) with ⟨h,_⟩ | ⟨j,e,_,h2,h3⟩
  ·exact h
  ·obtain ⟨k, h4, h5⟩ := hn e (List.mem_of_getElem? h2)
   rw [h5] at h3;cases h3;exact absurd rfl h4
 refine ⟨?_,hf⟩
 cases hi : P.info? et with
 | none => rw [hi] at hz;cases hz
 | some i =>
  rw [hi] at hz
  have hz2 : i.zero = some (.bool false) := hz
  simp [Instr.lookup,run_und hu,Go.MapKept.run_getObj_map hb,run_checkKey hk hkey,run_findKey hk hf,zeroValue,typeInfo,hi,hz2,Result.andThen]
theorem rwm_lookup {mt kt et:TypeId}{x y:Operand}{a:Int}(hu:P.underlying mt = some (.map kt et)) (hk:P.underlying kt = some (.int .i64)) (hz:(P.info? et).bind (·.zero) = some (.bool false))
  (hx : ev (lk ts) x = some (.v (.map (some r)))) (hy : ev (lk ts) y = some (.v (.int .i64 a))) (ha : a ∉ ks) (hN : Nat.blt d N = true) (kk : RWM P N all Q r ks rest ⟨(d,.v (.bool false)) :: ts,hs,n,z0⟩) :
  RWM P N all Q r ks (⟨some d,.lookup mt x y false,ty,pos,af,none⟩ :: rest) ⟨ts,hs,n,z0⟩ := by
 rintro C ac w hCN ⟨⟨h0,ι,g,gh⟩,⟨es,ck,hm,hkk⟩,hl⟩
 refine wpList_plain rfl (fun K hK => ?_)
 have e1 := ev_ok g hx
 have e2 := ev_ok g hy
 simp only [Rd] at e1 e2
 have hr := (run_lookup0 (P := P) hu hk hz hm (a := a) (fun e he => by obtain ⟨k,h1,h2⟩ := hkk e he;exact ⟨k,fun q => ha (q ▸ h1),h2⟩)).1
 have hop : (execOp ac.eval ⟨some d, .lookup mt x y false, ty, pos, af, none⟩).run P w = .ok (.value (.bool false)) w := by
  simp [execOp,e1,e2,hr]
 simp only [Oper.wp,hop,Oper.upon]
 refine hK _ _ (kk C _ _ hCN ⟨⟨h0,ι,?_,gh⟩,⟨es,ck,hm,hkk⟩,hl⟩)
 show TG C ι (lk ((d,_) :: ts)) _ _ _
 rw [lk_cons]
 exact g.put (by have := ltb hN;omega) (by simp [Rd])
theorem rwm_update {mt kt et:TypeId}{x y z:Operand}{a:Int}(hu:P.underlying mt = some (.map kt et)) (hk:P.underlying kt = some (.int .i64)) (hz:(P.info? et).bind (·.zero) = some (.bool false))
  (hx : ev (lk ts) x = some (.v (.map (some r)))) (hy : ev (lk ts) y = some (.v (.int .i64 a))) (ha : a ∉ ks) (kk : RWM P N all Q r (ks ++ [a]) rest ⟨ts,hs,n,z0⟩) :
  RWM P N all Q r ks (⟨none,.mapUpdate mt x y z,ty,pos,af,none⟩ :: rest) ⟨ts,hs,n,z0⟩ := by
 rintro C ac w hCN ⟨⟨h0,ι,g,gh⟩,⟨es,ck,hm,hkk⟩,hl⟩
 refine wpList_plain rfl (fun K hK => ?_)
 have e1 := ev_ok g hx
 have e2 := ev_ok g hy
 simp only [Rd] at e1 e2
 have hkey : IsKey (.int .i64) (.int .i64 a) := by simp [IsKey]
 have hf := (run_lookup0 (P := P) hu hk hz hm (a := a) (fun e he => by obtain ⟨k,h1,h2⟩ := hkk e he;exact ⟨k,fun q => ha (q ▸ h1),h2⟩)).2
 let o2 : Obj := .map (es.push { key := .int .i64 a,val := ac.eval z,born := ck }) (ck + 1)
 let w2 : World := { w with heap := w.heap.setIfInBounds r o2 }
 have hop : (execOp ac.eval ⟨none, .mapUpdate mt x y z, ty, pos, af, none⟩).run P w = .ok .skip w2 := by
  simp [execOp,e1,e2,Instr.mapUpdate,run_und hu,Go.MapKept.run_getObj_map hm,run_checkKey hk hkey,run_findKey hk hf,Go.MapKept.run_setObj_map _ hm,Result.andThen,w2,o2]
 obtain ⟨hs1,hs2⟩ := heap_set (o' := o2) hm
 have hne : ∀ b c e f,w.heap[b]? = some (.cells c e f) → b ≠ r := fun b c e f h q => by subst q;rw [hm] at h;cases h
 have hbs : ∀ b, bsz w2 b = bsz w b := fun b => by
  by_cases e : b = r
  ·subst e;show (match w2.heap[b]? with|some (.cells c _ _) => c.size | _ => 0) = _; rw [show w2.heap[b]? = some o2 from hs1]; simp [bsz,hm,o2]
  ·exact bsz_heap (hs2 b e)
 have hcell : ∀ b o v, w.cell? ⟨b, o, none⟩ = some v → w2.cell? ⟨b, o, none⟩ = some v := fun b o v h => by
  have : b ≠ r := fun q => by subst q;rw [World.cell?] at h;simp [hm] at h
  rw [cell?_heap (hs2 b this)]; exact h
 have car : ∀ bad : Nat → Prop,Carry w bad ι w2 bad ι := fun bad => ⟨fun b o v h1 h2 => ⟨h1,hcell b o v h2⟩,fun _ _ h => h,fun b => Nat.le_of_eq (hbs b).symm⟩
 simp only [Oper.wp,hop,Oper.upon]
 refine hK _ _ (kk C _ _ hCN ⟨⟨h0,ι,?_,?_⟩,⟨_,_,hs1,?_⟩,hl⟩)
 ·exact g.carry (car _)
 ·refine ⟨fun id cs h => ?_, gh.sep, ⟨gh.fr.os, gh.fr.tape, gh.fr.output, by show C.w0.heap.size ≤ (w.heap.setIfInBounds r o2).size; rw [Array.size_setIfInBounds]; exact gh.fr.size, fun b hb hw => ?_, fun b => by rw [hbs]; exact gh.fr.bs b⟩, gh.ex, gh.fresh⟩
  ·rcases gh.obj id cs h with h1 | ⟨b', β', arr, e, h3, h4, h5, h6, h7, h8⟩
   ·exact .inl h1
   ·exact .inr ⟨b',β',arr,e,h3,by rw [show w2.heap[b']? = w.heap[b']? from hs2 b' (hne _ _ _ _ h4)]; exact h4,h5,RdC.carryB (car _) _ _ _ (fun o v hv => hcell b' o v hv) h6,h7,h8⟩
  ·rw [show w2.heap[b]? = w.heap[b]? from hs2 b (by omega)]; exact gh.fr.block b hb hw
 ·intro e he
  rw [Array.toList_push,List.mem_append,List.mem_singleton] at he
  rcases he with he|rfl
  ·obtain ⟨k,h1,h2⟩ := hkk e he;exact ⟨k,List.mem_append_left _ h1,h2⟩
  ·exact ⟨a,by simp,rfl⟩
theorem aw_mapIn {Q:Exit → AS → Prop}{id:Nat}{t:TypeId}{y:Code}(hN:Nat.blt d N = true)
  (h : ∀ r,RWM P N (⟨some d,.makeMap t none,ty,pos,af,none⟩ :: rest).toArray (fun e s' ks' => e = .normal ∧ AWM P N y (fun e s' _ => Q e s') r ks' s') r [] rest ⟨(d,.v (.map (some r))) :: ts,hs,n,z0⟩) :
  AW P N (.seq (.region id (⟨some d,.makeMap t none,ty,pos,af,none⟩ :: rest).toArray false) y) Q ⟨ts,hs,n,z0⟩ := by
 rintro C ac w hCN ⟨h0,ι,g,gh⟩
 refine wp_seq (wp_region_lit (wpList_plain rfl (fun K hK => ?_)))
 have hop : (execOp ac.eval ⟨some d, .makeMap t none, ty, pos, af, none⟩).run P w = .ok (.value (.map (some w.heap.size))) (w.alloc (.map #[] 0)) := by
  simp [execOp,Instr.makeMap,newObj,Sem.run]
 have f : Fr (fun _ => False) w (w.alloc (.map #[] 0)) := by
  refine ⟨rfl,rfl,rfl,by simp,fun b hb _ => Below.heap_alloc w _ b hb,fun b => ?_⟩
  rcases Nat.lt_or_ge b w.heap.size with hb|hb
  ·rw [bsz_heap (Below.heap_alloc w _ b hb)]; exact Nat.le_refl _
  ·simp [bsz,Array.getElem?_eq_none hb]
 obtain ⟨g2,c2⟩ := gh.ext f
 simp only [Oper.wp,hop,Oper.upon]
 refine hK _ _ ?_
 have hh := h w.heap.size C (ac.put (some d) (.map (some w.heap.size))) (w.alloc (.map #[] 0)) hCN ⟨⟨h0,ι,?_,g2⟩,⟨#[],0,heap_alloc_new w _,by simp⟩,gh.fr.size⟩
 ·have := wpList_app (l2 := []) (P := P) (Q2 := Exit.then (y.wp P (fun e a' w' => ∃ s', Q e s' ∧ Gs C s' a' w')) (fun e a' w' => ∃ s', Q e s' ∧ Gs C s' a' w')) (all := (⟨some d, .makeMap t none, ty, pos, af, none⟩ :: rest).toArray)
   (k := fun e a' w' ⟨s', ks', ⟨q1, q2⟩, q3⟩ => ⟨q1, by
    subst q1
    exact wpList_nil (wp_mono (q2 C a' w' hCN q3) (fun e a'' w'' ⟨s'',ks'',u1,u2⟩ => ⟨s'',u1,u2.g⟩))⟩) rest _ _ hh
  rw [List.append_nil] at this
  exact this
 ·show TG C ι (lk ((d, _) :: ts)) _ _ _
  rw [lk_cons]
  exact (g.carry c2).put (by have := ltb hN;omega) (by simp [Rd])
theorem bM_here2 {K K2:AS → List Int → Prop}{id:Nat}(h:Q .normal s ks):thenM K (thenM K2 (blkM id Q)) (.exit id) s ks:=by
 have e : thenM K (thenM K2 (blkM id Q)) (.exit id) s ks = (if id = id then Q .normal s ks else Q (.exit id) s ks) := rfl
 rw [e,if_pos rfl]; exact h
theorem aw_stopM {Q:Exit → AS → Prop}{id:Nat}{t:TypeId}{y:Code}(h:Stop (AW P N (.seq (.region id (⟨some d,.makeMap t none,ty,pos,af,none⟩ :: rest).toArray false) y) Q s)) :
  AW P N (.seq (.region id (⟨some d,.makeMap t none,ty,pos,af,none⟩ :: rest).toArray false) y) Q s := h
theorem aw_goM {Q:Exit → AS → Prop}{c:Code}(h:AW P N c Q s):Stop (AW P N c Q s) := h
theorem rwm_last {l:List Oper}(h:RW P N all (fun e s' => e = .normal ∧ Q e s' ks) .txt l s):RWM P N all Q r ks l s:=by
 intro C a w hN g
 obtain ⟨C',h1,h2,h3⟩ := g.base
 have := wpList_app (l2 := []) (P := P) (all := all) (Q1 := fun e a' w' => ∃ s', (e = .normal ∧ Q e s' ks) ∧ Gs C' s' a' w') (Q2 := fun e a' w' => ∃ s' ks', Q e s' ks' ∧ GsM C s' r ks' a' w')
  (k := fun e a' w' ⟨s',⟨q1,q2⟩,q3⟩ => ⟨q1,by subst q1;exact wpList_nil ⟨s',ks,q2,h3 _ _ _ q3⟩⟩) l a w (h C' a w (h1.trans hN) h2)
 rwa [List.append_nil] at this
end
section
variable {P : Program} {N : Nat} {Q : Exit → AS → Prop} {all : Array Oper} {rest : List Oper} {ts : List (Nat × AV)} {hs : List (Nat × Option (List AV))} {n : Nat} {z0 : Lo} {md : Md}
variable {d : Nat} {ty : TypeId} {pos : String} {af : Array Edge}
theorem rx_loadFP {α:Type}{hα:Inhabited α}{f g:α → List AV}{xs:List α}{e id k j z:Nat}{t:TypeId}{x:Operand}{cs':List AV}[ha:AgT P t true] [hz:SzT P t z] (hx:ev (lk ts) x = some (.optr id (0 + k * e + j)))
  (hH : lkH hs id = some (flat f xs)) (hf : FlT f e) (hg : FE f g) (hk : k < xs.length) (hj : j + z ≤ e) (hc : ((g xs[k]!).drop j).take z = cs') (h0 : Nat.blt 0 z = true) (hN : Nat.blt d N = true) {md' : Md} [hmd : MdA md (rO x ++ rA (.optr id (0 + k * e + j))) [.inl d] md']
  (kk : RW P N all Q md' rest ⟨(d,.agg cs') :: ts,hs,n,z0⟩) : RW P N all Q md (⟨some d,.load t x,ty,pos,af,none⟩ :: rest) ⟨ts,hs,n,z0⟩ := by
 have hl : (g xs[k]!).length = e := by rw [← hg.pf]; exact hf.pf _
 subst hc
 refine rw_loadA (cs := (flat f xs).drop (0 + k * e + j)) hx ha.pf hz.pf (by simp only [deref,hH,Option.map_some]) (cs' := ((g xs[k]!).drop j).take z) ?_ (by rw [List.length_take,List.length_drop,hl]; omega) (by have := ltb h0;omega) (ltb hN) (by rw [hmd.pf]; exact kk)
 rw [Nat.zero_add,← List.drop_drop,flat_drop f xs k hk,← hg.pf,List.drop_append_of_le_length (by rw [hf.pf]; omega),List.take_append_of_le_length (by rw [List.length_drop,hf.pf]; omega)]
end
theorem ibin_andZ (c:Int):ibin .and .i64 c 1 = some (.int .i64 (c % 2)):=by
 have h : (BitVec.ofInt 64 c &&& BitVec.ofInt 64 1).toNat = (c % 2).toNat := by
  rw [BitVec.toNat_and,show (BitVec.ofInt 64 1).toNat = 1 from rfl,Nat.and_one_is_mod,BitVec.toNat_ofInt]
  omega
 have e : ibin .and .i64 c 1 = some (.int .i64 (IntKind.i64.wrap ((BitVec.ofInt 64 c &&& BitVec.ofInt 64 1).toNat : Int))) := rfl
 rw [e,h]
 rcases Int.emod_two_eq c with h2|h2 <;> rw [h2] <;> rfl
section
variable {P : Program} {N : Nat} {Q : Exit → AS → Prop} {all : Array Oper} {rest : List Oper} {ts : List (Nat × AV)} {hs : List (Nat × Option (List AV))} {n : Nat} {z0 : Lo} {md : Md}
variable {d : Nat} {ty : TypeId} {pos : String} {af : Array Edge}
theorem rx_andZ {t t':TypeId}{x y:Operand}{c:Int}(hx:ev (lk ts) x = some (.v (.int .i64 c))) (hy:ev (lk ts) y = some (.v (.int .i64 1)))
  (hN : Nat.blt d N = true) {md' : Md} [hmd : MdA md (rO x ++ rO y) [.inl d] md'] (kk : RW P N all Q md' rest ⟨(d,.v (.int .i64 (c % 2))) :: ts,hs,n,z0⟩) : RW P N all Q md (⟨some d,.binOp .and t x y t',ty,pos,af,none⟩ :: rest) ⟨ts,hs,n,z0⟩ :=
 rw_ibin hx hy (.inl rfl) (ibin_andZ c) (ltb hN) (by rw [hmd.pf]; exact kk)
end
theorem rx_eqNilO {P:Program}{N:Nat}{Q:Exit → AS → Prop}{all:Array Oper}{rest:List Oper}{ts:List (Nat × AV)}{hs:List (Nat × Option (List AV))}{n:Nat}{z0:Lo}{d:Nat}{ty:TypeId}{pos:String}{af:Array Edge}
  {t t' el : TypeId} {x : Operand} {id off m e : Nat} [ht : SlT P t el] (hx : ev (lk ts) x = some (.own id off m e)) (hN : Nat.blt d N = true)
  (kk : ∀ b : Bool,(b = true → m = 0) → RW P N all Q .txt rest ⟨(d,.v (.bool b)) :: ts,hs,n,z0⟩) : RW P N all Q .txt (⟨some d,.binOp .eql t x (.const (.slice none 0 0)) t',ty,pos,af,none⟩ :: rest) ⟨ts,hs,n,z0⟩ := by
 rintro C a w hCN ⟨h0,ι,g,gh⟩
 refine wpList_plain rfl (fun K hK => ?_)
 have h1 := ev_ok g hx
 simp only [Rd] at h1
 obtain ⟨a', m', c, h2, hb⟩ : ∃ a' m' c, a.eval x = .slice a' m' c ∧ (a'.isNone = true → m = 0) := by
  rcases h1 with ⟨_,rfl,a',h2⟩ | ⟨b,β,c,_,h2,_⟩
  ·exact ⟨a',0,0,h2,fun _ => rfl⟩
  ·exact ⟨_,m,c,h2,fun h => by cases h⟩
 have hu := slOf_u ht.pf
 have hg : (eqGuard .eql t x (.const (.slice none 0 0)) (.slice a' m' c) (.slice none 0 0)).run P w = .ok () w := by simp [eqGuard]
 have hr : (execOp a.eval ⟨some d, .binOp .eql t x (.const (.slice none 0 0)) t', ty, pos, af, none⟩).run P w = .ok (.value (.bool a'.isNone)) w := by
  have e2 : a.eval (.const (.slice none 0 0)) = .slice none 0 0 := rfl
  simp only [execOp,h2,e2,Sem.run_bind,hg,Result.andThen_ok,run_eqNil w t el hu,Sem.run_pure]
 simp only [Oper.wp,hr,Oper.upon]
 refine hK _ _ (kk a'.isNone hb C _ _ hCN ⟨h0,ι,?_,gh⟩)
 show TG C ι (lk ((d,AV.v (.bool a'.isNone)) :: ts)) _ _ _
 rw [lk_cons]
 exact g.put (by have := ltb hN;omega) (by simp [Rd])
open Go.Sort
theorem simple_n {ts:List Int}{s:Stmt}(h:simpleF ts s = true):(0 ≤ s.n ∧ s.n ≤ 9):=by
 unfold simpleF at h
 dsimp only at h
 repeat' split at h
 all_goals (first|(simp only [decide_eq_true_eq] at h;omega)|(cases h;done)|omega)
def dec2F (n : Int) : ByteArray := if n ≤ 9 then decF n else bytF' [48 + n / 10] ++ (bytF' [48 + n % 10] ++ .empty)
theorem dec2F_size (n:Int):(dec2F n).size ≤ 2:=by
 unfold dec2F;split
 ·rw [decF_size]; omega
 ·simp [bytF',ByteArray.size_append]
end Go.AL
namespace Go.AL
open Go.RowKit
theorem pc_of_calls {P:Program}{k:FuncId}{args:List AV}{Q:AV → Prop}
  (h : ∀ (w : World) (bad : Nat → Prop) (ι : Pl) (vals : List Value),RdV w bad ι args vals → Calls P k vals.toArray w fun e w' => ∃ v r,e = .returned v ∧ Q r ∧ r.pur = true ∧ (∀ bad ι,(∀ b,bad b → b < w.heap.size) → Rd w' bad ι r v) ∧ Below w.heap.size w w') : PC P k args Q := by
 intro C ι w vals hw hι g hr
 refine (h w _ ι vals hr).mono ?_
 rintro e w' ⟨v,r,rfl,hq,hp,hrd,hb⟩
 have hf : Fr C.W0 C.w0 w' := by
  subst hw
  refine ⟨hb.os,hb.tape,hb.output,hb.size,fun q hq _ => hb.block q hq,fun q => ?_⟩
  by_cases hlt : q < C.w0.heap.size
  ·unfold bsz;rw [hb.block q hlt]; exact Nat.le_refl _
  ·unfold bsz;rw [Array.getElem?_eq_none (by omega)]; exact Nat.zero_le _
 have hbad : ∀ b, badOf C.X ι (lkH []) b → b < w.heap.size := by
  rintro b (q | ⟨id,cs,β,q1,q2⟩)
  ·subst hw;exact C.xlt b q
  ·cases q1
 exact ⟨v,r,lkH [],ι,rfl,⟨hq,hp⟩,hrd _ _ hbad,⟨fun id cs q => (by cases q),fun id id' cs cs' b β β' q => (by cases q),hf,g.ex,fun _ q => q.elim⟩⟩
def i0 (b : Nat) : Pl := fun id => if id = 0 then some (some (b,0)) else none
theorem calls_of_mc1 {σ:Type}{P:Program}{k:FuncId}{args cells:List AV}{p:σ → Prop}{rr:σ → AV}{ho:σ → List AV}(h:MC P k args [(0,some cells)] 1 p rr (fun x => [(0,some (ho x))]))
  (hp1 : ∀ x,p x → (rr x).pur = true) (hp2 : ∀ x,p x → pursB (ho x) = true) (X : Nat → Prop)
  {W : World} {b : Nat} {arr : Array Value} {ty : TypeId} (hX : ∀ q,X q → q < W.heap.size) (hXb : ¬ X b) (hb : W.heap[b]? = some (.cells arr ty (0,0))) (hl : cells.length ≤ arr.size) (hc : RdC W (fun q => X q ∨ q = b) (i0 b) cells b 0)
  {vs : List Value} (hv : RdV W (fun q => X q ∨ q = b) (i0 b) args vs) :
  Calls P k vs.toArray W fun e W' => ∃ x v, p x ∧ e = .returned v ∧ Rd W' (fun q => X q ∨ q = b) (i0 b) (rr x) v ∧ (ho x = [] ∨ ∃ arr' ty', W'.heap[b]? = some (.cells arr' ty' (0, 0)) ∧ (ho x).length ≤ arr'.size ∧ RdC W' (fun q => X q ∨ q = b) (i0 b) (ho x) b 0) ∧
   W'.os = W.os ∧ W'.tape = W.tape ∧ W'.output = W.output ∧ W.heap.size ≤ W'.heap.size ∧ ∀ q,q < W.heap.size → q ≠ b → W'.heap[q]? = W.heap[q]? := by
 let C : Ctx := { N := 0,w0 := W,W0 := fun q => q = b,X := X,ι0 := i0 b,xlt := hX }
 have ebad : badOf C.X (i0 b) (lkH [(0, some cells)]) = fun q => X q ∨ q = b := by
  funext q
  apply propext
  constructor
  ·rintro (h | ⟨id, cs, β, h1, h2⟩)
   ·exact .inl h
   ·unfold i0 at h2
    split at h2
    ·cases h2
     exact .inr rfl
    ·cases h2
  ·rintro (h | rfl)
   ·exact .inl h
   ·exact .inr ⟨0,cells,0,rfl,rfl⟩
 have hblt : b < W.heap.size := lt_of_heap hb
 have g : HG C (i0 b) (fun j => 1 ≤ j) (lkH [(0, some cells)]) W := by
  refine ⟨fun id cs h1 => ?_,fun id id' cs cs' q β β' h1 h2 h3 h4 => ?_,Fr.refl _ _,fun _ _ h => h,fun id h1 => ?_⟩
  ·have e0 : id = 0 := by
    apply Classical.byContradiction;intro hne
    have e : Nat.beq id 0 = false := by
     cases id with
     | zero => exact absurd rfl hne
     | succ n => rfl
    simp [lkH,e] at h1
   subst e0
   have e1 : cs = cells := by simpa [lkH] using h1.symm
   subst e1
   exact .inr ⟨b,0,arr,ty,rfl,hb,by omega,by rw [ebad]; exact hc,hXb,.inl rfl⟩
  ·unfold i0 at h3 h4
   split at h3
   ·split at h4
    ·omega
    ·cases h4
   ·cases h3
  ·unfold i0;rw [if_neg (by omega)]
 refine (h C (i0 b) W vs rfl rfl g (by rw [ebad]; exact hv)).mono ?_
 rintro e W' ⟨v,r,H',ι',rfl,⟨x,hx,rfl,hH⟩,h4,h5⟩
 have hH0 := hH 0 (ho x) rfl
 have hi0 : ι' 0 = some (some (b,0)) := h5.ex 0 _ rfl
 have car : Carry W' (badOf C.X ι' H') ι' W' (fun q => X q ∨ q = b) ι' := ⟨fun q o y h1 h2 => ⟨fun e => h1 (e.elim .inl fun e => e ▸ .inr ⟨0,ho x,0,hH0,hi0⟩),h2⟩,fun _ _ h => h,fun _ => Nat.le_refl _⟩
 refine ⟨x,v,hx,rfl,Rd.pur _ _ (hp1 x hx) (Rd.carry car _ _ h4),?_,h5.fr.os,h5.fr.tape,h5.fr.output,h5.fr.size,fun q hq hne => h5.fr.block q hq hne⟩
 rcases h5.obj 0 (ho x) hH0 with ⟨q1,q2⟩ | ⟨b',β,arr',ty',q1,q2,q3,q4,q5,q6⟩
 ·exact .inl q2
 ·rw [hi0] at q1; cases q1
  exact .inr ⟨arr',ty',q2,by omega,RdC.pur _ _ _ (hp2 x hx) (RdC.carryB car _ _ _ (fun o y hy => hy) q4)⟩
def cS (s : ByteArray) : List AV := [sv s]
instance (s : ByteArray) : Pur (cS s):=⟨rfl⟩
theorem rdC_strs {w:World}{bad:Nat → Prop}{ι:Pl}{b:Nat}:∀ (zs:List ByteArray) (o:Nat),RdC w bad ι (flat cS zs) b o → ∀ j x,zs[j]? = some x → w.cell? ⟨b,o + j,none⟩ = some (.string x)
 | [],o,_,j,x,h => by simp at h
 | z :: zs, o, h, j, x, hx => by
  have e : flat cS (z :: zs) = sv z :: flat cS zs := rfl
  rw [e] at h
  simp only [RdC] at h
  obtain ⟨⟨y,h1,_,h3⟩,h4⟩ := h
  cases j with
  | zero =>
   simp only [Rd] at h3
   have : z = x := by simpa using hx
   subst this
   rw [Nat.add_zero,h1,h3]
  | succ j =>
   have := rdC_strs zs (o + 1) h4 j x (by simpa using hx)
   rw [show o + (j + 1) = o + 1 + j by omega]; exact this
theorem pc_join {P:Program}{k:FuncId}
  (h0 : ∀ (a : Option Addr) (c : Nat) (sep : ByteArray) (w : World),Calls P k #[.slice a 0 c,.string sep] w fun e w' => e = .returned (.string ⟨#[]⟩) ∧ w' = w)
  (h1 : ∀ (bk o c : Nat) (xs : List ByteArray) (sep : ByteArray) (w : World), (∀ (j : Nat) x, xs[j]? = some x → w.cell? ⟨bk, o + j, none⟩ = some (.string x)) → bk < w.heap.size → xs.length ≤ 140737488355328 → xs.length ≤ c → (Lib.join (xs.map (·.data.toList)) sep.data.toList).length ≤ 140737488355328 →
   Calls P k #[.slice (some ⟨bk,o,none⟩) xs.length c,.string sep] w fun e w' => e = .returned (.string ⟨(Lib.join (xs.map (·.data.toList)) sep.data.toList).toArray⟩) ∧ Below w.heap.size w w')
  (L : List ByteArray) (sep : ByteArray) (hl : L.length ≤ 140737488355328) (hj : (Lib.join (L.map (·.data.toList)) sep.data.toList).length ≤ 140737488355328) :
  PC P k [sl cS L,sv sep] (fun r => r = sv ⟨(Lib.join (L.map (·.data.toList)) sep.data.toList).toArray⟩) := by
 refine pc_of_calls fun w bad ι vals hv => ?_
 simp only [RdV] at hv
 obtain ⟨y,l,rfl,hy,y2,l2,rfl,hy2,rfl⟩ := hv
 change Rd w bad ι (.imm L.length (flat cS L)) y at hy
 simp only [Rd] at hy hy2
 subst hy2
 obtain ⟨a,c,rfl,hq⟩ := hy
 by_cases hn : L.length = 0
 ·have e : L = [] := List.eq_nil_of_length_eq_zero hn
  subst e
  refine (h0 a c sep w).mono ?_
  rintro e w' ⟨rfl,rfl⟩
  exact ⟨_,sv ⟨#[]⟩,rfl,rfl,rfl,fun _ _ _ => by simp only [Rd],Below.refl _ _⟩
 ·rcases hq with hq | ⟨b, o, hc, rfl, hq⟩
  ·exact absurd hq hn
  ·have hq' : RdC w bad ι (flat cS L) b o := by
    rcases hq with hq | ⟨_,hq⟩
    ·exfalso
     cases L with
     | nil => exact hn rfl
     | cons z zs => cases hq
    ·exact hq
   have hcells := rdC_strs L o hq'
   have hb : b < w.heap.size := by
    cases L with
    | nil => exact absurd rfl hn
    | cons z zs => exact World.block_lt_of_cell? _ _ (hcells 0 z rfl)
   refine (h1 b o c L sep w hcells hb hl hc hj).mono ?_
   rintro e w' ⟨rfl,hB⟩
   exact ⟨_,sv _,rfl,rfl,rfl,fun _ _ _ => by simp only [Rd],hB⟩
end Go.AL
namespace Go.AL
open Go.RowKit
variable {w w' : World} {bad bad' : Nat → Prop} {ι ι' : Pl}
mutual
theorem Rd.carryP (k:∀ b o x,¬ bad b → w.cell? ⟨b,o,none⟩ = some x → ¬ bad' b ∧ w'.cell? ⟨b,o,none⟩ = some x):∀ (av:AV) (y:Value),av.pur = true → Rd w bad ι av y → Rd w' bad' ι' av y
 | .v x,y,_,h => by simpa only [Rd] using h
 | .any,y,_,h => by simpa only [Rd] using h
 | .imm n cs, y, hp, h => by
  simp only [AV.pur] at hp
  simp only [Rd] at h ⊢
  obtain ⟨a,c,rfl,h⟩ := h
  refine ⟨a,c,rfl,?_⟩
  rcases h with h | ⟨b,o,hn,rfl,h⟩
  ·exact .inl h
  ·refine .inr ⟨b, o, hn, rfl, ?_⟩
   rcases h with h | ⟨hb,h⟩
   ·exact .inl h
   ·cases cs with
    | nil => exact .inl rfl
    | cons c1 cs =>
     refine .inr ⟨?_,RdC.carryP k _ _ _ hp (fun o x hx => (k b o x hb hx).2) h⟩
     simp only [RdC] at h
     obtain ⟨⟨x,hx,_⟩,_⟩ := h
     exact (k b o x hb hx).1
 | .iptr cs, y, hp, h => by
  simp only [AV.pur] at hp
  simp only [Rd] at h ⊢
  obtain ⟨b,o,rfl,h⟩ := h
  refine ⟨b,o,rfl,?_⟩
  rcases h with h | ⟨hb,h⟩
  ·exact .inl h
  ·cases cs with
   | nil => exact .inl rfl
   | cons c1 cs =>
    refine .inr ⟨?_,RdC.carryP k _ _ _ hp (fun o x hx => (k b o x hb hx).2) h⟩
    simp only [RdC] at h
    obtain ⟨⟨x,hx,_⟩,_⟩ := h
    exact (k b o x hb hx).1
 | .own id off n e,y,hp,h => by simp [AV.pur] at hp
 | .optr id off,y,hp,h => by simp [AV.pur] at hp
 | .agg cs, y, hp, h => by
  simp only [AV.pur] at hp
  simp only [Rd] at h ⊢
  obtain ⟨l,h1,h2⟩ := h
  exact ⟨l,h1,RdL.carryP k _ _ hp h2⟩
 | .tup cs, y, hp, h => by
  simp only [AV.pur] at hp
  simp only [Rd] at h ⊢
  obtain ⟨l,h1,h2⟩ := h
  exact ⟨l,h1,RdV.carryP k _ _ hp h2⟩
 | .clos fn f c, y, hp, h => by
  simp only [AV.pur,Bool.and_eq_true] at hp
  simp only [Rd] at h ⊢
  obtain ⟨l,l2,h1,h2,h3⟩ := h
  exact ⟨l,l2,h1,RdV.carryP k _ _ hp.1 h2,RdV.carryP k _ _ hp.2 h3⟩
 | .ownc id off n c e,y,hp,h => by simp [AV.pur] at hp
theorem RdC.carryP (k:∀ b o x,¬ bad b → w.cell? ⟨b,o,none⟩ = some x → ¬ bad' b ∧ w'.cell? ⟨b,o,none⟩ = some x):∀ (cs:List AV) (b o:Nat),pursB cs = true → (∀ o x,w.cell? ⟨b,o,none⟩ = some x → w'.cell? ⟨b,o,none⟩ = some x) → RdC w bad ι cs b o → RdC w' bad' ι' cs b o
 | [],b,o,_,_,h => by simp only [RdC]
 | c :: cs, b, o, hp, hb, h => by
  simp only [pursB,Bool.and_eq_true] at hp
  simp only [RdC] at h ⊢
  obtain ⟨⟨x,hx,h1,h2⟩,h3⟩ := h
  exact ⟨⟨x,hb o x hx,h1,Rd.carryP k _ _ hp.1 h2⟩,RdC.carryP k _ _ _ hp.2 hb h3⟩
theorem RdL.carryP (k:∀ b o x,¬ bad b → w.cell? ⟨b,o,none⟩ = some x → ¬ bad' b ∧ w'.cell? ⟨b,o,none⟩ = some x):∀ (cs:List AV) (l:List Value),pursB cs = true → RdL w bad ι cs l → RdL w' bad' ι' cs l
 | [],l,_,h => by simpa only [RdL] using h
 | c :: cs, l, hp, h => by
  simp only [pursB,Bool.and_eq_true] at hp
  simp only [RdL] at h ⊢
  obtain ⟨x,l',h0,h1,h2,h3⟩ := h
  exact ⟨x,l',h0,h1,Rd.carryP k _ _ hp.1 h2,RdL.carryP k _ _ hp.2 h3⟩
theorem RdV.carryP (k:∀ b o x,¬ bad b → w.cell? ⟨b,o,none⟩ = some x → ¬ bad' b ∧ w'.cell? ⟨b,o,none⟩ = some x):∀ (cs:List AV) (l:List Value),pursB cs = true → RdV w bad ι cs l → RdV w' bad' ι' cs l
 | [],l,_,h => by simpa only [RdV] using h
 | c :: cs, l, hp, h => by
  simp only [pursB,Bool.and_eq_true] at hp
  simp only [RdV] at h ⊢
  obtain ⟨x,l',h0,h2,h3⟩ := h
  exact ⟨x,l',h0,Rd.carryP k _ _ hp.1 h2,RdV.carryP k _ _ hp.2 h3⟩
end
end Go.AL
namespace Go.Proofs
open Go.Shelf Go.RowKit Go.Lib
variable {P : Program} {ρ : Ren}
structure Kp (X : Nat → Prop) (w w' : World) : Prop where
 os : w'.os = w.os
 tape : w'.tape = w.tape
 output : w'.output = w.output
 size : w.heap.size ≤ w'.heap.size
 block : ∀ q,q < w.heap.size → ¬ X q → w'.heap[q]? = w.heap[q]?
theorem Kp.refl (X:Nat → Prop) (w:World):Kp X w w := ⟨rfl,rfl,rfl,Nat.le_refl _,fun _ _ _ => rfl⟩
theorem Kp.mono {X Y:Nat → Prop}{a b:World}(h:Kp X a b) (hXY:∀ q,q < a.heap.size → X q → Y q):Kp Y a b := ⟨h.os,h.tape,h.output,h.size,fun q hq hn => h.block q hq fun hx => hn (hXY q hq hx)⟩
theorem Kp.trans {X:Nat → Prop}{a b c:World}(h:Kp X a b) (k:Kp X b c):Kp X a c :=
 ⟨k.os.trans h.os,k.tape.trans h.tape,k.output.trans h.output,Nat.le_trans h.size k.size,fun q hq hn => (k.block q (Nat.lt_of_lt_of_le hq h.size) hn).trans (h.block q hq hn)⟩
theorem Kp.setCell {X:Nat → Prop}{a w:World}(h:Kp X a w){p:Addr}(hp:X p.block) (u:Value):Kp X a (w.setCell p u) :=
 h.trans ⟨rfl,rfl,rfl,by simp [World.setCell],fun k hk hn => Below.heap_setCell _ _ _ _ (fun e => hn (e ▸ hp))⟩
theorem Kp.grown {X:Nat → Prop}{a w w':World}{row:Option Nat}(h:Kp X a w) (hg:w.grownBy w' row) (hr:∀ k,row = some k → X k ∨ a.heap.size ≤ k):Kp X a w' :=
 ⟨hg.os.trans h.os,hg.tape.trans h.tape,hg.output.trans h.output,Nat.le_trans h.size hg.size,fun q hq hn => (hg.block q (Nat.lt_of_lt_of_le hq h.size) (fun e => (hr q e.symm).elim hn fun h2 => by omega)).trans (h.block q hq hn)⟩
theorem copyCheck_p (L:Lays.n240 P ρ) (X:Builder.X72 P ρ) (B b:Nat) (bs:List Value) (w:World) (h:Lib.IsBuilderF (ρ.t 72) (ρ.t 5) B b bs w) :
  Calls P (ρ.f 240) #[.pointer (some ⟨b,0,none⟩)] w fun e w' => e = .returned (.tuple #[]) ∧ Lib.BuilderAtF (ρ.t 72) (ρ.t 5) B b (.pointer (some ⟨b,0,none⟩)) bs w' ∧ w'.cell? ⟨b,1,none⟩ = w.cell? ⟨b,1,none⟩ ∧ Kp (fun q => q = b) w w' := by
 rcases h with h|h
 ·refine (Any.Builder_copyCheck_fresh L X b w h.cell0 h.shape h.frozen0).mono ?_
  rintro e w' ⟨rfl,rfl⟩
  exact ⟨rfl,h.used _,World.cell?_setCell_other _ _ _ _ (by simp),Kp.setCell (X := fun q => q = b) (Kp.refl _ w) (p := ⟨b,0,none⟩) rfl _⟩
 ·refine (Any.Builder_copyCheck_used L X b w h.cell0).mono ?_
  rintro e w' ⟨rfl,rfl⟩
  exact ⟨rfl,h,rfl,Kp.refl _ _⟩
theorem run_append_x (w:World) (base:Nat) (t u ty e:TypeId) (i:TypeInfo) (ht:P.underlying t = some (.slice e)) (hu:P.underlying u = some .string) (hi:P.info? e = some i) (hz:i.zero = some (.int .u8 0))
  (hsize : i.size = 1) (hby : i.bytes = 1)
  (v : Value) (n : Nat) (xs : List Value) (hown : w.ownsRowF base e 1 v n xs) (s : ByteArray)
  (h63 : n + s.size ≤ maxLen) (hbytes : n + s.size ≤ 140737488355328) (hbase : base ≤ w.heap.size) :
  ∃ v' w', (Builtin.append_ #[t, u] ty #[v, .string s]).run P w = .ok v' w' ∧ w'.ownsRowF base e 1 v' (n + s.size) (xs ++ Lib.strCells s) ∧ w.grownBy w' v.ownBlock ∧
   (∀ g,v'.ownBlock = some g → v.ownBlock = some g ∨ w.heap.size ≤ g) := by
 obtain ⟨v',w',h1,h2,h3,_⟩ := Lib.run_append_own_stringF (P := P) w base t u ty e i ht hu hi hz hsize hby v n xs hown s h63 hbytes hbase
 refine ⟨v',w',h1,h2,h3,?_⟩
 rcases hown.2 with ⟨rfl,rfl⟩ | ⟨g,cap,cur,fz,rfl,hbg,hg,hfz,hnc,hcm,hcs,htake⟩
 ·obtain ⟨v2, w2, q1, q2, _, _⟩ := Lib.run_append_own_stringF (P := P) w w.heap.size t u ty e i ht hu hi hz hsize hby (.slice none 0 0) 0 xs ⟨hown.1, .inl ⟨rfl, rfl⟩⟩ s h63 hbytes (Nat.le_refl _)
  rw [h1] at q1
  injection q1 with q1 q3
  subst q1
  intro k hk
  exact .inr (q2.lt k hk).1
 ·have hxl : xs.length = n := by simpa using hown.1
  by_cases hroom : n + s.size ≤ cap
  ·have hcs' : cur.size = cap := by simpa using hcs
   have hr := Lib.run_append_room_stringF (P := P) w t u ty e i ht hu hi hsize g n cap cur fz hg (by simpa using hfz) s hroom (by omega)
   rw [h1] at hr
   injection hr with hr _
   subst hr
   intro k hk
   exact .inl hk
  ·have holds : ∀ j u, xs[j]? = some u → w.cell? ((⟨g, 0, none⟩ : Addr).add j) = some u := hown.cells (g := g) rfl
   have hr := Lib.run_append_grow_string (P := P) w t u ty e i (.int .u8 0) ht hu hi hz ⟨g,0,none⟩ n cap xs (by rw [hsize]; simpa using hxl) holds s (by omega) (by simp only [maxLen] at h63;omega) (by rw [hby]; exact growslice_fits (by omega) (by omega))
   rw [h1] at hr
   injection hr with hr _
   subst hr
   intro k hk
   simp [Value.ownBlock] at hk
   omega
theorem wpList_append_x {ops:Array Oper}{rest:List Oper}{o:Oper}{a:Act}{w:World}{Q:Exit → Act → World → Prop}(hgd:o.guard = none) (sl x:Operand) (t u:TypeId)
  (ho : o.op = .call { callee := .builtin .append,args := #[sl,x],argTypes := #[t,u] })
  (base : Nat) (e : TypeId) (i : TypeInfo) (ht : P.underlying t = some (.slice e)) (hu : P.underlying u = some .string) (hi : P.info? e = some i) (hz : i.zero = some (.int .u8 0))
  (hsize : i.size = 1) (hby : i.bytes = 1)
  (v : Value) (n : Nat) (xs : List Value) (hs : a.eval sl = v) (hown : w.ownsRowF base e 1 v n xs) (s : ByteArray) (hx : a.eval x = .string s)
  (h63 : n + s.size ≤ maxLen) (hbytes : n + s.size ≤ 140737488355328) (hbase : base ≤ w.heap.size)
  (h : ∀ v' w',w'.ownsRowF base e 1 v' (n + s.size) (xs ++ Lib.strCells s) → w.grownBy w' v.ownBlock → (∀ g,v'.ownBlock = some g → v.ownBlock = some g ∨ w.heap.size ≤ g) → wpList P ops Q rest (a.put o.dst v') w') : wpList P ops Q (o :: rest) a w := by
 refine wpList_plain hgd fun K hK => ?_
 obtain ⟨v',w',hr,h2,h3,h4⟩ := run_append_x (P := P) w base t u o.type e i ht hu hi hz hsize hby v n xs hown s h63 hbytes hbase
 unfold Oper.wp execOp
 simp only [ho,resolve,invoke,builtin,Sem.run_bind,Sem.run_pure,Result.andThen_ok,List.map_toArray,List.map_cons,List.map_nil,hs,hx,hr]
 exact hK _ _ (h v' w' h2 h3 h4)
set_option maxHeartbeats 2000000 in
set_option maxRecDepth 100000 in
theorem WriteString_p (L:Lays.n166 P ρ) (X:Builder.Extra P ρ) (B b:Nat) (bs:List Value) (s:ByteArray) (w:World) (h:Lib.IsBuilderF (ρ.t 72) (ρ.t 5) B b bs w) (hlen:bs.length + s.size ≤ 140737488355328) (hBw:B ≤ w.heap.size) :
  Calls P (ρ.f 166) #[.pointer (some ⟨b, 0, none⟩), .string s] w fun e w' => e = .returned (.tuple #[.int .i64 s.size, .nilIface]) ∧ Lib.BuilderAtF (ρ.t 72) (ρ.t 5) B b (.pointer (some ⟨b, 0, none⟩)) (bs ++ Lib.strCells s) w' ∧
   Kp (fun q => q = b ∨ ∃ v,w.cell? ⟨b,1,none⟩ = some v ∧ v.ownBlock = some q) w w' ∧ (∀ v' g,w'.cell? ⟨b,1,none⟩ = some v' → v'.ownBlock = some g → (∃ v,w.cell? ⟨b,1,none⟩ = some v ∧ v.ownBlock = some g) ∨ w.heap.size ≤ g) := by
 obtain ⟨i0,hi,hz0,hz1,hz2⟩ := info_parts X.infoByte
 have mixed := L.mixed
 have t72 := L.t72;have a72 := L.a72;have z72 := L.z72;have v72 := L.v72;have u72 := run_underlying L.t72
 have t70 := L.t70;have a70 := L.a70;have z70 := L.z70;have v70 := L.v70;have u70 := run_underlying L.t70
 have t37 := L.t37;have a37 := L.a37;have z37 := L.z37;have v37 := L.v37;have u37 := run_underlying L.t37
 have t3 := L.t3;have a3 := L.a3;have z3 := L.z3;have v3 := L.v3;have u3 := run_underlying L.t3
 have t9 := L.t9;have a9 := L.a9;have z9 := L.z9;have v9 := L.v9;have u9 := run_underlying L.t9
 have t4 := L.t4;have a4 := L.a4;have z4 := L.z4;have v4 := L.v4;have u4 := run_underlying L.t4
 have t164 := L.t164;have a164 := L.a164;have z164 := L.z164;have v164 := L.v164;have u164 := run_underlying L.t164
 have t5 := X.t5;have a5 := X.a5;have z5 := X.z5;have v5 := X.v5;have u5 := run_underlying X.t5
 have e240 : ∀ args w,(callFunc (ρ.f 240) args).run P w = .ok (.enter (ρ.f 240) args) w := enters_of L.f240 (by kernel_rfl) rfl
 go_enter L.f166,Body.n166_ntmps ρ
 go_wp2_with (go_at_fn (ρ.f 240);refine (copyCheck_p { L with } X.toX72 B b bs _ h).mono ?_)
 rintro e w1 ⟨rfl,h1,hc,hk1⟩
 obtain ⟨hB,v,hbk,hown,hne⟩ := h1
 have c0 : w1.cell? ⟨b,0,none⟩ = some (.pointer (some ⟨b,0,none⟩)) := by rw [Lib.cell_of_heap hbk]; rfl
 have c1 : w1.cell? ⟨b,1,none⟩ = some v := by rw [Lib.cell_of_heap hbk]; rfl
 have hk2 : Kp (fun q => q = b ∨ ∃ v,w.cell? ⟨b,1,none⟩ = some v ∧ v.ownBlock = some q) w w1 := hk1.mono fun q _ hq => .inl hq
 have hcw : w.cell? ⟨b,1,none⟩ = some v := by rw [← hc]; exact c1
 go_wp2_with (at_builtin;refine wpList_append_x rfl _ _ (ρ.t 37) (ρ.t 9) rfl B (ρ.t 5) i0 L.t37 L.t9 hi hz0 hz1 hz2 _ _ _ rfl hown s rfl ?c3 ?c4 ?c5 ?_)
 case c3 => unfold maxLen;omega
 case c4 => omega
 case c5 => have := hk1.size;omega
 intro v' w2 hown' hgrow hnew
 have hlt : b < w1.heap.size := by
  rcases Nat.lt_or_ge b w1.heap.size with h'|h'
  ·exact h'
  ·simp [Array.getElem?_eq_none h'] at hbk
 have hb2 : w2.heap[b]? = some (.cells #[.pointer (some ⟨b, 0, none⟩), v] (ρ.t 72) (0, 0)) := by
  rw [hgrow.block b hlt (fun e => hne e.symm)]
  exact hbk
 have d0 : w2.cell? ⟨b,0,none⟩ = some (.pointer (some ⟨b,0,none⟩)) := by rw [Lib.cell_of_heap hb2]; rfl
 have d1 : w2.cell? ⟨b,1,none⟩ = some v := by rw [Lib.cell_of_heap hb2]; rfl
 have f1 : w2.frozen? ⟨b,1,none⟩ = false := Lib.frozen_of_heap hb2 1
 obtain ⟨ao, n', cap, rfl⟩ : ∃ ao n' cap, v' = .slice ao n' cap := by
  rcases hown'.2 with ⟨hv,_⟩ | ⟨g,cap,cur,fz,hv,_⟩
  ·exact ⟨_,_,_,hv⟩
  ·exact ⟨_,_,_,hv⟩
 go_wp2
 go_ret2
 refine ⟨rfl,Lib.BuilderAtF.put (T := (ρ.t 72)) (e := (ρ.t 5)) hB hb2 (bs' := bs ++ Lib.strCells s) (by simpa [Lib.strCells_length] using hown') X.neB5,?_⟩
 refine ⟨(hk2.grown hgrow (fun k hk => .inl (.inr ⟨v,hcw,hk⟩))).setCell (p := ⟨b,1,none⟩) (.inl rfl) _,fun v2 g hv2 hg2 => ?_⟩
 have e2 : v2 = .slice ao n' cap := by
  have h9 := World.cell?_setCell_same' w2 ⟨b,1,none⟩ (.slice ao n' cap) (by rw [d1]; rfl)
  rw [h9] at hv2
  injection hv2 with hv2
  exact hv2.symm
 subst e2
 rcases hnew g hg2 with q|q
 ·exact .inl ⟨v,hcw,q⟩
 ·have := hk1.size
  exact .inr (by omega)
end Go.Proofs
namespace Go.AL
open Go.RowKit Go.Proofs Go.Shelf
def Xb (bo : Nat) (w : World) (q : Nat) : Prop := q = bo ∨ ∃ v,w.cell? ⟨bo,1,none⟩ = some v ∧ v.ownBlock = some q
structure ScI (T e ts : TypeId) (W0 : World) (bx bo bl : Nat) (L : List ByteArray) (p : Prg) (out : List UInt8) (w : World) : Prop where
 bw : Below W0.heap.size W0 w
 hx : W0.heap.size ≤ bx
 ho : W0.heap.size ≤ bo
 n1 : bx ≠ bo
 n2 : bl ≠ bo
 n3 : bl ≠ bx
 bd : Lib.IsBuilderF T e W0.heap.size bo (Lib.byteCells out) w
 ln : w.heap[bl]? = some (.cells (L.map Value.string).toArray ts (0,0))
 nx : ¬ Xb bo w bx
 nl : ¬ Xb bo w bl
 x : ∃ arr tx,w.heap[bx]? = some (.cells arr tx (0,0)) ∧ 2 ≤ arr.size ∧ RdC w (fun q => Xb bo w q ∨ q = bx) (i0 bx) [sl cI p.types,sl cStmt p.body] bx 0
theorem Xb.lt {T e:TypeId}{B bo:Nat}{bs:List Value}{w:World}(h:Lib.IsBuilderF T e B bo bs w){q:Nat}(hq:Xb bo w q):q < w.heap.size ∧ B ≤ q ∧ (q = bo ∨ ∃ c fz,w.heap[q]? = some (.cells c e fz)):=by
 have key : ∀ p, Lib.BuilderAtF T e B bo p bs w → q < w.heap.size ∧ B ≤ q ∧ (q = bo ∨ ∃ c fz, w.heap[q]? = some (.cells c e fz)) := by
  rintro p ⟨hB,v,hb,hown,hne⟩
  rcases hq with rfl | ⟨v',h1,h2⟩
  ·exact ⟨lt_of_heap hb,hB,.inl rfl⟩
  ·have e1 : w.cell? ⟨bo, 1, none⟩ = some v := by rw [Lib.cell_of_heap hb]; rfl
   rw [e1] at h1
   injection h1 with h1
   subst h1
   have := hown.lt q h2
   exact ⟨this.2,this.1,.inr (Lib.ownsRowF_kind hown q h2)⟩
 rcases h with h|h
 ·exact key _ h
 ·exact key _ h
theorem bld_stay {T e:TypeId}{B bo:Nat}{bs:List Value}{w w':World}(h:Lib.IsBuilderF T e B bo bs w) (hs:∀ q,Xb bo w q → w'.heap[q]? = w.heap[q]?):Lib.IsBuilderF T e B bo bs w' ∧ ∀ q,Xb bo w' q ↔ Xb bo w q:=by
 have hb0 := hs bo (.inl rfl)
 have hc : w'.cell? ⟨bo,1,none⟩ = w.cell? ⟨bo,1,none⟩ := cell?_heap hb0 1
 have key : ∀ p, Lib.BuilderAtF T e B bo p bs w → Lib.BuilderAtF T e B bo p bs w' := by
  rintro p ⟨hB,v,hb,hown,hne⟩
  have e1 : w.cell? ⟨bo,1,none⟩ = some v := by rw [Lib.cell_of_heap hb]; rfl
  refine ⟨hB,v,by rw [hb0]; exact hb,⟨hown.1,?_⟩,hne⟩
  rcases hown.2 with hn | ⟨g,cap,cur,fz,rfl,hbg,hgg,rest⟩
  ·exact .inl hn
  ·exact .inr ⟨g,cap,cur,fz,rfl,hbg,by rw [hs g (.inr ⟨_,e1,rfl⟩)]; exact hgg,rest⟩
 refine ⟨h.imp (key _) (key _),fun q => ?_⟩
 unfold Xb
 rw [hc]
theorem ScI.do {T e ts:TypeId}{W0:World}{bx bo bl:Nat}{L:List ByteArray}{p q:Prg}{out:List UInt8}{w:World}(I:ScI T e ts W0 bx bo bl L p out w){P:Program}{k:FuncId}{s t:ByteArray}
  (h : MC P k [.optr 0 0,sv s] [(0,some [sl cI p.types,sl cStmt p.body])] 1 (fun _ : Unit => True) (fun _ => sv t) (fun _ => [(0,some [sl cI q.types,sl cStmt q.body])])) :
  Calls P k #[.pointer (some ⟨bx,0,none⟩),.string s] w fun e' w' => e' = .returned (.string t) ∧ ScI T e ts W0 bx bo bl L q out w' := by
 obtain ⟨arr,tx,hb,hl,hr⟩ := I.x
 have hc := calls_of_mc1 h (fun _ _ => rfl) (fun _ _ => by rw [show pursB [sl cI q.types, sl cStmt q.body] = ((sl cI q.types).pur && ((sl cStmt q.body).pur && true)) from rfl, pur_sl, pur_sl]; rfl) (Xb bo w) (fun q hq => (Xb.lt I.bd hq).1) I.nx hb (by simpa using hl) hr (vs := [.pointer (some ⟨bx, 0, none⟩), .string s])
  (by simp only [RdV,Rd]; exact ⟨_,_,rfl,⟨bx,0,rfl,rfl⟩,_,_,rfl,rfl,rfl⟩)
 refine hc.mono ?_
 rintro e' w' ⟨_,v,_,rfl,hv,ho,h1,h2,h3,h4,h5⟩
 simp only [Rd] at hv
 subst hv
 obtain ⟨hbd,hX⟩ := bld_stay I.bd (w' := w') fun q hq => h5 q (Xb.lt I.bd hq).1 (fun e => I.nx (e ▸ hq))
 rcases ho with ho | ⟨arr',ty',q1,q2,q3⟩
 ·cases ho
 refine ⟨rfl,⟨I.bw.trans ⟨h1,h2,h3,h4,fun q hq => h5 q (Nat.lt_of_lt_of_le hq I.bw.size) (fun e => by have := I.hx;omega)⟩,I.hx,I.ho,I.n1,I.n2,I.n3,hbd,?_,fun q => I.nx ((hX _).1 q),fun q => I.nl ((hX _).1 q),⟨arr',ty',q1,by simpa using q2,?_⟩⟩⟩
 ·rw [h5 bl (lt_of_heap I.ln) I.n3]; exact I.ln
 ·have : (fun q => Xb bo w' q ∨ q = bx) = (fun q => Xb bo w q ∨ q = bx) := funext fun q => propext (or_congr (hX q) Iff.rfl)
  rw [this]; exact q3
theorem ScI.write {P:Program}{ρ:Ren}(L166:Lays.n166 P ρ) (X:Builder.Extra P ρ){ts:TypeId}{W0:World}{bx bo bl:Nat}{L:List ByteArray}{p:Prg}{out:List UInt8}{w:World}(I:ScI (ρ.t 72) (ρ.t 5) ts W0 bx bo bl L p out w) (t:ByteArray) (hl:out.length + t.size ≤ 140737488355328) :
  Calls P (ρ.f 166) #[.pointer (some ⟨bo,0,none⟩),.string t] w fun e' w' => e' = .returned (.tuple #[.int .i64 t.size,.nilIface]) ∧ ScI (ρ.t 72) (ρ.t 5) ts W0 bx bo bl L p (out ++ t.data.toList) w' := by
 refine (WriteString_p L166 X W0.heap.size bo (Lib.byteCells out) t w I.bd (by rw [Lib.byteCells_length]; exact hl) I.bw.size).mono ?_
 rintro e' w' ⟨rfl,h1,h2,h3⟩
 have hX : ∀ q, Xb bo w' q → Xb bo w q ∨ w.heap.size ≤ q := by
  rintro q (rfl | ⟨v,q1,q2⟩)
  ·exact .inl (.inl rfl)
  ·rcases h3 v q q1 q2 with q3 | q3
   ·exact .inl (.inr q3)
   ·exact .inr q3
 have hst : ∀ q,q < w.heap.size → ¬ Xb bo w q → w'.heap[q]? = w.heap[q]? := fun q hq hn => h2.block q hq hn
 obtain ⟨arr,tx,hb,hl2,hr⟩ := I.x
 refine ⟨rfl,⟨I.bw.trans ⟨h2.os,h2.tape,h2.output,h2.size,fun q hq => hst q (Nat.lt_of_lt_of_le hq I.bw.size) (fun e => by have := (Xb.lt I.bd e).2.1;omega)⟩,I.hx,I.ho,I.n1,I.n2,I.n3,?_,?_,fun q => ?_,fun q => ?_,⟨arr,tx,?_,hl2,?_⟩⟩⟩
 ·have e : Lib.byteCells (out ++ t.data.toList) = Lib.byteCells out ++ Lib.strCells t := by simp [Lib.byteCells, Lib.strCells]
  rw [e]
  exact .inr h1
 ·rw [hst bl (lt_of_heap I.ln) I.nl]; exact I.ln
 ·rcases hX _ q with q | q
  ·exact I.nx q
  ·have := lt_of_heap hb;omega
 ·rcases hX _ q with q | q
  ·exact I.nl q
  ·have := lt_of_heap I.ln;omega
 ·rw [hst bx (lt_of_heap hb) I.nx]; exact hb
 ·refine RdC.carryP (w := w) (bad := fun q => Xb bo w q ∨ q = bx) (ι := i0 bx) (fun b o y hn hc => ⟨?_, ?_⟩) _ _ _ (by rw [show pursB [sl cI p.types, sl cStmt p.body] = ((sl cI p.types).pur && ((sl cStmt p.body).pur && true)) from rfl, pur_sl, pur_sl]; rfl) (fun o y hy => by rw [cell?_heap (hst bx (lt_of_heap hb) I.nx)]; exact hy) hr
  ·have hlt := lt_of_cell hc
   rintro (q|q)
   ·rcases hX _ q with q | q
    ·exact hn (.inl q)
    ·omega
   ·exact hn (.inr q)
  ·rw [cell?_heap (hst b (lt_of_cell hc) (fun q => hn (.inl q)))]; exact hc
end Go.AL
namespace Go.Proofs
open Go.Shelf Go.RowKit Go.Lib
variable {P : Program} {ρ : Ren}
theorem Count_oneB (L:Lays.n138 P ρ) (s:ByteArray) (c:UInt8) (w:World):Calls P (ρ.f 138) #[.string s,.string ⟨#[c]⟩] w fun e w' => e = .returned (.int .i64 (Lib.countB s ⟨#[c]⟩)) ∧ w' = w:=by
 refine (Any.strings_Count_one L s c w).mono fun e w' ⟨he,hw⟩ => ⟨?_,hw⟩
 rw [he]
 show _ = Ending.returned (Value.int .i64 ((Lib.count s.data.toList [c] : Nat) : Int))
 rw [Lib.count_one]
 rfl
theorem Index_oneB (L:Lays.n143 P ρ) (s:ByteArray) (c:UInt8) (w:World):Calls P (ρ.f 143) #[.string s,.string ⟨#[c]⟩] w fun e w' => e = .returned (.int .i64 (Lib.indexB s ⟨#[c]⟩)) ∧ w' = w:=by
 refine (Any.strings_Index_one L s c w).mono fun e w' ⟨he,hw⟩ => ⟨?_,hw⟩
 rw [he]
 show _ = Ending.returned (Value.int .i64 (Lib.index s.data.toList [c]))
 rw [Lib.index_one]
set_option maxHeartbeats 1000000 in
theorem Split_one (L:Lays.n146 P ρ) (hi9:(P.info? (ρ.t 9)).map (fun i => (i.zero,i.size,i.bytes)) = some (some (.string ByteArray.empty),1,16)) (s:ByteArray) (ch:UInt8) (w:World) (hs:s.size < 4294967281) :
  Calls P (ρ.f 146) #[.string s, .string ⟨#[ch]⟩] w fun e w' =>
   e = .returned (.slice (some ⟨w.heap.size,0,none⟩) (Lib.splitB ⟨#[ch]⟩ 0 (Lib.countB s ⟨#[ch]⟩) s).length (Lib.splitB ⟨#[ch]⟩ 0 (Lib.countB s ⟨#[ch]⟩) s).length) ∧ w' = w.alloc (.cells ((Lib.splitB ⟨#[ch]⟩ 0 (Lib.countB s ⟨#[ch]⟩) s).map Value.string).toArray (ρ.t 9)) := by
 have h1 : 1 ≤ (ByteArray.mk #[ch]).size := Nat.le_refl 1
 have hle := Lib.countB_le ⟨#[ch]⟩ h1 s.size s (Nat.le_refl _)
 have hlen := Lib.splitB_all ⟨#[ch]⟩ h1 0 _ s rfl
 have c := Any.strings_genSplit_core { L with } hi9 s ⟨#[ch]⟩ 0 (-1) (Lib.countB s ⟨#[ch]⟩ + 1) w hs h1 (Nat.zero_le _) (fun x c hx => Index_oneB { L with } x ch _) (Count_oneB { L with } s ch w) (by decide) (by decide) (by rw [if_pos (by decide)]; omega)
 rw [Nat.add_sub_cancel,hlen] at c
 have e2 : Lib.cellsOf (Lib.splitB ⟨#[ch]⟩ 0 (Lib.countB s ⟨#[ch]⟩) s) (Lib.countB s ⟨#[ch]⟩ + 1) = ((Lib.splitB ⟨#[ch]⟩ 0 (Lib.countB s ⟨#[ch]⟩) s).map Value.string).toArray := by rw [← hlen]; exact Lib.cellsOf_full _
 rw [e2] at c
 rw [hlen]
 have t3 := L.t3;have t9 := L.t9;have t31 := L.t31
 have a3 := L.a3;have a9 := L.a9;have a31 := L.a31
 have z3 := L.z3;have v3 := L.v3;have z9 := L.z9;have v9 := L.v9;have z31 := L.z31;have v31 := L.v31
 have e221 : ∀ args w,(callFunc (ρ.f 221) args).run P w = .ok (.enter (ρ.f 221) args) w := enters_of L.f221 (by kernel_rfl) rfl
 go_enter L.f146,Body.n146_ntmps ρ
 go_wp2_with (go_at_fn (ρ.f 221);refine c.mono ?_; rintro e w' ⟨rfl,hw⟩; rw [hw])
 go_ret
 exact ⟨rfl,rfl⟩
end Go.Proofs
namespace Go.AL
theorem bdata_app (a b:ByteArray):(a ++ b).data.toList = a.data.toList ++ b.data.toList:=by
 simp [ByteArray.data_append]
theorem textA_data:∀ (l:List Stmt) (out:ByteArray) (k:Nat),0 < k → (textA out k l).data.toList = out.data.toList ++ Lib.joinTail [59] (l.map fun s => (textS s).data.toList)
 | [],out,k,_ => by simp [textA,Lib.joinTail]
 | s :: l, out, k, h => by
  rw [textA,textA_data l _ _ (Nat.succ_pos k)]
  unfold joinF
  rw [if_pos h,bdata_app,bdata_app]
  simp [Lib.joinTail,List.append_assoc]
theorem textL_data (l:List Stmt):(textL l).data.toList = Lib.join (l.map fun s => (textS s).data.toList) [59]:=by
 unfold textL
 cases l with
 | nil => rfl
 | cons s l =>
  rw [textA,textA_data l _ _ (by decide),List.map_cons,Lib.join_cons]
  unfold joinF
  rw [if_neg (by decide),bdata_app]
  rfl
theorem textL_join (l:List Stmt):textL l = ⟨(Lib.join ((l.map textS).map (·.data.toList)) [59]).toArray⟩:=by
 have h := textL_data l
 rw [List.map_map]
 change (textL l).data.toList = Lib.join (l.map ((fun x => x.data.toList) ∘ textS)) [59] at h
 rw [← h]
open Go.Lib
theorem indexByte_at (c:UInt8) (r:List UInt8):∀ a:List UInt8,c ∉ a → indexByte (a ++ c :: r) c = a.length
 | [],_ => by simp [indexByte]
 | b :: a, h => by
  have hb : ¬ b = c := fun e => h (by simp [e])
  have ih := indexByte_at c r a (fun q => h (List.mem_cons_of_mem _ q))
  rw [List.cons_append,indexByte,ih]
  have h1 : (b == c) = false := by simpa using hb
  have h2 : ((a.length : Int) == -1) = false := by simp
  rw [h1,h2]; simp
theorem split_hit {c:UInt8}{a:List UInt8}(r:List UInt8) (h:c ∉ a):split (a ++ c :: r) [c] = a :: split r [c]:=by
 have hc : count (a ++ c :: r) [c] = count r [c] + 1 := by
  rw [count_one,count_one,List.count_append,List.count_cons_self,List.count_eq_zero_of_not_mem h]; omega
 have hi : index (a ++ c :: r) [c] = a.length := by rw [index_one]; exact indexByte_at c r a h
 unfold split
 rw [hc,splitK,hi]
 have h2 : ((a.length : Int) == -1) = false := by simp
 rw [h2]
 simp
theorem split_miss {c:UInt8}{a:List UInt8}(h:c ∉ a):split a [c] = [a]:=by
 have hc : count a [c] = 0 := by rw [count_one]; exact List.count_eq_zero_of_not_mem h
 unfold split
 rw [hc]; rfl
theorem splitB_of (s:ByteArray) (c:UInt8):splitB ⟨#[c]⟩ 0 (countB s ⟨#[c]⟩) s = (split s.data.toList [c]).map fun l => ⟨l.toArray⟩:=by
 have h := splitB_data ⟨#[c]⟩ 0 (countB s ⟨#[c]⟩) s
 have e : splitB ⟨#[c]⟩ 0 (countB s ⟨#[c]⟩) s = ((splitB ⟨#[c]⟩ 0 (countB s ⟨#[c]⟩) s).map (·.data.toList)).map fun l => ⟨l.toArray⟩ := by
  rw [List.map_map]
  conv => lhs;rw [← List.map_id (splitB ⟨#[c]⟩ 0 (countB s ⟨#[c]⟩) s)]
  exact List.map_congr_left fun x _ => rfl
 rw [e,h]; rfl
def b8 (n : Int) : UInt8 := UInt8.ofNat n.toNat
def tS (s : Stmt) : List UInt8 := (textS s).data.toList
def tL (l : List Stmt) : List UInt8 := (textL l).data.toList
theorem letF_l (v:Int):(letF v).data.toList = [b8 (97 + v)] := rfl
theorem decF_l (v:Int):(decF v).data.toList = [b8 (48 + v)] := by unfold decF;rw [bdata_app]; rfl
theorem tS1 (x y n:Int) (th el:List Stmt):tS (.mk 1 x y n th el) = [b8 (97 + x),61,b8 (48 + n)]:=by
 unfold tS;rw [textS_def]; simp [Stmt.op,Stmt.x,Stmt.n,letF_l,decF_l]
theorem tS2 (x y n:Int) (th el:List Stmt):tS (.mk 2 x y n th el) = [b8 (97 + x),61,98,111,120,32,b8 (48 + n)]:=by
 unfold tS;rw [textS_def]; simp [Stmt.op,Stmt.x,Stmt.n,letF_l,decF_l]
theorem tS3 (x y n:Int) (th el:List Stmt):tS (.mk 3 x y n th el) = [b8 (97 + x),61,b8 (97 + y)]:=by
 unfold tS;rw [textS_def]; simp [Stmt.op,Stmt.x,Stmt.y,letF_l]
theorem tS4 (x y n:Int) (th el:List Stmt):tS (.mk 4 x y n th el) = [b8 (97 + x),61,38,b8 (97 + y)]:=by
 unfold tS;rw [textS_def]; simp [Stmt.op,Stmt.x,Stmt.y,letF_l]
theorem tS5 (x y n:Int) (th el:List Stmt):tS (.mk 5 x y n th el) = [b8 (97 + x),61,38,109,117,116,32,b8 (97 + y)]:=by
 unfold tS;rw [textS_def]; simp [Stmt.op,Stmt.x,Stmt.y,letF_l]
theorem tS6 (x y n:Int) (th el:List Stmt):tS (.mk 6 x y n th el) = [b8 (97 + x),61,42,b8 (97 + y)]:=by
 unfold tS;rw [textS_def]; simp [Stmt.op,Stmt.x,Stmt.y,letF_l]
theorem tS7 (x y n:Int) (th el:List Stmt):tS (.mk 7 x y n th el) = [42,b8 (97 + x),61,b8 (97 + y)]:=by
 unfold tS;rw [textS_def]; simp [Stmt.op,Stmt.x,Stmt.y,letF_l]
theorem tS8 (x y n:Int) (th el:List Stmt):tS (.mk 8 x y n th el) = [100,114,111,112,32,b8 (97 + x)]:=by
 unfold tS;rw [textS_def]; simp [Stmt.op,Stmt.x,letF_l]
theorem tS9 (x y n:Int) (th el:List Stmt):tS (.mk 9 x y n th el) = [105,102,123] ++ tL th ++ [125,123] ++ tL el ++ [125]:=by
 unfold tS tL;rw [textS_def]; simp [Stmt.op,Stmt.th,Stmt.el]
theorem tS10 (x y n:Int) (th el:List Stmt):tS (.mk 10 x y n th el) = [108,111,111,112,123] ++ tL th ++ [125]:=by
 unfold tS tL;rw [textS_def]; simp [Stmt.op,Stmt.th]
theorem tL_nil:tL [] = [] := rfl
theorem tL_cons (s:Stmt) (l:List Stmt):tL (s :: l) = tS s ++ Lib.joinTail [59] (l.map tS):=by
 unfold tL;rw [textL_data,List.map_cons,Lib.join_cons]; rfl
theorem joinTail_cons (s:List UInt8) (l:List (List UInt8)):Lib.joinTail [59] (s :: l) = 59 :: (s ++ Lib.joinTail [59] l):=by
 simp [Lib.joinTail]
open Go.Lib
theorem split2 {a b:List UInt8}(ha:(10:UInt8) ∉ a) (hb:(10:UInt8) ∉ b):split (a ++ 10 :: (b ++ [10])) [10] = [a,b,[]]:=by
 rw [split_hit _ ha,split_hit [] hb,split_miss (by simp)]
end Go.AL
