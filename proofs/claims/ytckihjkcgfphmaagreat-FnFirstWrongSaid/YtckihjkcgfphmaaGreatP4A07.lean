/-
 A part of the proofs over this program: rules and contracts of its functions (the rules).
-/
import Derived.Test.YtckihjkcgfphmaaGreatP4A06
import Derived.Sort.Grow
import Derived.Shelf.Sort.Plain
import Derived.Ground.Names2Prog
import Derived.Shelf.Slices.CompactI
import Derived.Shelf.Slices.In.SortNone
import Derived.Test.YtckihjkcgfphmaaGreatProg
set_option linter.unusedVariables false
set_option linter.unusedSimpArgs false
namespace Go.AL
open Go.RowKit
set_option linter.unusedVariables false
theorem Et (c : Int) : hG .and .i64 c 1 = some (.int .i64 (c % 2)) := by
 have h : (BitVec.ofInt 64 c &&& BitVec.ofInt 64 1).toNat = (c % 2).toNat := by
  rw [BitVec.toNat_and, show (BitVec.ofInt 64 1).toNat = 1 from rfl, Nat.and_one_is_mod, BitVec.toNat_ofInt]
  omega
 have e : hG .and .i64 c 1 = some (.int .i64 (IntKind.i64.wrap ((BitVec.ofInt 64 c &&& BitVec.ofInt 64 1).toNat : Int))) := rfl
 rw [e, h]
 rcases Int.emod_two_eq c with h2 | h2 <;> rw [h2] <;> rfl
section
variable {P : Program} {N : Nat} {Q : Exit → AS → Prop} {all : Array Oper} {rest : List Oper} {ts : List (Nat × AV)} {hs : List (Nat × Option (List AV))} {n : Nat} {z0 : Lo} {md : Md}
variable {d : Nat} {ty : TypeId} {pos : String} {af : Array Edge}
theorem IS {t t' : TypeId} {x y : Operand} {c : Int} (hx : ev (lk ts) x = some (.v (.int .i64 c))) (hy : ev (lk ts) y = some (.v (.int .i64 1)))
  (hN : Nat.blt d N = true) {md' : Md} [hmd : MdA md (rO x ++ rO y) [.inl d] md'] (kk : RW P N all Q md' rest ⟨(d, .v (.int .i64 (c % 2))) :: ts, hs, n, z0⟩) : RW P N all Q md (⟨some d, .binOp .and t x y t', ty, pos, af, none⟩ :: rest) ⟨ts, hs, n, z0⟩ :=
 eX hx hy (.inl rfl) (Et c) (eJ hN) (by rw [hmd.pf]; exact kk)
end
end Go.AL

namespace Go.AL
open Go.RowKit
set_option linter.unusedVariables false
theorem Ei {P : Program} {N : Nat} {Q : Exit → AS → Prop} {all : Array Oper} {rest : List Oper} {ts : List (Nat × AV)} {hs : List (Nat × Option (List AV))} {n : Nat} {z0 : Lo} {d : Nat} {ty : TypeId} {pos : String} {af : Array Edge}
  {t t' el : TypeId} {x : Operand} {id off m e : Nat} [ht : SlT P t el] (hx : ev (lk ts) x = some (.own id off m e)) (hN : Nat.blt d N = true)
  (kk : ∀ b : Bool, (b = true → m = 0) → RW P N all Q .txt rest ⟨(d, .v (.bool b)) :: ts, hs, n, z0⟩) : RW P N all Q .txt (⟨some d, .binOp .eql t x (.const (.slice none 0 0)) t', ty, pos, af, none⟩ :: rest) ⟨ts, hs, n, z0⟩ := by
 rintro C a w hCN ⟨h0, ι, g, gh⟩
 refine wpList_plain rfl (fun K hK => ?_)
 have h1 := dA g hx
 simp only [Rd] at h1
 obtain ⟨a', m', c, h2, hb⟩ : ∃ a' m' c, a.eval x = .slice a' m' c ∧ (a'.isNone = true → m = 0) := by
  rcases h1 with ⟨_, rfl, a', h2⟩ | ⟨b, β, c, _, h2, _⟩
  ·exact ⟨a', 0, 0, h2, fun _ => rfl⟩
  ·exact ⟨_, m, c, h2, fun h => by cases h⟩
 have hu := kP ht.pf
 have hg : (eqGuard .eql t x (.const (.slice none 0 0)) (.slice a' m' c) (.slice none 0 0)).run P w = .ok () w := by simp [eqGuard]
 have hr : (execOp a.eval ⟨some d, .binOp .eql t x (.const (.slice none 0 0)) t', ty, pos, af, none⟩).run P w = .ok (.value (.bool a'.isNone)) w := by
  have e2 : a.eval (.const (.slice none 0 0)) = .slice none 0 0 := rfl
  simp only [execOp, h2, e2, Sem.run_bind, hg, Result.andThen_ok, wY w t el hu, Sem.run_pure]
 simp only [Oper.wp, hr, Oper.upon]
 refine hK _ _ (kk a'.isNone hb C _ _ hCN ⟨h0, ι, ?_, gh⟩)
 show TG C ι (lk ((d, AV.v (.bool a'.isNone)) :: ts)) _ _ _
 rw [jK]
 exact g.put (by have := eJ hN; omega) (by simp [Rd])
end Go.AL

namespace Go.AL
set_option linter.unusedVariables false
section
variable {P : Program} {N : Nat} {Q : Exit → AS → Prop} {all : Array Oper} {rest : List Oper} {ts : List (Nat × AV)} {hs : List (Nat × Option (List AV))} {n : Nat} {z0 : Lo} {md : Md}
variable {d : Nat} {ty : TypeId} {pos : String} {af : Array Edge}
theorem vQ {k : FuncId} {t : Nat} {args : Array Operand} {tys : Array TypeId} {avs avs0 f c : List AV} {fv : AV} {H0 : List (Nat × Option (List AV))} {rr rr' : AV} {hh : List (Nat × Option (List AV))}
  (mp : List Nat) (n1 : Nat) (ws : List (Nat × Option (List AV))) (h : MC P k avs0 H0 mp.length (fun _ : Unit => True) (fun _ => rr) (fun _ => hh)) (hx : lk ts t = some fv) (hcl : rS fv = some (k, f, c)) [hc : CaT P k] (ha : evL (lk ts) args.toList = some avs) (hd : distinct mp = true)
  (hH0 : p8 hs H0 mp 0 mp) (hk : l8 mp.length H0 = true) (har : RnL (mp[·]?) avs0 (f ++ avs ++ c)) (hM : Nat.ble (n + (n1 - mp.length)) eR = true)
  (hr : RnV (wF mp n n1) rr rr') (hwa : dI mp ws = true) (hw : qJ (wF mp n n1) hh ws) (hN : Nat.blt d N = true)
  {md' : Md} [hmd : MdA md (rO (.tmp t) ++ gL args.toList ++ mp.map .inr) (ws.map (fun p => .inr p.1) ++ [.inl d]) md']
  (kk : RW P N all Q md' rest ⟨(d, rr') :: ts, iF hs ws, n + (n1 - mp.length), z0⟩) : RW P N all Q md (⟨some d, .call ⟨.value (.tmp t), args, tys⟩, ty, pos, af, none⟩ :: rest) ⟨ts, hs, n, z0⟩ := by
 have hM' := Nat.le_of_ble_eq_true hM
 have kk2 : RW P N all Q (md.add (rO (.tmp t) ++ gL args.toList ++ mp.map .inr) (ws.map (fun p => .inr p.1) ++ wD (some d))) rest (put ⟨ts, iF hs ws, n + (n1 - mp.length), z0⟩ (some d) rr') := by
  simp only [wD]; rw [hmd.pf]; exact kk
 refine kF (rs := rO (.tmp t) ++ gL args.toList ++ mp.map .inr) (ws := ws) (n' := n + (n1 - mp.length)) (out := rr') rfl (Nat.le_add_right _ _) (.inr hM') (fun C ι F T H a w K Q' hCN ag hF g gh hK => ?_) (fun x e => by cases e; exact eJ hN) kk2
 obtain ⟨lf, lc, hy, h1, h2⟩ := vZ hcl (dA g (x := .tmp t) (ag.l.l.ev.trans hx))
 simp only [Oper.wp, tR hc.pf _ a w hy, Oper.upon]
 refine (sG (nid := n) (n1 := n1) h hd gh (fun j i hj => ?_) (mU hk) har hF (fun _ _ => hr) (fun _ _ => xY hwa hw) (jR (jR h1 (j5 g (ag.l.r.evL.trans ha))) h2)).mono ?_
 ·obtain ⟨cs, cs', q1, q2, q3⟩ := oV hH0 j i hj
  exact ⟨cs, cs', by simpa using q1, by rw [ag.r.h i (List.mem_map_of_mem (List.mem_of_getElem? hj))]; exact q2, q3⟩
 ·rintro e w' ⟨v, x, ι', rfl, hx, g', c', hrd⟩
  exact hK ι' w' v (g.carry c') g' hrd
end
end Go.AL

namespace Go.AL
open Go.Sort
theorem tD {w : World} {bad : Nat → Prop} {ι : Pl} {b : Nat} : ∀ (zs : List Int) (o : Nat), RdC w bad ι (aI cI zs) b o ↔ ∀ j, j < zs.length → w.cell? ⟨b, o + j, none⟩ = some (.int .i64 zs[j]!)
 | [], o => by simp [aI, RdC]
 | z :: zs, o => by
  have e : aI cI (z :: zs) = iv z :: aI cI zs := rfl
  rw [e]
  simp only [RdC]
  rw [tD zs (o + 1)]
  constructor
  ·rintro ⟨⟨x, h1, _, h3⟩, h4⟩ j hj
   cases j with
   | zero => simp only [Rd] at h3; rw [Nat.add_zero, h1, h3]; rfl
   | succ j =>
    have := h4 j (by simpa using hj)
    rw [show o + (j + 1) = o + 1 + j by omega, this]; rfl
  ·intro h
   refine ⟨⟨_, h 0 (by simp), rfl, by simp only [Rd]; rfl⟩, fun j hj => ?_⟩
   have := h (j + 1) (by simpa using hj)
   rw [show o + (j + 1) = o + 1 + j by omega] at this
   rw [this]; rfl
theorem EY {w : World} {b : Nat} {arr : Array Value} {e : TypeId} {fr : Nat × Nat} (h : w.heap[b]? = some (.cells arr e fr)) (β : Nat) (d : Array Int) (n : Nat) (os : Array Obj) :
  (grow (putRow (Value.int .i64) (Sort.ahead w n) b β d) os).heap[b]? = some (.cells (putCells (Value.int .i64) β d arr) e fr) := by
 have hb : b < w.heap.size := by
  apply Classical.byContradiction; intro q
  rw [Array.getElem?_eq_none (by omega)] at h; cases h
 rw [heap_grow_old _ _ (by rw [size_putRow]; exact hb)]
 unfold putRow mapBlock
 rw [Array.getElem?_modify, if_pos rfl]
 show Option.map _ (w.heap[b]?) = _
 rw [h]; rfl
theorem vP {w : World} {b k : Nat} (hk : k < w.heap.size) (hne : b ≠ k) (β : Nat) (d : Array Int) (n : Nat) (os : Array Obj) :
  (grow (putRow (Value.int .i64) (Sort.ahead w n) b β d) os).heap[k]? = w.heap[k]? := by
 rw [heap_grow_old _ _ (by rw [size_putRow]; exact hk)]
 unfold putRow mapBlock
 rw [Array.getElem?_modify, if_neg hne]; rfl
theorem Fq {P : Program} {k : FuncId} {zs zs' : List Int} {rr : AV} (hlen : zs'.length = zs.length)
  (h0 : zs.length = 0 → ∀ (a : Option Addr) (cap : Nat) (w : World), Calls P k #[.slice a 0 cap] w fun e w' => ∃ v, e = .returned v ∧ w' = w ∧ ∀ ι bad, ((∃ p, ι 0 = some p) ∧ (cap = 0 ∨ ∃ b β, ι 0 = some (some (b, β)) ∧ a = some ⟨b, β, none⟩ ∧ β + cap ≤ nT w b)) → Rd w bad ι rr v)
  (h1 : ∀ (blk off cap : Nat) (w : World), Holds (Value.int .i64) w blk off zs.toArray → blk < w.heap.size → zs.length ≤ cap → Calls P k #[.slice (some ⟨blk, off, none⟩) zs.length cap] w fun e w' => ∃ v n os, e = .returned v ∧ w' = grow (putRow (Value.int .i64) (Sort.ahead w n) blk off zs'.toArray) os ∧
   ∀ ι bad, ι 0 = some (some (blk, off)) → off + cap ≤ nT w' blk → Rd w' bad ι rr v) :
  MC P k [.own 0 0 zs.length 1] [(0, some (aI cI zs))] 1 (fun _ : Unit => True) (fun _ => rr) (fun _ => [(0, some (aI cI zs'))]) := by
 intro C ι w vals hw hι g hr
 simp only [RdV] at hr
 obtain ⟨y, l, rfl, hy, rfl⟩ := hr
 have hobj := g.obj 0 (aI cI zs) rfl
 simp only [Rd] at hy
 rcases hy with ⟨⟨p, hp⟩, hn, a, rfl⟩ | ⟨b, β, c, hib, rfl, hnc, hcb⟩
 ·have hz : zs = [] := List.eq_nil_of_length_eq_zero hn
  have hz' : zs' = [] := List.eq_nil_of_length_eq_zero (by omega)
  subst hz hz'
  refine (h0 rfl a 0 w).mono ?_
  rintro e w' ⟨v, rfl, rfl, hv⟩
  refine ⟨v, rr, cK [(0, some (aI cI []))], ι, rfl, ⟨(), trivial, rfl, fun id cs h => h⟩, hv _ _ ⟨⟨p, hp⟩, .inl rfl⟩, ⟨g.obj, g.sep, g.fr, g.ex, fun _ h => h.elim⟩⟩
 ·rcases hobj with ⟨q, _⟩ | ⟨b', β', arr, e, hib', hheap, hsz, hrd, hX, hW⟩
  ·rw [hib] at q; cases q
  ·rw [hib] at hib'; cases hib'
   have hfl : (aI cI zs).length = zs.length := by rw [aR cI (e := 1)]; omega
   have hb : b < w.heap.size := fS hheap
   have hrd' := (tD zs β).1 hrd
   have hH : Holds (Value.int .i64) w b β zs.toArray := fun j hj => by
    have hj' : j < zs.length := by simpa using hj
    refine ⟨?_, ?_⟩
    ·rw [hrd' j hj']; simp
    ·unfold World.frozen?; rw [hheap]; simp
   refine (h1 b (β + 0) c w hH hb hnc).mono ?_
   rintro e' w' ⟨v, n, os, rfl, rfl, hv⟩
   have hh := EY hheap β zs'.toArray n os
   have hbs : ∀ k, nT w k ≤ nT (grow (putRow (Value.int .i64) (Sort.ahead w n) b β zs'.toArray) os) k := fun k => by
    by_cases hk : k < w.heap.size
    ·by_cases q : b = k
     ·subst q; unfold nT; rw [hh, hheap]; simp [putCells]
     ·unfold nT; rw [vP hk q]; exact Nat.le_refl _
    ·unfold nT; rw [Array.getElem?_eq_none (by omega)]; exact Nat.zero_le _
   have hcells : ∀ j, j < zs'.length → (grow (putRow (Value.int .i64) (Sort.ahead w n) b β zs'.toArray) os).cell? ⟨b, β + j, none⟩ = some (.int .i64 zs'[j]!) := fun j hj => by
    rw [cell?_grow _ _ _ (by rw [size_putRow]; exact hb), cell?_putRow (Value.int .i64) (Sort.ahead w n) b β zs.toArray zs'.toArray (holds_ahead _ _ _ _ _ _ hH) (by simpa using hlen) j (by simpa using hj)]
    simp
   refine ⟨v, rr, cK [(0, some (aI cI zs'))], ι, rfl, ⟨(), trivial, rfl, fun id cs h => h⟩, hv _ _ hib (by have := hbs b; simp only [Nat.mul_one, Nat.add_zero] at hcb ⊢; omega), ?_⟩
   refine ⟨fun id cs h => ?_, fun id id' cs cs' b1 β1 β2 h h' _ _ => ?_, ?_, g.ex, fun _ h => h.elim⟩
   ·have hid : id = 0 ∧ cs = aI cI zs' := by
     have h' : cond (Nat.beq id 0) (some (aI cI zs')) none = some cs := h
     by_cases q : id = 0
     ·subst q; cases h'; exact ⟨rfl, rfl⟩
     ·have q' : Nat.beq id 0 = false := by cases id with | zero => exact absurd rfl q | succ _ => rfl
      rw [q'] at h'; cases h'
    obtain ⟨rfl, rfl⟩ := hid
    refine .inr ⟨b, β, _, e, hib, hh, ?_, (tD zs' β).2 hcells, hX, hW⟩
    rw [aR cI (e := 1)]
    simp only [putCells, Array.size_mapIdx]
    omega
   ·have hid : ∀ (i : Nat) (c : List AV), cK [(0, some (aI cI zs'))] i = some c → i = 0 := fun i c h => by
     apply Classical.byContradiction; intro q
     have h' : cond (Nat.beq i 0) (some (aI cI zs')) none = some c := h
     have q' : Nat.beq i 0 = false := by cases i with | zero => exact absurd rfl q | succ _ => rfl
     rw [q'] at h'; cases h'
    rw [hid _ _ h, hid _ _ h']
   ·have f := g.fr
    refine ⟨f.os, f.tape, f.output, ?_, fun k hk hkW => ?_, fun k => Nat.le_trans (f.bs k) (hbs k)⟩
    ·have := f.size; rw [size_grow, size_putRow]; show _ ≤ w.heap.size + _; omega
    ·have hne : b ≠ k := fun q => by subst q; rcases hW with q | q; exact hkW q; omega
     rw [vP (Nat.lt_of_lt_of_le hk f.size) hne]; exact f.block k hk hkW
end Go.AL

namespace Go.AL
def CC (m : List (Nat × Nat)) (lo : Lo) (l : List (Nat × AV)) : List (Nat × AV) → Prop
 | [] => True
 | (t, v) :: l' => (∃ v0, lk l t = some v0 ∧ (uW m lo v v0 ∨ v0 = v ∧ ∃ fn i o, v = .clos fn [] [.optr i o] ∧ i < lo.lo)) ∧ CC m lo l l'
theorem Az {m : List (Nat × Nat)} {lo : Lo} {l : List (Nat × AV)} : ∀ {l' : List (Nat × AV)}, CC m lo l l' → ∀ t v, lk l' t = some v → ∃ v0, lk l t = some v0 ∧ (uW m lo v v0 ∨ v0 = v ∧ ∃ fn i o, v = .clos fn [] [.optr i o] ∧ i < lo.lo)
 | [], _, t, v, h => by simp [lk] at h
 | (u, x) :: l', hr, t, v, h => by
  simp only [CC] at hr
  simp only [mH] at h
  split at h
  ·rename_i e; subst e; cases h; exact hr.1
  ·exact Az hr.2 t v h
theorem Le.renK (m : List (Nat × Nat)) {ts ts' : List (Nat × AV)} {hs hs' : List (Nat × Option (List AV))} {n n' : Nat} {lo : Lo} (hm : Kb lo.lo n' m = true) (hn : lo.lo ≤ n') (h1 : CC m lo ts ts') (h2 : B1 m lo hs hs') :
  Le ⟨ts, hs, n, lo⟩ ⟨ts', hs', n', lo⟩ := by
 rintro C a w ⟨h0, ι, g, gh⟩
 let ι' : Pl := fun id => match pE m lo id with | some j => ι j | none => none
 have hlow : ∀ id, id < lo.lo → ι' id = ι id := fun id h => by simp [ι', pE, h]
 have hto : ∀ id j, pE m lo id = some j → ι' id = ι j := by
  intro id j h
  simp only [ι', h]
 have hcs0 : ∀ a b, pE m lo a = some b → (a < lo.lo ∧ b = a) ∨ (lo.lo ≤ a ∧ y6 m a = some b) ∨ (lo.lo ≤ a ∧ (eR ≤ a ∧ a < lo.fb) ∧ b = a) := by
  intro a b q
  unfold pE at q
  split at q
  ·rename_i h; cases q; exact .inl ⟨h, rfl⟩
  ·rename_i h
   split at q
   ·rename_i j hj; cases q; exact .inr (.inl ⟨by omega, hj⟩)
   ·split at q
    ·rename_i h3; cases q; exact .inr (.inr ⟨by omega, h3, rfl⟩)
    ·cases q
 have hinj : ∀ a a' b, pE m lo a = some b → pE m lo a' = some b → a = a' := by
  intro a a' b q q'
  rcases hcs0 a b q with ⟨e1, e2⟩ | ⟨e1, e2⟩ | ⟨e1, e2, e3⟩ <;> rcases hcs0 a' b q' with ⟨f1, f2⟩ | ⟨f1, f2⟩ | ⟨f1, f2, f3⟩
  ·omega
  ·have := fX hm _ _ f2; omega
  ·omega
  ·have := fX hm _ _ e2; omega
  ·exact xK hm _ _ _ e2 f2
  ·have := fX hm _ _ e2; omega
  ·omega
  ·have := fX hm _ _ f2; omega
  ·omega
 have hbad : ∀ b, a7 C.X ι' (cK hs') b → a7 C.X ι (cK hs) b := by
  rintro b (h | ⟨id, cs, β, q1, q2⟩)
  ·exact .inl h
  ·obtain ⟨j, cs0, q3, q4, _⟩ := iH h2 id cs q1
   rw [hto _ _ q3] at q2
   exact .inr ⟨j, cs0, β, q4, q2⟩
 have hc0 : Carry w (a7 C.X ι (cK hs)) ι w (a7 C.X ι' (cK hs')) ι := ⟨fun b o x q1 q2 => ⟨fun h => q1 (hbad b h), q2⟩, fun _ _ h => h, fun _ => Nat.le_refl _⟩
 have hv : ∀ v v0 y, uW m lo v v0 → Rd w (a7 C.X ι (cK hs)) ι v0 y → Rd w (a7 C.X ι' (cK hs')) ι' v y := by
  intro v v0 y hr hy
  rcases hr with ⟨rfl, hp⟩ | hr
  ·exact Rd.pur _ y hp (Rd.carry hc0 _ _ hy)
  ·cases v <;> simp only [IP] at hr <;> first | (cases hr; done) | skip
   ·rename_i id o k e
    cases hj : pE m lo id with
    | none => simp [hj] at hr
    | some j =>
     simp only [hj, Option.map_some, Option.some.injEq] at hr
     subst hr
     simp only [Rd, hto _ _ hj] at hy ⊢
     exact hy
   ·rename_i id o
    cases hj : pE m lo id with
    | none => simp [hj] at hr
    | some j =>
     simp only [hj, Option.map_some, Option.some.injEq] at hr
     subst hr
     simp only [Rd, hto _ _ hj] at hy ⊢
     exact hy
 have hcs : ∀ cs cs0 b o, I2 m lo cs cs0 → RdC w (a7 C.X ι (cK hs)) ι cs0 b o → RdC w (a7 C.X ι' (cK hs')) ι' cs b o := by
  intro cs cs0 b o hr hy
  rcases hr with ⟨rfl, hp⟩ | hf
  ·exact RdC.pur _ b o hp (RdC.carryB hc0 _ _ _ (fun o x hx => hx) hy)
  ·induction hf generalizing o with
   | nil => simp only [RdC]
   | cons h1 _ ih =>
    simp only [RdC] at hy ⊢
    obtain ⟨⟨x, q1, q2, q3⟩, q4⟩ := hy
    exact ⟨⟨x, q1, q2, hv _ _ _ h1 q3⟩, ih _ q4⟩
 have hvK : ∀ v v0 y, (uW m lo v v0 ∨ v0 = v ∧ ∃ fn i o, v = .clos fn [] [.optr i o] ∧ i < lo.lo) → Rd w (a7 C.X ι (cK hs)) ι v0 y → Rd w (a7 C.X ι' (cK hs')) ι' v y := by
  rintro v v0 y (hr | ⟨rfl, fn, i, o, rfl, hi⟩) hy
  ·exact hv v v0 y hr hy
  ·simp only [Rd, RdV] at hy ⊢
   rw [hlow i hi]; exact hy
 refine ⟨h0, ι', ⟨g.df, g.sz, fun t v ht => ?_⟩, ⟨fun id cs h => ?_, fun id id' cs cs' b β β' q1 q2 q3 q4 => ?_, gh.fr, fun id p hp => ?_, fun id hid => ?_⟩⟩
 ·obtain ⟨v0, q1, q2⟩ := Az h1 t v ht
  obtain ⟨y, q3, q4⟩ := g.tm t v0 q1
  exact ⟨y, q3, hvK _ _ _ q2 q4⟩
 ·obtain ⟨j, cs0, q3, q4, q5⟩ := iH h2 id cs h
  have hlen : cs.length = cs0.length := by
   rcases q5 with ⟨rfl, _⟩ | hf
   ·rfl
   ·exact hf.len
  rcases gh.obj j cs0 q4 with ⟨p1, p2⟩ | ⟨b, β, arr, e, p1, p2, p3, p4, p5, p6⟩
  ·refine .inl ⟨by rw [hto _ _ q3]; exact p1, ?_⟩
   subst p2; exact List.eq_nil_of_length_eq_zero hlen
  ·exact .inr ⟨b, β, arr, e, by rw [hto _ _ q3]; exact p1, p2, by rw [hlen]; exact p3, hcs _ _ _ _ q5 p4, p5, p6⟩
 ·obtain ⟨j, c1, r1, r2, _⟩ := iH h2 id cs q1
  obtain ⟨j', c2, r3, r4, _⟩ := iH h2 id' cs' q2
  rw [hto _ _ r1] at q3
  rw [hto _ _ r3] at q4
  have := gh.sep _ _ _ _ _ _ _ r2 r4 q3 q4
  subst this
  exact hinj _ _ _ r1 r3
 ·have hl : id < lo.lo ∨ (lo.lo ≤ id ∧ eR ≤ id ∧ id < lo.fb) := by
   rcases Nat.lt_or_ge id lo.lo with h | h
   ·exact .inl h
   ·rcases h0 id h with h1 | h1
    ·exact .inr ⟨h, h1⟩
    ·rw [h1] at hp; cases hp
  rcases hl with hl | ⟨hl, h1, h2⟩
  ·rw [hlow id hl]; exact gh.ex id p hp
  ·have : pE m lo id = some id := by
    unfold pE
    rw [if_neg (by omega)]
    cases hj : y6 m id with
    | some j => have := fX hm _ _ hj; omega
    | none => simp [h1, h2]
   rw [hto _ _ this]; exact gh.ex id p hp
 ·show ι' id = none
  simp only [ι']
  cases hj : pE m lo id with
  | none => rfl
  | some j =>
   have h3 : n' ≤ id := hid.1
   have h4 : id < eR ∨ lo.fb ≤ id := hid.2
   rcases hcs0 id j hj with ⟨e1, e2⟩ | ⟨e1, e2⟩ | ⟨e1, e2, e3⟩
   ·omega
   ·have := fX hm _ _ e2; omega
   ·omega
end Go.AL

namespace Go.Proofs
open Go.Shelf
def Tryz.lays189_ren : Go.Shelf.Ren := ⟨fun | 189 => 54 | 125 => 95 | 257 => 94 | 128 => 159 | 129 => 160 | 294 => 150 | 295 => 151 | 296 => 152 | 297 => 153 | 298 => 154 | 299 => 155 | 216 => 156 | 300 => 157 | 301 => 158 | 328 => 197 | 329 => 198 | 330 => 199 | 331 => 200 | 332 => 201 | 215 => 202 | 343 => 238 | n => n, fun | 28 => 23 | 3 => 3 | 46 => 119 | 0 => 0 | 51 => 181 | 53 => 130 | 4 => 4 | 183 => 174 | 182 => 173 | 131 => 95 | 5 => 5 | 9 => 9 | 218 => 220 | 222 => 78 | 228 => 254 | 229 => 29 | n => n, fun | n => n⟩
theorem Tryz.lays189 : Go.Proofs.Lays.n189 Tryz.prog Tryz.lays189_ren := {
 mixed := by kernel_rfl
 f125 := Tryz.func95.trans (congrArg some (by kernel_rfl))
 f128 := Tryz.func159.trans (congrArg some (by kernel_rfl))
 f129 := Tryz.func160.trans (congrArg some (by kernel_rfl))
 f189 := Tryz.func54.trans (congrArg some (by kernel_rfl))
 f215 := Tryz.func202.trans (congrArg some (by kernel_rfl))
 f216 := Tryz.func156.trans (congrArg some (by kernel_rfl))
 f257 := Tryz.func94.trans (congrArg some (by kernel_rfl))
 f294 := Tryz.func150.trans (congrArg some (by kernel_rfl))
 f295 := Tryz.func151.trans (congrArg some (by kernel_rfl))
 f296 := Tryz.func152.trans (congrArg some (by kernel_rfl))
 f297 := Tryz.func153.trans (congrArg some (by kernel_rfl))
 f298 := Tryz.func154.trans (congrArg some (by kernel_rfl))
 f299 := Tryz.func155.trans (congrArg some (by kernel_rfl))
 f300 := Tryz.func157.trans (congrArg some (by kernel_rfl))
 f301 := Tryz.func158.trans (congrArg some (by kernel_rfl))
 f328 := Tryz.func197.trans (congrArg some (by kernel_rfl))
 f329 := Tryz.func198.trans (congrArg some (by kernel_rfl))
 f330 := Tryz.func199.trans (congrArg some (by kernel_rfl))
 f331 := Tryz.func200.trans (congrArg some (by kernel_rfl))
 f332 := Tryz.func201.trans (congrArg some (by kernel_rfl))
 f343 := Tryz.func238.trans (congrArg some (by kernel_rfl))
 t0 := Tryz.underlying0
 a0 := Tryz.isAgg0
 z0 := Tryz.sizeOf0
 v0 := Tryz.zeroValue0
 t3 := Tryz.underlying3
 a3 := Tryz.isAgg3
 z3 := Tryz.sizeOf3
 v3 := Tryz.zeroValue3
 t4 := Tryz.underlying4
 a4 := Tryz.isAgg4
 z4 := Tryz.sizeOf4
 v4 := Tryz.zeroValue4
 t5 := Tryz.underlying5
 a5 := Tryz.isAgg5
 z5 := Tryz.sizeOf5
 v5 := Tryz.zeroValue5
 t9 := Tryz.underlying9
 a9 := Tryz.isAgg9
 z9 := Tryz.sizeOf9
 v9 := Tryz.zeroValue9
 t28 := Tryz.underlying23
 a28 := Tryz.isAgg23
 z28 := Tryz.sizeOf23
 v28 := Tryz.zeroValue23
 t46 := Tryz.underlying119
 a46 := Tryz.isAgg119
 z46 := Tryz.sizeOf119
 v46 := Tryz.zeroValue119
 t51 := Tryz.underlying181
 a51 := Tryz.isAgg181
 z51 := Tryz.sizeOf181
 v51 := Tryz.zeroValue181
 t53 := Tryz.underlying130
 a53 := Tryz.isAgg130
 z53 := Tryz.sizeOf130
 v53 := Tryz.zeroValue130
 t131 := Tryz.underlying95
 a131 := Tryz.isAgg95
 z131 := Tryz.sizeOf95
 v131 := Tryz.zeroValue95
 t182 := Tryz.underlying173
 a182 := Tryz.isAgg173
 z182 := Tryz.sizeOf173
 v182 := Tryz.zeroValue173
 t183 := Tryz.underlying174
 a183 := Tryz.isAgg174
 z183 := Tryz.sizeOf174
 v183 := Tryz.zeroValue174
 t218 := Tryz.underlying220
 a218 := Tryz.isAgg220
 z218 := Tryz.sizeOf220
 v218 := Tryz.zeroValue220
 t222 := Tryz.underlying78
 a222 := Tryz.isAgg78
 z222 := Tryz.sizeOf78
 v222 := Tryz.zeroValue78
 t228 := Tryz.underlying254
 a228 := Tryz.isAgg254
 z228 := Tryz.sizeOf254
 v228 := Tryz.zeroValue254
 t229 := Tryz.underlying29
 a229 := Tryz.isAgg29
 z229 := Tryz.sizeOf29
 v229 := Tryz.zeroValue29 }
open Go.Sort Go.RowKit in
theorem Tryz.slices_Sort_int (blk off cap : Nat) (zs : List Int) (w : World) (hH : Holds (Value.int .i64) w blk off zs.toArray) (hblk : blk < w.heap.size) (hsz : zs.length < 4611686018427387904) :
  Calls Tryz.prog 54 #[.slice (some ⟨blk, off, none⟩) zs.length cap] w fun e w' =>
   e = .returned (.tuple #[]) ∧ ∃ n os, w' = grow (putRow (Value.int .i64) (Sort.ahead w n) blk off (zs.mergeSort fun x y => decide (x ≤ y)).toArray) os := Any.slices_Sort_int Tryz.lays189 blk off cap zs w hH hblk hsz
def Tryz.laysNm220_ren : Go.Shelf.Ren := ⟨fun | 20 => 55 | n => n, fun | 22 => 23 | 3 => 3 | 4 => 4 | 0 => 0 | n => n, fun | n => n⟩
theorem Tryz.laysNm220 : Go.Proofs.Lays2.n20 Tryz.prog Tryz.laysNm220_ren := {
 mixed := by kernel_rfl
 f20 := Tryz.func55.trans (congrArg some (by kernel_rfl))
 t0 := Tryz.underlying0
 a0 := Tryz.isAgg0
 z0 := Tryz.sizeOf0
 v0 := Tryz.zeroValue0
 t3 := Tryz.underlying3
 a3 := Tryz.isAgg3
 z3 := Tryz.sizeOf3
 v3 := Tryz.zeroValue3
 t4 := Tryz.underlying4
 a4 := Tryz.isAgg4
 z4 := Tryz.sizeOf4
 v4 := Tryz.zeroValue4
 t22 := Tryz.underlying23
 a22 := Tryz.isAgg23
 z22 := Tryz.sizeOf23
 v22 := Tryz.zeroValue23
 i3 := by kernel_rfl }
open Go.RowKit Go.Lib Go.Sort in
theorem Tryz.slices_Compact_int (blk off cap : Nat) (zs : List Int) (w : World) (hH : Holds (Value.int .i64) w blk off zs.toArray) (hsz : zs.length ≤ 9223372036854775807) (hcap : zs.length ≤ cap) :
  Calls Tryz.prog 55 #[.slice (some ⟨blk, off, none⟩) zs.length cap] w fun e w' => e = .returned (.slice (some ⟨blk, off, none⟩) (Lib.compact zs).length cap) ∧ ∃ q, w' = putRow (Value.int .i64) (Sort.ahead w q) blk off (Lib.compact zs ++ List.replicate (zs.length - (Lib.compact zs).length) 0).toArray := Any.slices_Compact_int Tryz.laysNm220 blk off cap zs w hH hsz hcap
open Go.RowKit Go.Lib Go.Sort in
theorem Tryz.slices_Compact_int_empty (a : Option Addr) (cap : Nat) (w : World) :
  Calls Tryz.prog 55 #[.slice a 0 cap] w fun e w' => e = .returned (.slice a 0 cap) ∧ w' = w := Any.slices_Compact_int_empty Tryz.laysNm220 a cap w
open Go.RowKit Go.Sort in
theorem Tryz.slices_Sort_int_none (p : Option Addr) (cap : Nat) (w : World) :
  Calls Tryz.prog 54 #[.slice p 0 cap] w fun e w' => e = .returned (.tuple #[]) ∧ w' = w := Any.slices_Sort_int_none Tryz.lays189 p cap w
end Go.Proofs

namespace Go.AL
theorem cH : (∀ a b : Bool, ((a && b) = true) = (a = true ∧ b = true)) ∧ (∀ a b : Bool, ((a && b) = false) ↔ (a = false ∨ b = false)) ∧ (∀ a b : Bool, ((a || b) = true) = (a = true ∨ b = true)) ∧ (∀ a b : Bool, ((a || b) = false) ↔ (a = false ∧ b = false)) ∧
  (∀ (p : Prop) [Decidable p], (decide p = true) = p) ∧ (∀ (p : Prop) [Decidable p], (decide p = false) ↔ ¬ p) ∧ (∀ a : Bool, ((!a) = true) ↔ a = false) ∧ (∀ a : Bool, ((!a) = false) ↔ a = true) ∧ ((!true) = false) ∧ ((!false) = true) ∧ (∀ a b : Int, ¬ a < b ↔ b ≤ a) ∧ (∀ a b : Int, ¬ a ≤ b ↔ b < a) :=
 ⟨fun a b => Bool.and_eq_true a b, fun a b => Bool.and_eq_false_iff, fun a b => Bool.or_eq_true a b, fun a b => Bool.or_eq_false_iff, fun p _ => by simp, fun p _ => decide_eq_false_iff_not, fun a => by simp, fun a => by simp, rfl, rfl, fun _ _ => Int.not_lt, fun _ _ => Int.not_le⟩
theorem gA : (∀ {α : Type} (a b : List α), (a ++ b).length = a.length + b.length) ∧ (∀ {α : Type} (a : α) (b : List α), (a :: b).length = b.length + 1) ∧ (∀ {α : Type}, ([] : List α).length = 0) ∧ (∀ {α : Type} (a : List α) (i : Nat) (x : α), (a.set i x).length = a.length) ∧ (∀ {α : Type} (i : Nat) (a : List α), (a.take i).length = min i a.length) ∧
  (∀ {α β : Type} (f : α → β) (a : List α), (a.map f).length = a.length) ∧ (∀ {α : Type} (n : Nat) (a : α), (List.replicate n a).length = n) ∧ (∀ (l : List Stmt) (b : Nat), (iE b l).length = eS l) ∧ (∀ n : Nat, n * 1 = n) ∧ (∀ n : Nat, 0 + n = n) ∧ (∀ n : Nat, n + 0 = n) :=
 ⟨fun _ _ => List.length_append, fun _ _ => rfl, rfl, fun _ _ _ => List.length_set, fun _ _ => List.length_take, fun _ _ => List.length_map _, fun _ _ => List.length_replicate, dD, Nat.mul_one, Nat.zero_add, Nat.add_zero⟩
theorem dJ {α : Type} {p q r : α → Prop} (x : α) (h3 : r x) (h1 : p x) (h2 : q x) : ∃ x, p x ∧ q x ∧ r x := ⟨x, h1, h2, h3⟩
end Go.AL
