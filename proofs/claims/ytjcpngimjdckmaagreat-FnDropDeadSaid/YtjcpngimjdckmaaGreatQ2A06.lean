/-
 A part of the proofs over this program: rules and contracts of its functions (the rules).
-/
import Derived.Test.YtjcpngimjdckmaaGreatQ2A05
set_option linter.unusedVariables false
set_option linter.unusedSimpArgs false
namespace Go.AL
open Go.RowKit
set_option linter.unusedVariables false
set_option linter.unusedSimpArgs false
section
variable {P : Program} {N : Nat} {Q : Exit → AS → Prop} {all : Array Oper} {rest : List Oper} {ts : List (Nat × AV)} {hs : List (Nat × Option (List AV))} {n : Nat} {z0 : Lo} {md : Md}
variable {d : Nat} {ty : TypeId} {pos : String} {af : Array Edge}
theorem xF (w : World) (t el : TypeId) (hu : P.underlying t = some (.slice el)) (a : Option Addr) (m c : Nat) : (binOp .eql t (.slice a m c) (.slice none 0 0)).run P w = .ok (.bool a.isNone) w := by
 have h0 : ∀ d : Nat, (Op.equalIn (d + 1) t (.slice a m c) (.slice none 0 0)).run P w = .ok a.isNone w := fun d => by
  cases a <;> simp [Op.equalIn, c5 hu]
 have h := h0 9999
 simp only [binOp]
 simp [Op.equal, Op.maxDepth, h]
theorem tH {t t' el : TypeId} {x : Operand} {m : Nat} {cs : List AV} [ht : SlT P t el] (hx : ev (lk ts) x = some (.imm m cs)) (hN : Nat.blt d N = true)
  (kk : ∀ b : Bool, (b = true → m = 0) → RW P N all Q .txt rest ⟨(d, .v (.bool b)) :: ts, hs, n, z0⟩) : RW P N all Q .txt (⟨some d, .binOp .eql t x (.const (.slice none 0 0)) t', ty, pos, af, none⟩ :: rest) ⟨ts, hs, n, z0⟩ := by
 rintro C a w hCN ⟨h0, ι, g, gh⟩
 refine wpList_plain rfl (fun K hK => ?_)
 have h1 := dA g hx
 simp only [Rd] at h1
 obtain ⟨a', c, h2, h3⟩ := h1
 have hu := gQ ht.pf
 have hb : a'.isNone = true → m = 0 := fun hn => by
  rcases h3 with h3 | ⟨b, o, _, rfl, _⟩
  ·exact h3
  ·cases hn
 have hg : (eqGuard .eql t x (.const (.slice none 0 0)) (.slice a' m c) (.slice none 0 0)).run P w = .ok () w := by simp [eqGuard]
 have hr : (execOp a.eval ⟨some d, .binOp .eql t x (.const (.slice none 0 0)) t', ty, pos, af, none⟩).run P w = .ok (.value (.bool a'.isNone)) w := by
  have e2 : a.eval (.const (.slice none 0 0)) = .slice none 0 0 := rfl
  simp only [execOp, h2, e2, Sem.run_bind, hg, Result.andThen_ok, xF w t el hu, Sem.run_pure]
 simp only [Oper.wp, hr, Oper.upon]
 refine hK _ _ (kk a'.isNone hb C _ _ hCN ⟨h0, ι, ?_, gh⟩)
 show TG C ι (lk ((d, AV.v (.bool a'.isNone)) :: ts)) _ _ _
 rw [jE]
 exact g.put (by have := eL hN; omega) (by simp [Rd])
end
theorem Ir {α : Type} {f : α → List AV} {e : Nat} [h : FlT f e] {xs : List α} {k : Nat} (hk : k < xs.length) : hZ (flat f xs) (0 + k * e) (flat f (xs.drop (k + 1))) = flat f (gL k xs) ++ flat f (xs.drop (xs.length - 1)) := by
 unfold hZ gL
 have hl : (flat f (xs.drop (k + 1))).length = (xs.length - (k + 1)) * e := by rw [aQ f (e := e), List.length_drop]
 rw [Nat.zero_add, hl, ← Nat.add_mul, show k + (xs.length - (k + 1)) = xs.length - 1 by omega, eV f (e := e), ← dP]
 congr 1
 have h4 : flat f xs = flat f (xs.take (xs.length - 1)) ++ flat f (xs.drop (xs.length - 1)) := by rw [dP, List.take_append_drop]
 have h5 : (flat f (xs.take (xs.length - 1))).length = (xs.length - 1) * e := by rw [aQ f (e := e), List.length_take, Nat.min_eq_left (by omega)]
 rw [h4, ← h5, List.drop_left]
theorem JD {α : Type} {f : α → List AV} {e : Nat} [h : FlT f e] {xs : List α} {k : Nat} {z : List AV} (hk : k < xs.length) (hz : z.length = e) : hZ (flat f (gL k xs) ++ flat f (xs.drop (xs.length - 1))) (0 + (xs.length - 1) * e) z = flat f (gL k xs) ++ z := by
 have hd := m5 hk
 have h1 : (flat f (gL k xs)).length = (xs.length - 1) * e := by rw [aQ f (e := e)]; congr 1; omega
 have h2 : (flat f (xs.drop (xs.length - 1))).length = e := by rw [aQ f (e := e), List.length_drop, show xs.length - (xs.length - 1) = 1 by omega, Nat.one_mul]
 unfold hZ
 rw [Nat.zero_add, ← h1, List.take_left, hz, List.drop_of_length_le (by rw [List.length_append, h2]; omega), List.append_nil]
theorem Ht {α : Type} {f : α → List AV} {e : Nat} [h : FlT f e] {xs : List α} {k m : Nat} {z : List AV} (hk : k < xs.length) (hm : m = 1) (hz : z.length = e) : hZ (flat f (gL k xs) ++ flat f (xs.drop (xs.length - 1))) (0 + (xs.length - 1) * e) (List.replicate m z).flatten = flat f (gL k xs) ++ z := by
 subst hm
 have e1 : (List.replicate 1 z).flatten = z := by simp
 rw [e1]; exact JD hk hz
theorem sJ {α : Type} {f : α → List AV} {e : Nat} [h : FlT f e] {hs : List (Nat × Option (List AV))} {xs : List α} {i k n : Nat} (hH : cA hs i = some (flat f xs)) (hn : n = xs.length - k) : sCells (cA hs) e (pY (.own i (0 + k * e) n e)) = some (n, flat f (xs.drop k)) := by
 show ((cA hs i).bind fun cs => if n * e ≤ (cs.drop (0 + k * e)).length then some (n, (cs.drop (0 + k * e)).take (n * e)) else none) = _
 rw [hH, Option.bind_some, Nat.zero_add]
 have h1 : (flat f xs).length = xs.length * e := aQ f xs
 have h3 : (flat f xs).drop (k * e) = flat f (xs.drop k) := by
  have h4 : flat f xs = flat f (xs.take k) ++ flat f (xs.drop k) := by rw [dP, List.take_append_drop]
  have h5 : (flat f (xs.take k)).length = (xs.take k).length * e := aQ f _
  by_cases hk : k ≤ xs.length
  ·rw [h4, ← show (flat f (xs.take k)).length = k * e from by rw [h5, List.length_take]; congr 1; omega, List.drop_left]
  ·rw [List.drop_of_length_le (by rw [h1]; exact Nat.mul_le_mul_right _ (by omega)), List.drop_of_length_le (by omega)]; rfl
 rw [h3]
 have h2 : (flat f (xs.drop k)).length = (xs.length - k) * e := by rw [aQ f (e := e), List.length_drop]
 rw [h2, hn, if_pos (Nat.le_refl _), List.take_of_length_le (by rw [h2]; exact Nat.le_refl _)]
theorem gP {T : Nat → Option AV} {x : Operand} {dd : Nat} {k : IntKind} {m : Int} {h : Nat} (hx : ev T x = some (.v (.int k m))) (e : m = (h : Int)) : eU T (some x) dd = some h := by
 simp only [eU, hx]; rw [if_pos (by omega)]; congr 1; omega
end Go.AL
namespace Go.AL
structure Tg where
 id : Int
 uq : Bool
 deriving Inhabited, DecidableEq
structure Cl where
 val : Int
 alive : Bool
 next : Int
 stk : List Tg
 deriving Inhabited, DecidableEq
structure Pt where
 cell : Int
 tag : Int
 deriving Inhabited, DecidableEq
structure Sl where
 set : Bool
 num : Int
 ptr : Pt
 deriving Inhabited, DecidableEq
def eO (t : Tg) : List AV := [iv t.id, bv t.uq]
def eF (c : Cl) : List AV := [iv c.val, bv c.alive, iv c.next, sl eO c.stk]
def e5 (s : Sl) : List AV := [bv s.set, iv s.num, iv s.ptr.cell, iv s.ptr.tag]
instance : FlT eO 2 := ⟨fun _ => rfl⟩
instance : FlT eF 4 := ⟨fun _ => rfl⟩
instance : FlT e5 4 := ⟨fun _ => rfl⟩
instance : FE eO (fun t => [iv t.id, bv t.uq]) := ⟨fun _ => rfl⟩
instance : FE eF (fun c => [iv c.val, bv c.alive, iv c.next, sl eO c.stk]) := ⟨fun _ => rfl⟩
instance : FE e5 (fun s => [bv s.set, iv s.num, iv s.ptr.cell, iv s.ptr.tag]) := ⟨fun _ => rfl⟩
instance (t : Tg) : Pur (eO t) := ⟨rfl⟩
instance (c : Cl) : Pur (eF c) := ⟨by show (true && (true && (true && ((sl eO c.stk).pur && true)))) = true; rw [aZ]; rfl⟩
instance (s : Sl) : Pur (e5 s) := ⟨rfl⟩
abbrev Nc (t : Tg) : AV := .agg [iv t.id, bv t.uq]
abbrev FZ (p : Pt) : AV := .agg [iv p.cell, iv p.tag]
abbrev Mg (s : Sl) : AV := .agg [bv s.set, iv s.num, iv s.ptr.cell, iv s.ptr.tag]
structure OkC (c : Cl) : Prop where
 v : 0 ≤ c.val ∧ c.val ≤ 9
 n : 1 ≤ c.next ∧ c.next ≤ 1000
 l : 1 ≤ c.stk.length ∧ c.stk.length ≤ 200
 u : c.stk[0]!.uq = true
 i : ∀ t ∈ c.stk, 0 ≤ t.id ∧ t.id < c.next
 d : (c.stk.map (·.id)).Nodup
structure OkM (m : List Cl) : Prop where
 l : m.length ≤ 200
 c : ∀ c ∈ m, OkC c
def dM (stk : List Tg) (id : Int) : Int := match stk.findIdx? (fun t => decide (t.id = id)) with | some k => k | none => -1
theorem g9 (stk : List Tg) (id : Int) : -1 ≤ dM stk id ∧ dM stk id < stk.length := by
 unfold dM
 split
 ·rename_i k h
  obtain ⟨h1, _⟩ := List.findIdx?_eq_some_iff_getElem.1 h
  omega
 ·omega
theorem C9 {stk : List Tg} {id : Int} (h : 0 ≤ dM stk id) : stk[(dM stk id).toNat]!.id = id := by
 unfold dM at h ⊢
 split
 ·rename_i k hk
  obtain ⟨h1, h2, _⟩ := List.findIdx?_eq_some_iff_getElem.1 hk
  rw [Int.toNat_natCast, cK _ _ h1]
  simpa using h2
 ·rename_i hk; rw [hk] at h; dsimp only at h; omega
theorem qA {stk : List Tg} {id : Int} : dM stk id < 0 ↔ ∀ t ∈ stk, t.id ≠ id := by
 unfold dM
 split
 ·rename_i k hk
  obtain ⟨h1, h2, _⟩ := List.findIdx?_eq_some_iff_getElem.1 hk
  refine ⟨fun h => by omega, fun h => ?_⟩
  exact absurd (by simpa using h2) (h _ (List.getElem_mem h1))
 ·rename_i hk
  rw [List.findIdx?_eq_none_iff] at hk
  exact ⟨fun _ t ht => by simpa using hk t ht, fun _ => by omega⟩
def g7 (stk : List Tg) (k : Nat) (wr : Bool) : List Tg := if wr = true then stk.take (k + 1) else stk.take (k + 1) ++ (stk.drop (k + 1)).filter (fun t => !t.uq)
def cS (m : List Cl) (x : Pt) (wr : Bool) : Int :=
 if ¬ (0 ≤ x.cell ∧ x.cell < m.length) then 4
 else if m[x.cell.toNat]!.alive = false then 1
 else if dM m[x.cell.toNat]!.stk x.tag < 0 then 2
 else if wr = true ∧ m[x.cell.toNat]!.stk[(dM m[x.cell.toNat]!.stk x.tag).toNat]!.uq = false then 3
 else 0
def iT (c : Cl) (x : Pt) (wr : Bool) : Cl := { c with stk := g7 c.stk (dM c.stk x.tag).toNat wr }
def gG (m : List Cl) (x : Pt) (wr : Bool) : List Cl := if cS m x wr = 0 then m.set x.cell.toNat (iT m[x.cell.toNat]! x wr) else m
def wC (m : List Cl) (x : Pt) : Int := if cS m x false = 0 then m[x.cell.toNat]!.val else 0
def r7 (m : List Cl) (x : Pt) (v : Int) : Int := if 0 ≤ v ∧ v ≤ 9 then cS m x true else 4
def qK (m : List Cl) (x : Pt) (v : Int) : List Cl := if r7 m x v = 0 then m.set x.cell.toNat { iT m[x.cell.toNat]! x true with val := v } else m
def jG (m : List Cl) (x : Pt) : List Cl := if cS m x true = 0 then m.set x.cell.toNat { iT m[x.cell.toNat]! x true with alive := false } else m
def Cs (c : Cl) : Prop := c.stk.length = 200 ∨ c.next = 1000
instance (c : Cl) : Decidable (Cs c) := by unfold Cs; infer_instance
def rX (m : List Cl) (x : Pt) (u : Bool) : Int := if cS m x u = 0 then (if Cs (iT m[x.cell.toNat]! x u) then 4 else 0) else cS m x u
def psh (c : Cl) (u : Bool) : Cl := { c with stk := c.stk ++ [⟨c.next, u⟩], next := c.next + 1 }
def nX (m : List Cl) (x : Pt) (u : Bool) : List Cl := if rX m x u = 0 then m.set x.cell.toNat (psh (iT m[x.cell.toNat]! x u) u) else m
def BT (m : List Cl) (x : Pt) (u : Bool) : Pt := if rX m x u = 0 then ⟨x.cell, m[x.cell.toNat]!.next⟩ else ⟨0, 0⟩
def pX (v : Int) : Cl := ⟨v, true, 1, [⟨0, true⟩]⟩
theorem tchS_sub {stk : List Tg} {k : Nat} {wr : Bool} : (g7 stk k wr).Sublist stk := by
 unfold g7
 split
 ·exact List.take_sublist _ _
 ·have h := List.Sublist.append (List.Sublist.refl (stk.take (k + 1))) (List.filter_sublist (l := stk.drop (k + 1)) (p := fun t => !t.uq))
  rwa [List.take_append_drop] at h
theorem wF {stk : List Tg} {k : Nat} {wr : Bool} (h : 0 < stk.length) : (g7 stk k wr)[0]! = stk[0]! ∧ 0 < (g7 stk k wr).length := by
 cases stk with
 | nil => simp at h
 | cons a l =>
  unfold g7
  split <;> simp
theorem OkC.tch {c : Cl} (h : OkC c) (x : Pt) (wr : Bool) : OkC (iT c x wr) := by
 have hs := tchS_sub (stk := c.stk) (k := (dM c.stk x.tag).toNat) (wr := wr)
 have hh := wF (k := (dM c.stk x.tag).toNat) (wr := wr) (stk := c.stk) (by have := h.l; omega)
 refine ⟨h.v, h.n, ⟨hh.2, Nat.le_trans hs.length_le h.l.2⟩, ?_, fun t ht => h.i t (hs.subset ht), (hs.map _).nodup h.d⟩
 show (g7 c.stk (dM c.stk x.tag).toNat wr)[0]!.uq = true
 rw [hh.1]; exact h.u
theorem OkC.psh {c : Cl} (h : OkC c) (u : Bool) (hf : ¬ Cs c) : OkC (psh c u) := by
 have hl := h.l
 have hn := h.n
 unfold Cs at hf
 refine ⟨h.v, by show 1 ≤ c.next + 1 ∧ c.next + 1 ≤ 1000; omega, by show 1 ≤ (c.stk ++ [_]).length ∧ (c.stk ++ [_]).length ≤ 200; rw [List.length_append, List.length_singleton]; omega, ?_, fun t ht => ?_, ?_⟩
 ·show (c.stk ++ [_])[0]!.uq = true
  have h1 := h.u
  rw [cK _ _ (by omega)] at h1
  rw [cK _ _ (by rw [List.length_append]; omega), List.getElem_append_left (by omega)]; exact h1
 ·rcases List.mem_append.1 ht with ht | ht
  ·have := h.i t ht; show 0 ≤ t.id ∧ t.id < c.next + 1; omega
  ·rw [List.mem_singleton] at ht; subst ht; show 0 ≤ c.next ∧ c.next < c.next + 1; omega
 ·show ((c.stk ++ [_]).map _).Nodup
  rw [List.map_append, List.nodup_append]
  refine ⟨h.d, by simp, fun a ha b hb => ?_⟩
  simp only [List.map_cons, List.map_nil, List.mem_singleton] at hb
  obtain ⟨t, ht, rfl⟩ := List.mem_map.1 ha
  have := h.i t ht
  omega
theorem OkC.nw {v : Int} (h : 0 ≤ v ∧ v ≤ 9) : OkC (pX v) := ⟨h, ⟨by show (1 : Int) ≤ 1; decide, by show (1 : Int) ≤ 1000; decide⟩, ⟨by show 1 ≤ 1; decide, by show 1 ≤ 200; decide⟩, rfl, by simp [pX], by simp [pX]⟩
theorem OkM.set {m : List Cl} (h : OkM m) {k : Nat} {c : Cl} (hc : OkC c) : OkM (m.set k c) :=
 ⟨by rw [List.length_set]; exact h.l, fun x hx => (List.mem_or_eq_of_mem_set hx).elim (h.c x) (fun e => e ▸ hc)⟩
theorem OkM.at {m : List Cl} (h : OkM m) {k : Nat} (hk : k < m.length) : OkC m[k]! := h.c _ (b9 _ _ hk)
theorem jD {m : List Cl} {x : Pt} {wr : Bool} (h : cS m x wr ≠ 4) : 0 ≤ x.cell ∧ x.cell < m.length ∧ x.cell.toNat < m.length := by
 unfold cS at h
 split at h
 ·exact absurd rfl h
 ·omega
theorem eG {m : List Cl} {x : Pt} {wr : Bool} (h : cS m x wr = 0) : 0 ≤ x.cell ∧ x.cell < m.length ∧ x.cell.toNat < m.length := jD (by rw [h]; decide)
theorem OkM.tch {m : List Cl} (h : OkM m) (x : Pt) (wr : Bool) : OkM (gG m x wr) := by
 unfold gG; split
 ·rename_i hk; exact h.set ((h.at (eG hk).2.2).tch x wr)
 ·exact h
theorem OkM.wr {m : List Cl} (h : OkM m) (x : Pt) (v : Int) : OkM (qK m x v) := by
 unfold qK
 by_cases hk : r7 m x v = 0
 ·rw [if_pos hk]
  unfold r7 at hk
  by_cases hv : 0 ≤ v ∧ v ≤ 9
  ·rw [if_pos hv] at hk
   have h1 := (h.at (eG hk).2.2).tch x true
   exact h.set ⟨hv, h1.n, h1.l, h1.u, h1.i, h1.d⟩
  ·rw [if_neg hv] at hk; cases hk
 ·rw [if_neg hk]; exact h
theorem OkM.fr {m : List Cl} (h : OkM m) (x : Pt) : OkM (jG m x) := by
 unfold jG; split
 ·rename_i hk
  have h1 := (h.at (eG hk).2.2).tch x true
  exact h.set ⟨h1.v, h1.n, h1.l, h1.u, h1.i, h1.d⟩
 ·exact h
theorem OkM.ln {m : List Cl} (h : OkM m) (x : Pt) (u : Bool) : OkM (nX m x u) := by
 unfold nX
 by_cases hk : rX m x u = 0
 ·rw [if_pos hk]
  unfold rX at hk
  by_cases h0 : cS m x u = 0
  ·rw [if_pos h0] at hk
   by_cases hf : Cs (iT m[x.cell.toNat]! x u)
   ·rw [if_pos hf] at hk; cases hk
   ·exact h.set (((h.at (eG h0).2.2).tch x u).psh u hf)
  ·rw [if_neg h0] at hk; exact absurd hk h0
 ·rw [if_neg hk]; exact h
theorem OkM.nw {m : List Cl} (h : OkM m) {v : Int} (hv : 0 ≤ v ∧ v ≤ 9) (hl : m.length < 200) : OkM (m ++ [pX v]) :=
 ⟨by rw [List.length_append, List.length_singleton]; omega, fun c hc => (List.mem_append.1 hc).elim (h.c c) (fun h => by rw [List.mem_singleton.1 h]; exact OkC.nw hv)⟩
end Go.AL
namespace Go.AL
def eE (pts : List Pnt) (a : Nat) (cs : List Int) : Nat × List Int :=
 if pts[a]!.next.length = 2 then
  match cs with
  | [] => ((pts[a]!.next[1]!).toNat, [])
  | c :: cs => ((pts[a]!.next[(c % 2).toNat]!).toNat, cs)
 else ((pts[a]!.next[0]!).toNat, cs)
def eR (pts : List Pnt) : Nat → Nat → List Int → List Nat × Bool
 | 0, a, _ => if pts[a]!.op = 11 then ([a], true) else ([], false)
 | n + 1, a, cs => if pts[a]!.op = 11 then ([a], true) else (a :: (eR pts n (eE pts a cs).1 (eE pts a cs).2).1, (eR pts n (eE pts a cs).1 (eE pts a cs).2).2)
structure Mc where
 slots : List Sl
 cells : List Cl
 read : List Int
 deriving Inhabited
def jZ : Sl := ⟨false, 0, ⟨0, 0⟩⟩
def jI (k : Int) : Int := if k = 1 then 3 else 4
def l7 (k : Int) : Int := if k = 0 then -1 else jI k
def dN (ts : List Int) (s : Mc) (v : Nat) (x : Sl) : Mc × Int :=
 if ts[v]! = 2 ∧ s.slots[v]!.set = true then (⟨s.slots.set v x, jG s.cells s.slots[v]!.ptr, s.read⟩, l7 (cS s.cells s.slots[v]!.ptr true))
 else (⟨s.slots.set v x, s.cells, s.read⟩, -1)
def dB (ts : List Int) (s : Mc) (x : Pnt) : Bool := (List.range ts.length).any fun v => decide (bQ ts x v ≠ 0) && !s.slots[v]!.set
def dU (ts : List Int) : Nat → Nat → Mc → Mc × Int
 | 0, _, s => (s, 0)
 | n + 1, v, s => if ts[v]! = 2 ∧ s.slots[v]!.set = true then
   (if cS s.cells s.slots[v]!.ptr true = 0 then dU ts n (v + 1) ⟨s.slots.set v jZ, jG s.cells s.slots[v]!.ptr, s.read⟩ else (⟨s.slots, jG s.cells s.slots[v]!.ptr, s.read⟩, jI (cS s.cells s.slots[v]!.ptr true)))
  else dU ts n (v + 1) s
def dF (ts : List Int) (s : Mc) (x : Pnt) : Mc × Int :=
 if x.op = 1 then dN ts s x.x.toNat ⟨true, x.n, ⟨0, 0⟩⟩
 else if x.op = 2 then (if s.cells.length = 200 then (s, 1) else dN ts ⟨s.slots, s.cells ++ [pX x.n], s.read⟩ x.x.toNat ⟨true, 0, ⟨s.cells.length, 0⟩⟩)
 else if x.op = 3 then dN ts (if Ea ts[x.y.toNat]! = true then ⟨s.slots.set x.y.toNat jZ, s.cells, s.read⟩ else s) x.x.toNat s.slots[x.y.toNat]!
 else if x.op = 4 ∨ x.op = 5 then
  (if rX s.cells s.slots[x.y.toNat]!.ptr (decide (x.op = 5)) = 0 then dN ts ⟨s.slots, nX s.cells s.slots[x.y.toNat]!.ptr (decide (x.op = 5)), s.read⟩ x.x.toNat ⟨true, 0, BT s.cells s.slots[x.y.toNat]!.ptr (decide (x.op = 5))⟩
   else (s, jI (rX s.cells s.slots[x.y.toNat]!.ptr (decide (x.op = 5)))))
 else if x.op = 6 then
  (if cS s.cells s.slots[x.y.toNat]!.ptr false = 0 then dN ts ⟨s.slots, gG s.cells s.slots[x.y.toNat]!.ptr false, s.read ++ [wC s.cells s.slots[x.y.toNat]!.ptr]⟩ x.x.toNat ⟨true, wC s.cells s.slots[x.y.toNat]!.ptr, ⟨0, 0⟩⟩
   else (s, jI (cS s.cells s.slots[x.y.toNat]!.ptr false)))
 else if x.op = 7 then (⟨s.slots, qK s.cells s.slots[x.x.toNat]!.ptr s.slots[x.y.toNat]!.num, s.read⟩, l7 (r7 s.cells s.slots[x.x.toNat]!.ptr s.slots[x.y.toNat]!.num))
 else if x.op = 8 then (⟨s.slots.set x.x.toNat jZ, jG s.cells s.slots[x.x.toNat]!.ptr, s.read⟩, l7 (cS s.cells s.slots[x.x.toNat]!.ptr true))
 else if x.op = 11 then dU ts ts.length 0 s
 else (s, -1)
def gI (ts : List Int) (pts : List Pnt) : List Nat → Mc → Nat → Mc × Int × Nat
 | [], s, last => (s, 1, last)
 | a :: l, s, _ => if dB ts s pts[a]! = true then (s, 2, a)
  else if (dF ts s pts[a]!).2 = -1 then gI ts pts l (dF ts s pts[a]!).1 a
  else ((dF ts s pts[a]!).1, (dF ts s pts[a]!).2, a)
def mc0 (nt : Nat) : Mc := ⟨List.replicate nt jZ, [], []⟩
def dI (ts : List Int) (pts : List Pnt) (cs : List Int) (most : Nat) : Mc × Int × Nat := gI ts pts (eR pts most 0 cs).1 (mc0 ts.length) 0
structure OkS (nt : Nat) (s : Mc) : Prop where
 m : OkM s.cells
 l : s.slots.length = nt
theorem OkS.put {ts : List Int} {nt : Nat} {s : Mc} (h : OkS nt s) (v : Nat) (x : Sl) : OkS nt (dN ts s v x).1 := by
 unfold dN; split
 ·exact ⟨h.m.fr _, by show (s.slots.set v x).length = nt; rw [List.length_set]; exact h.l⟩
 ·exact ⟨h.m, by show (s.slots.set v x).length = nt; rw [List.length_set]; exact h.l⟩
theorem OkS.fin {ts : List Int} {nt : Nat} : ∀ n v (s : Mc), OkS nt s → OkS nt (dU ts n v s).1
 | 0, _, _, h => h
 | n + 1, v, s, h => by
  unfold dU; split
  ·split
   ·exact OkS.fin n _ _ ⟨h.m.fr _, by show (s.slots.set v jZ).length = nt; rw [List.length_set]; exact h.l⟩
   ·exact ⟨h.m.fr _, h.l⟩
  ·exact OkS.fin n _ _ h
structure PtN (x : Pnt) : Prop where
 n : x.op = 2 → 0 ≤ x.n ∧ x.n ≤ 9
theorem OkS.do {ts : List Int} {nt : Nat} {s : Mc} (h : OkS nt s) {x : Pnt} (hx : PtN x) : OkS nt (dF ts s x).1 := by
 have hl : ∀ (v : Nat) (y : Sl), (s.slots.set v y).length = nt := fun v y => by rw [List.length_set]; exact h.l
 unfold dF
 split
 ·exact h.put _ _
 split
 ·rename_i h2
  split
  ·exact h
  ·rename_i h3
   refine OkS.put ?_ _ _
   exact ⟨h.m.nw (hx.n h2) (by have := h.m.l; omega), h.l⟩
 split
 ·split
  ·refine OkS.put ?_ _ _
   exact ⟨h.m, hl _ _⟩
  ·exact h.put _ _
 split
 ·split
  ·refine OkS.put ?_ _ _
   exact ⟨h.m.ln _ _, h.l⟩
  ·exact h
 split
 ·split
  ·refine OkS.put ?_ _ _
   exact ⟨h.m.tch _ _, h.l⟩
  ·exact h
 split
 ·exact ⟨h.m.wr _ _, h.l⟩
 split
 ·exact ⟨h.m.fr _, hl _ _⟩
 split
 ·exact OkS.fin _ _ _ h
 ·exact h
theorem OkS.mc0 (nt : Nat) : OkS nt (mc0 nt) := ⟨⟨by simp [Go.AL.mc0], by simp [Go.AL.mc0]⟩, by simp [Go.AL.mc0]⟩
theorem OkS.run {ts : List Int} {pts : List Pnt} {nt : Nat} (hp : ∀ a : Nat, PtN pts[a]!) : ∀ (l : List Nat) (s : Mc) (last : Nat), OkS nt s → OkS nt (gI ts pts l s last).1
 | [], _, _, h => h
 | a :: l, s, _, h => by
  unfold gI; split
  ·exact h
  ·split
   ·exact OkS.run hp l _ _ (h.do (hp a))
   ·exact h.do (hp a)
end Go.AL
namespace Go.AL
theorem xT (k : Int) : l7 k = -1 ∨ l7 k = 3 ∨ l7 k = 4 := by unfold l7 jI; split; exact .inl rfl; split; exact .inr (.inl rfl); exact .inr (.inr rfl)
theorem lR (k : Int) : jI k = 3 ∨ jI k = 4 := by unfold jI; split; exact .inl rfl; exact .inr rfl
theorem nO (ts : List Int) (s : Mc) (v : Nat) (x : Sl) : (dN ts s v x).2 = -1 ∨ (dN ts s v x).2 = 3 ∨ (dN ts s v x).2 = 4 := by
 unfold dN; split
 ·exact xT _
 ·exact .inl rfl
theorem yA {ts : List Int} {s : Mc} {x : Pnt} (h : x.op ≠ 11) : (dF ts s x).2 = -1 ∨ (dF ts s x).2 = 1 ∨ (dF ts s x).2 = 3 ∨ (dF ts s x).2 = 4 := by
 have p := fun s v y => nO ts s v y
 have p' : ∀ s v y, (dN ts s v y).2 = -1 ∨ (dN ts s v y).2 = 1 ∨ (dN ts s v y).2 = 3 ∨ (dN ts s v y).2 = 4 := fun s v y => by
  rcases p s v y with h | h | h
  ·exact .inl h
  ·exact .inr (.inr (.inl h))
  ·exact .inr (.inr (.inr h))
 have g : ∀ k, l7 k = -1 ∨ l7 k = 1 ∨ l7 k = 3 ∨ l7 k = 4 := fun k => by
  rcases xT k with h | h | h
  ·exact .inl h
  ·exact .inr (.inr (.inl h))
  ·exact .inr (.inr (.inr h))
 have e : ∀ k, jI k = -1 ∨ jI k = 1 ∨ jI k = 3 ∨ jI k = 4 := fun k => .inr (.inr (lR k))
 unfold dF
 rw [if_neg h]
 split
 ·exact p' _ _ _
 split
 ·split
  ·exact .inr (.inl rfl)
  ·exact p' _ _ _
 split
 ·exact p' _ _ _
 split
 ·split
  ·exact p' _ _ _
  ·exact e _
 split
 ·split
  ·exact p' _ _ _
  ·exact e _
 split
 ·exact g _
 split
 ·exact g _
 exact .inl rfl
theorem nP (ts : List Int) : ∀ n v (s : Mc), (dU ts n v s).2 = 0 ∨ (dU ts n v s).2 = 3 ∨ (dU ts n v s).2 = 4
 | 0, _, _ => .inl rfl
 | n + 1, v, s => by
  unfold dU; split
  ·split
   ·exact nP ts n _ _
   ·exact .inr (lR _)
  ·exact nP ts n _ _
theorem rK {ts : List Int} {s : Mc} {x : Pnt} (h : x.op = 11) : dF ts s x = dU ts ts.length 0 s := by
 unfold dF; simp [h]
theorem kH (m : List Cl) (x : Pt) : (jG m x).length = m.length := by unfold jG; split <;> simp
theorem mV (m : List Cl) (x : Pt) (b : Bool) : (gG m x b).length = m.length := by unfold gG; split <;> simp
theorem sG (m : List Cl) (x : Pt) (b : Bool) : (nX m x b).length = m.length := by unfold nX; split <;> simp
theorem x8 (m : List Cl) (x : Pt) (v : Int) : (qK m x v).length = m.length := by unfold qK; split <;> simp
theorem EW (ts : List Int) (s : Mc) (v : Nat) (x : Sl) : (dN ts s v x).1.cells.length = s.cells.length := by
 unfold dN; split
 ·exact kH _ _
 ·rfl
theorem kW (ts : List Int) : ∀ n v (s : Mc), (dU ts n v s).1.cells.length = s.cells.length
 | 0, _, _ => rfl
 | n + 1, v, s => by
  unfold dU; split
  ·split
   ·rw [kW ts n]; exact kH _ _
   ·exact kH _ _
  ·exact kW ts n _ _
theorem z7 (ts : List Int) (s : Mc) (x : Pnt) : (dF ts s x).1.cells.length ≤ s.cells.length + 1 := by
 have p : ∀ s' v y, s'.cells.length ≤ s.cells.length + 1 → (dN ts s' v y).1.cells.length ≤ s.cells.length + 1 := fun s' v y h => by rw [EW]; exact h
 unfold dF
 split
 ·exact p _ _ _ (Nat.le_succ _)
 split
 ·split
  ·exact Nat.le_succ _
  ·refine p _ _ _ ?_; show (s.cells ++ [_]).length ≤ _; simp
 split
 ·split
  ·exact p _ _ _ (Nat.le_succ _)
  ·exact p _ _ _ (Nat.le_succ _)
 split
 ·split
  ·refine p _ _ _ ?_; show (nX _ _ _).length ≤ _; rw [sG]; exact Nat.le_succ _
  ·exact Nat.le_succ _
 split
 ·split
  ·refine p _ _ _ ?_; show (gG _ _ _).length ≤ _; rw [mV]; exact Nat.le_succ _
  ·exact Nat.le_succ _
 split
 ·show (qK _ _ _).length ≤ _; rw [x8]; exact Nat.le_succ _
 split
 ·show (jG _ _).length ≤ _; rw [kH]; exact Nat.le_succ _
 split
 ·rw [kW]; exact Nat.le_succ _
 ·exact Nat.le_succ _
end Go.AL
namespace Go.AL
structure PtA (ts : List Int) (x : Pnt) : Prop where
 n : x.op = 1 ∨ x.op = 2 → 0 ≤ x.n ∧ x.n ≤ 9
 t1 : x.op = 1 → ts[x.x.toNat]! = 1
 t2 : x.op = 2 ∨ x.op = 8 → ts[x.x.toNat]! = 2
 t3 : x.op = 3 → ts[x.x.toNat]! = ts[x.y.toNat]! ∧ x.x ≠ x.y
 t4 : x.op = 4 → ts[x.x.toNat]! = 3 ∧ x.x ≠ x.y ∧ 2 ≤ ts[x.y.toNat]!
 t5 : x.op = 5 → ts[x.x.toNat]! = 4 ∧ x.x ≠ x.y ∧ (ts[x.y.toNat]! = 2 ∨ ts[x.y.toNat]! = 4)
 t6 : x.op = 6 → ts[x.x.toNat]! = 1 ∧ 2 ≤ ts[x.y.toNat]!
 t7 : x.op = 7 → (ts[x.x.toNat]! = 2 ∨ ts[x.x.toNat]! = 4) ∧ ts[x.y.toNat]! = 1
theorem PtA.no {ts : List Int} {x : Pnt} (h : 9 ≤ x.op) : PtA ts x := ⟨fun e => by omega, fun e => by omega, fun e => by omega, fun e => by omega, fun e => by omega, fun e => by omega, fun e => by omega, fun e => by omega⟩
theorem Cj {ts : List Int} {s : Stmt} (h : dS ts s = true) : s.op ≤ 8 := by
 unfold dS at h
 dsimp only at h
 apply Classical.byContradiction
 intro e
 rw [if_neg (by omega), if_neg (by omega)] at h
 split at h
 ·cases h
 ·rw [if_neg (by omega), if_neg (by omega), if_neg (by omega), if_neg (by omega), if_neg (by omega), if_neg (by omega)] at h; cases h
theorem GP {ts : List Int} (s : Stmt) (h : dS ts s = true) : PtA ts ⟨s.op, s.x, s.y, s.n, []⟩ := by
 have g : ∀ v, 0 < eD ts v → eD ts v = ts[v.toNat]! := fun v => Ct
 have gx := g s.x
 have gy := g s.y
 unfold dS at h
 dsimp only at h
 constructor <;> dsimp only <;> intro e
 case n => rcases e with e | e <;> simp [e] at h <;> omega
 case t1 => simp [e] at h; rw [← gx (by omega)]; omega
 case t2 => rcases e with e | e <;> simp [e] at h <;> (rw [← gx (by omega)]; omega)
 case t3 => simp [e] at h; rw [← gx (by omega), ← gy (by omega)]; exact ⟨h.2.1, h.2.2.2⟩
 case t4 => simp [e] at h; rw [← gx (by omega), ← gy (by omega)]; exact ⟨h.2.1, h.2.2.2, h.2.2.1⟩
 case t5 => simp [e] at h; rw [← gx (by omega), ← gy (by omega)]; exact ⟨h.2.1, h.2.2.2, h.2.2.1⟩
 case t6 => simp [e] at h; rw [← gx (by omega), ← gy (by omega)]; exact ⟨h.2.1, h.2.2⟩
 case t7 => simp [e] at h; rw [← gx (by omega), ← gy (by omega)]; exact ⟨h.2.1, h.2.2⟩
mutual
theorem MM {ts : List Int} : ∀ (s : Stmt) (d b : Nat), oQ ts d s = true → ∀ x ∈ zT b s, PtA ts x ∧ x.op ≠ 11 ∧ 0 < x.next.length
 | .mk op x y n th el, d, b, h => by
  simp only [oQ] at h
  split at h
  ·rename_i hop
   simp only [Bool.and_eq_true] at h
   have hs := GP _ h.2
   have ho := Cj h.2
   simp only [Stmt.op, Stmt.x, Stmt.y, Stmt.n] at hs ho
   simp only [zT, hop.1, hop.2, if_false, List.mem_singleton]
   rintro z rfl
   exact ⟨⟨hs.n, hs.t1, hs.t2, hs.t3, hs.t4, hs.t5, hs.t6, hs.t7⟩, by dsimp only; omega, by simp⟩
  ·rename_i hop
   cases d with
   | zero => cases h
   | succ d =>
    simp only [Bool.and_eq_true, decide_eq_true_eq] at h
    obtain ⟨⟨⟨_, _⟩, h1⟩, h2⟩ := h
    by_cases h9 : op = 9
    ·subst h9
     simp only [zT, if_true, List.mem_append, List.mem_singleton]
     rintro z (((rfl | hz) | rfl) | hz)
     ·exact ⟨PtA.no (by simp), by simp, by simp⟩
     ·exact tW th d (b + 1) h1 z hz
     ·exact ⟨PtA.no (by simp), by simp, by simp⟩
     ·exact tW el d (b + 2 + dK th) h2 z hz
    ·have h10 : op = 10 := by omega
     subst h10
     simp only [zT, if_true, show ((10 : Int) = 9) = False by simp, if_false, List.mem_append, List.mem_singleton]
     rintro z ((rfl | hz) | rfl)
     ·exact ⟨PtA.no (by simp), by simp, by simp⟩
     ·exact tW th d (b + 1) h1 z hz
     ·exact ⟨PtA.no (by simp), by simp, by simp⟩
theorem tW {ts : List Int} : ∀ (l : List Stmt) (d b : Nat), okL ts d l = true → ∀ x ∈ fB b l, PtA ts x ∧ x.op ≠ 11 ∧ 0 < x.next.length
 | [], d, b, h => by simp [fB]
 | s :: l, d, b, h => by
  simp only [okL, Bool.and_eq_true] at h
  simp only [fB, List.mem_append]
  rintro x (hx | hx)
  ·exact MM s d b h.1 x hx
  ·exact tW l d (b + p9 s) h.2 x hx
end
structure WA (ts : List Int) (pts : List Pnt) : Prop where
 a : ∀ i, i < pts.length → PtA ts pts[i]!
 e : ∀ i, i < pts.length → (pts[i]!.op = 11 ↔ i + 1 = pts.length)
 n : ∀ i, i < pts.length → pts[i]!.op ≠ 11 → 0 < pts[i]!.next.length
theorem WA.of_valid {p : Prg} (h : cP p = true) : WA p.types (bX p) := by
 unfold cP at h
 simp only [Bool.and_eq_true, decide_eq_true_eq] at h
 obtain ⟨⟨_, hl⟩, _⟩ := h
 have hlen := kT p
 have hpl := dD p.body 0
 have lo : ∀ i, i + 1 < (bX p).length → (bX p)[i]! ∈ fB 0 p.body := fun i hi => by
  have h1 : i < (fB 0 p.body).length := by omega
  unfold bX
  rw [cK _ _ (by rw [List.length_append]; omega), List.getElem_append_left h1]
  exact List.getElem_mem h1
 have hi : ∀ i, i + 1 = (bX p).length → (bX p)[i]! = ⟨11, 0, 0, 0, []⟩ := fun i hi => by
  have h1 : i = (fB 0 p.body).length := by omega
  unfold bX
  rw [cK _ _ (by rw [List.length_append, List.length_singleton]; omega)]
  simp [h1]
 refine ⟨fun i h => ?_, fun i h => ⟨fun e => ?_, fun e => by rw [hi i e]⟩, fun i h ne => ?_⟩
 ·by_cases q : i + 1 < (bX p).length
  ·exact (tW p.body 4 0 hl _ (lo i q)).1
  ·rw [hi i (by omega)]; exact PtA.no (by simp)
 ·by_cases q : i + 1 < (bX p).length
  ·exact absurd e (tW p.body 4 0 hl _ (lo i q)).2.1
  ·omega
 ·by_cases q : i + 1 < (bX p).length
  ·exact (tW p.body 4 0 hl _ (lo i q)).2.2
  ·exact absurd (by rw [hi i (by omega)]) ne
end Go.AL
namespace Go.AL
theorem kE {xs : List Sl} {X : Int} (y : Sl) {v : Nat} (hX : 0 ≤ X ∧ X < xs.length) (hv : v < xs.length) : (xs.set X.toNat y)[v]! = if X = (v : Int) then y else xs[v]! := by
 rw [c8]
 by_cases h : X = (v : Int)
 ·rw [if_pos h, if_pos ⟨by omega, hv⟩]
 ·rw [if_neg h, if_neg (by omega)]
theorem fH (ts : List Int) (s : Mc) (v : Nat) (x : Sl) : (dN ts s v x).1.slots = s.slots.set v x := by
 unfold dN; split <;> rfl
theorem fR {ts : List Int} {s : Mc} {x : Pnt} (h : dB ts s x = false) {v : Nat} (hv : v < ts.length) (hu : bQ ts x v ≠ 0) : s.slots[v]!.set = true := by
 unfold dB at h
 rw [List.any_eq_false] at h
 have h1 := h v (List.mem_range.2 hv)
 rw [decide_eq_true hu, Bool.true_and] at h1
 simpa using h1
theorem tG {t : Int} : Ea t = true ↔ t = 2 ∨ t = 4 := by unfold Ea; simp
theorem FT {ts : List Int} {s : Mc} {x : Pnt} (hl : s.slots.length = ts.length) (hu : dB ts s x = false) (A : PtA ts x) (hop : 1 ≤ x.op ∧ x.op ≠ 11) (hx : x.op ≤ 8 → 0 ≤ x.x ∧ x.x < ts.length) (hy : 3 ≤ x.op → x.op ≤ 7 → 0 ≤ x.y ∧ x.y < ts.length) (hgo : (dF ts s x).2 = -1) :
  ∃ y : Sl, y.set = true ∧ ∀ v, v < ts.length → (dF ts s x).1.slots[v]! = if bD x = (v : Int) then y else if bQ ts x v = 2 then jZ else s.slots[v]! := by
 have hk : ∀ k, jI k ≠ -1 := fun k => by rcases lR k with h | h <;> rw [h] <;> decide
 unfold dF at hgo ⊢
 by_cases h1 : x.op = 1
 ·rw [if_pos h1]
  have hxb := hx (by omega)
  refine ⟨⟨true, x.n, ⟨0, 0⟩⟩, rfl, fun v hv => ?_⟩
  rw [fH, kE _ (by omega) (by omega)]
  have e1 : bD x = x.x := by unfold bD; rw [if_pos (by omega)]
  have e2 : bQ ts x v = 0 := by unfold bQ; rw [if_neg (by omega), if_neg (by omega), if_neg (by omega), if_neg (by omega)]
  rw [e1, e2]; simp
 rw [if_neg h1] at hgo ⊢
 by_cases h2 : x.op = 2
 ·rw [if_pos h2] at hgo ⊢
  have hxb := hx (by omega)
  by_cases h200 : s.cells.length = 200
  ·rw [if_pos h200] at hgo; cases hgo
  ·rw [if_neg h200]
   refine ⟨⟨true, 0, ⟨s.cells.length, 0⟩⟩, rfl, fun v hv => ?_⟩
   rw [fH]
   dsimp only
   rw [kE _ (by omega) (by omega)]
   have e1 : bD x = x.x := by unfold bD; rw [if_pos (by omega)]
   have e2 : bQ ts x v = 0 := by unfold bQ; rw [if_neg (by omega), if_neg (by omega), if_neg (by omega), if_neg (by omega)]
   rw [e1, e2]; simp
 rw [if_neg h2] at hgo ⊢
 by_cases h3 : x.op = 3
 ·rw [if_pos h3]
  have hxb := hx (by omega)
  have hyb := hy (by omega) (by omega)
  have hne := (A.t3 h3).2
  have e1 : bD x = x.x := by unfold bD; rw [if_pos (by omega)]
  have hyn : ((x.y.toNat : Nat) : Int) = x.y := by omega
  have hys : s.slots[x.y.toNat]!.set = true := fR hu (v := x.y.toNat) (by omega) (by
   unfold bQ; rw [if_pos h3, if_pos hyn]; split <;> decide)
  refine ⟨s.slots[x.y.toNat]!, hys, fun v hv => ?_⟩
  rw [fH]
  have e2 : bQ ts x v = if (v : Int) = x.y then (if ts[x.y.toNat]! = 2 ∨ ts[x.y.toNat]! = 4 then 2 else 1) else 0 := by
   unfold bQ; rw [if_pos h3]
   by_cases q : (v : Int) = x.y
   ·rw [if_pos q, if_pos q, q]
   ·rw [if_neg q, if_neg q]
  rw [e1, e2]
  by_cases ht : Ea ts[x.y.toNat]! = true
  ·rw [if_pos ht]
   dsimp only
   rw [kE _ (by rw [List.length_set]; omega) (by rw [List.length_set]; omega), kE _ (by omega) (by omega), if_pos (tG.1 ht)]
   by_cases q : x.x = (v : Int)
   ·rw [if_pos q, if_pos q]
   ·rw [if_neg q, if_neg q]
    by_cases q2 : x.y = (v : Int)
    ·rw [if_pos q2, if_pos q2.symm, if_pos rfl]
    ·have q3 : ¬ ((v : Int) = x.y) := fun h => q2 h.symm
     rw [if_neg q2, if_neg q3, if_neg (by decide : ¬ (0 : Int) = 2)]
  ·rw [if_neg ht, kE _ (by omega) (by omega), if_neg (fun h => ht (tG.2 h))]
   by_cases q : x.x = (v : Int)
   ·rw [if_pos q, if_pos q]
   ·rw [if_neg q, if_neg q]
    by_cases q2 : (v : Int) = x.y
    ·rw [if_pos q2, if_neg (by decide)]
    ·rw [if_neg q2, if_neg (by decide)]
 rw [if_neg h3] at hgo ⊢
 by_cases h4 : x.op = 4 ∨ x.op = 5
 ·rw [if_pos h4] at hgo ⊢
  have hxb := hx (by omega)
  split at hgo
  ·rename_i hz
   rw [if_pos hz]
   refine ⟨⟨true, 0, BT s.cells s.slots[x.y.toNat]!.ptr (decide (x.op = 5))⟩, rfl, fun v hv => ?_⟩
   rw [fH]
   dsimp only
   rw [kE _ (by omega) (by omega)]
   have e1 : bD x = x.x := by unfold bD; rw [if_pos (by omega)]
   have e2 : bQ ts x v ≠ 2 := by unfold bQ; rw [if_neg (by omega), if_pos (by omega)]; split <;> decide
   rw [e1, if_neg e2]
  ·exact absurd hgo (hk _)
 rw [if_neg h4] at hgo ⊢
 by_cases h6 : x.op = 6
 ·rw [if_pos h6] at hgo ⊢
  have hxb := hx (by omega)
  split at hgo
  ·rename_i hz
   rw [if_pos hz]
   refine ⟨⟨true, wC s.cells s.slots[x.y.toNat]!.ptr, ⟨0, 0⟩⟩, rfl, fun v hv => ?_⟩
   rw [fH]
   dsimp only
   rw [kE _ (by omega) (by omega)]
   have e1 : bD x = x.x := by unfold bD; rw [if_pos (by omega)]
   have e2 : bQ ts x v ≠ 2 := by unfold bQ; rw [if_neg (by omega), if_pos (by omega)]; split <;> decide
   rw [e1, if_neg e2]
  ·exact absurd hgo (hk _)
 rw [if_neg h6] at hgo ⊢
 have e1 : bD x = -1 := by unfold bD; rw [if_neg (by omega)]
 have e3 : ∀ v : Nat, bD x ≠ (v : Int) := fun v => by rw [e1]; omega
 by_cases h7 : x.op = 7
 ·rw [if_pos h7]
  refine ⟨⟨true, 0, ⟨0, 0⟩⟩, rfl, fun v hv => ?_⟩
  have e2 : bQ ts x v ≠ 2 := by unfold bQ; rw [if_neg (by omega), if_neg (by omega), if_pos h7]; split; decide; split <;> decide
  rw [if_neg (e3 v), if_neg e2]
 rw [if_neg h7]
 by_cases h8 : x.op = 8
 ·rw [if_pos h8]
  have hxb := hx (by omega)
  refine ⟨⟨true, 0, ⟨0, 0⟩⟩, rfl, fun v hv => ?_⟩
  dsimp only
  rw [if_neg (e3 v), kE _ (by omega) (by omega)]
  have e2 : bQ ts x v = if (v : Int) = x.x then 2 else 0 := by unfold bQ; rw [if_neg (by omega), if_neg (by omega), if_neg (by omega), if_pos h8]
  rw [e2]
  by_cases q : x.x = (v : Int)
  ·rw [if_pos q, if_pos q.symm, if_pos rfl]
  ·have q3 : ¬ ((v : Int) = x.x) := fun h => q h.symm
   rw [if_neg q, if_neg q3, if_neg (by decide : ¬ (0 : Int) = 2)]
 ·rw [if_neg h8, if_neg hop.2]
  refine ⟨⟨true, 0, ⟨0, 0⟩⟩, rfl, fun v hv => ?_⟩
  have e2 : bQ ts x v ≠ 2 := by unfold bQ; rw [if_neg (by omega), if_neg (by omega), if_neg (by omega), if_neg (by omega)]; decide
  rw [if_neg (e3 v), if_neg e2]
section
variable {ts : List Int} {pts : List Pnt}
theorem WG.doS (w : WG ts pts) (A : WA ts pts) {a : Nat} (ha : a < pts.length) {s : Mc} (hl : s.slots.length = ts.length) (hu : dB ts s pts[a]! = false) (h11 : pts[a]!.op ≠ 11) (hgo : (dF ts s pts[a]!).2 = -1) :
  ∃ y : Sl, y.set = true ∧ ∀ v, v < ts.length → (dF ts s pts[a]!).1.slots[v]! = if bD pts[a]! = (v : Int) then y else if bQ ts pts[a]! v = 2 then jZ else s.slots[v]! :=
 FT hl hu (A.a a ha) ⟨(w.op a ha).1, h11⟩ (fun h => ⟨(w.x a ha).1, (w.x a ha).2 h⟩) (fun h1 h2 => ⟨(w.y a ha).1, (w.y a ha).2 h1 h2⟩) hgo
theorem iL (w : WG ts pts) (A : WA ts pts) {a : Nat} (ha : a < pts.length) (h11 : pts[a]!.op ≠ 11) (cs : List Int) : edge pts a (eE pts a cs).1 := by
 have key : ∀ j : Nat, j < pts[a]!.next.length → edge pts a (pts[a]!.next[j]!).toNat := fun j hj => by
  have hm := b9 pts[a]!.next j hj
  refine ⟨ha, ?_⟩
  rw [show (((pts[a]!.next[j]!).toNat : Nat) : Int) = pts[a]!.next[j]! by have := (w.nx a ha _ hm).1; omega]
  exact hm
 have h0 := A.n a ha h11
 unfold eE
 split
 ·rename_i h2
  split
  ·exact key 1 (by omega)
  ·rename_i c cs
   exact key _ (by omega)
 ·exact key 0 h0
def Kh (ts : List Int) (pts : List Pnt) (I : Nat → Mc → Prop) (r : Mc × Int × Nat) : Prop := r.2.1 = 1 ∨ ∃ s', r.2.2 < pts.length ∧ I r.2.2 s' ∧
 ((r.2.1 = 2 ∧ dB ts s' pts[r.2.2]! = true ∧ r.1 = s') ∨
  (dB ts s' pts[r.2.2]! = false ∧ (dF ts s' pts[r.2.2]!).2 ≠ -1 ∧ r.1 = (dF ts s' pts[r.2.2]!).1 ∧ r.2.1 = (dF ts s' pts[r.2.2]!).2))
theorem x5 {I : Nat → Mc → Prop} {a : Nat} {l : List Nat} {s : Mc} {last : Nat} (ha : a < pts.length) (hs : I a s)
  (hrec : dB ts s pts[a]! = false → (dF ts s pts[a]!).2 = -1 → Kh ts pts I (gI ts pts l (dF ts s pts[a]!).1 a)) : Kh ts pts I (gI ts pts (a :: l) s last) := by
 by_cases h1 : dB ts s pts[a]! = true
 ·have e : gI ts pts (a :: l) s last = (s, 2, a) := by unfold gI; rw [if_pos h1]
  rw [e]; exact .inr ⟨s, ha, hs, .inl ⟨rfl, h1, rfl⟩⟩
 ·have h1' : dB ts s pts[a]! = false := by simpa using h1
  by_cases h2 : (dF ts s pts[a]!).2 = -1
  ·have e : gI ts pts (a :: l) s last = gI ts pts l (dF ts s pts[a]!).1 a := by
    conv => lhs; unfold gI
    rw [if_neg h1, if_pos h2]
   rw [e]; exact hrec h1' h2
  ·have e : gI ts pts (a :: l) s last = ((dF ts s pts[a]!).1, (dF ts s pts[a]!).2, a) := by
    unfold gI; rw [if_neg h1, if_neg h2]
   rw [e]; exact .inr ⟨s, ha, hs, .inr ⟨h1', h2, rfl, rfl⟩⟩
theorem pT {I : Nat → Mc → Prop} {a : Nat} {s : Mc} {last : Nat} (ha : a < pts.length) (hs : I a s) (h11 : pts[a]!.op = 11) : Kh ts pts I (gI ts pts [a] s last) :=
 x5 ha hs fun h1 h2 => by
  rw [rK h11] at h2
  rcases nP ts ts.length 0 s with q | q | q <;> (rw [q] at h2; cases h2)
theorem DY (w : WG ts pts) (A : WA ts pts) (I : Nat → Mc → Prop)
  (hI : ∀ a s k, a < pts.length → pts[a]!.op ≠ 11 → edge pts a k → I a s → dB ts s pts[a]! = false → (dF ts s pts[a]!).2 = -1 → I k (dF ts s pts[a]!).1) :
  ∀ n a cs s last, a < pts.length → I a s → Kh ts pts I (gI ts pts (eR pts n a cs).1 s last) := by
 intro n
 induction n with
 | zero =>
  intro a cs s last ha hs
  by_cases h11 : pts[a]!.op = 11
  ·have e : (eR pts 0 a cs).1 = [a] := by unfold eR; rw [if_pos h11]
   rw [e]; exact pT ha hs h11
  ·have e : (eR pts 0 a cs).1 = [] := by rw [eR, if_neg h11]
   rw [e]; exact .inl rfl
 | succ n ih =>
  intro a cs s last ha hs
  by_cases h11 : pts[a]!.op = 11
  ·have e : (eR pts (n + 1) a cs).1 = [a] := by unfold eR; rw [if_pos h11]
   rw [e]; exact pT ha hs h11
  ·have e : (eR pts (n + 1) a cs).1 = a :: (eR pts n (eE pts a cs).1 (eE pts a cs).2).1 := by rw [eR, if_neg h11]
   have he := iL w A ha h11 cs
   rw [e]
   exact x5 ha hs fun h1 h2 => ih _ _ _ _ (eH w he) (hI a s _ ha h11 he hs h1 h2)
end
end Go.AL
namespace Go.AL
section
variable {ts : List Int} {pts : List Pnt}
structure Vs (ts : List Int) (pts : List Pnt) (a : Nat) (s : Mc) : Prop where
 l : s.slots.length = ts.length
 u : ∀ v, v < ts.length → s.slots[v]!.set = false → Na ts pts (a, v)
 m : ∀ v, v < ts.length → s.slots[v]!.set = true → Mb ts pts (a, v)
theorem pL (ts : List Int) (s : Mc) (v : Nat) (x : Sl) : (dN ts s v x).1.slots.length = s.slots.length := by rw [fH, List.length_set]
theorem xV (ts : List Int) : ∀ n v (s : Mc), (dU ts n v s).1.slots.length = s.slots.length
 | 0, _, _ => rfl
 | n + 1, v, s => by
  unfold dU; split
  ·split
   ·rw [xV ts n]; exact List.length_set
   ·rfl
  ·exact xV ts n _ _
theorem gH (ts : List Int) (s : Mc) (x : Pnt) : (dF ts s x).1.slots.length = s.slots.length := by
 unfold dF
 split
 ·exact pL _ _ _ _
 split
 ·split
  ·rfl
  ·exact pL _ _ _ _
 split
 ·rw [pL]; split
  ·exact List.length_set
  ·rfl
 split
 ·split
  ·exact pL _ _ _ _
  ·rfl
 split
 ·split
  ·exact pL _ _ _ _
  ·rfl
 split
 ·rfl
 split
 ·exact List.length_set
 split
 ·exact xV _ _ _ _
 ·rfl
theorem Vs.start : Vs ts pts 0 (mc0 ts.length) := by
 refine ⟨by simp [mc0], fun v hv _ => .base ⟨hv, .inl rfl⟩, fun v hv h => ?_⟩
 have e : (mc0 ts.length).slots[v]! = jZ := by
  show (List.replicate ts.length jZ)[v]! = jZ
  rw [cK _ _ (by simpa using hv)]; simp
 rw [e] at h; cases h
theorem Vs.step (w : WG ts pts) (A : WA ts pts) (a : Nat) (s : Mc) (k : Nat) (ha : a < pts.length) (h11 : pts[a]!.op ≠ 11) (he : edge pts a k) (h : Vs ts pts a s) (hu : dB ts s pts[a]! = false) (hgo : (dF ts s pts[a]!).2 = -1) : Vs ts pts k (dF ts s pts[a]!).1 := by
 obtain ⟨y, hy, hs⟩ := w.doS A ha h.l hu h11 hgo
 refine ⟨by rw [gH]; exact h.l, fun v hv hf => ?_, fun v hv ht => ?_⟩
 ·rw [hs v hv] at hf
  by_cases h1 : bD pts[a]! = (v : Int)
  ·rw [if_pos h1, hy] at hf; cases hf
  ·rw [if_neg h1] at hf
   by_cases h2 : bQ ts pts[a]! v = 2
   ·exact .base ⟨hv, .inr ⟨a, he, h2, h1⟩⟩
   ·rw [if_neg h2] at hf
    exact .step (a := (a, v)) (h.u v hv hf) ⟨rfl, he, h1⟩
 ·rw [hs v hv] at ht
  by_cases h1 : bD pts[a]! = (v : Int)
  ·exact .base ⟨a, he, h1⟩
  ·rw [if_neg h1] at ht
   by_cases h2 : bQ ts pts[a]! v = 2
   ·rw [if_pos h2] at ht; cases ht
   ·rw [if_neg h2] at ht
    exact .step (a := (a, v)) (h.m v hv ht) ⟨rfl, he, h2⟩
theorem z8 {s : Mc} {x : Pnt} (h : dB ts s x = true) : ∃ v, v < ts.length ∧ bQ ts x v ≠ 0 ∧ s.slots[v]!.set = false := by
 unfold dB at h
 obtain ⟨v, hv, h2⟩ := List.any_eq_true.1 h
 rw [Bool.and_eq_true, decide_eq_true_eq] at h2
 exact ⟨v, List.mem_range.1 hv, h2.1, by simpa using h2.2⟩
theorem jM (ts : List Int) : ∀ n v (s : Mc) (u : Nat), ts[u]! ≠ 2 → (dU ts n v s).1.slots[u]! = s.slots[u]!
 | 0, _, _, _, _ => rfl
 | n + 1, v, s, u, hu => by
  unfold dU; split
  ·rename_i h
   have hne : v ≠ u := fun e => hu (e ▸ h.1)
   split
   ·rw [jM ts n _ _ u hu]
    show (s.slots.set v jZ)[u]! = _
    rw [c8, if_neg (fun h => hne h.1)]
   ·rfl
  ·exact jM ts n _ _ u hu
end
end Go.AL
namespace Go.AL
theorem l8 {α : Type} [Inhabited α] {l r : List α} {c : Nat} (h : c < l.length) : (l ++ r)[c]! = l[c]! := by
 rw [cK _ _ (by rw [List.length_append]; omega), cK _ _ h, List.getElem_append_left h]
theorem C6 {α : Type} [Inhabited α] {l : List α} {x : α} : (l ++ [x])[l.length]! = x := by
 rw [cK _ _ (by rw [List.length_append, List.length_singleton]; omega)]; simp
theorem Kx {stk : List Tg} (hl : 0 < stk.length) (h : stk[0]! = ⟨0, true⟩) : dM stk 0 = 0 := by
 cases stk with
 | nil => simp at hl
 | cons t l =>
  have ht : t = ⟨0, true⟩ := h
  subst ht
  unfold dM
  rw [List.findIdx?_cons]
  simp
def Hd (m : List Cl) : Prop := ∀ c, c < m.length → m[c]!.stk[0]! = ⟨0, true⟩
theorem Hb {m : List Cl} (h : OkM m) (hh : Hd m) {x : Pt} (hx : 0 ≤ x.cell ∧ x.cell < m.length) (ht : x.tag = 0) (ha : m[x.cell.toNat]!.alive = true) (wr : Bool) : cS m x wr = 0 := by
 have hc := h.at (k := x.cell.toNat) (by omega)
 have hs := hh x.cell.toNat (by omega)
 have h0 := Kx (by have := hc.l; omega) hs
 unfold cS
 rw [if_neg (fun q => q hx), if_neg (by rw [ha]; decide), ht, h0, if_neg (by decide), if_neg]
 rintro ⟨_, h2⟩
 have e : m[x.cell.toNat]!.stk[(0 : Int).toNat]! = m[x.cell.toNat]!.stk[0]! := rfl
 rw [e, hs] at h2; cases h2
theorem yD {m : List Cl} (hh : Hd m) {k : Nat} {c : Cl} (hc : c.stk[0]! = ⟨0, true⟩) : Hd (m.set k c) := fun j hj => by
 rw [List.length_set] at hj
 rw [c8]
 split
 ·exact hc
 ·exact hh j hj
theorem sU {m : List Cl} (h : OkM m) (hh : Hd m) {k : Nat} (hk : k < m.length) (x : Pt) (wr : Bool) : (iT m[k]! x wr).stk[0]! = ⟨0, true⟩ := by
 have hl := (h.at hk).l
 show (g7 m[k]!.stk _ wr)[0]! = _
 rw [(wF (by omega)).1]; exact hh k hk
theorem Hd.tch {m : List Cl} (h : OkM m) (hh : Hd m) (x : Pt) (wr : Bool) : Hd (gG m x wr) := by
 unfold gG; split
 ·rename_i hk; exact yD hh (sU h hh (eG hk).2.2 x wr)
 ·exact hh
theorem Hd.fr {m : List Cl} (h : OkM m) (hh : Hd m) (x : Pt) : Hd (jG m x) := by
 unfold jG; split
 ·rename_i hk; exact yD hh (sU h hh (eG hk).2.2 x true)
 ·exact hh
theorem Hd.wr {m : List Cl} (h : OkM m) (hh : Hd m) (x : Pt) (v : Int) : Hd (qK m x v) := by
 unfold qK
 by_cases hk : r7 m x v = 0
 ·rw [if_pos hk]
  unfold r7 at hk
  by_cases hv : 0 ≤ v ∧ v ≤ 9
  ·rw [if_pos hv] at hk; exact yD hh (sU h hh (eG hk).2.2 x true)
  ·rw [if_neg hv] at hk; cases hk
 ·rw [if_neg hk]; exact hh
theorem nW {m : List Cl} {x : Pt} {u : Bool} (h : rX m x u = 0) : cS m x u = 0 := by
 unfold rX at h
 by_cases h0 : cS m x u = 0
 ·exact h0
 ·rw [if_neg h0] at h; exact h
theorem Hd.ln {m : List Cl} (h : OkM m) (hh : Hd m) (x : Pt) (u : Bool) : Hd (nX m x u) := by
 unfold nX; split
 ·rename_i hk
  have h0 := eG (nW hk)
  have h1 := sU h hh h0.2.2 x u
  have h2 := ((h.at h0.2.2).tch x u).l
  refine yD hh ?_
  show ((iT m[x.cell.toNat]! x u).stk ++ [_])[0]! = _
  rw [l8 (by omega)]; exact h1
 ·exact hh
theorem Hd.nw {m : List Cl} (hh : Hd m) (v : Int) : Hd (m ++ [pX v]) := fun c hc => by
 rw [List.length_append, List.length_singleton] at hc
 by_cases q : c < m.length
 ·rw [l8 q]; exact hh c q
 ·have e : c = m.length := by omega
  subst e
  rw [C6]; rfl
def vN (m : List Cl) (c : Nat) : Bool := m[c]!.alive
theorem tB {m : List Cl} {k c : Nat} {x : Cl} (hc : c < m.length) : vN (m.set k x) c = if k = c then x.alive else vN m c := by
 unfold vN
 rw [c8]
 by_cases h : k = c
 ·rw [if_pos ⟨h, hc⟩, if_pos h]
 ·rw [if_neg (fun q => h q.1), if_neg h]
theorem D3 (m : List Cl) (x : Pt) (wr : Bool) (c : Nat) (hc : c < m.length) : vN (gG m x wr) c = vN m c := by
 unfold gG; split
 ·rw [tB hc]; split
  ·rename_i e; subst e; rfl
  ·rfl
 ·rfl
theorem Gu (m : List Cl) (x : Pt) (u : Bool) (c : Nat) (hc : c < m.length) : vN (nX m x u) c = vN m c := by
 unfold nX; split
 ·rw [tB hc]; split
  ·rename_i e; subst e; rfl
  ·rfl
 ·rfl
theorem Lt (m : List Cl) (x : Pt) (v : Int) (c : Nat) (hc : c < m.length) : vN (qK m x v) c = vN m c := by
 unfold qK; split
 ·rw [tB hc]; split
  ·rename_i e; subst e; rfl
  ·rfl
 ·rfl
theorem Cd {m : List Cl} {x : Pt} (hk : cS m x true = 0) (c : Nat) (hc : c < m.length) : vN (jG m x) c = if x.cell = (c : Int) then false else vN m c := by
 have h0 := eG hk
 unfold jG
 rw [if_pos hk, tB hc]
 by_cases q : x.cell = (c : Int)
 ·rw [if_pos q, if_pos (by omega)]
 ·rw [if_neg q, if_neg (by omega)]
structure Own (ts : List Int) (s : Mc) (X : Option Nat) : Prop where
 k : OkS ts.length s
 h : Hd s.cells
 o : ∀ v, v < ts.length → ts[v]! = 2 → s.slots[v]!.set = true → 0 ≤ s.slots[v]!.ptr.cell ∧ s.slots[v]!.ptr.cell < s.cells.length ∧ s.slots[v]!.ptr.tag = 0 ∧ vN s.cells s.slots[v]!.ptr.cell.toNat = true
 d : ∀ v u, v < ts.length → u < ts.length → ts[v]! = 2 → ts[u]! = 2 → s.slots[v]!.set = true → s.slots[u]!.set = true → s.slots[v]!.ptr.cell = s.slots[u]!.ptr.cell → v = u
 a : ∀ c, c < s.cells.length → vN s.cells c = true → X = some c ∨ ∃ v, v < ts.length ∧ ts[v]! = 2 ∧ s.slots[v]!.set = true ∧ s.slots[v]!.ptr.cell = (c : Int)
 x : ∀ c, X = some c → c < s.cells.length ∧ vN s.cells c = true ∧ ∀ v, v < ts.length → ts[v]! = 2 → s.slots[v]!.set = true → s.slots[v]!.ptr.cell ≠ (c : Int)
theorem Own.k0 {ts : List Int} {s : Mc} {X : Option Nat} (w : Own ts s X) {v : Nat} (hv : v < ts.length) (h2 : ts[v]! = 2) (hs : s.slots[v]!.set = true) (wr : Bool) : cS s.cells s.slots[v]!.ptr wr = 0 := by
 obtain ⟨h1, h3, h4, h5⟩ := w.o v hv h2 hs
 exact Hb w.k.m w.h ⟨h1, h3⟩ h4 h5 wr
theorem Own.cells {ts : List Int} {s : Mc} {X : Option Nat} (w : Own ts s X) {m : List Cl} (hm : OkM m) (hh : Hd m) (hl : m.length = s.cells.length) (ha : ∀ c, c < s.cells.length → vN m c = vN s.cells c) (r : List Int) : Own ts ⟨s.slots, m, r⟩ X := by
 refine ⟨⟨hm, w.k.l⟩, hh, fun v hv h2 hs => ?_, w.d, fun c hc h => ?_, fun c hc => ?_⟩
 ·obtain ⟨h1, h3, h4, h5⟩ := w.o v hv h2 hs
  exact ⟨h1, by show _ < (m.length : Int); rw [hl]; exact h3, h4, by show vN m _ = true; rw [ha _ (show s.slots[v]!.ptr.cell.toNat < s.cells.length by omega)]; exact h5⟩
 ·have hc' : c < m.length := hc
  exact w.a c (by omega) (by rw [← ha c (by omega)]; exact h)
 ·obtain ⟨h1, h3, h4⟩ := w.x c hc
  exact ⟨by show c < m.length; omega, by show vN m c = true; rw [ha c h1]; exact h3, h4⟩
theorem Own.put0 {ts : List Int} {s : Mc} {X : Option Nat} (w : Own ts s X) {v : Nat} (h2 : ts[v]! ≠ 2) (y : Sl) : Own ts (dN ts s v y).1 X ∧ (dN ts s v y).2 = -1 := by
 have hl : (s.slots.set v y).length = ts.length := by rw [List.length_set]; exact w.k.l
 have e : ∀ u : Nat, ts[u]! = 2 → (s.slots.set v y)[u]! = s.slots[u]! := fun u hu => by
  rw [c8, if_neg]; rintro ⟨q, _⟩; rw [q] at h2; exact h2 hu
 unfold dN
 rw [if_neg (fun h => h2 h.1)]
 refine ⟨⟨⟨w.k.m, hl⟩, w.h, fun u hu h hs => ?_, fun u u' hu hu' h h' hs hs' hc => ?_, fun c hc h => ?_, fun c hc => ?_⟩, rfl⟩
 ·dsimp only at hs ⊢; rw [e u h] at hs ⊢; exact w.o u hu h hs
 ·dsimp only at hs hs' hc; rw [e u h] at hs hc; rw [e u' h'] at hs' hc; exact w.d u u' hu hu' h h' hs hs' hc
 ·rcases w.a c hc h with q | ⟨u, q1, q2, q3, q4⟩
  ·exact .inl q
  ·exact .inr ⟨u, q1, q2, by dsimp only; rw [e u q2]; exact q3, by dsimp only; rw [e u q2]; exact q4⟩
 ·obtain ⟨h1, h3, h4⟩ := w.x c hc
  exact ⟨h1, h3, fun u q1 q2 q3 => by dsimp only at q3 ⊢; rw [e u q2] at q3 ⊢; exact h4 u q1 q2 q3⟩
theorem Own.free {ts : List Int} {s : Mc} {X : Option Nat} (w : Own ts s X) {v : Nat} (hv : v < ts.length) (h2 : ts[v]! = 2) (hs : s.slots[v]!.set = true) (y : Sl) (hy : y.set = false) (r : List Int) :
  Own ts ⟨s.slots.set v y, jG s.cells s.slots[v]!.ptr, r⟩ X := by
 have hk := w.k0 hv h2 hs true
 have hlen := kH s.cells s.slots[v]!.ptr
 have hl : (s.slots.set v y).length = ts.length := by rw [List.length_set]; exact w.k.l
 have e : ∀ u : Nat, u ≠ v → (s.slots.set v y)[u]! = s.slots[u]! := fun u hu => by
  rw [c8, if_neg]; rintro ⟨q, _⟩; exact hu q.symm
 have ev : (s.slots.set v y)[v]! = y := by rw [c8, if_pos ⟨rfl, by rw [w.k.l]; exact hv⟩]
 have nev : ∀ u : Nat, (s.slots.set v y)[u]!.set = true → u ≠ v := fun u h q => by rw [q, ev, hy] at h; cases h
 obtain ⟨b1, b2, b3, b4⟩ := w.o v hv h2 hs
 refine ⟨⟨w.k.m.fr _, hl⟩, w.h.fr w.k.m _, fun u hu h hs' => ?_, fun u u' hu hu' h h' q q' hc => ?_, fun c hc h => ?_, fun c hc => ?_⟩
 ·have hne := nev u hs'
  dsimp only at hs' ⊢
  rw [e u hne] at hs' ⊢
  obtain ⟨c1, c2, c3, c4⟩ := w.o u hu h hs'
  refine ⟨c1, by rw [hlen]; exact c2, c3, ?_⟩
  rw [Cd hk _ (by omega), if_neg]
  ·exact c4
  ·intro q; exact hne (w.d u v hu hv h h2 hs' hs (by omega))
 ·have n1 := nev u q
  have n2 := nev u' q'
  dsimp only at q q' hc
  rw [e u n1] at q hc; rw [e u' n2] at q' hc
  exact w.d u u' hu hu' h h' q q' hc
 ·dsimp only at hc h
  rw [hlen] at hc
  rw [Cd hk c hc] at h
  by_cases q : s.slots[v]!.ptr.cell = (c : Int)
  ·rw [if_pos q] at h; cases h
  ·rw [if_neg q] at h
   rcases w.a c hc h with q2 | ⟨u, q1, q2, q3, q4⟩
   ·exact .inl q2
   ·have hne : u ≠ v := fun e' => q (by rw [← e']; exact q4)
    exact .inr ⟨u, q1, q2, by dsimp only; rw [e u hne]; exact q3, by dsimp only; rw [e u hne]; exact q4⟩
 ·obtain ⟨h1, h3, h4⟩ := w.x c hc
  refine ⟨by dsimp only; rw [hlen]; exact h1, ?_, fun u q1 q2 q3 => ?_⟩
  ·dsimp only; rw [Cd hk c h1, if_neg (h4 v hv h2 hs)]; exact h3
  ·have hne := nev u q3
   dsimp only at q3 ⊢
   rw [e u hne] at q3 ⊢
   exact h4 u q1 q2 q3
theorem Own.take {ts : List Int} {s : Mc} {c : Nat} (w : Own ts s (some c)) {v : Nat} (hv : v < ts.length) (h2 : ts[v]! = 2) (hs : s.slots[v]!.set = false) (y : Sl) (hy : y.set = true) (hp : y.ptr = ⟨c, 0⟩) : Own ts ⟨s.slots.set v y, s.cells, s.read⟩ none := by
 have hl : (s.slots.set v y).length = ts.length := by rw [List.length_set]; exact w.k.l
 have e : ∀ u : Nat, u ≠ v → (s.slots.set v y)[u]! = s.slots[u]! := fun u hu => by
  rw [c8, if_neg]; rintro ⟨q, _⟩; exact hu q.symm
 have ev : (s.slots.set v y)[v]! = y := by rw [c8, if_pos ⟨rfl, by rw [w.k.l]; exact hv⟩]
 obtain ⟨x1, x2, x3⟩ := w.x c rfl
 refine ⟨⟨w.k.m, hl⟩, w.h, fun u hu h hs' => ?_, fun u u' hu hu' h h' q q' hc => ?_, fun c' hc h => ?_, fun c' hc => by cases hc⟩
 ·by_cases q : u = v
  ·subst q; dsimp only; rw [ev, hp]
   exact ⟨by dsimp only; omega, by dsimp only; omega, rfl, by simpa using x2⟩
  ·dsimp only at hs' ⊢; rw [e u q] at hs' ⊢; exact w.o u hu h hs'
 ·dsimp only at q q' hc
  by_cases n1 : u = v
  ·by_cases n2 : u' = v
   ·rw [n1, n2]
   ·exfalso; rw [n1, ev, hp, e u' n2] at hc; rw [e u' n2] at q'; exact x3 u' hu' h' q' hc.symm
  ·by_cases n2 : u' = v
   ·exfalso; rw [n2, ev, hp, e u n1] at hc; rw [e u n1] at q; exact x3 u hu h q hc
   ·rw [e u n1] at q hc; rw [e u' n2] at q' hc; exact w.d u u' hu hu' h h' q q' hc
 ·dsimp only at hc h
  rcases w.a c' hc h with q2 | ⟨u, q1, q2, q3, q4⟩
  ·cases q2
   exact .inr ⟨v, hv, h2, by dsimp only; rw [ev]; exact hy, by dsimp only; rw [ev, hp]⟩
  ·have hne : u ≠ v := fun e' => by rw [e', hs] at q3; cases q3
   exact .inr ⟨u, q1, q2, by dsimp only; rw [e u hne]; exact q3, by dsimp only; rw [e u hne]; exact q4⟩
theorem HH {xs : List Sl} (v : Nat) (y z : Sl) : (xs.set v y).set v z = xs.set v z := by simp
theorem Own.putB {ts : List Int} {s : Mc} {c : Nat} (w : Own ts s (some c)) {v : Nat} (hv : v < ts.length) (h2 : ts[v]! = 2) (y : Sl) (hy : y.set = true) (hp : y.ptr = ⟨c, 0⟩) : Own ts (dN ts s v y).1 none ∧ (dN ts s v y).2 = -1 := by
 unfold dN
 by_cases hs : s.slots[v]!.set = true
 ·rw [if_pos ⟨h2, hs⟩]
  have hk := w.k0 hv h2 hs true
  have w1 := w.free hv h2 hs jZ rfl s.read
  have w2 := w1.take hv h2 (by dsimp only; rw [c8, if_pos ⟨rfl, by rw [w.k.l]; exact hv⟩]; rfl) y hy hp
  dsimp only at w2 ⊢
  rw [HH] at w2
  refine ⟨w2, ?_⟩
  unfold l7; rw [if_pos hk]
 ·rw [if_neg (fun h => hs h.2)]
  exact ⟨w.take hv h2 (by simpa using hs) y hy hp, rfl⟩
end Go.AL
namespace Go.AL
section
variable {ts : List Int} {s : Mc}
theorem Own.new (w : Own ts s none) {n : Int} (hn : 0 ≤ n ∧ n ≤ 9) (hl : s.cells.length ≠ 200) (r : List Int) : Own ts ⟨s.slots, s.cells ++ [pX n], r⟩ (some s.cells.length) := by
 have hlen : (s.cells ++ [pX n]).length = s.cells.length + 1 := by rw [List.length_append, List.length_singleton]
 have lo : ∀ c, c < s.cells.length → vN (s.cells ++ [pX n]) c = vN s.cells c := fun c hc => by
  unfold vN
  rw [l8 hc]
 have hi : vN (s.cells ++ [pX n]) s.cells.length = true := by
  unfold vN; rw [C6]; rfl
 refine ⟨⟨w.k.m.nw hn (by have := w.k.m.l; omega), w.k.l⟩, w.h.nw n, fun v hv h2 hs => ?_, w.d, fun c hc h => ?_, fun c hc => ?_⟩
 ·obtain ⟨h1, h3, h4, h5⟩ := w.o v hv h2 hs
  exact ⟨h1, by dsimp only; omega, h4, by dsimp only; rw [lo _ (by omega)]; exact h5⟩
 ·dsimp only at hc h
  by_cases q : c < s.cells.length
  ·rw [lo c q] at h
   rcases w.a c q h with q2 | q2
   ·cases q2
   ·exact .inr q2
  ·exact .inl (by congr 1; omega)
 ·cases hc
  refine ⟨by dsimp only; omega, hi, fun v hv h2 hs => ?_⟩
  obtain ⟨h1, h3, h4, h5⟩ := w.o v hv h2 hs
  dsimp only; omega
theorem Own.give (w : Own ts s none) {v : Nat} (hv : v < ts.length) (h2 : ts[v]! = 2) (hs : s.slots[v]!.set = true) : Own ts ⟨s.slots.set v jZ, s.cells, s.read⟩ (some s.slots[v]!.ptr.cell.toNat) := by
 have hl : (s.slots.set v jZ).length = ts.length := by rw [List.length_set]; exact w.k.l
 have e : ∀ u : Nat, u ≠ v → (s.slots.set v jZ)[u]! = s.slots[u]! := fun u hu => by
  rw [c8, if_neg]; rintro ⟨q, _⟩; exact hu q.symm
 have ev : (s.slots.set v jZ)[v]! = jZ := by rw [c8, if_pos ⟨rfl, by rw [w.k.l]; exact hv⟩]
 have nev : ∀ u : Nat, (s.slots.set v jZ)[u]!.set = true → u ≠ v := fun u h q => by rw [q, ev] at h; cases h
 obtain ⟨b1, b2, b3, b4⟩ := w.o v hv h2 hs
 refine ⟨⟨w.k.m, hl⟩, w.h, fun u hu h hs' => ?_, fun u u' hu hu' h h' q q' hc => ?_, fun c hc h => ?_, fun c hc => ?_⟩
 ·have hne := nev u hs'
  dsimp only at hs' ⊢; rw [e u hne] at hs' ⊢; exact w.o u hu h hs'
 ·have n1 := nev u q
  have n2 := nev u' q'
  dsimp only at q q' hc
  rw [e u n1] at q hc; rw [e u' n2] at q' hc
  exact w.d u u' hu hu' h h' q q' hc
 ·rcases w.a c hc h with q2 | ⟨u, q1, q2, q3, q4⟩
  ·cases q2
  ·by_cases q : u = v
   ·subst q; exact .inl (by congr 1; omega)
   ·exact .inr ⟨u, q1, q2, by dsimp only; rw [e u q]; exact q3, by dsimp only; rw [e u q]; exact q4⟩
 ·cases hc
  refine ⟨by dsimp only; omega, b4, fun u q1 q2 q3 => ?_⟩
  have hne := nev u q3
  dsimp only at q3 ⊢
  rw [e u hne] at q3 ⊢
  intro q; exact hne (w.d u v q1 hv q2 h2 q3 hs (by omega))
theorem Own.clr (w : Own ts s none) {v : Nat} (h2 : ts[v]! ≠ 2) : Own ts ⟨s.slots.set v jZ, s.cells, s.read⟩ none := by
 have h := (w.put0 h2 jZ).1
 unfold dN at h
 rwa [if_neg (fun h => h2 h.1)] at h
theorem Own.do (w : Own ts s none) {x : Pnt} (A : PtA ts x) (h11 : x.op ≠ 11) (hx : x.op ≤ 8 → 0 ≤ x.x ∧ x.x < ts.length) (hop : 1 ≤ x.op) (hy : 3 ≤ x.op → x.op ≤ 7 → 0 ≤ x.y ∧ x.y < ts.length) (hu : dB ts s x = false) : Own ts (dF ts s x).1 none := by
 unfold dF
 by_cases h1 : x.op = 1
 ·rw [if_pos h1]; exact (w.put0 (by rw [A.t1 h1]; decide) _).1
 rw [if_neg h1]
 by_cases h2 : x.op = 2
 ·rw [if_pos h2]
  split
  ·exact w
  ·rename_i h200
   have hxb := hx (by omega)
   exact ((w.new (A.n (.inr h2)) h200 s.read).putB (v := x.x.toNat) (by omega) (A.t2 (.inl h2)) _ rfl rfl).1
 rw [if_neg h2]
 by_cases h3 : x.op = 3
 ·rw [if_pos h3]
  have hxb := hx (by omega)
  have hyb := hy (by omega) (by omega)
  obtain ⟨ht, hne⟩ := A.t3 h3
  have hyn : ((x.y.toNat : Nat) : Int) = x.y := by omega
  have hys : s.slots[x.y.toNat]!.set = true := fR hu (v := x.y.toNat) (by omega) (by
   unfold bQ; rw [if_pos h3, if_pos hyn]; split <;> decide)
  by_cases q2 : ts[x.y.toNat]! = 2
  ·rw [if_pos (tG.2 (.inl q2))]
   have g := w.give (v := x.y.toNat) (by omega) q2 hys
   obtain ⟨b1, b2, b3, b4⟩ := w.o x.y.toNat (by omega) q2 hys
   refine (g.putB (v := x.x.toNat) (by omega) (by rw [ht]; exact q2) _ hys ?_).1
   generalize s.slots[x.y.toNat]! = z at b1 b3
   obtain ⟨zs, zn, zc, zt⟩ := z
   dsimp only at b1 b3 ⊢
   rw [b3, Int.toNat_of_nonneg b1]
  ·split
   ·exact ((w.clr (v := x.y.toNat) q2).put0 (by rw [ht]; exact q2) _).1
   ·exact (w.put0 (by rw [ht]; exact q2) _).1
 rw [if_neg h3]
 by_cases h4 : x.op = 4 ∨ x.op = 5
 ·rw [if_pos h4]
  have hxt : ts[x.x.toNat]! ≠ 2 := by
   rcases h4 with h4 | h4
   ·rw [(A.t4 h4).1]; decide
   ·rw [(A.t5 h4).1]; decide
  split
  ·exact ((w.cells (w.k.m.ln _ _) (w.h.ln w.k.m _ _) (sG _ _ _) (fun c hc => Gu _ _ _ c hc) _).put0 hxt _).1
  ·exact w
 rw [if_neg h4]
 by_cases h6 : x.op = 6
 ·rw [if_pos h6]
  have hxt : ts[x.x.toNat]! ≠ 2 := by rw [(A.t6 h6).1]; decide
  split
  ·exact ((w.cells (w.k.m.tch _ _) (w.h.tch w.k.m _ _) (mV _ _ _) (fun c hc => D3 _ _ _ c hc) _).put0 hxt _).1
  ·exact w
 rw [if_neg h6]
 by_cases h7 : x.op = 7
 ·rw [if_pos h7]; exact w.cells (w.k.m.wr _ _) (w.h.wr w.k.m _ _) (x8 _ _ _) (fun c hc => Lt _ _ _ c hc) _
 rw [if_neg h7]
 by_cases h8 : x.op = 8
 ·rw [if_pos h8]
  have hxb := hx (by omega)
  have hxn : ((x.x.toNat : Nat) : Int) = x.x := by omega
  have hxs : s.slots[x.x.toNat]!.set = true := fR hu (v := x.x.toNat) (by omega) (by
   unfold bQ; rw [if_neg (by omega), if_neg (by omega), if_neg (by omega), if_pos h8, if_pos hxn]; decide)
  exact w.free (v := x.x.toNat) (by omega) (A.t2 (.inr h8)) hxs jZ rfl _
 rw [if_neg h8, if_neg h11]
 exact w
end
theorem Own.fin {ts : List Int} : ∀ n v (s : Mc), Own ts s none → v + n = ts.length → (∀ u, u < v → ts[u]! = 2 → s.slots[u]!.set = false) →
  (dU ts n v s).2 = 0 ∧ Own ts (dU ts n v s).1 none ∧ ∀ u, u < ts.length → ts[u]! = 2 → (dU ts n v s).1.slots[u]!.set = false
 | 0, v, s, w, hv, h => ⟨rfl, w, fun u hu h2 => h u (by omega) h2⟩
 | n + 1, v, s, w, hv, h => by
  unfold dU
  by_cases q : ts[v]! = 2 ∧ s.slots[v]!.set = true
  ·rw [if_pos q, if_pos (w.k0 (by omega) q.1 q.2 true)]
   refine Own.fin n (v + 1) _ (w.free (by omega) q.1 q.2 jZ rfl _) (by omega) fun u hu h2 => ?_
   dsimp only
   rw [c8]
   by_cases e : v = u
   ·rw [if_pos ⟨e, by rw [w.k.l]; omega⟩]; rfl
   ·rw [if_neg (fun h => e h.1)]; exact h u (by omega) h2
  ·rw [if_neg q]
   refine Own.fin n (v + 1) s w (by omega) fun u hu h2 => ?_
   by_cases e : u = v
   ·subst e
    cases hs : s.slots[u]!.set with
    | false => rfl
    | true => exact absurd ⟨h2, hs⟩ q
   ·exact h u (by omega) h2
theorem Own.start (ts : List Int) : Own ts (mc0 ts.length) none := by
 have e : ∀ v, v < ts.length → (mc0 ts.length).slots[v]! = jZ := fun v hv => by
  show (List.replicate ts.length jZ)[v]! = jZ
  rw [cK _ _ (by simpa using hv)]; simp
 refine ⟨OkS.mc0 _, fun c hc => ?_, fun v hv _ hs => ?_, fun v u hv _ _ _ hs => ?_, fun c hc => ?_, fun c hc => by cases hc⟩
 ·have : c < ([] : List Cl).length := hc
  simp at this
 ·rw [e v hv] at hs; cases hs
 ·rw [e v hv] at hs; cases hs
 ·have : c < ([] : List Cl).length := hc
  simp at this
theorem mL (ts : List Int) : ∀ n v (s : Mc), (dU ts n v s).1.read = s.read
 | 0, _, _ => rfl
 | n + 1, v, s => by
  unfold dU; split
  ·split
   ·exact mL ts n _ _
   ·rfl
  ·exact mL ts n _ _
theorem fT (ts : List Int) (s : Mc) (v : Nat) (x : Sl) : (dN ts s v x).1.read = s.read := by unfold dN; split <;> rfl
end Go.AL
namespace Go.AL
structure Co where
 val : Int
 alive : Bool
 next : Int
 av : AV
instance : Inhabited Co := ⟨⟨0, false, 0, .imm 0 []⟩⟩
def g8 (c : Co) : List AV := [iv c.val, bv c.alive, iv c.next, c.av]
instance : FlT g8 4 := ⟨fun _ => rfl⟩
instance : FE g8 (fun c => [iv c.val, bv c.alive, iv c.next, c.av]) := ⟨fun _ => rfl⟩
def sB (c : Cl) : Co := ⟨c.val, c.alive, c.next, sl eO c.stk⟩
def fC (m : List Cl) (j : Nat) (X : AV) : List Co := (m.map sB).set j { sB m[j]! with av := X }
theorem k5 (m : List Cl) : flat g8 (m.map sB) = flat eF m := by
 unfold flat; rw [List.flatMap_map]; rfl
theorem eZ {m : List Cl} {j : Nat} {X : AV} : (fC m j X).length = m.length := by unfold fC; rw [List.length_set, List.length_map]
theorem jF {m : List Cl} {j : Nat} {X : AV} (h : j < m.length) : (fC m j X)[j]! = ⟨m[j]!.val, m[j]!.alive, m[j]!.next, X⟩ := by
 unfold fC
 rw [cK _ _ (by rw [List.length_set, List.length_map]; exact h), List.getElem_set_self]; rfl
theorem jY {m : List Cl} {j : Nat} {X : AV} (h : j < m.length) : flat g8 (fC m j X) = flat eF (m.take j) ++ ([iv m[j]!.val, bv m[j]!.alive, iv m[j]!.next] ++ X :: flat eF (m.drop (j + 1))) := by
 unfold fC
 rw [List.set_eq_take_append_cons_drop, if_pos (by rw [List.length_map]; exact h), ← dP, ← List.map_take, k5, ← List.map_drop]
 congr 1
 show g8 _ ++ flat g8 _ = _
 rw [k5]; rfl
theorem xC {m : List Cl} {j : Nat} {X : AV} (h : j < m.length) : flat g8 (fC m j X) = (flat eF (m.take j) ++ [iv m[j]!.val, bv m[j]!.alive, iv m[j]!.next]) ++ X :: flat eF (m.drop (j + 1)) := by
 rw [jY h, List.append_assoc]
theorem BB {m : List Cl} {j : Nat} {r : List Tg} : flat g8 (fC m j (sl eO r)) = flat eF (m.set j { m[j]! with stk := r }) := by
 rw [← k5, List.map_set]; rfl
theorem JL {m : List Cl} {j : Nat} {X : AV} (h : j < m.length) : hZ (flat eF m) (0 + j * 4 + 3) [X] = flat g8 (fC m j X) := by
 rw [← k5]
 have := gF (f := g8) (xs := m.map sB) (k := j) (j := 3) (new := [X]) (y := { sB m[j]! with av := X }) (by rw [List.length_map]; exact h) (by simp) (by
  have e : (m.map sB)[j]! = sB m[j]! := by rw [cK _ _ (by rw [List.length_map]; exact h), List.getElem_map, cK _ _ h]
  rw [e]; rfl)
 exact this
theorem x6 {m : List Cl} {j : Nat} {X Y : AV} (h : j < m.length) : hZ (flat g8 (fC m j X)) (0 + j * 4 + 3) [Y] = flat g8 (fC m j Y) := by
 have e : fC m j Y = (fC m j X).set j { sB m[j]! with av := Y } := by unfold fC; rw [List.set_set]
 rw [e]
 exact gF (by rw [eZ]; exact h) (by simp) (by rw [jF h]; rfl)
theorem Dx {m : List Cl} {j : Nat} {X : AV} {v : Int} (h : j < m.length) : hZ (flat g8 (fC m j X)) (0 + j * 4 + 2) [iv v] = flat g8 (fC (m.set j { m[j]! with next := v }) j X) := by
 have e : fC (m.set j { m[j]! with next := v }) j X = (fC m j X).set j ⟨m[j]!.val, m[j]!.alive, v, X⟩ := by
  have e2 : (m.set j { m[j]! with next := v })[j]! = { m[j]! with next := v } := by rw [cK _ _ (by rw [List.length_set]; exact h), List.getElem_set_self]
  unfold fC
  rw [e2, List.map_set, List.set_set, List.set_set]; rfl
 rw [e]
 exact gF (by rw [eZ]; exact h) (by simp) (by rw [jF h]; rfl)
theorem Le.cls {ts : List (Nat × AV)} {hs : List (Nat × Option (List AV))} {n : Nat} {z0 : Lo} {o q j k : Nat} {m : List Cl} {r : List Tg} (hj : cA hs o = some (flat g8 (fC m j (.own q 0 k 2)))) (hq : cA hs q = some (flat eO r)) (hk : k = r.length) (hjm : j < m.length) (hoq : o ≠ q) :
  Le ⟨ts, hs, n, z0⟩ ⟨ts, (o, some (flat eF (m.set j { m[j]! with stk := r }))) :: (q, none) :: hs, n, z0⟩ := by
 subst hk
 rw [xC hjm] at hj
 have h := Le.frzC (ts := ts) (n := n) (z0 := z0) _ hj hq hoq
 rw [← BB, xC hjm]; exact h
theorem oH {ρ : Nat → Option Nat} {m : List Cl} {j k i i' : Nat} (hr : ρ i = some i') : RnL ρ (flat g8 (fC m j (.own i 0 k 2))) (flat g8 (fC m j (.own i' 0 k 2))) := by
 by_cases h : j < m.length
 ·rw [jY h, jY h]
  exact RnL.app (RnL.purI inferInstance) (RnL.app (RnL.purI inferInstance) (RnL.cons (RnV.own hr) (RnL.purI inferInstance)))
 ·have e : ∀ X, fC m j X = m.map sB := fun X => List.set_eq_of_length_le (by rw [List.length_map]; omega)
  rw [e, e, k5]
  exact RnL.purI inferInstance
end Go.AL
namespace Go.AL
theorem Ki : ∀ {l : List Tg} {a b : Tg}, (l.map (·.id)).Nodup → a ∈ l → b ∈ l → a.id = b.id → a = b
 | [], _, _, _, h, _, _ => by cases h
 | t :: l, a, b, hn, ha, hb, e => by
  rw [List.map_cons, List.nodup_cons] at hn
  rcases List.mem_cons.1 ha with q | ha'
  ·rcases List.mem_cons.1 hb with q' | hb'
   ·rw [q, q']
   ·exact absurd (List.mem_map.2 ⟨b, hb', by rw [← e, q]⟩) hn.1
  ·rcases List.mem_cons.1 hb with q' | hb'
   ·exact absurd (List.mem_map.2 ⟨a, ha', by rw [e, q']⟩) hn.1
   ·exact Ki hn.2 ha' hb' e
theorem tD {stk : List Tg} {t : Tg} (hn : (stk.map (·.id)).Nodup) (h : t ∈ stk) : 0 ≤ dM stk t.id ∧ (dM stk t.id).toNat < stk.length ∧ stk[(dM stk t.id).toNat]! = t := by
 have h0 : 0 ≤ dM stk t.id := by
  apply Classical.byContradiction; intro q
  exact qA.1 (by omega : dM stk t.id < 0) t h rfl
 have hb := g9 stk t.id
 have hk : (dM stk t.id).toNat < stk.length := by omega
 exact ⟨h0, hk, Ki hn (b9 _ _ hk) h (C9 h0)⟩
theorem Da {a b : Tg} {l : List Tg} (h : [a, b].Sublist l) : a ∈ l ∧ b ∈ l := ⟨h.subset (by simp), h.subset (by simp)⟩
theorem KZ {a b : Tg} {l : List Tg} (hn : (l.map (·.id)).Nodup) (h : [a, b].Sublist l) : a.id ≠ b.id := by
 have := (h.map (·.id)).nodup hn
 simpa using this
theorem J8 {a b : Tg} {l : List Tg} (hn : (l.map (·.id)).Nodup) (hl : 0 < l.length) (h : [a, b].Sublist l) : b ≠ l[0]! := by
 cases l with
 | nil => cases h
 | cons t l =>
  intro q
  have e : (t :: l)[0]! = t := rfl
  rw [e] at q
  rw [q] at h
  rw [List.map_cons, List.nodup_cons] at hn
  have ht : t ∉ l := fun q => hn.1 (List.mem_map.2 ⟨t, q, rfl⟩)
  cases h with
  | cons _ h => exact ht (h.subset (by simp))
  | cons_cons _ h => exact ht (h.subset (by simp))
theorem Jr {b : Tg} {l : List Tg} (h : b ∈ l) (hne : b ≠ l[0]!) : [l[0]!, b].Sublist l := by
 cases l with
 | nil => cases h
 | cons t l =>
  have e : (t :: l)[0]! = t := rfl
  rw [e] at hne ⊢
  rcases List.mem_cons.1 h with h | h
  ·exact absurd h hne
  ·exact (List.singleton_sublist.2 h).cons_cons t
theorem FD {stk : List Tg} {k : Nat} {wr : Bool} (hk : k < stk.length) {t : Tg} (h : t ∈ stk) (hn : t ∉ g7 stk k wr) : [stk[k]!, t].Sublist stk ∧ (wr = false → t.uq = true) := by
 have ht : t ∉ stk.take (k + 1) := fun q => hn (by unfold g7; split; exact q; exact List.mem_append_left _ q)
 have hd : t ∈ stk.drop (k + 1) := by
  rw [← List.take_append_drop (k + 1) stk] at h
  exact (List.mem_append.1 h).resolve_left ht
 refine ⟨?_, fun hw => ?_⟩
 ·have h1 : [stk[k]!].Sublist (stk.take (k + 1)) := List.singleton_sublist.2 (by rw [dC _ _ hk]; simp)
  have h2 := h1.append (List.singleton_sublist.2 hd)
  rwa [List.take_append_drop] at h2
 ·apply Classical.byContradiction; intro q
  apply hn
  unfold g7
  rw [if_neg (by rw [hw]; decide)]
  exact List.mem_append_right _ (List.mem_filter.2 ⟨hd, by simpa using q⟩)
theorem xB {stk : List Tg} {k : Nat} {wr : Bool} (hk : k < stk.length) {t : Tg} (h : t ∈ g7 stk k wr) (hu : wr = false → t.uq = true) : t = stk[k]! ∨ [t, stk[k]!].Sublist stk := by
 have ht : t ∈ stk.take (k + 1) := by
  unfold g7 at h
  split at h
  ·exact h
  ·rename_i hw
   rcases List.mem_append.1 h with h | h
   ·exact h
   ·have h1 := (List.mem_filter.1 h).2
    rw [hu (by simpa using hw)] at h1; cases h1
 have e := dC _ _ hk
 rw [e] at ht
 rcases List.mem_append.1 ht with ht | ht
 ·refine .inr (List.Sublist.trans ?_ (List.take_sublist (k + 1) stk))
  rw [e]
  exact (List.singleton_sublist.2 ht).append (List.Sublist.refl _)
 ·exact .inl (by simpa using ht)
theorem zG {a b t : Tg} {l : List Tg} (h : [a, b].Sublist (l ++ [t])) : [a, b].Sublist l ∨ (b = t ∧ a ∈ l) := by
 obtain ⟨x, y, e, hx, hy⟩ := List.sublist_append_iff.1 h
 match x, e with
 | [], e =>
  have : y = [a, b] := by simpa using e.symm
  rw [this] at hy; have := hy.length_le; simp at this
 | [c], e =>
  have e' : a = c ∧ [b] = y := by simpa using e
  rw [← e'.2] at hy
  refine .inr ⟨by simpa using hy.subset (List.mem_singleton_self b), ?_⟩
  rw [e'.1]; exact hx.subset (by simp)
 | [c, d], e =>
  have e' : a = c ∧ b = d := by simp at e; exact ⟨e.1, e.2.1⟩
  rw [e'.1, e'.2]; exact .inl hx
 | c :: d :: f :: z, e => simp at e
abbrev Ut (a b : Tg) : Prop := b.uq = true → a.uq = true
structure Sh (N : Int) (c : Cl) : Prop where
 n : c.next ≤ N
 l : (c.stk.length : Int) ≤ c.next
 p : c.stk.Pairwise Ut
def ShM (N : Int) (m : List Cl) : Prop := ∀ c ∈ m, Sh N c
theorem Sh.two {N : Int} {c : Cl} (h : Sh N c) {a b : Tg} (hs : [a, b].Sublist c.stk) (hb : b.uq = true) : a.uq = true := by
 have := h.p.sublist hs
 simp only [List.pairwise_cons, List.mem_singleton, forall_eq] at this
 exact this.1 hb
theorem Sh.mono {N N' : Int} {c : Cl} (h : Sh N c) (hN : N ≤ N') : Sh N' c := ⟨Int.le_trans h.n hN, h.l, h.p⟩
theorem ShM.mono {N N' : Int} {m : List Cl} (h : ShM N m) (hN : N ≤ N') : ShM N' m := fun c hc => (h c hc).mono hN
theorem Sh.tch {N : Int} {c : Cl} (h : Sh N c) (x : Pt) (wr : Bool) : Sh N (iT c x wr) := by
 have hs := tchS_sub (stk := c.stk) (k := (dM c.stk x.tag).toNat) (wr := wr)
 refine ⟨h.n, ?_, h.p.sublist hs⟩
 have h1 := hs.length_le
 have h2 := h.l
 show ((g7 c.stk _ wr).length : Int) ≤ c.next
 omega
theorem ShM.set {N : Int} {m : List Cl} (h : ShM N m) {k : Nat} {c : Cl} (hc : Sh N c) : ShM N (m.set k c) :=
 fun x hx => (List.mem_or_eq_of_mem_set hx).elim (h x) (fun e => e ▸ hc)
theorem ShM.at {N : Int} {m : List Cl} (h : ShM N m) {k : Nat} (hk : k < m.length) : Sh N m[k]! := h _ (b9 _ _ hk)
theorem ShM.tch {N : Int} {m : List Cl} (h : ShM N m) (x : Pt) (wr : Bool) : ShM N (gG m x wr) := by
 unfold gG; split
 ·rename_i hk; exact h.set ((h.at (eG hk).2.2).tch x wr)
 ·exact h
theorem ShM.fr {N : Int} {m : List Cl} (h : ShM N m) (x : Pt) : ShM N (jG m x) := by
 unfold jG; split
 ·rename_i hk
  have h1 := (h.at (eG hk).2.2).tch x true
  exact h.set ⟨h1.n, h1.l, h1.p⟩
 ·exact h
theorem ShM.wr {N : Int} {m : List Cl} (h : ShM N m) (x : Pt) (v : Int) : ShM N (qK m x v) := by
 unfold qK
 by_cases hk : r7 m x v = 0
 ·rw [if_pos hk]
  unfold r7 at hk
  by_cases hv : 0 ≤ v ∧ v ≤ 9
  ·rw [if_pos hv] at hk
   have h1 := (h.at (eG hk).2.2).tch x true
   exact h.set ⟨h1.n, h1.l, h1.p⟩
  ·rw [if_neg hv] at hk; cases hk
 ·rw [if_neg hk]; exact h
theorem ShM.nw {N : Int} {m : List Cl} (h : ShM N m) (hN : 1 ≤ N) (v : Int) : ShM N (m ++ [pX v]) := fun c hc =>
 (List.mem_append.1 hc).elim (h c) (fun h => by
  rw [List.mem_singleton.1 h]
  exact ⟨hN, by show ((1 : Nat) : Int) ≤ 1; decide, by simp [pX]⟩)
theorem Gp {m : List Cl} {x : Pt} {wr : Bool} (h : cS m x wr = 0) : m[x.cell.toNat]!.alive = true ∧ 0 ≤ dM m[x.cell.toNat]!.stk x.tag ∧ (wr = true → m[x.cell.toNat]!.stk[(dM m[x.cell.toNat]!.stk x.tag).toNat]!.uq = true) := by
 unfold cS at h
 split at h
 ·cases h
 split at h
 ·cases h
 rename_i ha
 split at h
 ·cases h
 rename_i ht
 split at h
 ·cases h
 rename_i hw
 refine ⟨by simpa using ha, by omega, fun e => ?_⟩
 simpa [e] using hw
theorem ShM.ln {N : Int} {m : List Cl} (h : ShM N m) (x : Pt) (u : Bool) : ShM (N + 1) (nX m x u) := by
 unfold nX
 by_cases hk : rX m x u = 0
 ·rw [if_pos hk]
  have h0 := nW hk
  have hx := eG h0
  have ht := Gp h0
  have hc := (h.at hx.2.2)
  have h1 := hc.tch x u
  have hb := g9 m[x.cell.toNat]!.stk x.tag
  refine ShM.set (h.mono (by omega)) (Sh.mk ?_ ?_ ?_)
  ·have := h1.n; show (iT m[x.cell.toNat]! x u).next + 1 ≤ N + 1; omega
  ·have := h1.l; show (((iT m[x.cell.toNat]! x u).stk ++ [_]).length : Int) ≤ (iT m[x.cell.toNat]! x u).next + 1
   rw [List.length_append, List.length_singleton]; omega
  ·show ((iT m[x.cell.toNat]! x u).stk ++ [(⟨(iT m[x.cell.toNat]! x u).next, u⟩ : Tg)]).Pairwise Ut
   rw [List.pairwise_append]
   refine ⟨h1.p, by simp, fun a ha b hb' => ?_⟩
   rw [List.mem_singleton.1 hb']
   intro hu
   dsimp only at hu
   subst hu
   have hw := ht.2.2 rfl
   have hkk : (dM m[x.cell.toNat]!.stk x.tag).toNat < m[x.cell.toNat]!.stk.length := by omega
   have ha' : a ∈ g7 m[x.cell.toNat]!.stk (dM m[x.cell.toNat]!.stk x.tag).toNat true := ha
   rcases xB hkk ha' (fun q => by cases q) with e | e
   ·rw [e]; exact hw
   ·exact hc.two e hw
 ·rw [if_neg hk]; exact h.mono (by omega)
end Go.AL
namespace Go.AL
theorem tF {m : List Cl} {x : Pt} {wr : Bool} (hk : cS m x wr = 0) (c : Nat) : (gG m x wr)[c]! = if x.cell.toNat = c then iT m[c]! x wr else m[c]! := by
 have h := eG hk
 unfold gG
 rw [if_pos hk, c8]
 by_cases q : x.cell.toNat = c
 ·rw [if_pos ⟨q, by omega⟩, if_pos q, q]
 ·rw [if_neg (fun h => q h.1), if_neg q]
theorem Kj {m : List Cl} {x : Pt} (hk : cS m x true = 0) (c : Nat) (hc : x.cell.toNat ≠ c) : (jG m x)[c]! = m[c]! := by
 unfold jG
 rw [if_pos hk, c8, if_neg (fun h => hc h.1)]
theorem Du {m : List Cl} {x : Pt} {u : Bool} (hk : rX m x u = 0) (c : Nat) : (nX m x u)[c]! = if x.cell.toNat = c then psh (iT m[c]! x u) u else m[c]! := by
 have h := eG (nW hk)
 unfold nX
 rw [if_pos hk, c8]
 by_cases q : x.cell.toNat = c
 ·rw [if_pos ⟨q, by omega⟩, if_pos q, q]
 ·rw [if_neg (fun h => q h.1), if_neg q]
theorem H3 {m : List Cl} {x : Pt} {v : Int} (hk : r7 m x v = 0) : cS m x true = 0 := by
 unfold r7 at hk
 split at hk
 ·exact hk
 ·cases hk
theorem Mx {m : List Cl} {x : Pt} {v : Int} (hk : r7 m x v = 0) (c : Nat) : (qK m x v)[c]!.alive = (gG m x true)[c]!.alive ∧ (qK m x v)[c]!.stk = (gG m x true)[c]!.stk := by
 have h0 := H3 hk
 have h := eG h0
 rw [tF h0]
 unfold qK
 rw [if_pos hk, c8]
 by_cases q : x.cell.toNat = c
 ·rw [if_pos ⟨q, by omega⟩, if_pos q, q]; exact ⟨rfl, rfl⟩
 ·rw [if_neg (fun h => q h.1), if_neg q]; exact ⟨rfl, rfl⟩
def iX (ts : List Int) (sl : List Sl) (v : Nat) : Tg := ⟨sl[v]!.ptr.tag, !decide (ts[v]! = 3)⟩
def gT (sl : List Sl) (v : Nat) : Nat := sl[v]!.ptr.cell.toNat
structure RfI (ts : List Int) (P : Nat → Prop) (G : Nat → Nat → Prop) (sl : List Sl) (m : List Cl) : Prop where
 l : ∀ v, v < ts.length → 3 ≤ ts[v]! → sl[v]!.set = true → P v → m[gT sl v]!.alive = true ∧ iX ts sl v ∈ m[gT sl v]!.stk
 c : ∀ v w, v < ts.length → w < ts.length → 3 ≤ ts[v]! → (ts[w]! = 2 ∨ ts[w]! = 4) → sl[v]!.set = true → sl[w]!.set = true → P v → gT sl v = gT sl w → [iX ts sl w, iX ts sl v].Sublist m[gT sl v]!.stk → G v w
section
variable {ts : List Int} {P P' : Nat → Prop} {G : Nat → Nat → Prop} {sl : List Sl} {m m' : List Cl} {N : Int}
theorem RfI.mono (R : RfI ts P G sl m) (h : ∀ v, P' v → P v) : RfI ts P' G sl m :=
 ⟨fun v h1 h2 h3 h4 => R.l v h1 h2 h3 (h v h4), fun v w h1 h2 h3 h4 h5 h6 h7 => R.c v w h1 h2 h3 h4 h5 h6 (h v h7)⟩
theorem RfI.cong (R : RfI ts P G sl m) (h : ∀ c : Nat, m'[c]!.alive = m[c]!.alive ∧ m'[c]!.stk = m[c]!.stk) : RfI ts P G sl m' := by
 refine ⟨fun v h1 h2 h3 h4 => ?_, fun v w h1 h2 h3 h4 h5 h6 h7 h8 h9 => ?_⟩
 ·rw [(h _).1, (h _).2]; exact R.l v h1 h2 h3 h4
 ·rw [(h _).2] at h9; exact R.c v w h1 h2 h3 h4 h5 h6 h7 h8 h9
theorem RfI.tch (hT : ∀ v, v < ts.length → ts[v]! ≤ 4) (hm : OkM m) (hs : ShM N m) (R : RfI ts P G sl m) (hP : ∀ v, P' v → P v) {u : Nat} {wr : Bool} (hu : u < ts.length) (h2 : 2 ≤ ts[u]!) (hset : sl[u]!.set = true)
  (hk : cS m sl[u]!.ptr wr = 0) (hin : iX ts sl u ∈ m[gT sl u]!.stk) (hwr : wr = true → ts[u]! ≠ 3) (hc : ∀ v, P' v → G v u → ¬ (wr = true ∨ ts[v]! = 4)) : RfI ts P' G sl (gG m sl[u]!.ptr wr) := by
 have hx := eG hk
 have hcc := hm.at hx.2.2
 obtain ⟨t1, t2, t3⟩ := tD hcc.d hin
 refine ⟨fun v h1 h2' h3 h4 => ?_, fun v w h1 h2' h3 h4 h5 h6 h7 h8 h9 => ?_⟩
 ·obtain ⟨a1, a2⟩ := R.l v h1 h2' h3 (hP v h4)
  rw [tF hk]
  by_cases q : sl[u]!.ptr.cell.toNat = gT sl v
  ·rw [if_pos q]
   refine ⟨a1, ?_⟩
   rw [← q] at a2 ⊢
   apply Classical.byContradiction; intro hn
   have hn' : iX ts sl v ∉ g7 m[sl[u]!.ptr.cell.toNat]!.stk (dM m[sl[u]!.ptr.cell.toNat]!.stk (iX ts sl u).id).toNat wr := hn
   obtain ⟨g1, g2⟩ := FD t2 a2 hn'
   have t3' : m[sl[u]!.ptr.cell.toNat]!.stk[(dM m[sl[u]!.ptr.cell.toNat]!.stk (iX ts sl u).id).toNat]! = iX ts sl u := t3
   rw [t3'] at g1
   by_cases q3 : ts[u]! = 3
   ·have hwf : wr = false := by cases wr with | false => rfl | true => exact absurd q3 (hwr rfl)
    have := (hs.at hx.2.2).two g1 (g2 hwf)
    simp [iX, q3] at this
   ·have hb := hT u hu
    have hg := R.c v u h1 hu h2' (by omega) h3 hset (hP v h4) q.symm (by rw [← q]; exact g1)
    refine hc v h4 hg ?_
    cases hw : wr with
    | true => exact .inl rfl
    | false =>
     have h5 := g2 hw
     have hb' := hT v h1
     have : ts[v]! ≠ 3 := by simpa [iX] using h5
     exact .inr (by omega)
  ·rw [if_neg q]; exact ⟨a1, a2⟩
 ·refine R.c v w h1 h2' h3 h4 h5 h6 (hP v h7) h8 (h9.trans ?_)
  rw [tF hk]
  split
  ·exact tchS_sub
  ·exact List.Sublist.refl _
theorem RfI.fr (hd : Hd m) (R : RfI ts P G sl m) (hP : ∀ v, P' v → P v) (hf : ∀ v, v < ts.length → 3 ≤ ts[v]! → sl[v]!.set = true → 1 ≤ sl[v]!.ptr.tag) {u : Nat} (hu : u < ts.length) (h2 : ts[u]! = 2) (hset : sl[u]!.set = true)
  (hk : cS m sl[u]!.ptr true = 0) (h0 : sl[u]!.ptr.tag = 0) (hc : ∀ v, P' v → ¬ G v u) : RfI ts P' G sl (jG m sl[u]!.ptr) := by
 have hx := eG hk
 have e0 := hd _ hx.2.2
 have eu : iX ts sl u = ⟨0, true⟩ := by unfold iX; rw [h0, h2]; rfl
 have key : ∀ v, v < ts.length → 3 ≤ ts[v]! → sl[v]!.set = true → P' v → sl[u]!.ptr.cell.toNat ≠ gT sl v := fun v h1 h2' h3 h4 q => by
  obtain ⟨a1, a2⟩ := R.l v h1 h2' h3 (hP v h4)
  have hne : iX ts sl v ≠ m[gT sl v]!.stk[0]! := by
   rw [← q, e0]; intro e
   have e1 : (iX ts sl v).id = 0 := by rw [e]
   have e2 : sl[v]!.ptr.tag = 0 := e1
   have e3 := hf v h1 h2' h3
   omega
  have hs := Jr a2 hne
  refine hc v h4 (R.c v u h1 hu h2' (.inl h2) h3 hset (hP v h4) q.symm ?_)
  rw [eu, ← e0, show sl[u]!.ptr.cell.toNat = gT sl v from q]; exact hs
 refine ⟨fun v h1 h2' h3 h4 => ?_, fun v w h1 h2' h3 h4 h5 h6 h7 h8 h9 => ?_⟩
 ·rw [Kj hk _ (key v h1 h2' h3 h4)]; exact R.l v h1 h2' h3 (hP v h4)
 ·rw [Kj hk _ (key v h1 h3 h5 h7)] at h9; exact R.c v w h1 h2' h3 h4 h5 h6 (hP v h7) h8 h9
theorem RfI.ln {x : Pt} {b : Bool} (hk : rX m x b = 0) (R : RfI ts P G sl (gG m x b)) (hf : ∀ v, v < ts.length → 3 ≤ ts[v]! → sl[v]!.set = true → sl[v]!.ptr.tag < m[gT sl v]!.next) : RfI ts P G sl (nX m x b) := by
 have h0 := nW hk
 refine ⟨fun v h1 h2 h3 h4 => ?_, fun v w h1 h2 h3 h4 h5 h6 h7 h8 h9 => ?_⟩
 ·have hr := R.l v h1 h2 h3 h4
  rw [tF h0] at hr
  rw [Du hk]
  split
  ·rename_i q
   rw [if_pos q] at hr
   exact ⟨hr.1, List.mem_append_left _ hr.2⟩
  ·rename_i q
   rw [if_neg q] at hr; exact hr
 ·refine R.c v w h1 h2 h3 h4 h5 h6 h7 h8 ?_
  rw [Du hk] at h9
  rw [tF h0]
  split at h9
  ·rename_i q
   rw [if_pos q]
   have h9' : [iX ts sl w, iX ts sl v].Sublist ((iT m[gT sl v]! x b).stk ++ [⟨m[gT sl v]!.next, b⟩]) := h9
   rcases zG h9' with e | ⟨e, _⟩
   ·exact e
   ·exfalso
    have e1 : (iX ts sl v).id = m[gT sl v]!.next := by rw [e]
    have e2 : sl[v]!.ptr.tag = m[gT sl v]!.next := e1
    have := hf v h1 h3 h5
    omega
  ·rename_i q
   rw [if_neg q]; exact h9
theorem RfI.nw (R : RfI ts P G sl m) (hf : ∀ v, v < ts.length → 3 ≤ ts[v]! → sl[v]!.set = true → gT sl v < m.length) (z : Cl) : RfI ts P G sl (m ++ [z]) := by
 refine ⟨fun v h1 h2 h3 h4 => ?_, fun v w h1 h2 h3 h4 h5 h6 h7 h8 h9 => ?_⟩
 ·rw [l8 (hf v h1 h2 h3)]; exact R.l v h1 h2 h3 h4
 ·rw [l8 (hf v h1 h3 h5)] at h9; exact R.c v w h1 h2 h3 h4 h5 h6 h7 h8 h9
end
def Ac (ts : List Int) (pts : List Pnt) (a w : Nat) (wr : Bool) : Prop :=
 ((pts[a]!.op = 4 ∨ pts[a]!.op = 6) ∧ pts[a]!.y = (w : Int) ∧ wr = false) ∨ (pts[a]!.op = 5 ∧ pts[a]!.y = (w : Int) ∧ wr = true) ∨ ((pts[a]!.op = 7 ∨ pts[a]!.op = 8) ∧ pts[a]!.x = (w : Int) ∧ wr = true) ∨
 (pts[a]!.op = 3 ∧ Ea ts[w]! = true ∧ pts[a]!.y = (w : Int) ∧ wr = true) ∨ (bD pts[a]! = (w : Int) ∧ ts[w]! = 2 ∧ Mb ts pts (a, w) ∧ wr = true)
def Ln (ts : List Int) (pts : List Pnt) (a v w : Nat) : Prop := ∃ L, yY ts pts (a, v, L) ∧ BU ts pts (a, L) ∧ pts[L]!.y = (w : Int) ∧ (ts[v]! = 4 → pts[L]!.op = 5)
def Kp (ts : List Int) (pts : List Pnt) (a v : Nat) : Prop := Lv ts pts a v ∧ bD pts[a]! ≠ (v : Int) ∧ bQ ts pts[a]! v ≠ 2
def Cf (ts : List Int) (pts : List Pnt) (a L : Nat) : Prop := ∃ v w wr, Kp ts pts a v ∧ Ac ts pts a w wr ∧ yY ts pts (a, v, L) ∧ BU ts pts (a, L) ∧ pts[L]!.y = (w : Int) ∧ (wr = true ∨ pts[L]!.op = 5)
structure Bs (ts : List Int) (N : Int) (s : Mc) : Prop where
 w : Own ts s none
 i : ∀ v, v < ts.length → ts[v]! = 1 → 0 ≤ s.slots[v]!.num ∧ s.slots[v]!.num ≤ 9
 sm : ShM N s.cells
 f : ∀ v, v < ts.length → 3 ≤ ts[v]! → s.slots[v]!.set = true → 0 ≤ s.slots[v]!.ptr.cell ∧ s.slots[v]!.ptr.cell < s.cells.length ∧ 1 ≤ s.slots[v]!.ptr.tag ∧ s.slots[v]!.ptr.tag < s.cells[gT s.slots v]!.next
 d : ∀ v u, v < ts.length → u < ts.length → ts[v]! = 4 → ts[u]! = 4 → s.slots[v]!.set = true → s.slots[u]!.set = true → gT s.slots v = gT s.slots u → s.slots[v]!.ptr.tag = s.slots[u]!.ptr.tag → v = u
section
variable {ts : List Int} {pts : List Pnt} {N : Int} {a : Nat} {s : Mc}
theorem Kp.nd (w : WG ts pts) {v : Nat} (h : Kp ts pts a v) : Nd ts pts (a, v) := by
 obtain ⟨k, e, hk⟩ := h.1
 exact .step hk ⟨rfl, e, h.2.1⟩
theorem qL (hC : ∀ L, ¬ Cf ts pts a L) {u : Nat} {wr : Bool} (hA : Ac ts pts a u wr) : ∀ v, Kp ts pts a v → Ln ts pts a v u → ¬ (wr = true ∨ ts[v]! = 4) := by
 rintro v hv ⟨L, h1, h2, h3, h4⟩ h
 exact hC L ⟨v, u, wr, hv, hA, h1, h2, h3, h.elim .inl (fun q => .inr (h4 q))⟩
theorem RfI.use (w : WG ts pts) (B : Bs ts N s) (R : RfI ts (fun v => Nd ts pts (a, v)) (Ln ts pts a) s.slots s.cells) (ha : a < pts.length) (hu : dB ts s pts[a]! = false) {u : Nat} (hul : u < ts.length) (h2 : 2 ≤ ts[u]!) (huse : bQ ts pts[a]! u ≠ 0) :
  s.slots[u]!.set = true ∧ 0 ≤ s.slots[u]!.ptr.cell ∧ s.slots[u]!.ptr.cell < s.cells.length ∧ s.cells[gT s.slots u]!.alive = true ∧ iX ts s.slots u ∈ s.cells[gT s.slots u]!.stk := by
 have hset := fR hu hul huse
 by_cases q : ts[u]! = 2
 ·obtain ⟨b1, b2, b3, b4⟩ := B.w.o u hul q hset
  refine ⟨hset, b1, b2, b4, ?_⟩
  have hc : gT s.slots u < s.cells.length := by unfold gT; omega
  have h0 := B.w.h _ hc
  have hl := (B.w.k.m.at hc).l
  have e : iX ts s.slots u = s.cells[gT s.slots u]!.stk[0]! := by rw [h0]; unfold iX; rw [b3, q]; rfl
  rw [e]; exact b9 _ _ (by omega)
 ·obtain ⟨f1, f2, _⟩ := B.f u hul (by omega) hset
  obtain ⟨l1, l2⟩ := R.l u hul (by omega) hset (.base ⟨ha, hul, huse⟩)
  exact ⟨hset, f1, f2, l1, l2⟩
theorem Lb {m : List Cl} (hm : OkM m) {x : Pt} {b : Bool} {wr : Bool} (h1 : 0 ≤ x.cell ∧ x.cell < m.length) (h2 : m[x.cell.toNat]!.alive = true) (h3 : (⟨x.tag, b⟩ : Tg) ∈ m[x.cell.toNat]!.stk) (hw : wr = true → b = true) : cS m x wr = 0 := by
 have hc := hm.at (k := x.cell.toNat) (by omega)
 obtain ⟨t1, t2, t3⟩ := tD hc.d h3
 dsimp only at t1 t3
 unfold cS
 rw [if_neg (fun q => q h1), if_neg (by rw [h2]; decide), if_neg (by omega), if_neg]
 rintro ⟨e1, e2⟩
 rw [t3] at e2
 dsimp only at e2
 rw [hw e1] at e2; cases e2
theorem RfI.code (w : WG ts pts) (B : Bs ts N s) (R : RfI ts (fun v => Nd ts pts (a, v)) (Ln ts pts a) s.slots s.cells) (ha : a < pts.length) (hu : dB ts s pts[a]! = false) {u : Nat} (hul : u < ts.length) (h2 : 2 ≤ ts[u]!) (huse : bQ ts pts[a]! u ≠ 0) {wr : Bool} (hw : wr = true → ts[u]! ≠ 3) : cS s.cells s.slots[u]!.ptr wr = 0 := by
 obtain ⟨h3, h4, h5, h6, h7⟩ := R.use w B ha hu hul h2 huse
 exact Lb B.w.k.m ⟨h4, h5⟩ h6 h7 (fun e => by have := hw e; simpa using this)
end
end Go.AL
namespace Go.AL
section
variable {ts : List Int} {pts : List Pnt} {N : Int} {a k : Nat} {s : Mc}
theorem Lm {m : List Cl} (h : OkM m) (c : Nat) : (m[c]!.stk.map (·.id)).Nodup := by
 by_cases q : c < m.length
 ·exact (h.at q).d
 ·rw [getElem!_neg m c q]; exact List.nodup_nil
theorem Ln.step (he : edge pts a k) {v w : Nat} (h : Ln ts pts a v w) (hv : bD pts[a]! ≠ (v : Int)) (hv2 : bQ ts pts[a]! v ≠ 2) (hw : bD pts[a]! ≠ (w : Int)) (hw2 : bQ ts pts[a]! w ≠ 2) : Ln ts pts k v w := by
 obtain ⟨L, h1, h2, h3, h4⟩ := h
 refine ⟨L, .step h1 ⟨rfl, he, .inl ⟨hv, rfl, hv2⟩⟩, .step h2 ⟨rfl, he, ?_, ?_⟩, h3, h4⟩
 ·rw [h3]; exact hw2
 ·rw [h3]; exact hw
theorem RfI.fin (he : edge pts a k) {sl sl' : List Sl} {m' : List Cl} {y : Sl} (hm : OkM m') (hs : ∀ v, v < ts.length → sl'[v]! = if bD pts[a]! = (v : Int) then y else if bQ ts pts[a]! v = 2 then jZ else sl[v]!)
  (R : RfI ts (Kp ts pts a) (Ln ts pts a) sl m')
  (hX : ∀ v : Nat, bD pts[a]! = (v : Int) → v < ts.length → 3 ≤ ts[v]! → m'[gT sl' v]!.alive = true ∧ iX ts sl' v ∈ m'[gT sl' v]!.stk)
  (hXw : ∀ v w : Nat, bD pts[a]! = (v : Int) → v < ts.length → w < ts.length → 3 ≤ ts[v]! → (ts[w]! = 2 ∨ ts[w]! = 4) → bD pts[a]! ≠ (w : Int) → bQ ts pts[a]! w ≠ 2 → sl[w]!.set = true → sl'[w]! = sl[w]! → gT sl' v = gT sl' w → [iX ts sl' w, iX ts sl' v].Sublist m'[gT sl' v]!.stk → Ln ts pts k v w)
  (hvX : ∀ v w : Nat, bD pts[a]! = (w : Int) → v < ts.length → w < ts.length → 3 ≤ ts[v]! → (ts[w]! = 2 ∨ ts[w]! = 4) → Kp ts pts a v → sl[v]!.set = true → sl'[v]! = sl[v]! → gT sl' v = gT sl' w → ¬ [iX ts sl' w, iX ts sl' v].Sublist m'[gT sl' v]!.stk) :
  RfI ts (fun v => Nd ts pts (k, v)) (Ln ts pts k) sl' m' := by
 have old : ∀ v, v < ts.length → sl'[v]!.set = true → bD pts[a]! ≠ (v : Int) → bQ ts pts[a]! v ≠ 2 ∧ sl'[v]! = sl[v]! := fun v hv h1 h2 => by
  have e := hs v hv
  rw [if_neg h2] at e
  by_cases q : bQ ts pts[a]! v = 2
  ·rw [if_pos q] at e; rw [e] at h1; cases h1
  ·rw [if_neg q] at e; exact ⟨q, e⟩
 refine ⟨fun v h1 h2 h3 h4 => ?_, fun v w h1 h2 h3 h4 h5 h6 h7 h8 h9 => ?_⟩
 ·by_cases q : bD pts[a]! = (v : Int)
  ·exact hX v q h1 h2
  ·obtain ⟨q2, e⟩ := old v h1 h3 q
   have := R.l v h1 h2 (by rw [← e]; exact h3) ⟨⟨k, he, h4⟩, q, q2⟩
   unfold gT iX at this ⊢
   rw [e]; exact this
 ·by_cases q : bD pts[a]! = (v : Int)
  ·by_cases q' : bD pts[a]! = (w : Int)
   ·exfalso
    have e : v = w := by omega
    subst e
    exact KZ (Lm hm _) h9 rfl
   ·obtain ⟨q2, e⟩ := old w h2 h6 q'
    exact hXw v w q h1 h2 h3 h4 q' q2 (by rw [← e]; exact h6) e h8 h9
  ·obtain ⟨q2, e⟩ := old v h1 h5 q
   have hk : Kp ts pts a v := ⟨⟨k, he, h7⟩, q, q2⟩
   by_cases q' : bD pts[a]! = (w : Int)
   ·exact absurd h9 (hvX v w q' h1 h2 h3 h4 hk (by rw [← e]; exact h5) e h8)
   ·obtain ⟨q3, e'⟩ := old w h2 h6 q'
    refine Ln.step he (R.c v w h1 h2 h3 h4 (by rw [← e]; exact h5) (by rw [← e']; exact h6) hk ?_ ?_) q q2 q' q3
    ·unfold gT at h8 ⊢; rw [e, e'] at h8; exact h8
    ·unfold gT iX at h9 ⊢; rw [e, e'] at h9; exact h9
theorem RfI.fin1 (he : edge pts a k) {sl sl' : List Sl} {m' : List Cl} {y : Sl} (hm : OkM m') (hs : ∀ v, v < ts.length → sl'[v]! = if bD pts[a]! = (v : Int) then y else if bQ ts pts[a]! v = 2 then jZ else sl[v]!)
  (R : RfI ts (Kp ts pts a) (Ln ts pts a) sl m') (h1 : ∀ v : Nat, bD pts[a]! = (v : Int) → v < ts.length → ts[v]! = 1) : RfI ts (fun v => Nd ts pts (k, v)) (Ln ts pts k) sl' m' :=
 RfI.fin he hm hs R (fun v e hv h3 => by have := h1 v e hv; omega) (fun v w e hv _ h3 => by have := h1 v e hv; omega) (fun v w e _ hw _ h3 => by have := h1 w e hw; omega)
theorem pQ (ts : List Int) (s : Mc) (v : Nat) (x : Sl) : (dN ts s v x).1.cells = if ts[v]! = 2 ∧ s.slots[v]!.set = true then jG s.cells s.slots[v]!.ptr else s.cells := by
 unfold dN; split <;> rfl
theorem RfI.put (V : Vs ts pts a s) (B : Bs ts N s) {m : List Cl} (hm : OkM m) (hd : Hd m) (R : RfI ts (Kp ts pts a) (Ln ts pts a) s.slots m) (hl : s.cells.length ≤ m.length) (hal : ∀ c, c < s.cells.length → m[c]!.alive = s.cells[c]!.alive) (hC : ∀ L, ¬ Cf ts pts a L) {X : Nat} (hX : X < ts.length) (hset : bD pts[a]! = (X : Int)) :
  RfI ts (Kp ts pts a) (Ln ts pts a) s.slots (if ts[X]! = 2 ∧ s.slots[X]!.set = true then jG m s.slots[X]!.ptr else m) := by
 split
 ·rename_i q
  obtain ⟨b1, b2, b3, b4⟩ := B.w.o X hX q.1 q.2
  refine R.fr hd (fun _ h => h) (fun v h1 h2 h3 => (B.f v h1 h2 h3).2.2.1) hX q.1 q.2 (Hb hm hd ⟨b1, by omega⟩ b3 ?_ true) b3 fun v hv hg => ?_
  ·rw [hal _ (by omega)]; exact b4
  ·exact qL hC (.inr (.inr (.inr (.inr ⟨hset, q.1, V.m X hX q.2, rfl⟩)))) v hv hg (.inl rfl)
 ·exact R
end
end Go.AL
namespace Go.AL
section
variable {ts : List Int} {pts : List Pnt} {N : Int} {a k : Nat} {s : Mc}
theorem fS {x : Pnt} (h : 1 ≤ x.op ∧ x.op ≤ 6) : bD x = x.x := by unfold bD; rw [if_pos h]
theorem oB {x : Pnt} (h : 7 ≤ x.op) : bD x = -1 := by unfold bD; rw [if_neg (by omega)]
theorem Mh {c : Int} (h : l7 c = -1) : c = 0 := by
 apply Classical.byContradiction; intro q
 unfold l7 at h; rw [if_neg q] at h
 rcases lR c with e | e <;> (rw [e] at h; cases h)
theorem nD {c : Int} (h : jI c = -1) : False := by rcases lR c with e | e <;> (rw [e] at h; cases h)
theorem jK {x : Pnt} (h : x.op = 4 ∨ x.op = 5 ∨ x.op = 6) {v : Nat} (hv : (v : Int) = x.y) : bQ ts x v ≠ 0 := by
 unfold bQ; rw [if_neg (by omega), if_pos h, if_pos hv]; decide
theorem xM {x : Pnt} (h : x.op = 3) {v : Nat} (hv : (v : Int) = x.y) : bQ ts x v ≠ 0 := by
 unfold bQ; rw [if_pos h, if_pos hv]; split <;> decide
theorem K9 {x : Pnt} (h : x.op = 3) {v : Nat} (hv : (v : Int) = x.y) (ht : ts[v]! = 2 ∨ ts[v]! = 4) : bQ ts x v = 2 := by
 unfold bQ; rw [if_pos h, if_pos hv]
 have e : (v : Int).toNat = v := by omega
 rw [e, if_pos ht]
theorem Av {x : Pnt} (h : x.op = 7) {v : Nat} (hv : (v : Int) = x.x) : bQ ts x v ≠ 0 := by
 unfold bQ; rw [if_neg (by omega), if_neg (by omega), if_pos h, if_pos hv]; decide
theorem Ho {x : Pnt} (h : x.op = 8) {v : Nat} (hv : (v : Int) = x.x) : bQ ts x v ≠ 0 := by
 unfold bQ; rw [if_neg (by omega), if_neg (by omega), if_neg (by omega), if_pos h, if_pos hv]; decide
theorem RfI.loan (w : WG ts pts) (A : WA ts pts) (he : edge pts a k) (B : Bs ts N s) (R : RfI ts (fun v => Nd ts pts (a, v)) (Ln ts pts a) s.slots s.cells) (hC : ∀ L, ¬ Cf ts pts a L) (hu : dB ts s pts[a]! = false)
  {wr : Bool} (h4 : pts[a]!.op = 4 ∧ wr = false ∨ pts[a]!.op = 5 ∧ wr = true) {sl' : List Sl} {y : Sl} (hs : ∀ v, v < ts.length → sl'[v]! = if bD pts[a]! = (v : Int) then y else if bQ ts pts[a]! v = 2 then jZ else s.slots[v]!)
  (hk : rX s.cells s.slots[pts[a]!.y.toNat]!.ptr wr = 0) (hy : y.ptr = BT s.cells s.slots[pts[a]!.y.toNat]!.ptr wr) :
  RfI ts (fun v => Nd ts pts (k, v)) (Ln ts pts k) sl' (nX s.cells s.slots[pts[a]!.y.toNat]!.ptr wr) := by
 have ha := he.1
 have hT : ∀ v, v < ts.length → ts[v]! ≤ 4 := fun v hv => (w.ty v hv).2
 have PA := A.a a ha
 have hx := w.x a ha
 have hyb := w.y a ha
 have hyl : pts[a]!.y.toNat < ts.length := by have := hyb.2 (by omega) (by omega); omega
 have hyn : ((pts[a]!.y.toNat : Nat) : Int) = pts[a]!.y := by omega
 have hxn : ((pts[a]!.x.toNat : Nat) : Int) = pts[a]!.x := by omega
 have hst := fS (x := pts[a]!) (by omega)
 have hty : 2 ≤ ts[pts[a]!.y.toNat]! := by
  rcases h4 with ⟨h, _⟩ | ⟨h, _⟩
  ·exact (PA.t4 h).2.2
  ·have := (PA.t5 h).2.2; omega
 have hne : pts[a]!.x ≠ pts[a]!.y := by
  rcases h4 with ⟨h, _⟩ | ⟨h, _⟩
  ·exact (PA.t4 h).2.1
  ·exact (PA.t5 h).2.1
 have huse : bQ ts pts[a]! (pts[a]!.y.toNat : Nat) ≠ 0 := jK (by omega) hyn
 obtain ⟨q1, q2, q3, q4, q5⟩ := R.use w B ha hu hyl hty huse
 have hwr : wr = true → ts[pts[a]!.y.toNat]! ≠ 3 := fun e => by
  rcases h4 with ⟨_, h⟩ | ⟨h, _⟩
  ·rw [e] at h; cases h
  ·have := (PA.t5 h).2.2; omega
 have hAc : Ac ts pts a pts[a]!.y.toNat wr := by
  rcases h4 with ⟨h, e⟩ | ⟨h, e⟩
  ·exact .inl ⟨.inl h, hyn.symm, e⟩
  ·exact .inr (.inl ⟨h, hyn.symm, e⟩)
 have htx : ∀ v : Nat, bD pts[a]! = (v : Int) → ts[v]! = 3 ∧ wr = false ∨ ts[v]! = 4 ∧ wr = true ∧ pts[a]!.op = 5 := fun v e => by
  have e' : pts[a]!.x.toNat = v := by rw [← hst, e]; omega
  rcases h4 with ⟨h, e2⟩ | ⟨h, e2⟩
  ·have := (PA.t4 h).1; rw [e'] at this; exact .inl ⟨this, e2⟩
  ·have := (PA.t5 h).1; rw [e'] at this; exact .inr ⟨this, e2, h⟩
 have hnt : ∀ v : Nat, bQ ts pts[a]! v ≠ 2 := fun v => by
  unfold bQ; rw [if_neg (by omega), if_pos (by omega)]; split <;> decide
 generalize hY : pts[a]!.y.toNat = Y at *
 have h0 := nW hk
 have hx0 := eG h0
 have hcY := B.w.k.m.at hx0.2.2
 obtain ⟨t1, t2, t3⟩ := tD hcY.d q5
 have R1 := R.tch hT B.w.k.m B.sm (fun v (h : Kp ts pts a v) => h.nd w) hyl hty q1 h0 q5 hwr (qL hC hAc)
 have R2 := R1.ln hk (fun v h1 h2 h3 => (B.f v h1 h2 h3).2.2.2)
 have hyp : y.ptr = ⟨s.slots[Y]!.ptr.cell, s.cells[s.slots[Y]!.ptr.cell.toNat]!.next⟩ := by rw [hy]; unfold BT; rw [if_pos hk]
 have new : ∀ v : Nat, bD pts[a]! = (v : Int) → v < ts.length → gT sl' v = s.slots[Y]!.ptr.cell.toNat ∧ iX ts sl' v = ⟨s.cells[s.slots[Y]!.ptr.cell.toNat]!.next, wr⟩ := fun v e hv => by
  have e1 := hs v hv
  rw [if_pos e] at e1
  unfold gT iX
  rw [e1, hyp]
  refine ⟨rfl, ?_⟩
  rcases htx v e with ⟨h, e2⟩ | ⟨h, e2, _⟩ <;> (rw [h, e2]; rfl)
 have frs : ∀ t ∈ (iT s.cells[s.slots[Y]!.ptr.cell.toNat]! s.slots[Y]!.ptr wr).stk, t.id < s.cells[s.slots[Y]!.ptr.cell.toNat]!.next := fun t ht => (hcY.i t (tchS_sub.subset ht)).2
 have hat := Du hk s.slots[Y]!.ptr.cell.toNat
 rw [if_pos rfl] at hat
 refine RfI.fin he (B.w.k.m.ln _ _) hs R2 (fun v e hv h3 => ?_) (fun v u e hv hul h3 hut hu1 hu2 hu3 hu4 hce hsub => ?_) (fun v u e hv hul h3 hut hkp hv3 hv4 hce hsub => ?_)
 ·obtain ⟨n1, n2⟩ := new v e hv
  rw [n1, n2, hat]
  exact ⟨q4, List.mem_append_right _ (List.mem_singleton_self _)⟩
 ·obtain ⟨n1, n2⟩ := new v e hv
  rw [n1, n2, hat] at hsub
  have hceu : gT s.slots u = s.slots[Y]!.ptr.cell.toNat := by rw [← n1, hce]; unfold gT; rw [hu4]
  have htu : iX ts sl' u = iX ts s.slots u := by unfold iX; rw [hu4]
  rw [htu] at hsub
  have hsub' : [iX ts s.slots u, ⟨s.cells[s.slots[Y]!.ptr.cell.toNat]!.next, wr⟩].Sublist ((iT s.cells[s.slots[Y]!.ptr.cell.toNat]! s.slots[Y]!.ptr wr).stk ++ [⟨s.cells[s.slots[Y]!.ptr.cell.toNat]!.next, wr⟩]) := hsub
  rcases zG hsub' with e2 | ⟨_, hin⟩
  ·have := frs _ (Da e2).2
   dsimp only at this; omega
  ·have huq : (iX ts s.slots u).uq = true := by
    unfold iX; dsimp only
    rcases hut with h | h <;> (rw [h]; rfl)
   have t3' : s.cells[s.slots[Y]!.ptr.cell.toNat]!.stk[(dM s.cells[s.slots[Y]!.ptr.cell.toNat]!.stk s.slots[Y]!.ptr.tag).toNat]! = iX ts s.slots Y := t3
   rcases xB t2 hin (fun _ => huq) with e2 | e2
   ·rw [t3] at e2
    have eid : s.slots[u]!.ptr.tag = s.slots[Y]!.ptr.tag := by
     have : (iX ts s.slots u).id = (iX ts s.slots Y).id := by rw [e2]
     exact this
    have hY3 : ts[Y]! ≠ 3 := fun q => by
     rw [e2] at huq
     unfold iX at huq; dsimp only at huq; rw [q] at huq; cases huq
    have hTY := hT Y hyl
    have euY : u = Y := by
     by_cases qY : ts[Y]! = 2
     ·obtain ⟨b1, b2, b3, b4⟩ := B.w.o Y hyl qY q1
      rcases hut with hut | hut
      ·obtain ⟨c1, c2, c3, c4⟩ := B.w.o u hul hut hu3
       exact B.w.d u Y hul hyl hut qY hu3 q1 (by unfold gT at hceu; omega)
      ·have := (B.f u hul (by omega) hu3).2.2.1; omega
     ·have hY4 : ts[Y]! = 4 := by omega
      rcases hut with hut | hut
      ·obtain ⟨c1, c2, c3, c4⟩ := B.w.o u hul hut hu3
       have := (B.f Y hyl (by omega) q1).2.2.1; omega
      ·exact B.d u Y hul hyl hut hY4 hu3 q1 hceu eid
    subst euY
    have hln : dZ pts[a]! = true := by unfold dZ; rcases h4 with ⟨h, _⟩ | ⟨h, _⟩ <;> (rw [h]; rfl)
    refine ⟨a, .base ⟨he, hln, e⟩, .base ⟨he, hln⟩, hyn.symm, fun h => ?_⟩
    rcases htx v e with ⟨h5, _⟩ | ⟨_, _, h5⟩
    ·omega
    ·exact h5
   ·rw [t3] at e2
    have hY2 : ts[Y]! ≠ 2 := fun q => by
     obtain ⟨b1, b2, b3, b4⟩ := B.w.o Y hyl q q1
     have e0 := B.w.h _ hx0.2.2
     refine J8 hcY.d (by have := hcY.l; omega) e2 ?_
     rw [e0]; unfold iX; rw [b3, q]; rfl
    obtain ⟨L, l1, l2, l3, l4⟩ := R.c Y u hyl hul (by omega) hut q1 hu3 (.base ⟨ha, hyl, huse⟩) hceu.symm e2
    have hTY := hT Y hyl
    refine ⟨L, .step l1 ⟨rfl, he, .inr ⟨e, hyn, .inl ⟨?_, ?_⟩⟩⟩, .step l2 ⟨rfl, he, ?_, ?_⟩, l3, fun h => ?_⟩
    ·unfold dZ; rcases h4 with ⟨h, _⟩ | ⟨h, _⟩ <;> (rw [h]; rfl)
    ·show nV ts[Y]! = true
     unfold nV; rw [Bool.or_eq_true, decide_eq_true_eq, decide_eq_true_eq]; omega
    ·rw [l3]; exact hu2
    ·rw [l3]; exact hu1
    ·refine l4 ?_
     rcases htx v e with ⟨h5, _⟩ | ⟨_, h5, _⟩
     ·omega
     ·have := hwr h5; omega
 ·obtain ⟨n1, n2⟩ := new u e hul
  rw [hce, n1, n2, hat] at hsub
  have hsub' : [⟨s.cells[s.slots[Y]!.ptr.cell.toNat]!.next, wr⟩, iX ts sl' v].Sublist ((iT s.cells[s.slots[Y]!.ptr.cell.toNat]! s.slots[Y]!.ptr wr).stk ++ [⟨s.cells[s.slots[Y]!.ptr.cell.toNat]!.next, wr⟩]) := hsub
  rcases zG hsub' with e2 | ⟨_, hin⟩
  ·have := frs _ (Da e2).1
   dsimp only at this; omega
  ·have := frs _ hin
   dsimp only at this; omega
end
end Go.AL
namespace Go.AL
section
variable {ts : List Int} {pts : List Pnt} {N : Int} {a k : Nat} {s : Mc}
def yF (s : Mc) (x : Pnt) : Sl :=
 if x.op = 1 then ⟨true, x.n, ⟨0, 0⟩⟩ else if x.op = 2 then ⟨true, 0, ⟨s.cells.length, 0⟩⟩ else if x.op = 3 then s.slots[x.y.toNat]!
 else if x.op = 4 ∨ x.op = 5 then ⟨true, 0, BT s.cells s.slots[x.y.toNat]!.ptr (decide (x.op = 5))⟩ else ⟨true, wC s.cells s.slots[x.y.toNat]!.ptr, ⟨0, 0⟩⟩
theorem WG.doY (w : WG ts pts) (A : WA ts pts) {a : Nat} (ha : a < pts.length) {s : Mc} (hl : s.slots.length = ts.length) (hu : dB ts s pts[a]! = false) (h11 : pts[a]!.op ≠ 11) (hgo : (dF ts s pts[a]!).2 = -1) :
  ∀ v, v < ts.length → (dF ts s pts[a]!).1.slots[v]! = if bD pts[a]! = (v : Int) then yF s pts[a]! else if bQ ts pts[a]! v = 2 then jZ else s.slots[v]! := by
 obtain ⟨y, hy, hs⟩ := w.doS A ha hl hu h11 hgo
 have hx := w.x a ha
 have hxb := hx.2
 intro v hv
 by_cases q : bD pts[a]! = (v : Int)
 ·rw [if_pos q]
  have hop : 1 ≤ pts[a]!.op ∧ pts[a]!.op ≤ 6 := by
   apply Classical.byContradiction; intro h
   unfold bD at q; rw [if_neg h] at q; omega
  rw [fS hop] at q
  have hxv : pts[a]!.x.toNat = v := by omega
  have hh := hgo
  unfold dF at hh ⊢
  unfold yF
  by_cases h1 : pts[a]!.op = 1
  ·rw [if_pos h1, if_pos h1, fH, hxv, c8, if_pos ⟨rfl, by omega⟩]
  rw [if_neg h1] at hh ⊢
  rw [if_neg h1]
  by_cases h2 : pts[a]!.op = 2
  ·rw [if_pos h2] at hh ⊢
   rw [if_pos h2]
   split at hh
   ·cases hh
   ·rename_i h200
    rw [if_neg h200, fH, hxv, c8, if_pos ⟨rfl, by dsimp only; omega⟩]
  rw [if_neg h2] at hh ⊢
  rw [if_neg h2]
  by_cases h3 : pts[a]!.op = 3
  ·rw [if_pos h3, if_pos h3, fH, hxv, c8, if_pos]
   refine ⟨rfl, ?_⟩
   split
   ·dsimp only; rw [List.length_set]; omega
   ·omega
  rw [if_neg h3] at hh ⊢
  rw [if_neg h3]
  by_cases h4 : pts[a]!.op = 4 ∨ pts[a]!.op = 5
  ·rw [if_pos h4] at hh ⊢
   rw [if_pos h4]
   split at hh
   ·rename_i hz
    rw [if_pos hz, fH, hxv, c8, if_pos ⟨rfl, by dsimp only; omega⟩]
   ·exact (nD hh).elim
  rw [if_neg h4] at hh ⊢
  rw [if_neg h4]
  have h6 : pts[a]!.op = 6 := by omega
  rw [if_pos h6] at hh ⊢
  split at hh
  ·rename_i hz
   rw [if_pos hz, fH, hxv, c8, if_pos ⟨rfl, by dsimp only; omega⟩]
  ·exact (nD hh).elim
 ·rw [hs v hv, if_neg q, if_neg q]
theorem FW {x : Pnt} (PA : PtA ts x) (h : x.op = 1) : (dF ts s x).1.cells = s.cells := by
 unfold dF; rw [if_pos h, pQ, if_neg (fun q => by rw [PA.t1 h] at q; exact absurd q.1 (by decide))]
theorem GD {x : Pnt} (h : x.op = 2) (hgo : (dF ts s x).2 = -1) : (dF ts s x).1.cells = if ts[x.x.toNat]! = 2 ∧ s.slots[x.x.toNat]!.set = true then jG (s.cells ++ [pX x.n]) s.slots[x.x.toNat]!.ptr else s.cells ++ [pX x.n] := by
 unfold dF at hgo ⊢
 rw [if_neg (by omega), if_pos h] at hgo ⊢
 split at hgo
 ·cases hgo
 ·rename_i h200
  rw [if_neg h200, pQ]
theorem HM {x : Pnt} (h : x.op = 3) (hne : x.x.toNat ≠ x.y.toNat) : (dF ts s x).1.cells = if ts[x.x.toNat]! = 2 ∧ s.slots[x.x.toNat]!.set = true then jG s.cells s.slots[x.x.toNat]!.ptr else s.cells := by
 unfold dF
 rw [if_neg (by omega), if_neg (by omega), if_pos h, pQ]
 split
 ·have e : (s.slots.set x.y.toNat jZ)[x.x.toNat]! = s.slots[x.x.toNat]! := by rw [c8, if_neg (fun q => hne q.1.symm)]
  dsimp only; rw [e]
 ·rfl
theorem wH {x : Pnt} (PA : PtA ts x) (h : x.op = 4 ∨ x.op = 5) (hgo : (dF ts s x).2 = -1) : rX s.cells s.slots[x.y.toNat]!.ptr (decide (x.op = 5)) = 0 ∧ (dF ts s x).1.cells = nX s.cells s.slots[x.y.toNat]!.ptr (decide (x.op = 5)) := by
 have hxt : ts[x.x.toNat]! ≠ 2 := by
  rcases h with h4 | h4
  ·rw [(PA.t4 h4).1]; decide
  ·rw [(PA.t5 h4).1]; decide
 unfold dF at hgo ⊢
 rw [if_neg (by omega), if_neg (by omega), if_neg (by omega), if_pos h] at hgo ⊢
 split at hgo
 ·rename_i hz
  rw [if_pos hz, pQ, if_neg (fun q => hxt q.1)]
  exact ⟨hz, rfl⟩
 ·exact (nD hgo).elim
theorem oW {x : Pnt} (PA : PtA ts x) (h : x.op = 6) (hgo : (dF ts s x).2 = -1) : cS s.cells s.slots[x.y.toNat]!.ptr false = 0 ∧ (dF ts s x).1.cells = gG s.cells s.slots[x.y.toNat]!.ptr false := by
 have hxt : ts[x.x.toNat]! ≠ 2 := by rw [(PA.t6 h).1]; decide
 unfold dF at hgo ⊢
 rw [if_neg (by omega), if_neg (by omega), if_neg (by omega), if_neg (by omega), if_pos h] at hgo ⊢
 split at hgo
 ·rename_i hz
  rw [if_pos hz, pQ, if_neg (fun q => hxt q.1)]
  exact ⟨hz, rfl⟩
 ·exact (nD hgo).elim
theorem Df {x : Pnt} (h : x.op = 7) (hgo : (dF ts s x).2 = -1) : r7 s.cells s.slots[x.x.toNat]!.ptr s.slots[x.y.toNat]!.num = 0 ∧ (dF ts s x).1.cells = qK s.cells s.slots[x.x.toNat]!.ptr s.slots[x.y.toNat]!.num := by
 unfold dF at hgo ⊢
 rw [if_neg (by omega), if_neg (by omega), if_neg (by omega), if_neg (by omega), if_neg (by omega), if_pos h] at hgo ⊢
 exact ⟨Mh hgo, rfl⟩
theorem Gv {x : Pnt} (h : x.op = 8) (hgo : (dF ts s x).2 = -1) : cS s.cells s.slots[x.x.toNat]!.ptr true = 0 ∧ (dF ts s x).1.cells = jG s.cells s.slots[x.x.toNat]!.ptr := by
 unfold dF at hgo ⊢
 rw [if_neg (by omega), if_neg (by omega), if_neg (by omega), if_neg (by omega), if_neg (by omega), if_neg (by omega), if_pos h] at hgo ⊢
 exact ⟨Mh hgo, rfl⟩
theorem wL {x : Pnt} (h : 9 ≤ x.op) (h11 : x.op ≠ 11) : dF ts s x = (s, -1) := by
 unfold dF
 rw [if_neg (by omega), if_neg (by omega), if_neg (by omega), if_neg (by omega), if_neg (by omega), if_neg (by omega), if_neg (by omega), if_neg h11]
theorem RfI.step (w : WG ts pts) (A : WA ts pts) (he : edge pts a k) (h11 : pts[a]!.op ≠ 11) (B : Bs ts N s) (V : Vs ts pts a s) (R : RfI ts (fun v => Nd ts pts (a, v)) (Ln ts pts a) s.slots s.cells) (hC : ∀ L, ¬ Cf ts pts a L) (hu : dB ts s pts[a]! = false) (hgo : (dF ts s pts[a]!).2 = -1) :
  RfI ts (fun v => Nd ts pts (k, v)) (Ln ts pts k) (dF ts s pts[a]!).1.slots (dF ts s pts[a]!).1.cells := by
 have ha := he.1
 have hT : ∀ v, v < ts.length → ts[v]! ≤ 4 := fun v hv => (w.ty v hv).2
 have PA := A.a a ha
 have hx := w.x a ha
 have hyb := w.y a ha
 have hop := w.op a ha
 have hs := w.doY A ha B.w.k.l hu h11 hgo
 have hmm : OkM (dF ts s pts[a]!).1.cells := (B.w.do PA h11 (fun h => ⟨hx.1, hx.2 h⟩) hop.1 (fun h1 h2 => ⟨hyb.1, hyb.2 h1 h2⟩) hu).k.m
 have hP : ∀ v, Kp ts pts a v → Nd ts pts (a, v) := fun v h => h.nd w
 have R0 : RfI ts (Kp ts pts a) (Ln ts pts a) s.slots s.cells := R.mono hP
 have hxn : ((pts[a]!.x.toNat : Nat) : Int) = pts[a]!.x := by omega
 have hyn : ((pts[a]!.y.toNat : Nat) : Int) = pts[a]!.y := by omega
 have hno : 7 ≤ pts[a]!.op → ∀ v : Nat, bD pts[a]! = (v : Int) → v < ts.length → ts[v]! = 1 := fun h v e => by rw [oB h] at e; omega
 by_cases h1 : pts[a]!.op = 1
 ·rw [FW PA h1] at hmm ⊢
  refine RfI.fin1 he hmm hs R0 fun v q hv => ?_
  rw [fS (by omega)] at q
  rw [show v = pts[a]!.x.toNat by omega]; exact PA.t1 h1
 by_cases h2 : pts[a]!.op = 2
 ·have hxl : pts[a]!.x.toNat < ts.length := by have := hx.2 (by omega); omega
  have e2 := PA.t2 (.inl h2)
  have hset : bD pts[a]! = ((pts[a]!.x.toNat : Nat) : Int) := by rw [fS (by omega)]; omega
  have hv2 : ∀ v : Nat, bD pts[a]! = (v : Int) → v = pts[a]!.x.toNat := fun v e => by omega
  have R1 := R0.nw (fun v q1 q2 q3 => by have := B.f v q1 q2 q3; unfold gT; omega) (pX pts[a]!.n)
  have h200 : s.cells.length ≠ 200 := fun q => by
   unfold dF at hgo; rw [if_neg h1, if_pos h2, if_pos q] at hgo; cases hgo
  have hm1 := B.w.k.m.nw (PA.n (.inr h2)) (by have := B.w.k.m.l; omega)
  have R2 := R1.put V B hm1 (B.w.h.nw _) (by rw [List.length_append]; omega) (fun c hc => by rw [l8 hc]) hC hxl hset
  rw [GD h2 hgo] at hmm ⊢
  refine RfI.fin he hmm hs R2 (fun v e hv h3 => ?_) (fun v u e hv hul h3 => ?_) (fun v u e hv hul h3 hut hkp hv3 hv4 hce => ?_)
  ·rw [hv2 v e] at h3; omega
  ·rw [hv2 v e] at h3; omega
  ·exfalso
   have e1 := hs u hul
   rw [if_pos e] at e1
   have e3 : yF s pts[a]! = ⟨true, 0, ⟨s.cells.length, 0⟩⟩ := by unfold yF; rw [if_neg h1, if_pos h2]
   have := B.f v hv h3 hv3
   unfold gT at hce
   rw [hv4, e1, e3] at hce
   dsimp only at hce; omega
 by_cases h3 : pts[a]!.op = 3
 ·have hxl : pts[a]!.x.toNat < ts.length := by have := hx.2 (by omega); omega
  have hyl : pts[a]!.y.toNat < ts.length := by have := hyb.2 (by omega) (by omega); omega
  obtain ⟨et, hne⟩ := PA.t3 h3
  have hset : bD pts[a]! = ((pts[a]!.x.toNat : Nat) : Int) := by rw [fS (by omega)]; omega
  have hv2 : ∀ v : Nat, bD pts[a]! = (v : Int) → v = pts[a]!.x.toNat := fun v e => by omega
  have huse : bQ ts pts[a]! (pts[a]!.y.toNat : Nat) ≠ 0 := xM h3 hyn
  have R2 := R0.put V B B.w.k.m B.w.h (Nat.le_refl _) (fun _ _ => rfl) hC hxl hset
  have ey : yF s pts[a]! = s.slots[pts[a]!.y.toNat]! := by unfold yF; rw [if_neg h1, if_neg h2, if_pos h3]
  have new : ∀ v : Nat, bD pts[a]! = (v : Int) → v < ts.length → gT (dF ts s pts[a]!).1.slots v = gT s.slots pts[a]!.y.toNat ∧ iX ts (dF ts s pts[a]!).1.slots v = iX ts s.slots pts[a]!.y.toNat := fun v e hv => by
   have e1 := hs v hv
   rw [if_pos e, ey] at e1
   unfold gT iX
   rw [e1, hv2 v e, et]
   exact ⟨rfl, rfl⟩
  have ec := HM (ts := ts) (s := s) h3 (fun q => hne (by omega))
  rw [ec] at hmm ⊢
  refine RfI.fin he hmm hs R2 (fun v e hv h4 => ?_) (fun v u e hv hul h4 hut hu1 hu2 hu3 hu4 hce hsub => ?_) (fun v u e hv hul h4 hut hkp hv3 hv4 hce hsub => ?_)
  ·obtain ⟨n1, n2⟩ := new v e hv
   rw [hv2 v e] at h4
   rw [n1, n2, if_neg (fun q => by omega)]
   obtain ⟨u1, u2, u3, u4, u5⟩ := R.use w B ha hu hyl (by omega) huse
   exact ⟨u4, u5⟩
  ·obtain ⟨n1, n2⟩ := new v e hv
   have h4' := h4
   rw [hv2 v e] at h4'
   obtain ⟨u1, u2, u3, u4, u5⟩ := R.use w B ha hu hyl (by omega) huse
   rw [if_neg (fun q => by omega), n1, n2] at hsub
   have htu : iX ts (dF ts s pts[a]!).1.slots u = iX ts s.slots u := by unfold iX; rw [hu4]
   have hcu : gT (dF ts s pts[a]!).1.slots u = gT s.slots u := by unfold gT; rw [hu4]
   rw [htu] at hsub
   obtain ⟨L, l1, l2, l3, l4⟩ := R.c pts[a]!.y.toNat u hyl hul (by omega) hut u1 hu3 (.base ⟨ha, hyl, huse⟩) (by rw [← n1, ← hcu]; exact hce) hsub
   refine ⟨L, .step l1 ⟨rfl, he, .inr ⟨e, hyn, .inr h3⟩⟩, .step l2 ⟨rfl, he, ?_, ?_⟩, l3, fun h => l4 ?_⟩
   ·rw [l3]; exact hu2
   ·rw [l3]; exact hu1
   ·rw [hv2 v e] at h; omega
  ·obtain ⟨n1, n2⟩ := new u e hul
   have hut' := hut
   rw [hv2 u e] at hut'
   have htv : iX ts (dF ts s pts[a]!).1.slots v = iX ts s.slots v := by unfold iX; rw [hv4]
   have hcv : gT (dF ts s pts[a]!).1.slots v = gT s.slots v := by unfold gT; rw [hv4]
   rw [n2, htv, hcv] at hsub
   have hset' := fR hu hyl huse
   have hl := R2.c v pts[a]!.y.toNat hv hyl h4 (by omega) hv3 hset' hkp (by rw [← hcv, ← n1]; exact hce) hsub
   exact qL hC (.inr (.inr (.inr (.inl ⟨h3, tG.2 (by omega), hyn.symm, rfl⟩)))) v hkp hl (.inl rfl)
 by_cases h4 : pts[a]!.op = 4 ∨ pts[a]!.op = 5
 ·obtain ⟨hk, ec⟩ := wH PA h4 hgo
  rw [ec]
  refine RfI.loan w A he B R hC hu ?_ hs hk ?_
  ·rcases h4 with h | h
   ·exact .inl ⟨h, by rw [h]; rfl⟩
   ·exact .inr ⟨h, by rw [h]; rfl⟩
  ·unfold yF; rw [if_neg h1, if_neg h2, if_neg h3, if_pos h4]
 by_cases h6 : pts[a]!.op = 6
 ·obtain ⟨hk, ec⟩ := oW PA h6 hgo
  have hyl : pts[a]!.y.toNat < ts.length := by have := hyb.2 (by omega) (by omega); omega
  have huse : bQ ts pts[a]! (pts[a]!.y.toNat : Nat) ≠ 0 := jK (by omega) hyn
  have hty := (PA.t6 h6).2
  obtain ⟨u1, u2, u3, u4, u5⟩ := R.use w B ha hu hyl hty huse
  rw [ec] at hmm ⊢
  refine RfI.fin1 he hmm hs (R.tch hT B.w.k.m B.sm hP hyl hty u1 hk u5 (fun q => by cases q) (qL hC (.inl ⟨.inr h6, hyn.symm, rfl⟩))) fun v q hv => ?_
  rw [fS (by omega)] at q
  rw [show v = pts[a]!.x.toNat by omega]; exact (PA.t6 h6).1
 by_cases h7 : pts[a]!.op = 7
 ·obtain ⟨hk, ec⟩ := Df h7 hgo
  have hxl : pts[a]!.x.toNat < ts.length := by have := hx.2 (by omega); omega
  have huse : bQ ts pts[a]! (pts[a]!.x.toNat : Nat) ≠ 0 := Av h7 hxn
  have hty := (PA.t7 h7).1
  obtain ⟨u1, u2, u3, u4, u5⟩ := R.use w B ha hu hxl (by omega) huse
  rw [ec] at hmm ⊢
  refine RfI.fin1 he hmm hs ((R.tch hT B.w.k.m B.sm hP hxl (by omega) u1 (H3 hk) u5 (fun _ => by omega) (qL hC (.inr (.inr (.inl ⟨.inl h7, hxn.symm, rfl⟩))))).cong (Mx hk)) (hno (by omega))
 by_cases h8 : pts[a]!.op = 8
 ·obtain ⟨hk, ec⟩ := Gv h8 hgo
  have hxl : pts[a]!.x.toNat < ts.length := by have := hx.2 (by omega); omega
  have huse : bQ ts pts[a]! (pts[a]!.x.toNat : Nat) ≠ 0 := Ho h8 hxn
  have hset := fR hu hxl huse
  have hty := PA.t2 (.inr h8)
  rw [ec] at hmm ⊢
  refine RfI.fin1 he hmm hs (R.fr B.w.h hP (fun v q1 q2 q3 => (B.f v q1 q2 q3).2.2.1) hxl hty hset hk (B.w.o _ hxl hty hset).2.2.1 fun v hv hg => ?_) (hno (by omega))
  exact qL hC (.inr (.inr (.inl ⟨.inr h8, hxn.symm, rfl⟩))) v hv hg (.inl rfl)
 ·have e := wL (ts := ts) (s := s) (x := pts[a]!) (by omega) h11
  rw [e] at hmm hs ⊢
  exact RfI.fin1 he hmm hs R0 (hno (by omega))
end
end Go.AL
