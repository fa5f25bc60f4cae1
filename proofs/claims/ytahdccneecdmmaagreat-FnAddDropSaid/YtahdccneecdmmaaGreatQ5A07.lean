/-
 A part of the proofs over this program: rules and contracts of its functions (the rules).
-/
import Derived.Test.YtahdccneecdmmaaGreatQ5A06
import Derived.MapKept
import Derived.Orders
import Derived.Sort.Grow
set_option linter.unusedVariables false
set_option linter.unusedSimpArgs false
namespace Go.AL
structure Tg where
 id : Int
 uq : Bool
 deriving Inhabited, DecidableEq
structure Cl where
 val : Int
 alive : Bool
 next : Int
 stk : List Tg
 deriving Inhabited, DecidableEq
structure Pt where
 cell : Int
 tag : Int
 deriving Inhabited, DecidableEq
structure Sl where
 set : Bool
 num : Int
 ptr : Pt
 deriving Inhabited, DecidableEq
def dA (t : Tg) : List AV := [iv t.id, bv t.uq]
def cY (c : Cl) : List AV := [iv c.val, bv c.alive, iv c.next, sl dA c.stk]
def eE (s : Sl) : List AV := [bv s.set, iv s.num, iv s.ptr.cell, iv s.ptr.tag]
instance : FlT dA 2 := ⟨fun _ => rfl⟩
instance : FlT cY 4 := ⟨fun _ => rfl⟩
instance : FlT eE 4 := ⟨fun _ => rfl⟩
instance : FE dA (fun t => [iv t.id, bv t.uq]) := ⟨fun _ => rfl⟩
instance : FE cY (fun c => [iv c.val, bv c.alive, iv c.next, sl dA c.stk]) := ⟨fun _ => rfl⟩
instance : FE eE (fun s => [bv s.set, iv s.num, iv s.ptr.cell, iv s.ptr.tag]) := ⟨fun _ => rfl⟩
instance (t : Tg) : Pur (dA t) := ⟨rfl⟩
instance (c : Cl) : Pur (cY c) := ⟨by show (true && (true && (true && ((sl dA c.stk).pur && true)))) = true; rw [bG]; rfl⟩
instance (s : Sl) : Pur (eE s) := ⟨rfl⟩
abbrev PX (t : Tg) : AV := .agg [iv t.id, bv t.uq]
abbrev HF (p : Pt) : AV := .agg [iv p.cell, iv p.tag]
abbrev Ox (s : Sl) : AV := .agg [bv s.set, iv s.num, iv s.ptr.cell, iv s.ptr.tag]
structure OkC (c : Cl) : Prop where
 v : 0 ≤ c.val ∧ c.val ≤ 9
 n : 1 ≤ c.next ∧ c.next ≤ 1000
 l : 1 ≤ c.stk.length ∧ c.stk.length ≤ 200
 u : c.stk[0]!.uq = true
 i : ∀ t ∈ c.stk, 0 ≤ t.id ∧ t.id < c.next
 d : (c.stk.map (·.id)).Nodup
structure OkM (m : List Cl) : Prop where
 l : m.length ≤ 200
 c : ∀ c ∈ m, OkC c
def cV (stk : List Tg) (id : Int) : Int := match stk.findIdx? (fun t => decide (t.id = id)) with | some k => k | none => -1
theorem iL (stk : List Tg) (id : Int) : -1 ≤ cV stk id ∧ cV stk id < stk.length := by
 unfold cV
 split
 ·rename_i k h
  obtain ⟨h1, _⟩ := List.findIdx?_eq_some_iff_getElem.1 h
  omega
 ·omega
theorem Ki {stk : List Tg} {id : Int} (h : 0 ≤ cV stk id) : stk[(cV stk id).toNat]!.id = id := by
 unfold cV at h ⊢
 split
 ·rename_i k hk
  obtain ⟨h1, h2, _⟩ := List.findIdx?_eq_some_iff_getElem.1 hk
  rw [Int.toNat_natCast, aZ _ _ h1]
  simpa using h2
 ·rename_i hk; rw [hk] at h; dsimp only at h; omega
theorem vX {stk : List Tg} {id : Int} : cV stk id < 0 ↔ ∀ t ∈ stk, t.id ≠ id := by
 unfold cV
 split
 ·rename_i k hk
  obtain ⟨h1, h2, _⟩ := List.findIdx?_eq_some_iff_getElem.1 hk
  refine ⟨fun h => by omega, fun h => ?_⟩
  exact absurd (by simpa using h2) (h _ (List.getElem_mem h1))
 ·rename_i hk
  rw [List.findIdx?_eq_none_iff] at hk
  exact ⟨fun _ t ht => by simpa using hk t ht, fun _ => by omega⟩
def jZ (stk : List Tg) (k : Nat) (wr : Bool) : List Tg := if wr = true then stk.take (k + 1) else stk.take (k + 1) ++ (stk.drop (k + 1)).filter (fun t => !t.uq)
def bJ (m : List Cl) (x : Pt) (wr : Bool) : Int :=
 if ¬ (0 ≤ x.cell ∧ x.cell < m.length) then 4
 else if m[x.cell.toNat]!.alive = false then 1
 else if cV m[x.cell.toNat]!.stk x.tag < 0 then 2
 else if wr = true ∧ m[x.cell.toNat]!.stk[(cV m[x.cell.toNat]!.stk x.tag).toNat]!.uq = false then 3
 else 0
def rG (c : Cl) (x : Pt) (wr : Bool) : Cl := { c with stk := jZ c.stk (cV c.stk x.tag).toNat wr }
def j9 (m : List Cl) (x : Pt) (wr : Bool) : List Cl := if bJ m x wr = 0 then m.set x.cell.toNat (rG m[x.cell.toNat]! x wr) else m
def zT (m : List Cl) (x : Pt) : Int := if bJ m x false = 0 then m[x.cell.toNat]!.val else 0
def zQ (m : List Cl) (x : Pt) (v : Int) : Int := if 0 ≤ v ∧ v ≤ 9 then bJ m x true else 4
def yX (m : List Cl) (x : Pt) (v : Int) : List Cl := if zQ m x v = 0 then m.set x.cell.toNat { rG m[x.cell.toNat]! x true with val := v } else m
def kQ (m : List Cl) (x : Pt) : List Cl := if bJ m x true = 0 then m.set x.cell.toNat { rG m[x.cell.toNat]! x true with alive := false } else m
def FM (c : Cl) : Prop := c.stk.length = 200 ∨ c.next = 1000
instance (c : Cl) : Decidable (FM c) := by unfold FM; infer_instance
def zP (m : List Cl) (x : Pt) (u : Bool) : Int := if bJ m x u = 0 then (if FM (rG m[x.cell.toNat]! x u) then 4 else 0) else bJ m x u
def psh (c : Cl) (u : Bool) : Cl := { c with stk := c.stk ++ [⟨c.next, u⟩], next := c.next + 1 }
def vD (m : List Cl) (x : Pt) (u : Bool) : List Cl := if zP m x u = 0 then m.set x.cell.toNat (psh (rG m[x.cell.toNat]! x u) u) else m
def Gw (m : List Cl) (x : Pt) (u : Bool) : Pt := if zP m x u = 0 then ⟨x.cell, m[x.cell.toNat]!.next⟩ else ⟨0, 0⟩
def r8 (v : Int) : Cl := ⟨v, true, 1, [⟨0, true⟩]⟩
theorem tchS_sub {stk : List Tg} {k : Nat} {wr : Bool} : (jZ stk k wr).Sublist stk := by
 unfold jZ
 split
 ·exact List.take_sublist _ _
 ·have h := List.Sublist.append (List.Sublist.refl (stk.take (k + 1))) (List.filter_sublist (l := stk.drop (k + 1)) (p := fun t => !t.uq))
  rwa [List.take_append_drop] at h
theorem vZ {stk : List Tg} {k : Nat} {wr : Bool} (h : 0 < stk.length) : (jZ stk k wr)[0]! = stk[0]! ∧ 0 < (jZ stk k wr).length := by
 cases stk with
 | nil => simp at h
 | cons a l =>
  unfold jZ
  split <;> simp
theorem OkC.tch {c : Cl} (h : OkC c) (x : Pt) (wr : Bool) : OkC (rG c x wr) := by
 have hs := tchS_sub (stk := c.stk) (k := (cV c.stk x.tag).toNat) (wr := wr)
 have hh := vZ (k := (cV c.stk x.tag).toNat) (wr := wr) (stk := c.stk) (by have := h.l; omega)
 refine ⟨h.v, h.n, ⟨hh.2, Nat.le_trans hs.length_le h.l.2⟩, ?_, fun t ht => h.i t (hs.subset ht), (hs.map _).nodup h.d⟩
 show (jZ c.stk (cV c.stk x.tag).toNat wr)[0]!.uq = true
 rw [hh.1]; exact h.u
theorem OkC.psh {c : Cl} (h : OkC c) (u : Bool) (hf : ¬ FM c) : OkC (psh c u) := by
 have hl := h.l
 have hn := h.n
 unfold FM at hf
 refine ⟨h.v, by show 1 ≤ c.next + 1 ∧ c.next + 1 ≤ 1000; omega, by show 1 ≤ (c.stk ++ [_]).length ∧ (c.stk ++ [_]).length ≤ 200; rw [List.length_append, List.length_singleton]; omega, ?_, fun t ht => ?_, ?_⟩
 ·show (c.stk ++ [_])[0]!.uq = true
  have h1 := h.u
  rw [aZ _ _ (by omega)] at h1
  rw [aZ _ _ (by rw [List.length_append]; omega), List.getElem_append_left (by omega)]; exact h1
 ·rcases List.mem_append.1 ht with ht | ht
  ·have := h.i t ht; show 0 ≤ t.id ∧ t.id < c.next + 1; omega
  ·rw [List.mem_singleton] at ht; subst ht; show 0 ≤ c.next ∧ c.next < c.next + 1; omega
 ·show ((c.stk ++ [_]).map _).Nodup
  rw [List.map_append, List.nodup_append]
  refine ⟨h.d, by simp, fun a ha b hb => ?_⟩
  simp only [List.map_cons, List.map_nil, List.mem_singleton] at hb
  obtain ⟨t, ht, rfl⟩ := List.mem_map.1 ha
  have := h.i t ht
  omega
theorem OkC.nw {v : Int} (h : 0 ≤ v ∧ v ≤ 9) : OkC (r8 v) := ⟨h, ⟨by show (1 : Int) ≤ 1; decide, by show (1 : Int) ≤ 1000; decide⟩, ⟨by show 1 ≤ 1; decide, by show 1 ≤ 200; decide⟩, rfl, by simp [r8], by simp [r8]⟩
theorem OkM.set {m : List Cl} (h : OkM m) {k : Nat} {c : Cl} (hc : OkC c) : OkM (m.set k c) :=
 ⟨by rw [List.length_set]; exact h.l, fun x hx => (List.mem_or_eq_of_mem_set hx).elim (h.c x) (fun e => e ▸ hc)⟩
theorem OkM.at {m : List Cl} (h : OkM m) {k : Nat} (hk : k < m.length) : OkC m[k]! := h.c _ (aW _ _ hk)
theorem iR {m : List Cl} {x : Pt} {wr : Bool} (h : bJ m x wr ≠ 4) : 0 ≤ x.cell ∧ x.cell < m.length ∧ x.cell.toNat < m.length := by
 unfold bJ at h
 split at h
 ·exact absurd rfl h
 ·omega
theorem iF {m : List Cl} {x : Pt} {wr : Bool} (h : bJ m x wr = 0) : 0 ≤ x.cell ∧ x.cell < m.length ∧ x.cell.toNat < m.length := iR (by rw [h]; decide)
theorem OkM.tch {m : List Cl} (h : OkM m) (x : Pt) (wr : Bool) : OkM (j9 m x wr) := by
 unfold j9; split
 ·rename_i hk; exact h.set ((h.at (iF hk).2.2).tch x wr)
 ·exact h
theorem OkM.wr {m : List Cl} (h : OkM m) (x : Pt) (v : Int) : OkM (yX m x v) := by
 unfold yX
 by_cases hk : zQ m x v = 0
 ·rw [if_pos hk]
  unfold zQ at hk
  by_cases hv : 0 ≤ v ∧ v ≤ 9
  ·rw [if_pos hv] at hk
   have h1 := (h.at (iF hk).2.2).tch x true
   exact h.set ⟨hv, h1.n, h1.l, h1.u, h1.i, h1.d⟩
  ·rw [if_neg hv] at hk; cases hk
 ·rw [if_neg hk]; exact h
theorem OkM.fr {m : List Cl} (h : OkM m) (x : Pt) : OkM (kQ m x) := by
 unfold kQ; split
 ·rename_i hk
  have h1 := (h.at (iF hk).2.2).tch x true
  exact h.set ⟨h1.v, h1.n, h1.l, h1.u, h1.i, h1.d⟩
 ·exact h
theorem OkM.ln {m : List Cl} (h : OkM m) (x : Pt) (u : Bool) : OkM (vD m x u) := by
 unfold vD
 by_cases hk : zP m x u = 0
 ·rw [if_pos hk]
  unfold zP at hk
  by_cases h0 : bJ m x u = 0
  ·rw [if_pos h0] at hk
   by_cases hf : FM (rG m[x.cell.toNat]! x u)
   ·rw [if_pos hf] at hk; cases hk
   ·exact h.set (((h.at (iF h0).2.2).tch x u).psh u hf)
  ·rw [if_neg h0] at hk; exact absurd hk h0
 ·rw [if_neg hk]; exact h
theorem OkM.nw {m : List Cl} (h : OkM m) {v : Int} (hv : 0 ≤ v ∧ v ≤ 9) (hl : m.length < 200) : OkM (m ++ [r8 v]) :=
 ⟨by rw [List.length_append, List.length_singleton]; omega, fun c hc => (List.mem_append.1 hc).elim (h.c c) (fun h => by rw [List.mem_singleton.1 h]; exact OkC.nw hv)⟩
end Go.AL
namespace Go.AL
def dX (pts : List Pnt) (a : Nat) (cs : List Int) : Nat × List Int :=
 if pts[a]!.next.length = 2 then
  match cs with
  | [] => ((pts[a]!.next[1]!).toNat, [])
  | c :: cs => ((pts[a]!.next[(c % 2).toNat]!).toNat, cs)
 else ((pts[a]!.next[0]!).toNat, cs)
def eT (pts : List Pnt) : Nat → Nat → List Int → List Nat × Bool
 | 0, a, _ => if pts[a]!.op = 11 then ([a], true) else ([], false)
 | n + 1, a, cs => if pts[a]!.op = 11 then ([a], true) else (a :: (eT pts n (dX pts a cs).1 (dX pts a cs).2).1, (eT pts n (dX pts a cs).1 (dX pts a cs).2).2)
structure Mc where
 slots : List Sl
 cells : List Cl
 read : List Int
 deriving Inhabited
def lQ : Sl := ⟨false, 0, ⟨0, 0⟩⟩
def iP (k : Int) : Int := if k = 1 then 3 else 4
def nN (k : Int) : Int := if k = 0 then -1 else iP k
def cJ (ts : List Int) (s : Mc) (v : Nat) (x : Sl) : Mc × Int :=
 if ts[v]! = 2 ∧ s.slots[v]!.set = true then (⟨s.slots.set v x, kQ s.cells s.slots[v]!.ptr, s.read⟩, nN (bJ s.cells s.slots[v]!.ptr true))
 else (⟨s.slots.set v x, s.cells, s.read⟩, -1)
def bV (ts : List Int) (s : Mc) (x : Pnt) : Bool := (List.range ts.length).any fun v => decide (aT ts x v ≠ 0) && !s.slots[v]!.set
def cM (ts : List Int) : Nat → Nat → Mc → Mc × Int
 | 0, _, s => (s, 0)
 | n + 1, v, s => if ts[v]! = 2 ∧ s.slots[v]!.set = true then
   (if bJ s.cells s.slots[v]!.ptr true = 0 then cM ts n (v + 1) ⟨s.slots.set v lQ, kQ s.cells s.slots[v]!.ptr, s.read⟩ else (⟨s.slots, kQ s.cells s.slots[v]!.ptr, s.read⟩, iP (bJ s.cells s.slots[v]!.ptr true)))
  else cM ts n (v + 1) s
def cD (ts : List Int) (s : Mc) (x : Pnt) : Mc × Int :=
 if x.op = 1 then cJ ts s x.x.toNat ⟨true, x.n, ⟨0, 0⟩⟩
 else if x.op = 2 then (if s.cells.length = 200 then (s, 1) else cJ ts ⟨s.slots, s.cells ++ [r8 x.n], s.read⟩ x.x.toNat ⟨true, 0, ⟨s.cells.length, 0⟩⟩)
 else if x.op = 3 then cJ ts (if Ck ts[x.y.toNat]! = true then ⟨s.slots.set x.y.toNat lQ, s.cells, s.read⟩ else s) x.x.toNat s.slots[x.y.toNat]!
 else if x.op = 4 ∨ x.op = 5 then
  (if zP s.cells s.slots[x.y.toNat]!.ptr (decide (x.op = 5)) = 0 then cJ ts ⟨s.slots, vD s.cells s.slots[x.y.toNat]!.ptr (decide (x.op = 5)), s.read⟩ x.x.toNat ⟨true, 0, Gw s.cells s.slots[x.y.toNat]!.ptr (decide (x.op = 5))⟩
   else (s, iP (zP s.cells s.slots[x.y.toNat]!.ptr (decide (x.op = 5)))))
 else if x.op = 6 then
  (if bJ s.cells s.slots[x.y.toNat]!.ptr false = 0 then cJ ts ⟨s.slots, j9 s.cells s.slots[x.y.toNat]!.ptr false, s.read ++ [zT s.cells s.slots[x.y.toNat]!.ptr]⟩ x.x.toNat ⟨true, zT s.cells s.slots[x.y.toNat]!.ptr, ⟨0, 0⟩⟩
   else (s, iP (bJ s.cells s.slots[x.y.toNat]!.ptr false)))
 else if x.op = 7 then (⟨s.slots, yX s.cells s.slots[x.x.toNat]!.ptr s.slots[x.y.toNat]!.num, s.read⟩, nN (zQ s.cells s.slots[x.x.toNat]!.ptr s.slots[x.y.toNat]!.num))
 else if x.op = 8 then (⟨s.slots.set x.x.toNat lQ, kQ s.cells s.slots[x.x.toNat]!.ptr, s.read⟩, nN (bJ s.cells s.slots[x.x.toNat]!.ptr true))
 else if x.op = 11 then cM ts ts.length 0 s
 else (s, -1)
def gO (ts : List Int) (pts : List Pnt) : List Nat → Mc → Nat → Mc × Int × Nat
 | [], s, last => (s, 1, last)
 | a :: l, s, _ => if bV ts s pts[a]! = true then (s, 2, a)
  else if (cD ts s pts[a]!).2 = -1 then gO ts pts l (cD ts s pts[a]!).1 a
  else ((cD ts s pts[a]!).1, (cD ts s pts[a]!).2, a)
def mc0 (nt : Nat) : Mc := ⟨List.replicate nt lQ, [], []⟩
def cQ (ts : List Int) (pts : List Pnt) (cs : List Int) (most : Nat) : Mc × Int × Nat := gO ts pts (eT pts most 0 cs).1 (mc0 ts.length) 0
structure OkS (nt : Nat) (s : Mc) : Prop where
 m : OkM s.cells
 l : s.slots.length = nt
theorem OkS.put {ts : List Int} {nt : Nat} {s : Mc} (h : OkS nt s) (v : Nat) (x : Sl) : OkS nt (cJ ts s v x).1 := by
 unfold cJ; split
 ·exact ⟨h.m.fr _, by show (s.slots.set v x).length = nt; rw [List.length_set]; exact h.l⟩
 ·exact ⟨h.m, by show (s.slots.set v x).length = nt; rw [List.length_set]; exact h.l⟩
theorem OkS.fin {ts : List Int} {nt : Nat} : ∀ n v (s : Mc), OkS nt s → OkS nt (cM ts n v s).1
 | 0, _, _, h => h
 | n + 1, v, s, h => by
  unfold cM; split
  ·split
   ·exact OkS.fin n _ _ ⟨h.m.fr _, by show (s.slots.set v lQ).length = nt; rw [List.length_set]; exact h.l⟩
   ·exact ⟨h.m.fr _, h.l⟩
  ·exact OkS.fin n _ _ h
structure PtN (x : Pnt) : Prop where
 n : x.op = 2 → 0 ≤ x.n ∧ x.n ≤ 9
theorem OkS.do {ts : List Int} {nt : Nat} {s : Mc} (h : OkS nt s) {x : Pnt} (hx : PtN x) : OkS nt (cD ts s x).1 := by
 have hl : ∀ (v : Nat) (y : Sl), (s.slots.set v y).length = nt := fun v y => by rw [List.length_set]; exact h.l
 unfold cD
 split
 ·exact h.put _ _
 split
 ·rename_i h2
  split
  ·exact h
  ·rename_i h3
   refine OkS.put ?_ _ _
   exact ⟨h.m.nw (hx.n h2) (by have := h.m.l; omega), h.l⟩
 split
 ·split
  ·refine OkS.put ?_ _ _
   exact ⟨h.m, hl _ _⟩
  ·exact h.put _ _
 split
 ·split
  ·refine OkS.put ?_ _ _
   exact ⟨h.m.ln _ _, h.l⟩
  ·exact h
 split
 ·split
  ·refine OkS.put ?_ _ _
   exact ⟨h.m.tch _ _, h.l⟩
  ·exact h
 split
 ·exact ⟨h.m.wr _ _, h.l⟩
 split
 ·exact ⟨h.m.fr _, hl _ _⟩
 split
 ·exact OkS.fin _ _ _ h
 ·exact h
theorem OkS.mc0 (nt : Nat) : OkS nt (mc0 nt) := ⟨⟨by simp [Go.AL.mc0], by simp [Go.AL.mc0]⟩, by simp [Go.AL.mc0]⟩
theorem OkS.run {ts : List Int} {pts : List Pnt} {nt : Nat} (hp : ∀ a : Nat, PtN pts[a]!) : ∀ (l : List Nat) (s : Mc) (last : Nat), OkS nt s → OkS nt (gO ts pts l s last).1
 | [], _, _, h => h
 | a :: l, s, _, h => by
  unfold gO; split
  ·exact h
  ·split
   ·exact OkS.run hp l _ _ (h.do (hp a))
   ·exact h.do (hp a)
end Go.AL
namespace Go.AL
theorem G1 (k : Int) : nN k = -1 ∨ nN k = 3 ∨ nN k = 4 := by unfold nN iP; split; exact .inl rfl; split; exact .inr (.inl rfl); exact .inr (.inr rfl)
theorem oU (k : Int) : iP k = 3 ∨ iP k = 4 := by unfold iP; split; exact .inl rfl; exact .inr rfl
theorem J8 (ts : List Int) (s : Mc) (v : Nat) (x : Sl) : (cJ ts s v x).2 = -1 ∨ (cJ ts s v x).2 = 3 ∨ (cJ ts s v x).2 = 4 := by
 unfold cJ; split
 ·exact G1 _
 ·exact .inl rfl
theorem G3 {ts : List Int} {s : Mc} {x : Pnt} (h : x.op ≠ 11) : (cD ts s x).2 = -1 ∨ (cD ts s x).2 = 1 ∨ (cD ts s x).2 = 3 ∨ (cD ts s x).2 = 4 := by
 have p := fun s v y => J8 ts s v y
 have p' : ∀ s v y, (cJ ts s v y).2 = -1 ∨ (cJ ts s v y).2 = 1 ∨ (cJ ts s v y).2 = 3 ∨ (cJ ts s v y).2 = 4 := fun s v y => by
  rcases p s v y with h | h | h
  ·exact .inl h
  ·exact .inr (.inr (.inl h))
  ·exact .inr (.inr (.inr h))
 have g : ∀ k, nN k = -1 ∨ nN k = 1 ∨ nN k = 3 ∨ nN k = 4 := fun k => by
  rcases G1 k with h | h | h
  ·exact .inl h
  ·exact .inr (.inr (.inl h))
  ·exact .inr (.inr (.inr h))
 have e : ∀ k, iP k = -1 ∨ iP k = 1 ∨ iP k = 3 ∨ iP k = 4 := fun k => .inr (.inr (oU k))
 unfold cD
 rw [if_neg h]
 split
 ·exact p' _ _ _
 split
 ·split
  ·exact .inr (.inl rfl)
  ·exact p' _ _ _
 split
 ·exact p' _ _ _
 split
 ·split
  ·exact p' _ _ _
  ·exact e _
 split
 ·split
  ·exact p' _ _ _
  ·exact e _
 split
 ·exact g _
 split
 ·exact g _
 exact .inl rfl
theorem zM (ts : List Int) : ∀ n v (s : Mc), (cM ts n v s).2 = 0 ∨ (cM ts n v s).2 = 3 ∨ (cM ts n v s).2 = 4
 | 0, _, _ => .inl rfl
 | n + 1, v, s => by
  unfold cM; split
  ·split
   ·exact zM ts n _ _
   ·exact .inr (oU _)
  ·exact zM ts n _ _
theorem BM {ts : List Int} {s : Mc} {x : Pnt} (h : x.op = 11) : cD ts s x = cM ts ts.length 0 s := by
 unfold cD; simp [h]
theorem nE (m : List Cl) (x : Pt) : (kQ m x).length = m.length := by unfold kQ; split <;> simp
theorem u6 (m : List Cl) (x : Pt) (b : Bool) : (j9 m x b).length = m.length := by unfold j9; split <;> simp
theorem Es (m : List Cl) (x : Pt) (b : Bool) : (vD m x b).length = m.length := by unfold vD; split <;> simp
theorem DK (m : List Cl) (x : Pt) (v : Int) : (yX m x v).length = m.length := by unfold yX; split <;> simp
theorem nH (ts : List Int) : ∀ n v (s : Mc), (cM ts n v s).1.cells.length = s.cells.length
 | 0, _, _ => rfl
 | n + 1, v, s => by
  unfold cM; split
  ·split
   ·rw [nH ts n]; exact nE _ _
   ·exact nE _ _
  ·exact nH ts n _ _
end Go.AL
namespace Go.AL
structure PtA (ts : List Int) (x : Pnt) : Prop where
 n : x.op = 1 ∨ x.op = 2 → 0 ≤ x.n ∧ x.n ≤ 9
 t1 : x.op = 1 → ts[x.x.toNat]! = 1
 t2 : x.op = 2 ∨ x.op = 8 → ts[x.x.toNat]! = 2
 t3 : x.op = 3 → ts[x.x.toNat]! = ts[x.y.toNat]! ∧ x.x ≠ x.y
 t4 : x.op = 4 → ts[x.x.toNat]! = 3 ∧ x.x ≠ x.y ∧ 2 ≤ ts[x.y.toNat]!
 t5 : x.op = 5 → ts[x.x.toNat]! = 4 ∧ x.x ≠ x.y ∧ (ts[x.y.toNat]! = 2 ∨ ts[x.y.toNat]! = 4)
 t6 : x.op = 6 → ts[x.x.toNat]! = 1 ∧ 2 ≤ ts[x.y.toNat]!
 t7 : x.op = 7 → (ts[x.x.toNat]! = 2 ∨ ts[x.x.toNat]! = 4) ∧ ts[x.y.toNat]! = 1
theorem PtA.no {ts : List Int} {x : Pnt} (h : 9 ≤ x.op) : PtA ts x := ⟨fun e => by omega, fun e => by omega, fun e => by omega, fun e => by omega, fun e => by omega, fun e => by omega, fun e => by omega, fun e => by omega⟩
theorem Db {ts : List Int} {s : Stmt} (h : dK ts s = true) : s.op ≤ 8 := by
 unfold dK at h
 dsimp only at h
 apply Classical.byContradiction
 intro e
 rw [if_neg (by omega), if_neg (by omega)] at h
 split at h
 ·cases h
 ·rw [if_neg (by omega), if_neg (by omega), if_neg (by omega), if_neg (by omega), if_neg (by omega), if_neg (by omega)] at h; cases h
theorem Ia {ts : List Int} (s : Stmt) (h : dK ts s = true) : PtA ts ⟨s.op, s.x, s.y, s.n, []⟩ := by
 have g : ∀ v, 0 < dU ts v → dU ts v = ts[v.toNat]! := fun v => B9
 have gx := g s.x
 have gy := g s.y
 unfold dK at h
 dsimp only at h
 constructor <;> dsimp only <;> intro e
 case n => rcases e with e | e <;> simp [e] at h <;> omega
 case t1 => simp [e] at h; rw [← gx (by omega)]; omega
 case t2 => rcases e with e | e <;> simp [e] at h <;> (rw [← gx (by omega)]; omega)
 case t3 => simp [e] at h; rw [← gx (by omega), ← gy (by omega)]; exact ⟨h.2.1, h.2.2.2⟩
 case t4 => simp [e] at h; rw [← gx (by omega), ← gy (by omega)]; exact ⟨h.2.1, h.2.2.2, h.2.2.1⟩
 case t5 => simp [e] at h; rw [← gx (by omega), ← gy (by omega)]; exact ⟨h.2.1, h.2.2.2, h.2.2.1⟩
 case t6 => simp [e] at h; rw [← gx (by omega), ← gy (by omega)]; exact ⟨h.2.1, h.2.2⟩
 case t7 => simp [e] at h; rw [← gx (by omega), ← gy (by omega)]; exact ⟨h.2.1, h.2.2⟩
mutual
theorem ON {ts : List Int} : ∀ (s : Stmt) (d b : Nat), sS ts d s = true → ∀ x ∈ uV b s, PtA ts x ∧ x.op ≠ 11 ∧ 0 < x.next.length
 | .mk op x y n th el, d, b, h => by
  simp only [sS] at h
  split at h
  ·rename_i hop
   simp only [Bool.and_eq_true] at h
   have hs := Ia _ h.2
   have ho := Db h.2
   simp only [Stmt.op, Stmt.x, Stmt.y, Stmt.n] at hs ho
   simp only [uV, hop.1, hop.2, if_false, List.mem_singleton]
   rintro z rfl
   exact ⟨⟨hs.n, hs.t1, hs.t2, hs.t3, hs.t4, hs.t5, hs.t6, hs.t7⟩, by dsimp only; omega, by simp⟩
  ·rename_i hop
   cases d with
   | zero => cases h
   | succ d =>
    simp only [Bool.and_eq_true, decide_eq_true_eq] at h
    obtain ⟨⟨⟨_, _⟩, h1⟩, h2⟩ := h
    by_cases h9 : op = 9
    ·subst h9
     simp only [uV, if_true, List.mem_append, List.mem_singleton]
     rintro z (((rfl | hz) | rfl) | hz)
     ·exact ⟨PtA.no (by simp), by simp, by simp⟩
     ·exact uF th d (b + 1) h1 z hz
     ·exact ⟨PtA.no (by simp), by simp, by simp⟩
     ·exact uF el d (b + 2 + b8 th) h2 z hz
    ·have h10 : op = 10 := by omega
     subst h10
     simp only [uV, if_true, show ((10 : Int) = 9) = False by simp, if_false, List.mem_append, List.mem_singleton]
     rintro z ((rfl | hz) | rfl)
     ·exact ⟨PtA.no (by simp), by simp, by simp⟩
     ·exact uF th d (b + 1) h1 z hz
     ·exact ⟨PtA.no (by simp), by simp, by simp⟩
theorem uF {ts : List Int} : ∀ (l : List Stmt) (d b : Nat), okL ts d l = true → ∀ x ∈ dZ b l, PtA ts x ∧ x.op ≠ 11 ∧ 0 < x.next.length
 | [], d, b, h => by simp [dZ]
 | s :: l, d, b, h => by
  simp only [okL, Bool.and_eq_true] at h
  simp only [dZ, List.mem_append]
  rintro x (hx | hx)
  ·exact ON s d b h.1 x hx
  ·exact uF l d (b + lP s) h.2 x hx
end
structure WA (ts : List Int) (pts : List Pnt) : Prop where
 a : ∀ i, i < pts.length → PtA ts pts[i]!
 e : ∀ i, i < pts.length → (pts[i]!.op = 11 ↔ i + 1 = pts.length)
 n : ∀ i, i < pts.length → pts[i]!.op ≠ 11 → 0 < pts[i]!.next.length
theorem WA.of_valid {p : Prg} (h : bB p = true) : WA p.types (aC p) := by
 unfold bB at h
 simp only [Bool.and_eq_true, decide_eq_true_eq] at h
 obtain ⟨⟨_, hl⟩, _⟩ := h
 have hlen := g9 p
 have hpl := bE p.body 0
 have lo : ∀ i, i + 1 < (aC p).length → (aC p)[i]! ∈ dZ 0 p.body := fun i hi => by
  have h1 : i < (dZ 0 p.body).length := by omega
  unfold aC
  rw [aZ _ _ (by rw [List.length_append]; omega), List.getElem_append_left h1]
  exact List.getElem_mem h1
 have hi : ∀ i, i + 1 = (aC p).length → (aC p)[i]! = ⟨11, 0, 0, 0, []⟩ := fun i hi => by
  have h1 : i = (dZ 0 p.body).length := by omega
  unfold aC
  rw [aZ _ _ (by rw [List.length_append, List.length_singleton]; omega)]
  simp [h1]
 refine ⟨fun i h => ?_, fun i h => ⟨fun e => ?_, fun e => by rw [hi i e]⟩, fun i h ne => ?_⟩
 ·by_cases q : i + 1 < (aC p).length
  ·exact (uF p.body 4 0 hl _ (lo i q)).1
  ·rw [hi i (by omega)]; exact PtA.no (by simp)
 ·by_cases q : i + 1 < (aC p).length
  ·exact absurd e (uF p.body 4 0 hl _ (lo i q)).2.1
  ·omega
 ·by_cases q : i + 1 < (aC p).length
  ·exact (uF p.body 4 0 hl _ (lo i q)).2.2
  ·exact absurd (by rw [hi i (by omega)]) ne
end Go.AL
namespace Go.AL
theorem jV {xs : List Sl} {X : Int} (y : Sl) {v : Nat} (hX : 0 ≤ X ∧ X < xs.length) (hv : v < xs.length) : (xs.set X.toNat y)[v]! = if X = (v : Int) then y else xs[v]! := by
 rw [aR]
 by_cases h : X = (v : Int)
 ·rw [if_pos h, if_pos ⟨by omega, hv⟩]
 ·rw [if_neg h, if_neg (by omega)]
theorem dV (ts : List Int) (s : Mc) (v : Nat) (x : Sl) : (cJ ts s v x).1.slots = s.slots.set v x := by
 unfold cJ; split <;> rfl
theorem kX {ts : List Int} {s : Mc} {x : Pnt} (h : bV ts s x = false) {v : Nat} (hv : v < ts.length) (hu : aT ts x v ≠ 0) : s.slots[v]!.set = true := by
 unfold bV at h
 rw [List.any_eq_false] at h
 have h1 := h v (List.mem_range.2 hv)
 rw [decide_eq_true hu, Bool.true_and] at h1
 simpa using h1
theorem CZ {t : Int} : Ck t = true ↔ t = 2 ∨ t = 4 := by unfold Ck; simp
theorem H4 {ts : List Int} {s : Mc} {x : Pnt} (hl : s.slots.length = ts.length) (hu : bV ts s x = false) (A : PtA ts x) (hop : 1 ≤ x.op ∧ x.op ≠ 11) (hx : x.op ≤ 8 → 0 ≤ x.x ∧ x.x < ts.length) (hy : 3 ≤ x.op → x.op ≤ 7 → 0 ≤ x.y ∧ x.y < ts.length) (hgo : (cD ts s x).2 = -1) :
  ∃ y : Sl, y.set = true ∧ ∀ v, v < ts.length → (cD ts s x).1.slots[v]! = if aN x = (v : Int) then y else if aT ts x v = 2 then lQ else s.slots[v]! := by
 have hk : ∀ k, iP k ≠ -1 := fun k => by rcases oU k with h | h <;> rw [h] <;> decide
 unfold cD at hgo ⊢
 by_cases h1 : x.op = 1
 ·rw [if_pos h1]
  have hxb := hx (by omega)
  refine ⟨⟨true, x.n, ⟨0, 0⟩⟩, rfl, fun v hv => ?_⟩
  rw [dV, jV _ (by omega) (by omega)]
  have e1 : aN x = x.x := by unfold aN; rw [if_pos (by omega)]
  have e2 : aT ts x v = 0 := by unfold aT; rw [if_neg (by omega), if_neg (by omega), if_neg (by omega), if_neg (by omega)]
  rw [e1, e2]; simp
 rw [if_neg h1] at hgo ⊢
 by_cases h2 : x.op = 2
 ·rw [if_pos h2] at hgo ⊢
  have hxb := hx (by omega)
  by_cases h200 : s.cells.length = 200
  ·rw [if_pos h200] at hgo; cases hgo
  ·rw [if_neg h200]
   refine ⟨⟨true, 0, ⟨s.cells.length, 0⟩⟩, rfl, fun v hv => ?_⟩
   rw [dV]
   dsimp only
   rw [jV _ (by omega) (by omega)]
   have e1 : aN x = x.x := by unfold aN; rw [if_pos (by omega)]
   have e2 : aT ts x v = 0 := by unfold aT; rw [if_neg (by omega), if_neg (by omega), if_neg (by omega), if_neg (by omega)]
   rw [e1, e2]; simp
 rw [if_neg h2] at hgo ⊢
 by_cases h3 : x.op = 3
 ·rw [if_pos h3]
  have hxb := hx (by omega)
  have hyb := hy (by omega) (by omega)
  have hne := (A.t3 h3).2
  have e1 : aN x = x.x := by unfold aN; rw [if_pos (by omega)]
  have hyn : ((x.y.toNat : Nat) : Int) = x.y := by omega
  have hys : s.slots[x.y.toNat]!.set = true := kX hu (v := x.y.toNat) (by omega) (by
   unfold aT; rw [if_pos h3, if_pos hyn]; split <;> decide)
  refine ⟨s.slots[x.y.toNat]!, hys, fun v hv => ?_⟩
  rw [dV]
  have e2 : aT ts x v = if (v : Int) = x.y then (if ts[x.y.toNat]! = 2 ∨ ts[x.y.toNat]! = 4 then 2 else 1) else 0 := by
   unfold aT; rw [if_pos h3]
   by_cases q : (v : Int) = x.y
   ·rw [if_pos q, if_pos q, q]
   ·rw [if_neg q, if_neg q]
  rw [e1, e2]
  by_cases ht : Ck ts[x.y.toNat]! = true
  ·rw [if_pos ht]
   dsimp only
   rw [jV _ (by rw [List.length_set]; omega) (by rw [List.length_set]; omega), jV _ (by omega) (by omega), if_pos (CZ.1 ht)]
   by_cases q : x.x = (v : Int)
   ·rw [if_pos q, if_pos q]
   ·rw [if_neg q, if_neg q]
    by_cases q2 : x.y = (v : Int)
    ·rw [if_pos q2, if_pos q2.symm, if_pos rfl]
    ·have q3 : ¬ ((v : Int) = x.y) := fun h => q2 h.symm
     rw [if_neg q2, if_neg q3, if_neg (by decide : ¬ (0 : Int) = 2)]
  ·rw [if_neg ht, jV _ (by omega) (by omega), if_neg (fun h => ht (CZ.2 h))]
   by_cases q : x.x = (v : Int)
   ·rw [if_pos q, if_pos q]
   ·rw [if_neg q, if_neg q]
    by_cases q2 : (v : Int) = x.y
    ·rw [if_pos q2, if_neg (by decide)]
    ·rw [if_neg q2, if_neg (by decide)]
 rw [if_neg h3] at hgo ⊢
 by_cases h4 : x.op = 4 ∨ x.op = 5
 ·rw [if_pos h4] at hgo ⊢
  have hxb := hx (by omega)
  split at hgo
  ·rename_i hz
   rw [if_pos hz]
   refine ⟨⟨true, 0, Gw s.cells s.slots[x.y.toNat]!.ptr (decide (x.op = 5))⟩, rfl, fun v hv => ?_⟩
   rw [dV]
   dsimp only
   rw [jV _ (by omega) (by omega)]
   have e1 : aN x = x.x := by unfold aN; rw [if_pos (by omega)]
   have e2 : aT ts x v ≠ 2 := by unfold aT; rw [if_neg (by omega), if_pos (by omega)]; split <;> decide
   rw [e1, if_neg e2]
  ·exact absurd hgo (hk _)
 rw [if_neg h4] at hgo ⊢
 by_cases h6 : x.op = 6
 ·rw [if_pos h6] at hgo ⊢
  have hxb := hx (by omega)
  split at hgo
  ·rename_i hz
   rw [if_pos hz]
   refine ⟨⟨true, zT s.cells s.slots[x.y.toNat]!.ptr, ⟨0, 0⟩⟩, rfl, fun v hv => ?_⟩
   rw [dV]
   dsimp only
   rw [jV _ (by omega) (by omega)]
   have e1 : aN x = x.x := by unfold aN; rw [if_pos (by omega)]
   have e2 : aT ts x v ≠ 2 := by unfold aT; rw [if_neg (by omega), if_pos (by omega)]; split <;> decide
   rw [e1, if_neg e2]
  ·exact absurd hgo (hk _)
 rw [if_neg h6] at hgo ⊢
 have e1 : aN x = -1 := by unfold aN; rw [if_neg (by omega)]
 have e3 : ∀ v : Nat, aN x ≠ (v : Int) := fun v => by rw [e1]; omega
 by_cases h7 : x.op = 7
 ·rw [if_pos h7]
  refine ⟨⟨true, 0, ⟨0, 0⟩⟩, rfl, fun v hv => ?_⟩
  have e2 : aT ts x v ≠ 2 := by unfold aT; rw [if_neg (by omega), if_neg (by omega), if_pos h7]; split; decide; split <;> decide
  rw [if_neg (e3 v), if_neg e2]
 rw [if_neg h7]
 by_cases h8 : x.op = 8
 ·rw [if_pos h8]
  have hxb := hx (by omega)
  refine ⟨⟨true, 0, ⟨0, 0⟩⟩, rfl, fun v hv => ?_⟩
  dsimp only
  rw [if_neg (e3 v), jV _ (by omega) (by omega)]
  have e2 : aT ts x v = if (v : Int) = x.x then 2 else 0 := by unfold aT; rw [if_neg (by omega), if_neg (by omega), if_neg (by omega), if_pos h8]
  rw [e2]
  by_cases q : x.x = (v : Int)
  ·rw [if_pos q, if_pos q.symm, if_pos rfl]
  ·have q3 : ¬ ((v : Int) = x.x) := fun h => q h.symm
   rw [if_neg q, if_neg q3, if_neg (by decide : ¬ (0 : Int) = 2)]
 ·rw [if_neg h8, if_neg hop.2]
  refine ⟨⟨true, 0, ⟨0, 0⟩⟩, rfl, fun v hv => ?_⟩
  have e2 : aT ts x v ≠ 2 := by unfold aT; rw [if_neg (by omega), if_neg (by omega), if_neg (by omega), if_neg (by omega)]; decide
  rw [if_neg (e3 v), if_neg e2]
section
variable {ts : List Int} {pts : List Pnt}
theorem WG.doS (w : WG ts pts) (A : WA ts pts) {a : Nat} (ha : a < pts.length) {s : Mc} (hl : s.slots.length = ts.length) (hu : bV ts s pts[a]! = false) (h11 : pts[a]!.op ≠ 11) (hgo : (cD ts s pts[a]!).2 = -1) :
  ∃ y : Sl, y.set = true ∧ ∀ v, v < ts.length → (cD ts s pts[a]!).1.slots[v]! = if aN pts[a]! = (v : Int) then y else if aT ts pts[a]! v = 2 then lQ else s.slots[v]! :=
 H4 hl hu (A.a a ha) ⟨(w.op a ha).1, h11⟩ (fun h => ⟨(w.x a ha).1, (w.x a ha).2 h⟩) (fun h1 h2 => ⟨(w.y a ha).1, (w.y a ha).2 h1 h2⟩) hgo
theorem oZ (w : WG ts pts) (A : WA ts pts) {a : Nat} (ha : a < pts.length) (h11 : pts[a]!.op ≠ 11) (cs : List Int) : edge pts a (dX pts a cs).1 := by
 have key : ∀ j : Nat, j < pts[a]!.next.length → edge pts a (pts[a]!.next[j]!).toNat := fun j hj => by
  have hm := aW pts[a]!.next j hj
  refine ⟨ha, ?_⟩
  rw [show (((pts[a]!.next[j]!).toNat : Nat) : Int) = pts[a]!.next[j]! by have := (w.nx a ha _ hm).1; omega]
  exact hm
 have h0 := A.n a ha h11
 unfold dX
 split
 ·rename_i h2
  split
  ·exact key 1 (by omega)
  ·rename_i c cs
   exact key _ (by omega)
 ·exact key 0 h0
def Ok (ts : List Int) (pts : List Pnt) (I : Nat → Mc → Prop) (r : Mc × Int × Nat) : Prop := r.2.1 = 1 ∨ ∃ s', r.2.2 < pts.length ∧ I r.2.2 s' ∧
 ((r.2.1 = 2 ∧ bV ts s' pts[r.2.2]! = true ∧ r.1 = s') ∨
  (bV ts s' pts[r.2.2]! = false ∧ (cD ts s' pts[r.2.2]!).2 ≠ -1 ∧ r.1 = (cD ts s' pts[r.2.2]!).1 ∧ r.2.1 = (cD ts s' pts[r.2.2]!).2))
theorem Eg {I : Nat → Mc → Prop} {a : Nat} {l : List Nat} {s : Mc} {last : Nat} (ha : a < pts.length) (hs : I a s)
  (hrec : bV ts s pts[a]! = false → (cD ts s pts[a]!).2 = -1 → Ok ts pts I (gO ts pts l (cD ts s pts[a]!).1 a)) : Ok ts pts I (gO ts pts (a :: l) s last) := by
 by_cases h1 : bV ts s pts[a]! = true
 ·have e : gO ts pts (a :: l) s last = (s, 2, a) := by unfold gO; rw [if_pos h1]
  rw [e]; exact .inr ⟨s, ha, hs, .inl ⟨rfl, h1, rfl⟩⟩
 ·have h1' : bV ts s pts[a]! = false := by simpa using h1
  by_cases h2 : (cD ts s pts[a]!).2 = -1
  ·have e : gO ts pts (a :: l) s last = gO ts pts l (cD ts s pts[a]!).1 a := by
    conv => lhs; unfold gO
    rw [if_neg h1, if_pos h2]
   rw [e]; exact hrec h1' h2
  ·have e : gO ts pts (a :: l) s last = ((cD ts s pts[a]!).1, (cD ts s pts[a]!).2, a) := by
    unfold gO; rw [if_neg h1, if_neg h2]
   rw [e]; exact .inr ⟨s, ha, hs, .inr ⟨h1', h2, rfl, rfl⟩⟩
theorem Bq {I : Nat → Mc → Prop} {a : Nat} {s : Mc} {last : Nat} (ha : a < pts.length) (hs : I a s) (h11 : pts[a]!.op = 11) : Ok ts pts I (gO ts pts [a] s last) :=
 Eg ha hs fun h1 h2 => by
  rw [BM h11] at h2
  rcases zM ts ts.length 0 s with q | q | q <;> (rw [q] at h2; cases h2)
theorem KA (w : WG ts pts) (A : WA ts pts) (I : Nat → Mc → Prop)
  (hI : ∀ a s k, a < pts.length → pts[a]!.op ≠ 11 → edge pts a k → I a s → bV ts s pts[a]! = false → (cD ts s pts[a]!).2 = -1 → I k (cD ts s pts[a]!).1) :
  ∀ n a cs s last, a < pts.length → I a s → Ok ts pts I (gO ts pts (eT pts n a cs).1 s last) := by
 intro n
 induction n with
 | zero =>
  intro a cs s last ha hs
  by_cases h11 : pts[a]!.op = 11
  ·have e : (eT pts 0 a cs).1 = [a] := by unfold eT; rw [if_pos h11]
   rw [e]; exact Bq ha hs h11
  ·have e : (eT pts 0 a cs).1 = [] := by rw [eT, if_neg h11]
   rw [e]; exact .inl rfl
 | succ n ih =>
  intro a cs s last ha hs
  by_cases h11 : pts[a]!.op = 11
  ·have e : (eT pts (n + 1) a cs).1 = [a] := by unfold eT; rw [if_pos h11]
   rw [e]; exact Bq ha hs h11
  ·have e : (eT pts (n + 1) a cs).1 = a :: (eT pts n (dX pts a cs).1 (dX pts a cs).2).1 := by rw [eT, if_neg h11]
   have he := oZ w A ha h11 cs
   rw [e]
   exact Eg ha hs fun h1 h2 => ih _ _ _ _ (cT w he) (hI a s _ ha h11 he hs h1 h2)
end
end Go.AL
namespace Go.AL
section
variable {ts : List Int} {pts : List Pnt}
theorem oT (ts : List Int) (s : Mc) (v : Nat) (x : Sl) : (cJ ts s v x).1.slots.length = s.slots.length := by rw [dV, List.length_set]
theorem yP (ts : List Int) : ∀ n v (s : Mc), (cM ts n v s).1.slots.length = s.slots.length
 | 0, _, _ => rfl
 | n + 1, v, s => by
  unfold cM; split
  ·split
   ·rw [yP ts n]; exact List.length_set
   ·rfl
  ·exact yP ts n _ _
theorem pZ (ts : List Int) (s : Mc) (x : Pnt) : (cD ts s x).1.slots.length = s.slots.length := by
 unfold cD
 split
 ·exact oT _ _ _ _
 split
 ·split
  ·rfl
  ·exact oT _ _ _ _
 split
 ·rw [oT]; split
  ·exact List.length_set
  ·rfl
 split
 ·split
  ·exact oT _ _ _ _
  ·rfl
 split
 ·split
  ·exact oT _ _ _ _
  ·rfl
 split
 ·rfl
 split
 ·exact List.length_set
 split
 ·exact yP _ _ _ _
 ·rfl
theorem IS {s : Mc} {x : Pnt} (h : bV ts s x = true) : ∃ v, v < ts.length ∧ aT ts x v ≠ 0 ∧ s.slots[v]!.set = false := by
 unfold bV at h
 obtain ⟨v, hv, h2⟩ := List.any_eq_true.1 h
 rw [Bool.and_eq_true, decide_eq_true_eq] at h2
 exact ⟨v, List.mem_range.1 hv, h2.1, by simpa using h2.2⟩
end
end Go.AL
namespace Go.AL
theorem xS {α : Type} [Inhabited α] {l r : List α} {c : Nat} (h : c < l.length) : (l ++ r)[c]! = l[c]! := by
 rw [aZ _ _ (by rw [List.length_append]; omega), aZ _ _ h, List.getElem_append_left h]
theorem CI {α : Type} [Inhabited α] {l : List α} {x : α} : (l ++ [x])[l.length]! = x := by
 rw [aZ _ _ (by rw [List.length_append, List.length_singleton]; omega)]; simp
theorem Ni {stk : List Tg} (hl : 0 < stk.length) (h : stk[0]! = ⟨0, true⟩) : cV stk 0 = 0 := by
 cases stk with
 | nil => simp at hl
 | cons t l =>
  have ht : t = ⟨0, true⟩ := h
  subst ht
  unfold cV
  rw [List.findIdx?_cons]
  simp
def Hd (m : List Cl) : Prop := ∀ c, c < m.length → m[c]!.stk[0]! = ⟨0, true⟩
theorem N2 {m : List Cl} (h : OkM m) (hh : Hd m) {x : Pt} (hx : 0 ≤ x.cell ∧ x.cell < m.length) (ht : x.tag = 0) (ha : m[x.cell.toNat]!.alive = true) (wr : Bool) : bJ m x wr = 0 := by
 have hc := h.at (k := x.cell.toNat) (by omega)
 have hs := hh x.cell.toNat (by omega)
 have h0 := Ni (by have := hc.l; omega) hs
 unfold bJ
 rw [if_neg (fun q => q hx), if_neg (by rw [ha]; decide), ht, h0, if_neg (by decide), if_neg]
 rintro ⟨_, h2⟩
 have e : m[x.cell.toNat]!.stk[(0 : Int).toNat]! = m[x.cell.toNat]!.stk[0]! := rfl
 rw [e, hs] at h2; cases h2
theorem x6 {m : List Cl} (hh : Hd m) {k : Nat} {c : Cl} (hc : c.stk[0]! = ⟨0, true⟩) : Hd (m.set k c) := fun j hj => by
 rw [List.length_set] at hj
 rw [aR]
 split
 ·exact hc
 ·exact hh j hj
theorem rR {m : List Cl} (h : OkM m) (hh : Hd m) {k : Nat} (hk : k < m.length) (x : Pt) (wr : Bool) : (rG m[k]! x wr).stk[0]! = ⟨0, true⟩ := by
 have hl := (h.at hk).l
 show (jZ m[k]!.stk _ wr)[0]! = _
 rw [(vZ (by omega)).1]; exact hh k hk
theorem Hd.tch {m : List Cl} (h : OkM m) (hh : Hd m) (x : Pt) (wr : Bool) : Hd (j9 m x wr) := by
 unfold j9; split
 ·rename_i hk; exact x6 hh (rR h hh (iF hk).2.2 x wr)
 ·exact hh
theorem Hd.fr {m : List Cl} (h : OkM m) (hh : Hd m) (x : Pt) : Hd (kQ m x) := by
 unfold kQ; split
 ·rename_i hk; exact x6 hh (rR h hh (iF hk).2.2 x true)
 ·exact hh
theorem Hd.wr {m : List Cl} (h : OkM m) (hh : Hd m) (x : Pt) (v : Int) : Hd (yX m x v) := by
 unfold yX
 by_cases hk : zQ m x v = 0
 ·rw [if_pos hk]
  unfold zQ at hk
  by_cases hv : 0 ≤ v ∧ v ≤ 9
  ·rw [if_pos hv] at hk; exact x6 hh (rR h hh (iF hk).2.2 x true)
  ·rw [if_neg hv] at hk; cases hk
 ·rw [if_neg hk]; exact hh
theorem AT {m : List Cl} {x : Pt} {u : Bool} (h : zP m x u = 0) : bJ m x u = 0 := by
 unfold zP at h
 by_cases h0 : bJ m x u = 0
 ·exact h0
 ·rw [if_neg h0] at h; exact h
theorem Hd.ln {m : List Cl} (h : OkM m) (hh : Hd m) (x : Pt) (u : Bool) : Hd (vD m x u) := by
 unfold vD; split
 ·rename_i hk
  have h0 := iF (AT hk)
  have h1 := rR h hh h0.2.2 x u
  have h2 := ((h.at h0.2.2).tch x u).l
  refine x6 hh ?_
  show ((rG m[x.cell.toNat]! x u).stk ++ [_])[0]! = _
  rw [xS (by omega)]; exact h1
 ·exact hh
theorem Hd.nw {m : List Cl} (hh : Hd m) (v : Int) : Hd (m ++ [r8 v]) := fun c hc => by
 rw [List.length_append, List.length_singleton] at hc
 by_cases q : c < m.length
 ·rw [xS q]; exact hh c q
 ·have e : c = m.length := by omega
  subst e
  rw [CI]; rfl
def pT (m : List Cl) (c : Nat) : Bool := m[c]!.alive
theorem r7 {m : List Cl} {k c : Nat} {x : Cl} (hc : c < m.length) : pT (m.set k x) c = if k = c then x.alive else pT m c := by
 unfold pT
 rw [aR]
 by_cases h : k = c
 ·rw [if_pos ⟨h, hc⟩, if_pos h]
 ·rw [if_neg (fun q => h q.1), if_neg h]
theorem J0 (m : List Cl) (x : Pt) (wr : Bool) (c : Nat) (hc : c < m.length) : pT (j9 m x wr) c = pT m c := by
 unfold j9; split
 ·rw [r7 hc]; split
  ·rename_i e; subst e; rfl
  ·rfl
 ·rfl
theorem N3 (m : List Cl) (x : Pt) (u : Bool) (c : Nat) (hc : c < m.length) : pT (vD m x u) c = pT m c := by
 unfold vD; split
 ·rw [r7 hc]; split
  ·rename_i e; subst e; rfl
  ·rfl
 ·rfl
theorem N4 (m : List Cl) (x : Pt) (v : Int) (c : Nat) (hc : c < m.length) : pT (yX m x v) c = pT m c := by
 unfold yX; split
 ·rw [r7 hc]; split
  ·rename_i e; subst e; rfl
  ·rfl
 ·rfl
theorem Ce {m : List Cl} {x : Pt} (hk : bJ m x true = 0) (c : Nat) (hc : c < m.length) : pT (kQ m x) c = if x.cell = (c : Int) then false else pT m c := by
 have h0 := iF hk
 unfold kQ
 rw [if_pos hk, r7 hc]
 by_cases q : x.cell = (c : Int)
 ·rw [if_pos q, if_pos (by omega)]
 ·rw [if_neg q, if_neg (by omega)]
structure Own (ts : List Int) (s : Mc) (X : Option Nat) : Prop where
 k : OkS ts.length s
 h : Hd s.cells
 o : ∀ v, v < ts.length → ts[v]! = 2 → s.slots[v]!.set = true → 0 ≤ s.slots[v]!.ptr.cell ∧ s.slots[v]!.ptr.cell < s.cells.length ∧ s.slots[v]!.ptr.tag = 0 ∧ pT s.cells s.slots[v]!.ptr.cell.toNat = true
 d : ∀ v u, v < ts.length → u < ts.length → ts[v]! = 2 → ts[u]! = 2 → s.slots[v]!.set = true → s.slots[u]!.set = true → s.slots[v]!.ptr.cell = s.slots[u]!.ptr.cell → v = u
 a : ∀ c, c < s.cells.length → pT s.cells c = true → X = some c ∨ ∃ v, v < ts.length ∧ ts[v]! = 2 ∧ s.slots[v]!.set = true ∧ s.slots[v]!.ptr.cell = (c : Int)
 x : ∀ c, X = some c → c < s.cells.length ∧ pT s.cells c = true ∧ ∀ v, v < ts.length → ts[v]! = 2 → s.slots[v]!.set = true → s.slots[v]!.ptr.cell ≠ (c : Int)
theorem Own.k0 {ts : List Int} {s : Mc} {X : Option Nat} (w : Own ts s X) {v : Nat} (hv : v < ts.length) (h2 : ts[v]! = 2) (hs : s.slots[v]!.set = true) (wr : Bool) : bJ s.cells s.slots[v]!.ptr wr = 0 := by
 obtain ⟨h1, h3, h4, h5⟩ := w.o v hv h2 hs
 exact N2 w.k.m w.h ⟨h1, h3⟩ h4 h5 wr
theorem Own.cells {ts : List Int} {s : Mc} {X : Option Nat} (w : Own ts s X) {m : List Cl} (hm : OkM m) (hh : Hd m) (hl : m.length = s.cells.length) (ha : ∀ c, c < s.cells.length → pT m c = pT s.cells c) (r : List Int) : Own ts ⟨s.slots, m, r⟩ X := by
 refine ⟨⟨hm, w.k.l⟩, hh, fun v hv h2 hs => ?_, w.d, fun c hc h => ?_, fun c hc => ?_⟩
 ·obtain ⟨h1, h3, h4, h5⟩ := w.o v hv h2 hs
  exact ⟨h1, by show _ < (m.length : Int); rw [hl]; exact h3, h4, by show pT m _ = true; rw [ha _ (show s.slots[v]!.ptr.cell.toNat < s.cells.length by omega)]; exact h5⟩
 ·have hc' : c < m.length := hc
  exact w.a c (by omega) (by rw [← ha c (by omega)]; exact h)
 ·obtain ⟨h1, h3, h4⟩ := w.x c hc
  exact ⟨by show c < m.length; omega, by show pT m c = true; rw [ha c h1]; exact h3, h4⟩
theorem Own.put0 {ts : List Int} {s : Mc} {X : Option Nat} (w : Own ts s X) {v : Nat} (h2 : ts[v]! ≠ 2) (y : Sl) : Own ts (cJ ts s v y).1 X ∧ (cJ ts s v y).2 = -1 := by
 have hl : (s.slots.set v y).length = ts.length := by rw [List.length_set]; exact w.k.l
 have e : ∀ u : Nat, ts[u]! = 2 → (s.slots.set v y)[u]! = s.slots[u]! := fun u hu => by
  rw [aR, if_neg]; rintro ⟨q, _⟩; rw [q] at h2; exact h2 hu
 unfold cJ
 rw [if_neg (fun h => h2 h.1)]
 refine ⟨⟨⟨w.k.m, hl⟩, w.h, fun u hu h hs => ?_, fun u u' hu hu' h h' hs hs' hc => ?_, fun c hc h => ?_, fun c hc => ?_⟩, rfl⟩
 ·dsimp only at hs ⊢; rw [e u h] at hs ⊢; exact w.o u hu h hs
 ·dsimp only at hs hs' hc; rw [e u h] at hs hc; rw [e u' h'] at hs' hc; exact w.d u u' hu hu' h h' hs hs' hc
 ·rcases w.a c hc h with q | ⟨u, q1, q2, q3, q4⟩
  ·exact .inl q
  ·exact .inr ⟨u, q1, q2, by dsimp only; rw [e u q2]; exact q3, by dsimp only; rw [e u q2]; exact q4⟩
 ·obtain ⟨h1, h3, h4⟩ := w.x c hc
  exact ⟨h1, h3, fun u q1 q2 q3 => by dsimp only at q3 ⊢; rw [e u q2] at q3 ⊢; exact h4 u q1 q2 q3⟩
theorem Own.free {ts : List Int} {s : Mc} {X : Option Nat} (w : Own ts s X) {v : Nat} (hv : v < ts.length) (h2 : ts[v]! = 2) (hs : s.slots[v]!.set = true) (y : Sl) (hy : y.set = false) (r : List Int) :
  Own ts ⟨s.slots.set v y, kQ s.cells s.slots[v]!.ptr, r⟩ X := by
 have hk := w.k0 hv h2 hs true
 have hlen := nE s.cells s.slots[v]!.ptr
 have hl : (s.slots.set v y).length = ts.length := by rw [List.length_set]; exact w.k.l
 have e : ∀ u : Nat, u ≠ v → (s.slots.set v y)[u]! = s.slots[u]! := fun u hu => by
  rw [aR, if_neg]; rintro ⟨q, _⟩; exact hu q.symm
 have ev : (s.slots.set v y)[v]! = y := by rw [aR, if_pos ⟨rfl, by rw [w.k.l]; exact hv⟩]
 have nev : ∀ u : Nat, (s.slots.set v y)[u]!.set = true → u ≠ v := fun u h q => by rw [q, ev, hy] at h; cases h
 obtain ⟨b1, b2, b3, b4⟩ := w.o v hv h2 hs
 refine ⟨⟨w.k.m.fr _, hl⟩, w.h.fr w.k.m _, fun u hu h hs' => ?_, fun u u' hu hu' h h' q q' hc => ?_, fun c hc h => ?_, fun c hc => ?_⟩
 ·have hne := nev u hs'
  dsimp only at hs' ⊢
  rw [e u hne] at hs' ⊢
  obtain ⟨c1, c2, c3, c4⟩ := w.o u hu h hs'
  refine ⟨c1, by rw [hlen]; exact c2, c3, ?_⟩
  rw [Ce hk _ (by omega), if_neg]
  ·exact c4
  ·intro q; exact hne (w.d u v hu hv h h2 hs' hs (by omega))
 ·have n1 := nev u q
  have n2 := nev u' q'
  dsimp only at q q' hc
  rw [e u n1] at q hc; rw [e u' n2] at q' hc
  exact w.d u u' hu hu' h h' q q' hc
 ·dsimp only at hc h
  rw [hlen] at hc
  rw [Ce hk c hc] at h
  by_cases q : s.slots[v]!.ptr.cell = (c : Int)
  ·rw [if_pos q] at h; cases h
  ·rw [if_neg q] at h
   rcases w.a c hc h with q2 | ⟨u, q1, q2, q3, q4⟩
   ·exact .inl q2
   ·have hne : u ≠ v := fun e' => q (by rw [← e']; exact q4)
    exact .inr ⟨u, q1, q2, by dsimp only; rw [e u hne]; exact q3, by dsimp only; rw [e u hne]; exact q4⟩
 ·obtain ⟨h1, h3, h4⟩ := w.x c hc
  refine ⟨by dsimp only; rw [hlen]; exact h1, ?_, fun u q1 q2 q3 => ?_⟩
  ·dsimp only; rw [Ce hk c h1, if_neg (h4 v hv h2 hs)]; exact h3
  ·have hne := nev u q3
   dsimp only at q3 ⊢
   rw [e u hne] at q3 ⊢
   exact h4 u q1 q2 q3
theorem Own.take {ts : List Int} {s : Mc} {c : Nat} (w : Own ts s (some c)) {v : Nat} (hv : v < ts.length) (h2 : ts[v]! = 2) (hs : s.slots[v]!.set = false) (y : Sl) (hy : y.set = true) (hp : y.ptr = ⟨c, 0⟩) : Own ts ⟨s.slots.set v y, s.cells, s.read⟩ none := by
 have hl : (s.slots.set v y).length = ts.length := by rw [List.length_set]; exact w.k.l
 have e : ∀ u : Nat, u ≠ v → (s.slots.set v y)[u]! = s.slots[u]! := fun u hu => by
  rw [aR, if_neg]; rintro ⟨q, _⟩; exact hu q.symm
 have ev : (s.slots.set v y)[v]! = y := by rw [aR, if_pos ⟨rfl, by rw [w.k.l]; exact hv⟩]
 obtain ⟨x1, x2, x3⟩ := w.x c rfl
 refine ⟨⟨w.k.m, hl⟩, w.h, fun u hu h hs' => ?_, fun u u' hu hu' h h' q q' hc => ?_, fun c' hc h => ?_, fun c' hc => by cases hc⟩
 ·by_cases q : u = v
  ·subst q; dsimp only; rw [ev, hp]
   exact ⟨by dsimp only; omega, by dsimp only; omega, rfl, by simpa using x2⟩
  ·dsimp only at hs' ⊢; rw [e u q] at hs' ⊢; exact w.o u hu h hs'
 ·dsimp only at q q' hc
  by_cases n1 : u = v
  ·by_cases n2 : u' = v
   ·rw [n1, n2]
   ·exfalso; rw [n1, ev, hp, e u' n2] at hc; rw [e u' n2] at q'; exact x3 u' hu' h' q' hc.symm
  ·by_cases n2 : u' = v
   ·exfalso; rw [n2, ev, hp, e u n1] at hc; rw [e u n1] at q; exact x3 u hu h q hc
   ·rw [e u n1] at q hc; rw [e u' n2] at q' hc; exact w.d u u' hu hu' h h' q q' hc
 ·dsimp only at hc h
  rcases w.a c' hc h with q2 | ⟨u, q1, q2, q3, q4⟩
  ·cases q2
   exact .inr ⟨v, hv, h2, by dsimp only; rw [ev]; exact hy, by dsimp only; rw [ev, hp]⟩
  ·have hne : u ≠ v := fun e' => by rw [e', hs] at q3; cases q3
   exact .inr ⟨u, q1, q2, by dsimp only; rw [e u hne]; exact q3, by dsimp only; rw [e u hne]; exact q4⟩
theorem IM {xs : List Sl} (v : Nat) (y z : Sl) : (xs.set v y).set v z = xs.set v z := by simp
theorem Own.putB {ts : List Int} {s : Mc} {c : Nat} (w : Own ts s (some c)) {v : Nat} (hv : v < ts.length) (h2 : ts[v]! = 2) (y : Sl) (hy : y.set = true) (hp : y.ptr = ⟨c, 0⟩) : Own ts (cJ ts s v y).1 none ∧ (cJ ts s v y).2 = -1 := by
 unfold cJ
 by_cases hs : s.slots[v]!.set = true
 ·rw [if_pos ⟨h2, hs⟩]
  have hk := w.k0 hv h2 hs true
  have w1 := w.free hv h2 hs lQ rfl s.read
  have w2 := w1.take hv h2 (by dsimp only; rw [aR, if_pos ⟨rfl, by rw [w.k.l]; exact hv⟩]; rfl) y hy hp
  dsimp only at w2 ⊢
  rw [IM] at w2
  refine ⟨w2, ?_⟩
  unfold nN; rw [if_pos hk]
 ·rw [if_neg (fun h => hs h.2)]
  exact ⟨w.take hv h2 (by simpa using hs) y hy hp, rfl⟩
end Go.AL
namespace Go.AL
section
variable {ts : List Int} {s : Mc}
theorem Own.new (w : Own ts s none) {n : Int} (hn : 0 ≤ n ∧ n ≤ 9) (hl : s.cells.length ≠ 200) (r : List Int) : Own ts ⟨s.slots, s.cells ++ [r8 n], r⟩ (some s.cells.length) := by
 have hlen : (s.cells ++ [r8 n]).length = s.cells.length + 1 := by rw [List.length_append, List.length_singleton]
 have lo : ∀ c, c < s.cells.length → pT (s.cells ++ [r8 n]) c = pT s.cells c := fun c hc => by
  unfold pT
  rw [xS hc]
 have hi : pT (s.cells ++ [r8 n]) s.cells.length = true := by
  unfold pT; rw [CI]; rfl
 refine ⟨⟨w.k.m.nw hn (by have := w.k.m.l; omega), w.k.l⟩, w.h.nw n, fun v hv h2 hs => ?_, w.d, fun c hc h => ?_, fun c hc => ?_⟩
 ·obtain ⟨h1, h3, h4, h5⟩ := w.o v hv h2 hs
  exact ⟨h1, by dsimp only; omega, h4, by dsimp only; rw [lo _ (by omega)]; exact h5⟩
 ·dsimp only at hc h
  by_cases q : c < s.cells.length
  ·rw [lo c q] at h
   rcases w.a c q h with q2 | q2
   ·cases q2
   ·exact .inr q2
  ·exact .inl (by congr 1; omega)
 ·cases hc
  refine ⟨by dsimp only; omega, hi, fun v hv h2 hs => ?_⟩
  obtain ⟨h1, h3, h4, h5⟩ := w.o v hv h2 hs
  dsimp only; omega
theorem Own.give (w : Own ts s none) {v : Nat} (hv : v < ts.length) (h2 : ts[v]! = 2) (hs : s.slots[v]!.set = true) : Own ts ⟨s.slots.set v lQ, s.cells, s.read⟩ (some s.slots[v]!.ptr.cell.toNat) := by
 have hl : (s.slots.set v lQ).length = ts.length := by rw [List.length_set]; exact w.k.l
 have e : ∀ u : Nat, u ≠ v → (s.slots.set v lQ)[u]! = s.slots[u]! := fun u hu => by
  rw [aR, if_neg]; rintro ⟨q, _⟩; exact hu q.symm
 have ev : (s.slots.set v lQ)[v]! = lQ := by rw [aR, if_pos ⟨rfl, by rw [w.k.l]; exact hv⟩]
 have nev : ∀ u : Nat, (s.slots.set v lQ)[u]!.set = true → u ≠ v := fun u h q => by rw [q, ev] at h; cases h
 obtain ⟨b1, b2, b3, b4⟩ := w.o v hv h2 hs
 refine ⟨⟨w.k.m, hl⟩, w.h, fun u hu h hs' => ?_, fun u u' hu hu' h h' q q' hc => ?_, fun c hc h => ?_, fun c hc => ?_⟩
 ·have hne := nev u hs'
  dsimp only at hs' ⊢; rw [e u hne] at hs' ⊢; exact w.o u hu h hs'
 ·have n1 := nev u q
  have n2 := nev u' q'
  dsimp only at q q' hc
  rw [e u n1] at q hc; rw [e u' n2] at q' hc
  exact w.d u u' hu hu' h h' q q' hc
 ·rcases w.a c hc h with q2 | ⟨u, q1, q2, q3, q4⟩
  ·cases q2
  ·by_cases q : u = v
   ·subst q; exact .inl (by congr 1; omega)
   ·exact .inr ⟨u, q1, q2, by dsimp only; rw [e u q]; exact q3, by dsimp only; rw [e u q]; exact q4⟩
 ·cases hc
  refine ⟨by dsimp only; omega, b4, fun u q1 q2 q3 => ?_⟩
  have hne := nev u q3
  dsimp only at q3 ⊢
  rw [e u hne] at q3 ⊢
  intro q; exact hne (w.d u v q1 hv q2 h2 q3 hs (by omega))
theorem Own.clr (w : Own ts s none) {v : Nat} (h2 : ts[v]! ≠ 2) : Own ts ⟨s.slots.set v lQ, s.cells, s.read⟩ none := by
 have h := (w.put0 h2 lQ).1
 unfold cJ at h
 rwa [if_neg (fun h => h2 h.1)] at h
theorem Own.do (w : Own ts s none) {x : Pnt} (A : PtA ts x) (h11 : x.op ≠ 11) (hx : x.op ≤ 8 → 0 ≤ x.x ∧ x.x < ts.length) (hop : 1 ≤ x.op) (hy : 3 ≤ x.op → x.op ≤ 7 → 0 ≤ x.y ∧ x.y < ts.length) (hu : bV ts s x = false) : Own ts (cD ts s x).1 none := by
 unfold cD
 by_cases h1 : x.op = 1
 ·rw [if_pos h1]; exact (w.put0 (by rw [A.t1 h1]; decide) _).1
 rw [if_neg h1]
 by_cases h2 : x.op = 2
 ·rw [if_pos h2]
  split
  ·exact w
  ·rename_i h200
   have hxb := hx (by omega)
   exact ((w.new (A.n (.inr h2)) h200 s.read).putB (v := x.x.toNat) (by omega) (A.t2 (.inl h2)) _ rfl rfl).1
 rw [if_neg h2]
 by_cases h3 : x.op = 3
 ·rw [if_pos h3]
  have hxb := hx (by omega)
  have hyb := hy (by omega) (by omega)
  obtain ⟨ht, hne⟩ := A.t3 h3
  have hyn : ((x.y.toNat : Nat) : Int) = x.y := by omega
  have hys : s.slots[x.y.toNat]!.set = true := kX hu (v := x.y.toNat) (by omega) (by
   unfold aT; rw [if_pos h3, if_pos hyn]; split <;> decide)
  by_cases q2 : ts[x.y.toNat]! = 2
  ·rw [if_pos (CZ.2 (.inl q2))]
   have g := w.give (v := x.y.toNat) (by omega) q2 hys
   obtain ⟨b1, b2, b3, b4⟩ := w.o x.y.toNat (by omega) q2 hys
   refine (g.putB (v := x.x.toNat) (by omega) (by rw [ht]; exact q2) _ hys ?_).1
   generalize s.slots[x.y.toNat]! = z at b1 b3
   obtain ⟨zs, zn, zc, zt⟩ := z
   dsimp only at b1 b3 ⊢
   rw [b3, Int.toNat_of_nonneg b1]
  ·split
   ·exact ((w.clr (v := x.y.toNat) q2).put0 (by rw [ht]; exact q2) _).1
   ·exact (w.put0 (by rw [ht]; exact q2) _).1
 rw [if_neg h3]
 by_cases h4 : x.op = 4 ∨ x.op = 5
 ·rw [if_pos h4]
  have hxt : ts[x.x.toNat]! ≠ 2 := by
   rcases h4 with h4 | h4
   ·rw [(A.t4 h4).1]; decide
   ·rw [(A.t5 h4).1]; decide
  split
  ·exact ((w.cells (w.k.m.ln _ _) (w.h.ln w.k.m _ _) (Es _ _ _) (fun c hc => N3 _ _ _ c hc) _).put0 hxt _).1
  ·exact w
 rw [if_neg h4]
 by_cases h6 : x.op = 6
 ·rw [if_pos h6]
  have hxt : ts[x.x.toNat]! ≠ 2 := by rw [(A.t6 h6).1]; decide
  split
  ·exact ((w.cells (w.k.m.tch _ _) (w.h.tch w.k.m _ _) (u6 _ _ _) (fun c hc => J0 _ _ _ c hc) _).put0 hxt _).1
  ·exact w
 rw [if_neg h6]
 by_cases h7 : x.op = 7
 ·rw [if_pos h7]; exact w.cells (w.k.m.wr _ _) (w.h.wr w.k.m _ _) (DK _ _ _) (fun c hc => N4 _ _ _ c hc) _
 rw [if_neg h7]
 by_cases h8 : x.op = 8
 ·rw [if_pos h8]
  have hxb := hx (by omega)
  have hxn : ((x.x.toNat : Nat) : Int) = x.x := by omega
  have hxs : s.slots[x.x.toNat]!.set = true := kX hu (v := x.x.toNat) (by omega) (by
   unfold aT; rw [if_neg (by omega), if_neg (by omega), if_neg (by omega), if_pos h8, if_pos hxn]; decide)
  exact w.free (v := x.x.toNat) (by omega) (A.t2 (.inr h8)) hxs lQ rfl _
 rw [if_neg h8, if_neg h11]
 exact w
end
theorem Own.fin {ts : List Int} : ∀ n v (s : Mc), Own ts s none → v + n = ts.length → (∀ u, u < v → ts[u]! = 2 → s.slots[u]!.set = false) →
  (cM ts n v s).2 = 0 ∧ Own ts (cM ts n v s).1 none ∧ ∀ u, u < ts.length → ts[u]! = 2 → (cM ts n v s).1.slots[u]!.set = false
 | 0, v, s, w, hv, h => ⟨rfl, w, fun u hu h2 => h u (by omega) h2⟩
 | n + 1, v, s, w, hv, h => by
  unfold cM
  by_cases q : ts[v]! = 2 ∧ s.slots[v]!.set = true
  ·rw [if_pos q, if_pos (w.k0 (by omega) q.1 q.2 true)]
   refine Own.fin n (v + 1) _ (w.free (by omega) q.1 q.2 lQ rfl _) (by omega) fun u hu h2 => ?_
   dsimp only
   rw [aR]
   by_cases e : v = u
   ·rw [if_pos ⟨e, by rw [w.k.l]; omega⟩]; rfl
   ·rw [if_neg (fun h => e h.1)]; exact h u (by omega) h2
  ·rw [if_neg q]
   refine Own.fin n (v + 1) s w (by omega) fun u hu h2 => ?_
   by_cases e : u = v
   ·subst e
    cases hs : s.slots[u]!.set with
    | false => rfl
    | true => exact absurd ⟨h2, hs⟩ q
   ·exact h u (by omega) h2
theorem Own.start (ts : List Int) : Own ts (mc0 ts.length) none := by
 have e : ∀ v, v < ts.length → (mc0 ts.length).slots[v]! = lQ := fun v hv => by
  show (List.replicate ts.length lQ)[v]! = lQ
  rw [aZ _ _ (by simpa using hv)]; simp
 refine ⟨OkS.mc0 _, fun c hc => ?_, fun v hv _ hs => ?_, fun v u hv _ _ _ hs => ?_, fun c hc => ?_, fun c hc => by cases hc⟩
 ·have : c < ([] : List Cl).length := hc
  simp at this
 ·rw [e v hv] at hs; cases hs
 ·rw [e v hv] at hs; cases hs
 ·have : c < ([] : List Cl).length := hc
  simp at this
theorem A2 {ts : List Int} {pts : List Pnt} (w : WG ts pts) (A : WA ts pts) (cs : List Int) (n : Nat) (h2 : (cQ ts pts cs n).2.1 = 0) :
  (∀ c, c < (cQ ts pts cs n).1.cells.length → pT (cQ ts pts cs n).1.cells c = false) ∧ ∀ v, v < ts.length → ts[v]! = 2 → (cQ ts pts cs n).1.slots[v]!.set = false := by
 have h := KA w A (fun _ s => Own ts s none) (fun a s k ha h11 he hI hu hgo => hI.do (A.a a ha) h11 (fun h => ⟨(w.x a ha).1, (w.x a ha).2 h⟩) (w.op a ha).1 (fun h1 h2 => ⟨(w.y a ha).1, (w.y a ha).2 h1 h2⟩) hu) n 0 cs (mc0 ts.length) 0 w.p0 (Own.start ts)
 change Ok ts pts _ (cQ ts pts cs n) at h
 rcases h with h | ⟨s', h0, hI, ⟨h3, _⟩ | ⟨_, h4, h5, h6⟩⟩
 ·rw [h] at h2; cases h2
 ·rw [h3] at h2; cases h2
 ·by_cases q : pts[(cQ ts pts cs n).2.2]!.op = 11
  ·rw [BM q] at h5
   obtain ⟨_, w2, h7⟩ := Own.fin ts.length 0 s' hI (by omega) (fun u hu => by omega)
   rw [h5]
   refine ⟨fun c hc => ?_, h7⟩
   cases ha : pT (cM ts ts.length 0 s').1.cells c with
   | false => rfl
   | true =>
    rcases w2.a c hc ha with q2 | ⟨v, q1, q2, q3, _⟩
    ·cases q2
    ·rw [h7 v q1 q2] at q3; cases q3
  ·rw [h2] at h6
   rcases G3 (ts := ts) (s := s') q with e | e | e | e <;> (rw [e] at h6; cases h6)
theorem lX (ts : List Int) : ∀ n v (s : Mc), (cM ts n v s).1.read = s.read
 | 0, _, _ => rfl
 | n + 1, v, s => by
  unfold cM; split
  ·split
   ·exact lX ts n _ _
   ·rfl
  ·exact lX ts n _ _
theorem e6 (ts : List Int) (s : Mc) (v : Nat) (x : Sl) : (cJ ts s v x).1.read = s.read := by unfold cJ; split <;> rfl
end Go.AL
namespace Go.AL
structure Co where
 val : Int
 alive : Bool
 next : Int
 av : AV
instance : Inhabited Co := ⟨⟨0, false, 0, .imm 0 []⟩⟩
def gC (c : Co) : List AV := [iv c.val, bv c.alive, iv c.next, c.av]
instance : FlT gC 4 := ⟨fun _ => rfl⟩
instance : FE gC (fun c => [iv c.val, bv c.alive, iv c.next, c.av]) := ⟨fun _ => rfl⟩
def rP (c : Cl) : Co := ⟨c.val, c.alive, c.next, sl dA c.stk⟩
def dR (m : List Cl) (j : Nat) (X : AV) : List Co := (m.map rP).set j { rP m[j]! with av := X }
theorem kM (m : List Cl) : flat gC (m.map rP) = flat cY m := by
 unfold flat; rw [List.flatMap_map]; rfl
theorem dH {m : List Cl} {j : Nat} {X : AV} : (dR m j X).length = m.length := by unfold dR; rw [List.length_set, List.length_map]
theorem iM {m : List Cl} {j : Nat} {X : AV} (h : j < m.length) : (dR m j X)[j]! = ⟨m[j]!.val, m[j]!.alive, m[j]!.next, X⟩ := by
 unfold dR
 rw [aZ _ _ (by rw [List.length_set, List.length_map]; exact h), List.getElem_set_self]; rfl
theorem jJ {m : List Cl} {j : Nat} {X : AV} (h : j < m.length) : flat gC (dR m j X) = flat cY (m.take j) ++ ([iv m[j]!.val, bv m[j]!.alive, iv m[j]!.next] ++ X :: flat cY (m.drop (j + 1))) := by
 unfold dR
 rw [List.set_eq_take_append_cons_drop, if_pos (by rw [List.length_map]; exact h), ← bO, ← List.map_take, kM, ← List.map_drop]
 congr 1
 show gC _ ++ flat gC _ = _
 rw [kM]; rfl
theorem vT {m : List Cl} {j : Nat} {X : AV} (h : j < m.length) : flat gC (dR m j X) = (flat cY (m.take j) ++ [iv m[j]!.val, bv m[j]!.alive, iv m[j]!.next]) ++ X :: flat cY (m.drop (j + 1)) := by
 rw [jJ h, List.append_assoc]
theorem Aq {m : List Cl} {j : Nat} {r : List Tg} : flat gC (dR m j (sl dA r)) = flat cY (m.set j { m[j]! with stk := r }) := by
 rw [← kM, List.map_set]; rfl
theorem Kh {m : List Cl} {j : Nat} {X : AV} (h : j < m.length) : gI (flat cY m) (0 + j * 4 + 3) [X] = flat gC (dR m j X) := by
 rw [← kM]
 have := fA (f := gC) (xs := m.map rP) (k := j) (j := 3) (new := [X]) (y := { rP m[j]! with av := X }) (by rw [List.length_map]; exact h) (by simp) (by
  have e : (m.map rP)[j]! = rP m[j]! := by rw [aZ _ _ (by rw [List.length_map]; exact h), List.getElem_map, aZ _ _ h]
  rw [e]; rfl)
 exact this
theorem xH {m : List Cl} {j : Nat} {X Y : AV} (h : j < m.length) : gI (flat gC (dR m j X)) (0 + j * 4 + 3) [Y] = flat gC (dR m j Y) := by
 have e : dR m j Y = (dR m j X).set j { rP m[j]! with av := Y } := by unfold dR; rw [List.set_set]
 rw [e]
 exact fA (by rw [dH]; exact h) (by simp) (by rw [iM h]; rfl)
theorem D6 {m : List Cl} {j : Nat} {X : AV} {v : Int} (h : j < m.length) : gI (flat gC (dR m j X)) (0 + j * 4 + 2) [iv v] = flat gC (dR (m.set j { m[j]! with next := v }) j X) := by
 have e : dR (m.set j { m[j]! with next := v }) j X = (dR m j X).set j ⟨m[j]!.val, m[j]!.alive, v, X⟩ := by
  have e2 : (m.set j { m[j]! with next := v })[j]! = { m[j]! with next := v } := by rw [aZ _ _ (by rw [List.length_set]; exact h), List.getElem_set_self]
  unfold dR
  rw [e2, List.map_set, List.set_set, List.set_set]; rfl
 rw [e]
 exact fA (by rw [dH]; exact h) (by simp) (by rw [iM h]; rfl)
theorem Le.cls {ts : List (Nat × AV)} {hs : List (Nat × Option (List AV))} {n : Nat} {z0 : Lo} {o q j k : Nat} {m : List Cl} {r : List Tg} (hj : aS hs o = some (flat gC (dR m j (.own q 0 k 2)))) (hq : aS hs q = some (flat dA r)) (hk : k = r.length) (hjm : j < m.length) (hoq : o ≠ q) :
  Le ⟨ts, hs, n, z0⟩ ⟨ts, (o, some (flat cY (m.set j { m[j]! with stk := r }))) :: (q, none) :: hs, n, z0⟩ := by
 subst hk
 rw [vT hjm] at hj
 have h := Le.frzC (ts := ts) (n := n) (z0 := z0) _ hj hq hoq
 rw [← Aq, vT hjm]; exact h
theorem n8 {ρ : Nat → Option Nat} {m : List Cl} {j k i i' : Nat} (hr : ρ i = some i') : RnL ρ (flat gC (dR m j (.own i 0 k 2))) (flat gC (dR m j (.own i' 0 k 2))) := by
 by_cases h : j < m.length
 ·rw [jJ h, jJ h]
  exact RnL.app (RnL.purI inferInstance) (RnL.app (RnL.purI inferInstance) (RnL.cons (RnV.own hr) (RnL.purI inferInstance)))
 ·have e : ∀ X, dR m j X = m.map rP := fun X => List.set_eq_of_length_le (by rw [List.length_map]; omega)
  rw [e, e, kM]
  exact RnL.purI inferInstance
end Go.AL
namespace Go.AL
def Ac (ts : List Int) (pts : List Pnt) (a w : Nat) (wr : Bool) : Prop :=
 ((pts[a]!.op = 4 ∨ pts[a]!.op = 6) ∧ pts[a]!.y = (w : Int) ∧ wr = false) ∨ (pts[a]!.op = 5 ∧ pts[a]!.y = (w : Int) ∧ wr = true) ∨ ((pts[a]!.op = 7 ∨ pts[a]!.op = 8) ∧ pts[a]!.x = (w : Int) ∧ wr = true) ∨
 (pts[a]!.op = 3 ∧ Ck ts[w]! = true ∧ pts[a]!.y = (w : Int) ∧ wr = true) ∨ (aN pts[a]! = (w : Int) ∧ ts[w]! = 2 ∧ Mb ts pts (a, w) ∧ wr = true)
def Kp (ts : List Int) (pts : List Pnt) (a v : Nat) : Prop := Lv ts pts a v ∧ aN pts[a]! ≠ (v : Int) ∧ aT ts pts[a]! v ≠ 2
def Cf (ts : List Int) (pts : List Pnt) (a L : Nat) : Prop := ∃ v w wr, Kp ts pts a v ∧ Ac ts pts a w wr ∧ Ha ts pts (a, v, L) ∧ Lw ts pts (a, L) ∧ pts[L]!.y = (w : Int) ∧ (wr = true ∨ pts[L]!.op = 5)
end Go.AL
namespace Go.AL
section
variable {ts : List Int} {pts : List Pnt} {N : Int} {a k : Nat} {s : Mc}
theorem o6 (ts : List Int) (s : Mc) (v : Nat) (x : Sl) : (cJ ts s v x).1.cells = if ts[v]! = 2 ∧ s.slots[v]!.set = true then kQ s.cells s.slots[v]!.ptr else s.cells := by
 unfold cJ; split <;> rfl
end
end Go.AL
namespace Go.AL
section
variable {ts : List Int} {pts : List Pnt} {N : Int} {a k : Nat} {s : Mc}
theorem Cs {x : Pnt} (h : 1 ≤ x.op ∧ x.op ≤ 6) : aN x = x.x := by unfold aN; rw [if_pos h]
theorem CQ {x : Pnt} (h : 7 ≤ x.op) : aN x = -1 := by unfold aN; rw [if_neg (by omega)]
theorem O2 {c : Int} (h : nN c = -1) : c = 0 := by
 apply Classical.byContradiction; intro q
 unfold nN at h; rw [if_neg q] at h
 rcases oU c with e | e <;> (rw [e] at h; cases h)
theorem m9 {c : Int} (h : iP c = -1) : False := by rcases oU c with e | e <;> (rw [e] at h; cases h)
theorem Di {x : Pnt} (h : x.op = 4 ∨ x.op = 5 ∨ x.op = 6) {v : Nat} (hv : (v : Int) = x.y) : aT ts x v ≠ 0 := by
 unfold aT; rw [if_neg (by omega), if_pos h, if_pos hv]; decide
theorem Pb {x : Pnt} (h : x.op = 3) {v : Nat} (hv : (v : Int) = x.y) : aT ts x v ≠ 0 := by
 unfold aT; rw [if_pos h, if_pos hv]; split <;> decide
theorem Pk {x : Pnt} (h : x.op = 7) {v : Nat} (hv : (v : Int) = x.x) : aT ts x v ≠ 0 := by
 unfold aT; rw [if_neg (by omega), if_neg (by omega), if_pos h, if_pos hv]; decide
end
end Go.AL
namespace Go.AL
section
variable {ts : List Int} {pts : List Pnt} {N : Int} {a k : Nat} {s : Mc}
def yF (s : Mc) (x : Pnt) : Sl :=
 if x.op = 1 then ⟨true, x.n, ⟨0, 0⟩⟩ else if x.op = 2 then ⟨true, 0, ⟨s.cells.length, 0⟩⟩ else if x.op = 3 then s.slots[x.y.toNat]!
 else if x.op = 4 ∨ x.op = 5 then ⟨true, 0, Gw s.cells s.slots[x.y.toNat]!.ptr (decide (x.op = 5))⟩ else ⟨true, zT s.cells s.slots[x.y.toNat]!.ptr, ⟨0, 0⟩⟩
theorem WG.doY (w : WG ts pts) (A : WA ts pts) {a : Nat} (ha : a < pts.length) {s : Mc} (hl : s.slots.length = ts.length) (hu : bV ts s pts[a]! = false) (h11 : pts[a]!.op ≠ 11) (hgo : (cD ts s pts[a]!).2 = -1) :
  ∀ v, v < ts.length → (cD ts s pts[a]!).1.slots[v]! = if aN pts[a]! = (v : Int) then yF s pts[a]! else if aT ts pts[a]! v = 2 then lQ else s.slots[v]! := by
 obtain ⟨y, hy, hs⟩ := w.doS A ha hl hu h11 hgo
 have hx := w.x a ha
 have hxb := hx.2
 intro v hv
 by_cases q : aN pts[a]! = (v : Int)
 ·rw [if_pos q]
  have hop : 1 ≤ pts[a]!.op ∧ pts[a]!.op ≤ 6 := by
   apply Classical.byContradiction; intro h
   unfold aN at q; rw [if_neg h] at q; omega
  rw [Cs hop] at q
  have hxv : pts[a]!.x.toNat = v := by omega
  have hh := hgo
  unfold cD at hh ⊢
  unfold yF
  by_cases h1 : pts[a]!.op = 1
  ·rw [if_pos h1, if_pos h1, dV, hxv, aR, if_pos ⟨rfl, by omega⟩]
  rw [if_neg h1] at hh ⊢
  rw [if_neg h1]
  by_cases h2 : pts[a]!.op = 2
  ·rw [if_pos h2] at hh ⊢
   rw [if_pos h2]
   split at hh
   ·cases hh
   ·rename_i h200
    rw [if_neg h200, dV, hxv, aR, if_pos ⟨rfl, by dsimp only; omega⟩]
  rw [if_neg h2] at hh ⊢
  rw [if_neg h2]
  by_cases h3 : pts[a]!.op = 3
  ·rw [if_pos h3, if_pos h3, dV, hxv, aR, if_pos]
   refine ⟨rfl, ?_⟩
   split
   ·dsimp only; rw [List.length_set]; omega
   ·omega
  rw [if_neg h3] at hh ⊢
  rw [if_neg h3]
  by_cases h4 : pts[a]!.op = 4 ∨ pts[a]!.op = 5
  ·rw [if_pos h4] at hh ⊢
   rw [if_pos h4]
   split at hh
   ·rename_i hz
    rw [if_pos hz, dV, hxv, aR, if_pos ⟨rfl, by dsimp only; omega⟩]
   ·exact (m9 hh).elim
  rw [if_neg h4] at hh ⊢
  rw [if_neg h4]
  have h6 : pts[a]!.op = 6 := by omega
  rw [if_pos h6] at hh ⊢
  split at hh
  ·rename_i hz
   rw [if_pos hz, dV, hxv, aR, if_pos ⟨rfl, by dsimp only; omega⟩]
  ·exact (m9 hh).elim
 ·rw [hs v hv, if_neg q, if_neg q]
theorem OK {x : Pnt} (PA : PtA ts x) (h : x.op = 1) : (cD ts s x).1.cells = s.cells := by
 unfold cD; rw [if_pos h, o6, if_neg (fun q => by rw [PA.t1 h] at q; exact absurd q.1 (by decide))]
theorem OA {x : Pnt} (h : x.op = 2) (hgo : (cD ts s x).2 = -1) : (cD ts s x).1.cells = if ts[x.x.toNat]! = 2 ∧ s.slots[x.x.toNat]!.set = true then kQ (s.cells ++ [r8 x.n]) s.slots[x.x.toNat]!.ptr else s.cells ++ [r8 x.n] := by
 unfold cD at hgo ⊢
 rw [if_neg (by omega), if_pos h] at hgo ⊢
 split at hgo
 ·cases hgo
 ·rename_i h200
  rw [if_neg h200, o6]
theorem Oz {x : Pnt} (h : x.op = 3) (hne : x.x.toNat ≠ x.y.toNat) : (cD ts s x).1.cells = if ts[x.x.toNat]! = 2 ∧ s.slots[x.x.toNat]!.set = true then kQ s.cells s.slots[x.x.toNat]!.ptr else s.cells := by
 unfold cD
 rw [if_neg (by omega), if_neg (by omega), if_pos h, o6]
 split
 ·have e : (s.slots.set x.y.toNat lQ)[x.x.toNat]! = s.slots[x.x.toNat]! := by rw [aR, if_neg (fun q => hne q.1.symm)]
  dsimp only; rw [e]
 ·rfl
theorem Ix {x : Pnt} (PA : PtA ts x) (h : x.op = 4 ∨ x.op = 5) (hgo : (cD ts s x).2 = -1) : zP s.cells s.slots[x.y.toNat]!.ptr (decide (x.op = 5)) = 0 ∧ (cD ts s x).1.cells = vD s.cells s.slots[x.y.toNat]!.ptr (decide (x.op = 5)) := by
 have hxt : ts[x.x.toNat]! ≠ 2 := by
  rcases h with h4 | h4
  ·rw [(PA.t4 h4).1]; decide
  ·rw [(PA.t5 h4).1]; decide
 unfold cD at hgo ⊢
 rw [if_neg (by omega), if_neg (by omega), if_neg (by omega), if_pos h] at hgo ⊢
 split at hgo
 ·rename_i hz
  rw [if_pos hz, o6, if_neg (fun q => hxt q.1)]
  exact ⟨hz, rfl⟩
 ·exact (m9 hgo).elim
theorem zV {x : Pnt} (PA : PtA ts x) (h : x.op = 6) (hgo : (cD ts s x).2 = -1) : bJ s.cells s.slots[x.y.toNat]!.ptr false = 0 ∧ (cD ts s x).1.cells = j9 s.cells s.slots[x.y.toNat]!.ptr false := by
 have hxt : ts[x.x.toNat]! ≠ 2 := by rw [(PA.t6 h).1]; decide
 unfold cD at hgo ⊢
 rw [if_neg (by omega), if_neg (by omega), if_neg (by omega), if_neg (by omega), if_pos h] at hgo ⊢
 split at hgo
 ·rename_i hz
  rw [if_pos hz, o6, if_neg (fun q => hxt q.1)]
  exact ⟨hz, rfl⟩
 ·exact (m9 hgo).elim
theorem OM {x : Pnt} (h : x.op = 7) (hgo : (cD ts s x).2 = -1) : zQ s.cells s.slots[x.x.toNat]!.ptr s.slots[x.y.toNat]!.num = 0 ∧ (cD ts s x).1.cells = yX s.cells s.slots[x.x.toNat]!.ptr s.slots[x.y.toNat]!.num := by
 unfold cD at hgo ⊢
 rw [if_neg (by omega), if_neg (by omega), if_neg (by omega), if_neg (by omega), if_neg (by omega), if_pos h] at hgo ⊢
 exact ⟨O2 hgo, rfl⟩
theorem Ot {x : Pnt} (h : x.op = 8) (hgo : (cD ts s x).2 = -1) : bJ s.cells s.slots[x.x.toNat]!.ptr true = 0 ∧ (cD ts s x).1.cells = kQ s.cells s.slots[x.x.toNat]!.ptr := by
 unfold cD at hgo ⊢
 rw [if_neg (by omega), if_neg (by omega), if_neg (by omega), if_neg (by omega), if_neg (by omega), if_neg (by omega), if_pos h] at hgo ⊢
 exact ⟨O2 hgo, rfl⟩
theorem GG {x : Pnt} (h : 9 ≤ x.op) (h11 : x.op ≠ 11) : cD ts s x = (s, -1) := by
 unfold cD
 rw [if_neg (by omega), if_neg (by omega), if_neg (by omega), if_neg (by omega), if_neg (by omega), if_neg (by omega), if_neg (by omega), if_neg h11]
end
end Go.AL
namespace Go.AL
section
variable {ts : List Int} {pts : List Pnt} {a : Nat} {s : Mc}
theorem HN {f : Flows ts pts} {i : Iss} (ha : a < pts.length) (h : i ∈ Gg ts pts f.Aa f.Am f.Al f.Af f.Ap a) : i ∈ f.iss := List.mem_flatMap.2 ⟨a, List.mem_range.2 ha, h⟩
theorem Et {x : Pnt} {v : Nat} : (g8 x).testBit v = decide (aN x = (v : Int)) := by
 unfold g8
 split
 ·rw [Nat.testBit_two_pow, decide_eq_decide]; omega
 ·rw [Nat.zero_testBit]; exact (decide_eq_false (by omega)).symm
theorem MA (w : WG ts pts) (f : Flows ts pts) {L : Nat} (ha : a < pts.length) (h : Cf ts pts a L) : (⟨a, if pts[L]!.op = 5 then 3 else 2, L⟩ : Iss) ∈ f.iss := by
 obtain ⟨v, u, wr, hk, hA, hf, hp, hy, hw⟩ := h
 obtain ⟨hl, hln⟩ := oC hp
 dsimp only at hl hln
 obtain ⟨_, hvl, _⟩ := Bk w hf
 dsimp only at hvl
 have htl := w.tl
 have hpl := w.pl
 have hyw := w.y L hl
 have hx := w.x a ha
 have hya := w.y a ha
 refine HN ha (List.mem_append_right _ (List.mem_map.2 ⟨(L : Int), b9.2 ⟨L, by omega, ?_, rfl⟩, by rw [Int.toNat_natCast]⟩))
 rw [zX w f ha hl hln, Bool.and_eq_true, Bool.and_eq_true]
 refine ⟨List.any_eq_true.2 ?_, ?_, (f.gp.2 a ha L).2 hp⟩
 ·have near : ∀ c : Acc, c.var = (u : Int) → c.write = wr → vU pts L c = true := fun c h1 h2 => by
   unfold vU
   rw [h1, h2, hy, decide_eq_true rfl, Bool.true_and]
   rcases hw with h | h
   ·rw [h]; rfl
   ·rw [decide_eq_true h]; simp
  unfold iD
  rcases hA with ⟨h, e, e2⟩ | ⟨h, e, e2⟩ | ⟨h, e, e2⟩ | ⟨h, ht, e, e2⟩ | ⟨h, ht, hm, e2⟩
  ·exact ⟨⟨pts[a]!.y, false⟩, List.mem_append_left _ (by rw [if_pos h]; simp), near _ e e2.symm⟩
  ·exact ⟨⟨pts[a]!.y, true⟩, List.mem_append_left _ (by rw [if_neg (by omega), if_pos h]; simp), near _ e e2.symm⟩
  ·exact ⟨⟨pts[a]!.x, true⟩, List.mem_append_left _ (by rw [if_neg (by omega), if_neg (by omega), if_pos h]; simp), near _ e e2.symm⟩
  ·refine ⟨⟨pts[a]!.y, true⟩, List.mem_append_left _ ?_, near _ e e2.symm⟩
   rw [if_neg (by omega), if_neg (by omega), if_neg (by omega), if_pos ⟨h, by rw [e, Int.toNat_natCast]; exact ht⟩]; simp
  ·refine ⟨⟨aN pts[a]!, true⟩, List.mem_append_right _ ?_, near _ h e2.symm⟩
   rw [if_pos ⟨by omega, by rw [h, Int.toNat_natCast]; exact ht, by rw [h, Int.toNat_natCast]; exact (f.gm.2 a ha u).2 hm⟩]; simp
 ·unfold vP
  rw [fS]
  refine .inr ⟨(v : Int), b9.2 ⟨v, by omega, ?_, rfl⟩, ?_⟩
  ·rw [cG, (f.gl.2 a ha v).2 hk.1, Bool.true_and, Nat.testBit_or, cE, Et, decide_eq_false hk.2.1]
   have : decide (aT ts pts[a]! v ∈ ([2] : List Int)) = false := decide_eq_false (by simpa using hk.2.2)
   rw [this]; simp
  ·rw [Int.toNat_natCast, fJ f.gf.1 ha (by omega)]
   exact (f.gf.2 a v ha (by omega) L).2 hf
end
end Go.AL
namespace Go.AL
open Go.RowKit Go.MapKept
set_option linter.unusedVariables false
set_option linter.unusedSimpArgs false
def OX (r : Nat) (ks : List Int) (w : World) : Prop := ∃ es ck, w.heap[r]? = some (.map es ck) ∧ ∀ e ∈ es.toList, ∃ k ∈ ks, e.key = .int .i64 k
structure GsM (C : Ctx) (s : AS) (r : Nat) (ks : List Int) (a : Act) (w : World) : Prop where
 g : Gs C s a w
 m : OX r ks w
 l : C.w0.heap.size ≤ r
theorem Fr.trans2 {W0 W1 : Nat → Prop} {w0 w w' : World} (h : Fr W0 w0 w) (k : Fr W1 w w') (hW : ∀ b, W1 b → W0 b ∨ w0.heap.size ≤ b) : Fr W0 w0 w' :=
 ⟨k.os.trans h.os, k.tape.trans h.tape, k.output.trans h.output, Nat.le_trans h.size k.size, fun b hb hw => by
  rw [k.block b (Nat.lt_of_lt_of_le hb h.size) (fun q => (hW b q).elim hw (fun h => by omega))]; exact h.block b hb hw, fun b => Nat.le_trans (h.bs b) (k.bs b)⟩
theorem GsM.base {C : Ctx} {s : AS} {r : Nat} {ks : List Int} {a : Act} {w : World} (h : GsM C s r ks a w) : ∃ C' : Ctx, C'.N = C.N ∧ Gs C' s a w ∧ ∀ s' a' w', Gs C' s' a' w' → GsM C s' r ks a' w' := by
 obtain ⟨⟨h0, ι, g, gh⟩, ⟨es, ck, hm, hk⟩, hl⟩ := h
 let C' : Ctx := { C with w0 := w, W0 := fun b => ∃ id cs β, aS s.hs id = some cs ∧ ι id = some (some (b, β)), xlt := fun b hb => Nat.lt_of_lt_of_le (C.xlt b hb) gh.fr.size }
 have hW : ∀ b, C'.W0 b → C.W0 b ∨ C.w0.heap.size ≤ b := by
  rintro b ⟨id, cs, β, h1, h2⟩
  rcases gh.obj id cs h1 with ⟨h3, _⟩ | ⟨b', β', arr, e, h3, h4, h5, h6, h7, h8⟩
  ·rw [h3] at h2; cases h2
  ·rw [h3] at h2; cases h2; exact h8
 have hr : ¬ C'.W0 r := by
  rintro ⟨id, cs, β, h1, h2⟩
  rcases gh.obj id cs h1 with ⟨h3, _⟩ | ⟨b', β', arr, e, h3, h4, h5, h6, h7, h8⟩
  ·rw [h3] at h2; cases h2
  ·rw [h3] at h2; cases h2; rw [hm] at h4; cases h4
 refine ⟨C', rfl, ⟨h0, ι, ⟨g.df, g.sz, g.tm⟩, ⟨fun id cs h => ?_, gh.sep, Fr.refl _ _, gh.ex, gh.fresh⟩⟩, ?_⟩
 ·rcases gh.obj id cs h with h1 | ⟨b', β', arr, e, h3, h4, h5, h6, h7, h8⟩
  ·exact .inl h1
  ·exact .inr ⟨b', β', arr, e, h3, h4, h5, h6, h7, .inl ⟨id, cs, β', h, h3⟩⟩
 ·rintro s' a' w' ⟨h0', ι', g', gh'⟩
  have f : Fr C'.W0 w w' := gh'.fr
  refine ⟨⟨h0', ι', ⟨g'.df, g'.sz, g'.tm⟩, ⟨fun id cs h => ?_, gh'.sep, gh.fr.trans2 f hW, gh'.ex, gh'.fresh⟩⟩, ⟨es, ck, by rw [f.block r (eW hm) hr]; exact hm, hk⟩, hl⟩
  rcases gh'.obj id cs h with h1 | ⟨b', β', arr, e, h3, h4, h5, h6, h7, h8⟩
  ·exact .inl h1
  ·refine .inr ⟨b', β', arr, e, h3, h4, h5, h6, h7, ?_⟩
   rcases h8 with h8 | h8
   ·exact hW _ h8
   ·exact .inr (Nat.le_trans gh.fr.size h8)
def sC (P : Program) (N : Nat) (c : Code) (Q : Exit → AS → List Int → Prop) (r : Nat) (ks : List Int) (s : AS) : Prop :=
 ∀ (C : Ctx) (a : Act) (w : World), C.N = N → GsM C s r ks a w → c.wp P (fun e a' w' => ∃ s' ks', Q e s' ks' ∧ GsM C s' r ks' a' w') a w
def Gn (P : Program) (N : Nat) (all : Array Oper) (Q : Exit → AS → List Int → Prop) (r : Nat) (ks : List Int) (l : List Oper) (s : AS) : Prop :=
 ∀ (C : Ctx) (a : Act) (w : World), C.N = N → GsM C s r ks a w → wpList P all (fun e a' w' => ∃ s' ks', Q e s' ks' ∧ GsM C s' r ks' a' w') l a w
def tK (K : AS → List Int → Prop) (Q : Exit → AS → List Int → Prop) : Exit → AS → List Int → Prop
 | .normal, s, ks => K s ks
 | e, s, ks => Q e s ks
def KD (id : Nat) (Q : Exit → AS → List Int → Prop) : Exit → AS → List Int → Prop
 | .exit i, s, ks => if i = id then Q .normal s ks else Q (.exit i) s ks
 | e, s, ks => Q e s ks
section
variable {P : Program} {N : Nat} {Q : Exit → AS → List Int → Prop} {s : AS} {r : Nat} {ks : List Int}
theorem oJ {c : Code} (h : AW P N c (fun e s' => Q e s' ks) s) : sC P N c Q r ks s := by
 intro C a w hN g
 obtain ⟨C', h1, h2, h3⟩ := g.base
 exact wp_mono (h C' a w (h1.trans hN) h2) fun e a' w' ⟨s', q1, q2⟩ => ⟨s', ks, q1, h3 _ _ _ q2⟩
theorem kU {x y : Code} (h : sC P N x (tK (fun s' ks' => sC P N y Q r ks' s') Q) r ks s) : sC P N (.seq x y) Q r ks s := by
 intro C a w hN g
 refine wp_seq (wp_mono (h C a w hN g) ?_)
 rintro e a' w' ⟨s', ks', h1, h2⟩
 cases e with
 | normal => exact h1 C a' w' hN h2
 | _ => exact ⟨s', ks', h1, h2⟩
theorem Bc {x y : Code} {c : Operand} {b : Bool} (hc : ev (lk s.ts) c = some (.v (.bool b))) (h1 : b = true → sC P N x Q r ks s) (h2 : b = false → sC P N y Q r ks s) : sC P N (.cond c x y) Q r ks s := by
 rintro C a w hN ⟨⟨h0, ι, g, gh⟩, hm, hl⟩
 have h := bS g hc
 simp only [Rd] at h
 cases b
 ·exact wp_cond_false h (h2 rfl C a w hN ⟨⟨h0, ι, g, gh⟩, hm, hl⟩)
 ·exact wp_cond_true h (h1 rfl C a w hN ⟨⟨h0, ι, g, gh⟩, hm, hl⟩)
theorem v5 {id : Nat} {c : Code} (h : sC P N c (KD id Q) r ks s) : sC P N (.block id c) Q r ks s := by
 intro C a w hN g
 refine wp_block (wp_mono (h C a w hN g) ?_)
 rintro e a' w' ⟨s', ks', h1, h2⟩
 cases e with
 | exit i =>
  simp only [Exit.inBlock, KD] at h1 ⊢
  split
  ·rename_i hi; rw [if_pos hi] at h1; exact ⟨s', ks', h1, h2⟩
  ·rename_i hi; rw [if_neg hi] at h1; exact ⟨s', ks', h1, h2⟩
 | _ => exact ⟨s', ks', h1, h2⟩
theorem AY (h : Q .normal s ks) : sC P N .skip Q r ks s := fun C a w _ g => wp_skip ⟨s, ks, h, g⟩
theorem Jh {id : Nat} (h : Q (.exit id) s ks) : sC P N (.exit id) Q r ks s := fun C a w _ g => wp_exit ⟨s, ks, h, g⟩
theorem IY {σ : Type} {c : Code} (p : σ → Prop) (I : σ → AS) (J : σ → List Int) (μ : σ → Nat) (h0 : ∃ i, p i ∧ Le s (I i) ∧ J i = ks)
  (round : ∀ i, p i → sC P N c (tK (fun s' ks' => ∃ j, p j ∧ μ j < μ i ∧ Le s' (I j) ∧ J j = ks') Q) r (J i) (I i)) : sC P N (.loop c) Q r ks s := by
 intro C a w hN g
 obtain ⟨i, h1, h2, h3⟩ := h0
 subst h3
 refine wp_loop (fun a w => ∃ i, p i ∧ GsM C (I i) r (J i) a w) (fun a w => o9 fun n => ∃ i, p i ∧ GsM C (I i) r (J i) a w ∧ μ i = n) ⟨i, h1, ⟨h2 C a w g.g, g.m, g.l⟩⟩ ?_
 rintro a w ⟨i0, hp0, hg0⟩
 obtain ⟨⟨i, hp, hg, hm⟩, hmin⟩ := iK (S := fun n => ∃ i, p i ∧ GsM C (I i) r (J i) a w ∧ μ i = n) ⟨_, i0, hp0, hg0, rfl⟩
 refine wp_mono (round i hp C a w hN hg) ?_
 rintro e a' w' ⟨s', ks', h3, h4⟩
 cases e with
 | normal =>
  obtain ⟨j, q1, q2, q3, rfl⟩ := h3
  have h5 : GsM C (I j) r (J j) a' w' := ⟨q3 C a' w' h4.g, h4.m, h4.l⟩
  refine ⟨⟨j, q1, h5⟩, ?_⟩
  have := (iK (S := fun n => ∃ i, p i ∧ GsM C (I i) r (J i) a' w' ∧ μ i = n) ⟨_, j, q1, h5, rfl⟩).2 (μ j) ⟨j, q1, h5, rfl⟩
  omega
 | _ => exact ⟨s', ks', h3, h4⟩
theorem EB {σ : Type} {c : Code} {ts : List (Nat × AV)} {hs : List (Nat × Option (List AV))} {n : Nat} {z0 : Lo} (kl : List Nat) (kt : List (Nat × AV)) (js : List Nat) (kh : List (Nat × Option (List AV)))
  (ot : σ → List (Nat × AV)) (oh : σ → List (Nat × Option (List AV))) (J : σ → List Int) (p : σ → Prop) (μ : σ → Nat) (i0 : σ) (h0 : p i0) (hJ : J i0 = ks) (hk : oL kl ts = kt) (hj : qM js hs = kh)
  (h1 : pE ts (ot i0)) (h2 : nJ hs (oh i0))
  (round : ∀ i, p i → sC P N c (tK (fun s' ks' => ∃ j, p j ∧ μ j < μ i ∧ Le s' ⟨ot j ++ kt, oh j ++ kh, n, z0⟩ ∧ J j = ks') Q) r (J i) ⟨ot i ++ kt, oh i ++ kh, n, z0⟩) :
  sC P N (.loop c) Q r ks ⟨ts, hs, n, z0⟩ := by
 subst hk hj
 exact IY p (fun i => ⟨ot i ++ oL kl ts, oh i ++ qM js hs, n, z0⟩) J μ ⟨i0, h0, Le.lit (mQ h1 (mE kl)) (mS h2 (pN js)) (Nat.le_refl _), hJ⟩ round
theorem sR {id : Nat} {l : List Oper} (h : Gn P N l.toArray Q r ks l s) : sC P N (.region id l.toArray false) Q r ks s :=
 fun C a w hN g => wp_region_lit (h C a w hN g)
variable {all : Array Oper}
theorem Nf {o : Oper} {a : Act} {w : World} {K K' : Act → World → Prop} {Q1 Q2 : Exit → Act → World → Prop} (h : ∀ a w, K a w → K' a w) (hq : ∀ e a w, Q1 e a w → e = .normal)
  (hh : o.wp P a w K Q1) : o.wp P a w K' Q2 := by
 have hL : ¬ LetsOut Q1 := fun ⟨a, w, q⟩ => by cases hq _ _ _ q
 unfold Oper.wp at *
 generalize (execOp a.eval o).run P w = z at *
 cases z with
 | ok n w' =>
  cases n <;> simp only [Oper.upon] at hh ⊢ <;>
   first
    | exact h _ _ hh
    | exact Calls.mono hh (fun e w'' he => by cases e <;> first | exact h _ _ he | (cases hq _ _ _ he) | exact absurd he hL)
    | exact Rows.mono hh (fun _ _ he => h _ _ he)
 | halt x w' => cases x <;> simp only [Oper.upon] at hh ⊢ <;> (cases hq _ _ _ hh)
theorem jG {Q1 Q2 : Exit → Act → World → Prop} {l2 : List Oper} (k : ∀ e a w, Q1 e a w → e = .normal ∧ wpList P all Q2 l2 a w) : ∀ (l1 : List Oper) (a : Act) (w : World), wpList P all Q1 l1 a w → wpList P all Q2 (l1 ++ l2) a w
 | [], a, w, h => (k _ _ _ h).2
 | o :: l1, a, w, h => by
  have hL : ¬ LetsOut Q1 := fun ⟨a, w, q⟩ => by cases (k _ _ _ q).1
  rw [List.cons_append]
  unfold wpList at h ⊢
  split
  ·rename_i hw
   rw [if_pos hw] at h
   rcases h with h | ⟨_, h⟩
   ·exact .inl (Nf (fun a w => jG k l1 a w) (fun e a w q => (k e a w q).1) h)
   ·exact absurd h hL
  ·rename_i hw; rw [if_neg hw] at h; exact jG k l1 _ _ h
theorem zZ {l1 l2 : List Oper} (h : RW P N all (fun e s' => e = .normal ∧ Gn P N all Q r ks l2 s') .txt l1 s) : Gn P N all Q r ks (l1 ++ l2) s := by
 intro C a w hN g
 obtain ⟨C', h1, h2, h3⟩ := g.base
 exact jG (fun e a' w' ⟨s', ⟨q1, q2⟩, q3⟩ => ⟨q1, q2 C a' w' hN (h3 _ _ _ q3)⟩) l1 a w (h C' a w (h1.trans hN) h2)
theorem LA (h : Q .normal s ks) : Gn P N all Q r ks [] s := fun C a w _ g => wpList_nil ⟨s, ks, h, g⟩
variable {rest : List Oper} {ts : List (Nat × AV)} {hs : List (Nat × Option (List AV))} {n : Nat} {z0 : Lo} {d : Nat} {ty : TypeId} {pos : String} {af : Array Edge}
theorem Gi {dst : Option Tmp} {op : Op} {j e : Nat} {want b : Bool} (hj : (all[j]?).bind (·.dst) = some e) (hb : lk s.ts e = some (.v (.bool b))) (hw : b = want) (h : Gn P N all Q r ks (⟨dst, op, ty, pos, af, none⟩ :: rest) s) :
  Gn P N all Q r ks (⟨dst, op, ty, pos, af, some (j, want)⟩ :: rest) s := by
 subst hw
 intro C a w hN g
 have h' := h C a w hN g
 obtain ⟨⟨h0, ι, g, gh⟩, hm, hl⟩ := g
 have hyl : yielded all a.tmps j = some b := by
  obtain ⟨y, hy, hr⟩ := g.tm e _ hb
  simp only [Rd] at hr
  subst hr
  simp [yielded, hj, hy]
 unfold wpList at h' ⊢
 simp only [Region.wanted, hyl, if_true, beq_self_eq_true] at h' ⊢
 exact h'
theorem qZ {w : World} {mt kt et : TypeId} {es : Array MapEntry} {ck : Nat} {a : Int} (hu : P.underlying mt = some (.map kt et)) (hk : P.underlying kt = some (.int .i64)) (hz : (P.info? et).bind (·.zero) = some (.bool false))
  (hb : w.heap[r]? = some (.map es ck)) (hn : ∀ e ∈ es.toList, ∃ k, k ≠ a ∧ e.key = .int .i64 k) : (Instr.lookup mt (.map (some r)) (.int .i64 a) false).run P w = .ok (.bool false) w ∧ Instr.findNow (.int .i64) (.int .i64 a) es.toList 0 = some none := by
 have hkey : IsKey (.int .i64) (.int .i64 a) := by simp [IsKey]
 have hf : Instr.findNow (.int .i64) (.int .i64 a) es.toList 0 = some none := by
  rcases findNow_spec hkey es.toList 0 (fun x hx => by obtain ⟨k, _, h2⟩ := hn x hx; rw [h2]; simp [IsKey]) with ⟨h, _⟩ | ⟨j, e, _, h2, h3⟩
  ·exact h
  ·obtain ⟨k, h4, h5⟩ := hn e (List.mem_of_getElem? h2)
   rw [h5] at h3; cases h3; exact absurd rfl h4
 refine ⟨?_, hf⟩
 cases hi : P.info? et with
 | none => rw [hi] at hz; cases hz
 | some i =>
  rw [hi] at hz
  have hz2 : i.zero = some (.bool false) := hz
  simp [Instr.lookup, bZ hu, Go.MapKept.run_getObj_map hb, run_checkKey hk hkey, run_findKey hk hf, zeroValue, typeInfo, hi, hz2, Result.andThen]
theorem B3 {mt kt et : TypeId} {x y : Operand} {a : Int} (hu : P.underlying mt = some (.map kt et)) (hk : P.underlying kt = some (.int .i64)) (hz : (P.info? et).bind (·.zero) = some (.bool false))
  (hx : ev (lk ts) x = some (.v (.map (some r)))) (hy : ev (lk ts) y = some (.v (.int .i64 a))) (ha : a ∉ ks) (hN : Nat.blt d N = true) (kk : Gn P N all Q r ks rest ⟨(d, .v (.bool false)) :: ts, hs, n, z0⟩) :
  Gn P N all Q r ks (⟨some d, .lookup mt x y false, ty, pos, af, none⟩ :: rest) ⟨ts, hs, n, z0⟩ := by
 rintro C ac w hCN ⟨⟨h0, ι, g, gh⟩, ⟨es, ck, hm, hkk⟩, hl⟩
 refine wpList_plain rfl (fun K hK => ?_)
 have e1 := bS g hx
 have e2 := bS g hy
 simp only [Rd] at e1 e2
 have hr := (qZ (P := P) hu hk hz hm (a := a) (fun e he => by obtain ⟨k, h1, h2⟩ := hkk e he; exact ⟨k, fun q => ha (q ▸ h1), h2⟩)).1
 have hop : (execOp ac.eval ⟨some d, .lookup mt x y false, ty, pos, af, none⟩).run P w = .ok (.value (.bool false)) w := by
  simp [execOp, e1, e2, hr]
 simp only [Oper.wp, hop, Oper.upon]
 refine hK _ _ (kk C _ _ hCN ⟨⟨h0, ι, ?_, gh⟩, ⟨es, ck, hm, hkk⟩, hl⟩)
 show TG C ι (lk ((d, _) :: ts)) _ _ _
 rw [gT]
 exact g.put (by have := dB hN; omega) (by simp [Rd])
theorem C3 {mt kt et : TypeId} {x y z : Operand} {a : Int} (hu : P.underlying mt = some (.map kt et)) (hk : P.underlying kt = some (.int .i64)) (hz : (P.info? et).bind (·.zero) = some (.bool false))
  (hx : ev (lk ts) x = some (.v (.map (some r)))) (hy : ev (lk ts) y = some (.v (.int .i64 a))) (ha : a ∉ ks) (kk : Gn P N all Q r (ks ++ [a]) rest ⟨ts, hs, n, z0⟩) :
  Gn P N all Q r ks (⟨none, .mapUpdate mt x y z, ty, pos, af, none⟩ :: rest) ⟨ts, hs, n, z0⟩ := by
 rintro C ac w hCN ⟨⟨h0, ι, g, gh⟩, ⟨es, ck, hm, hkk⟩, hl⟩
 refine wpList_plain rfl (fun K hK => ?_)
 have e1 := bS g hx
 have e2 := bS g hy
 simp only [Rd] at e1 e2
 have hkey : IsKey (.int .i64) (.int .i64 a) := by simp [IsKey]
 have hf := (qZ (P := P) hu hk hz hm (a := a) (fun e he => by obtain ⟨k, h1, h2⟩ := hkk e he; exact ⟨k, fun q => ha (q ▸ h1), h2⟩)).2
 let o2 : Obj := .map (es.push { key := .int .i64 a, val := ac.eval z, born := ck }) (ck + 1)
 let w2 : World := { w with heap := w.heap.setIfInBounds r o2 }
 have hop : (execOp ac.eval ⟨none, .mapUpdate mt x y z, ty, pos, af, none⟩).run P w = .ok .skip w2 := by
  simp [execOp, e1, e2, Instr.mapUpdate, bZ hu, Go.MapKept.run_getObj_map hm, run_checkKey hk hkey, run_findKey hk hf, Go.MapKept.run_setObj_map _ hm, Result.andThen, w2, o2]
 obtain ⟨hs1, hs2⟩ := heap_set (o' := o2) hm
 have hne : ∀ b c e f, w.heap[b]? = some (.cells c e f) → b ≠ r := fun b c e f h q => by subst q; rw [hm] at h; cases h
 have hbs : ∀ b, pQ w2 b = pQ w b := fun b => by
  by_cases e : b = r
  ·subst e; show (match w2.heap[b]? with | some (.cells c _ _) => c.size | _ => 0) = _; rw [show w2.heap[b]? = some o2 from hs1]; simp [pQ, hm, o2]
  ·exact oP (hs2 b e)
 have hcell : ∀ b o v, w.cell? ⟨b, o, none⟩ = some v → w2.cell? ⟨b, o, none⟩ = some v := fun b o v h => by
  have : b ≠ r := fun q => by subst q; rw [World.cell?] at h; simp [hm] at h
  rw [dF (hs2 b this)]; exact h
 have car : ∀ bad : Nat → Prop, Carry w bad ι w2 bad ι := fun bad => ⟨fun b o v h1 h2 => ⟨h1, hcell b o v h2⟩, fun _ _ h => h, fun b => Nat.le_of_eq (hbs b).symm⟩
 simp only [Oper.wp, hop, Oper.upon]
 refine hK _ _ (kk C _ _ hCN ⟨⟨h0, ι, ?_, ?_⟩, ⟨_, _, hs1, ?_⟩, hl⟩)
 ·exact g.carry (car _)
 ·refine ⟨fun id cs h => ?_, gh.sep, ⟨gh.fr.os, gh.fr.tape, gh.fr.output, by show C.w0.heap.size ≤ (w.heap.setIfInBounds r o2).size; rw [Array.size_setIfInBounds]; exact gh.fr.size, fun b hb hw => ?_, fun b => by rw [hbs]; exact gh.fr.bs b⟩, gh.ex, gh.fresh⟩
  ·rcases gh.obj id cs h with h1 | ⟨b', β', arr, e, h3, h4, h5, h6, h7, h8⟩
   ·exact .inl h1
   ·exact .inr ⟨b', β', arr, e, h3, by rw [show w2.heap[b']? = w.heap[b']? from hs2 b' (hne _ _ _ _ h4)]; exact h4, h5, RdC.carryB (car _) _ _ _ (fun o v hv => hcell b' o v hv) h6, h7, h8⟩
  ·rw [show w2.heap[b]? = w.heap[b]? from hs2 b (by omega)]; exact gh.fr.block b hb hw
 ·intro e he
  rw [Array.toList_push, List.mem_append, List.mem_singleton] at he
  rcases he with he | rfl
  ·obtain ⟨k, h1, h2⟩ := hkk e he; exact ⟨k, List.mem_append_left _ h1, h2⟩
  ·exact ⟨a, by simp, rfl⟩
theorem HO {Q : Exit → AS → Prop} {id : Nat} {t : TypeId} {y : Code} (hN : Nat.blt d N = true)
  (h : ∀ r, Gn P N (⟨some d, .makeMap t none, ty, pos, af, none⟩ :: rest).toArray (fun e s' ks' => e = .normal ∧ sC P N y (fun e s' _ => Q e s') r ks' s') r [] rest ⟨(d, .v (.map (some r))) :: ts, hs, n, z0⟩) :
  AW P N (.seq (.region id (⟨some d, .makeMap t none, ty, pos, af, none⟩ :: rest).toArray false) y) Q ⟨ts, hs, n, z0⟩ := by
 rintro C ac w hCN ⟨h0, ι, g, gh⟩
 refine wp_seq (wp_region_lit (wpList_plain rfl (fun K hK => ?_)))
 have hop : (execOp ac.eval ⟨some d, .makeMap t none, ty, pos, af, none⟩).run P w = .ok (.value (.map (some w.heap.size))) (w.alloc (.map #[] 0)) := by
  simp [execOp, Instr.makeMap, newObj, Sem.run]
 have f : Fr (fun _ => False) w (w.alloc (.map #[] 0)) := by
  refine ⟨rfl, rfl, rfl, by simp, fun b hb _ => Below.heap_alloc w _ b hb, fun b => ?_⟩
  rcases Nat.lt_or_ge b w.heap.size with hb | hb
  ·rw [oP (Below.heap_alloc w _ b hb)]; exact Nat.le_refl _
  ·simp [pQ, Array.getElem?_eq_none hb]
 obtain ⟨g2, c2⟩ := gh.ext f
 simp only [Oper.wp, hop, Oper.upon]
 refine hK _ _ ?_
 have hh := h w.heap.size C (ac.put (some d) (.map (some w.heap.size))) (w.alloc (.map #[] 0)) hCN ⟨⟨h0, ι, ?_, g2⟩, ⟨#[], 0, heap_alloc_new w _, by simp⟩, gh.fr.size⟩
 ·have := jG (l2 := []) (P := P) (Q2 := Exit.then (y.wp P (fun e a' w' => ∃ s', Q e s' ∧ Gs C s' a' w')) (fun e a' w' => ∃ s', Q e s' ∧ Gs C s' a' w')) (all := (⟨some d, .makeMap t none, ty, pos, af, none⟩ :: rest).toArray)
   (k := fun e a' w' ⟨s', ks', ⟨q1, q2⟩, q3⟩ => ⟨q1, by
    subst q1
    exact wpList_nil (wp_mono (q2 C a' w' hCN q3) (fun e a'' w'' ⟨s'', ks'', u1, u2⟩ => ⟨s'', u1, u2.g⟩))⟩) rest _ _ hh
  rw [List.append_nil] at this
  exact this
 ·show TG C ι (lk ((d, _) :: ts)) _ _ _
  rw [gT]
  exact (g.carry c2).put (by have := dB hN; omega) (by simp [Rd])
theorem GM {K K2 : AS → List Int → Prop} {id : Nat} (h : Q .normal s ks) : tK K (tK K2 (KD id Q)) (.exit id) s ks := by
 have e : tK K (tK K2 (KD id Q)) (.exit id) s ks = (if id = id then Q .normal s ks else Q (.exit id) s ks) := rfl
 rw [e, if_pos rfl]; exact h
theorem HW {Q : Exit → AS → Prop} {id : Nat} {t : TypeId} {y : Code} (h : Stop (AW P N (.seq (.region id (⟨some d, .makeMap t none, ty, pos, af, none⟩ :: rest).toArray false) y) Q s)) :
  AW P N (.seq (.region id (⟨some d, .makeMap t none, ty, pos, af, none⟩ :: rest).toArray false) y) Q s := h
theorem My {Q : Exit → AS → Prop} {c : Code} (h : AW P N c Q s) : Stop (AW P N c Q s) := h
theorem Ad {l : List Oper} (h : RW P N all (fun e s' => e = .normal ∧ Q e s' ks) .txt l s) : Gn P N all Q r ks l s := by
 intro C a w hN g
 obtain ⟨C', h1, h2, h3⟩ := g.base
 have := jG (l2 := []) (P := P) (all := all) (Q1 := fun e a' w' => ∃ s', (e = .normal ∧ Q e s' ks) ∧ Gs C' s' a' w') (Q2 := fun e a' w' => ∃ s' ks', Q e s' ks' ∧ GsM C s' r ks' a' w')
  (k := fun e a' w' ⟨s', ⟨q1, q2⟩, q3⟩ => ⟨q1, by subst q1; exact wpList_nil ⟨s', ks, q2, h3 _ _ _ q3⟩⟩) l a w (h C' a w (h1.trans hN) h2)
 rwa [List.append_nil] at this
end
end Go.AL
namespace Go.AL
open Go.RowKit
set_option linter.unusedVariables false
section
variable {P : Program} {N : Nat} {Q : Exit → AS → Prop} {all : Array Oper} {rest : List Oper} {ts : List (Nat × AV)} {hs : List (Nat × Option (List AV))} {n : Nat} {z0 : Lo} {md : Md}
variable {d : Nat} {ty : TypeId} {pos : String} {af : Array Edge}
theorem iU {α : Type} {hα : Inhabited α} {f g : α → List AV} {xs : List α} {e id k j z : Nat} {t : TypeId} {x : Operand} {cs' : List AV} [ha : AgT P t true] [hz : SzT P t z] (hx : ev (lk ts) x = some (.optr id (0 + k * e + j)))
  (hH : aS hs id = some (flat f xs)) (hf : FlT f e) (hg : FE f g) (hk : k < xs.length) (hj : j + z ≤ e) (hc : ((g xs[k]!).drop j).take z = cs') (h0 : Nat.blt 0 z = true) (hN : Nat.blt d N = true) {md' : Md} [hmd : MdA md (rO x ++ rA (.optr id (0 + k * e + j))) [.inl d] md']
  (kk : RW P N all Q md' rest ⟨(d, .agg cs') :: ts, hs, n, z0⟩) : RW P N all Q md (⟨some d, .load t x, ty, pos, af, none⟩ :: rest) ⟨ts, hs, n, z0⟩ := by
 have hl : (g xs[k]!).length = e := by rw [← hg.pf]; exact hf.pf _
 subst hc
 refine kK (cs := (flat f xs).drop (0 + k * e + j)) hx ha.pf hz.pf (by simp only [deref, hH, Option.map_some]) (cs' := ((g xs[k]!).drop j).take z) ?_ (by rw [List.length_take, List.length_drop, hl]; omega) (by have := dB h0; omega) (dB hN) (by rw [hmd.pf]; exact kk)
 rw [Nat.zero_add, ← List.drop_drop, fC f xs k hk, ← hg.pf, List.drop_append_of_le_length (by rw [hf.pf]; omega), List.take_append_of_le_length (by rw [List.length_drop, hf.pf]; omega)]
end
end Go.AL
namespace Go.AL
open Go.RowKit
set_option linter.unusedVariables false
theorem E1 (c : Int) : gE .and .i64 c 1 = some (.int .i64 (c % 2)) := by
 have h : (BitVec.ofInt 64 c &&& BitVec.ofInt 64 1).toNat = (c % 2).toNat := by
  rw [BitVec.toNat_and, show (BitVec.ofInt 64 1).toNat = 1 from rfl, Nat.and_one_is_mod, BitVec.toNat_ofInt]
  omega
 have e : gE .and .i64 c 1 = some (.int .i64 (IntKind.i64.wrap ((BitVec.ofInt 64 c &&& BitVec.ofInt 64 1).toNat : Int))) := rfl
 rw [e, h]
 rcases Int.emod_two_eq c with h2 | h2 <;> rw [h2] <;> rfl
section
variable {P : Program} {N : Nat} {Q : Exit → AS → Prop} {all : Array Oper} {rest : List Oper} {ts : List (Nat × AV)} {hs : List (Nat × Option (List AV))} {n : Nat} {z0 : Lo} {md : Md}
variable {d : Nat} {ty : TypeId} {pos : String} {af : Array Edge}
theorem K4 {t t' : TypeId} {x y : Operand} {c : Int} (hx : ev (lk ts) x = some (.v (.int .i64 c))) (hy : ev (lk ts) y = some (.v (.int .i64 1)))
  (hN : Nat.blt d N = true) {md' : Md} [hmd : MdA md (rO x ++ rO y) [.inl d] md'] (kk : RW P N all Q md' rest ⟨(d, .v (.int .i64 (c % 2))) :: ts, hs, n, z0⟩) : RW P N all Q md (⟨some d, .binOp .and t x y t', ty, pos, af, none⟩ :: rest) ⟨ts, hs, n, z0⟩ :=
 dO hx hy (.inl rfl) (E1 c) (dB hN) (by rw [hmd.pf]; exact kk)
end
end Go.AL
namespace Go.AL
open Go.RowKit
set_option linter.unusedVariables false
theorem Fi {P : Program} {N : Nat} {Q : Exit → AS → Prop} {all : Array Oper} {rest : List Oper} {ts : List (Nat × AV)} {hs : List (Nat × Option (List AV))} {n : Nat} {z0 : Lo} {d : Nat} {ty : TypeId} {pos : String} {af : Array Edge}
  {t t' el : TypeId} {x : Operand} {id off m e : Nat} [ht : SlT P t el] (hx : ev (lk ts) x = some (.own id off m e)) (hN : Nat.blt d N = true)
  (kk : ∀ b : Bool, (b = true → m = 0) → RW P N all Q .txt rest ⟨(d, .v (.bool b)) :: ts, hs, n, z0⟩) : RW P N all Q .txt (⟨some d, .binOp .eql t x (.const (.slice none 0 0)) t', ty, pos, af, none⟩ :: rest) ⟨ts, hs, n, z0⟩ := by
 rintro C a w hCN ⟨h0, ι, g, gh⟩
 refine wpList_plain rfl (fun K hK => ?_)
 have h1 := bS g hx
 simp only [Rd] at h1
 obtain ⟨a', m', c, h2, hb⟩ : ∃ a' m' c, a.eval x = .slice a' m' c ∧ (a'.isNone = true → m = 0) := by
  rcases h1 with ⟨_, rfl, a', h2⟩ | ⟨b, β, c, _, h2, _⟩
  ·exact ⟨a', 0, 0, h2, fun _ => rfl⟩
  ·exact ⟨_, m, c, h2, fun h => by cases h⟩
 have hu := j5 ht.pf
 have hg : (eqGuard .eql t x (.const (.slice none 0 0)) (.slice a' m' c) (.slice none 0 0)).run P w = .ok () w := by simp [eqGuard]
 have hr : (execOp a.eval ⟨some d, .binOp .eql t x (.const (.slice none 0 0)) t', ty, pos, af, none⟩).run P w = .ok (.value (.bool a'.isNone)) w := by
  have e2 : a.eval (.const (.slice none 0 0)) = .slice none 0 0 := rfl
  simp only [execOp, h2, e2, Sem.run_bind, hg, Result.andThen_ok, vR w t el hu, Sem.run_pure]
 simp only [Oper.wp, hr, Oper.upon]
 refine hK _ _ (kk a'.isNone hb C _ _ hCN ⟨h0, ι, ?_, gh⟩)
 show TG C ι (lk ((d, AV.v (.bool a'.isNone)) :: ts)) _ _ _
 rw [gT]
 exact g.put (by have := dB hN; omega) (by simp [Rd])
end Go.AL
namespace Go.AL
def fF {α : Type} (k : Nat) (x : α) (xs : List α) : List α := xs.take k ++ x :: xs.drop k
def mC (v : Int) : Stmt := .mk 8 v 0 0 [] []
theorem oE {α : Type} {k : Nat} {x : α} {xs : List α} : (fF k x xs).length = xs.length + 1 := by
 unfold fF; rw [List.length_append, List.length_cons, List.length_take, List.length_drop]; omega
theorem Gf {α : Type} {k : Nat} {x : α} {xs : List α} (h : k ≤ xs.length) : (fF k x xs).take k = xs.take k := by
 have e : (xs.take k).length = k := by rw [List.length_take]; omega
 unfold fF
 rw [List.take_append_of_le_length (by omega), List.take_of_length_le (by omega)]
theorem F9 {α : Type} {k : Nat} {x : α} {xs : List α} (h : k ≤ xs.length) : A7 k (fF k x xs) = xs := by
 have e : (xs.take k).length = k := by rw [List.length_take]; omega
 unfold A7
 rw [Gf h]
 unfold fF
 rw [List.drop_append, List.drop_of_length_le (by omega), e, show k + 1 - k = 1 by omega, List.nil_append, List.drop_succ_cons, List.drop_zero, List.take_append_drop]
end Go.AL
namespace Go.AL
structure Ren (ts ts' : List Int) (σ : Nat → Nat) : Prop where
 l : ts'.length = ts.length
 b : ∀ v, v < ts.length → σ v < ts.length
 i : ∀ v u, v < ts.length → u < ts.length → σ v = σ u → v = u
 t : ∀ v, v < ts.length → ts'[σ v]! = ts[v]!
 s : ∀ u, u < ts.length → ∃ v, v < ts.length ∧ σ v = u
structure XOk (n : Nat) (x : Pnt) : Prop where
 x0 : 0 ≤ x.x
 x1 : x.op ≤ 8 → x.x < n
 y0 : 0 ≤ x.y
 y1 : 3 ≤ x.op → x.op ≤ 7 → x.y < n
 o : 1 ≤ x.op
section
variable {ts ts' : List Int} {σ : Nat → Nat} {x : Pnt} {v : Nat}
theorem Ren.eq (r : Ren ts ts' σ) (hv : v < ts.length) {z : Int} (h0 : 0 ≤ z) (h1 : z < ts.length) : ((σ v : Nat) : Int) = (σ z.toNat : Nat) ↔ (v : Int) = z := by
 constructor
 ·intro h
  have := r.i v z.toNat hv (by omega) (by omega)
  omega
 ·intro h
  rw [← h, Int.toNat_natCast]
structure SimR (n : Nat) (σ : Nat → Nat) (s s' : Mc) : Prop where
 l : s.slots.length = n
 l' : s'.slots.length = n
 c : s'.cells = s.cells
 r : s'.read = s.read
 s : ∀ v, v < n → s'.slots[σ v]! = s.slots[v]!
theorem SimR.set {s s' : Mc} (r : Ren ts ts' σ) (h : SimR ts.length σ s s') (hv : v < ts.length) (z : Sl) (c : List Cl) (d : List Int) : SimR ts.length σ ⟨s.slots.set v z, c, d⟩ ⟨s'.slots.set (σ v) z, c, d⟩ := by
 refine ⟨by dsimp only; rw [List.length_set]; exact h.l, by dsimp only; rw [List.length_set]; exact h.l', rfl, rfl, fun u hu => ?_⟩
 dsimp only
 have b1 := r.b v hv
 have b2 := r.b u hu
 have l1 := h.l
 have l2 := h.l'
 have := h.s u hu
 rw [aZ _ _ (by omega), aZ _ _ (by omega)] at this
 rw [aZ _ _ (by rw [List.length_set]; omega), aZ _ _ (by rw [List.length_set]; omega), List.getElem_set, List.getElem_set]
 by_cases e : v = u
 ·rw [if_pos (by rw [e]), if_pos e]
 ·rw [if_neg (fun q => e (r.i v u hv hu q)), if_neg e]; exact this
end
end Go.AL
namespace Go.AL
section
variable {ts ts' : List Int} {pts : List Pnt} {σ : Nat → Nat}
theorem XOk.of (w : WG ts pts) {a : Nat} (ha : a < pts.length) : XOk ts.length pts[a]! :=
 ⟨(w.x a ha).1, (w.x a ha).2, (w.y a ha).1, (w.y a ha).2, (w.op a ha).1⟩
theorem SimR.start (r : Ren ts ts' σ) : SimR ts.length σ (mc0 ts.length) (mc0 ts'.length) := by
 refine ⟨by simp [mc0], by simp [mc0, r.l], rfl, rfl, fun v hv => ?_⟩
 have b := r.b v hv
 show (List.replicate ts'.length lQ)[σ v]! = (List.replicate ts.length lQ)[v]!
 rw [aZ _ _ (by rw [List.length_replicate, r.l]; exact b), aZ _ _ (by rw [List.length_replicate]; exact hv), List.getElem_replicate, List.getElem_replicate]
end
end Go.AL
namespace Go.AL
section
variable {ts ts' : List Int} {pts : List Pnt} {σ : Nat → Nat}
theorem O5 {x : Pnt} (h : bW x = true) : x.op = 4 ∨ x.op = 5 := by
 unfold bW at h; simpa using h
end
end Go.AL
namespace Go.AL
section
variable {ts ts' : List Int} {pts : List Pnt} {σ : Nat → Nat}
theorem Nj (w : WG ts pts) (f : Flows ts pts) {a l : Nat} (ha : a < pts.length) (h : (Dq ts pts f.Am f.Al f.Af f.Ap a).testBit l = true) : Cf ts pts a l := by
 obtain ⟨hl, hln⟩ := Kf w f ha h
 have ho := O5 hln
 have hyl := (w.y l hl).2 (by omega) (by omega)
 have hy0 := (w.y l hl).1
 have htl := w.tl
 rw [zX w f ha hl hln, Bool.and_eq_true, Bool.and_eq_true] at h
 obtain ⟨h1, h2, h3⟩ := h
 obtain ⟨c, hc, hn⟩ := List.any_eq_true.1 h1
 unfold vU at hn
 rw [Bool.and_eq_true, decide_eq_true_eq] at hn
 obtain ⟨hv, hw⟩ := hn
 have hp := (f.gp.2 a ha l).1 h3
 unfold vP at h2
 rw [fS] at h2
 rcases h2 with h2 | ⟨z, hz, h2⟩
 ·simp at h2
 obtain ⟨v, _, hb, rfl⟩ := b9.1 hz
 rw [cG, Nat.testBit_or, cE, Et] at hb
 simp only [Bool.and_eq_true, Bool.not_eq_true', Bool.or_eq_false_iff] at hb
 obtain ⟨b1, b2, b3⟩ := hb
 have hvl : v < ts.length := by obtain ⟨k, _, q⟩ := (f.gl.2 a ha v).1 b1; exact qW w q
 rw [Int.toNat_natCast, fJ f.gf.1 ha (by omega)] at h2
 have hk : Kp ts pts a v := by
  refine ⟨(f.gl.2 a ha v).1 b1, by simpa using b3, ?_⟩
  rw [decide_eq_true hvl, Bool.true_and] at b2
  simpa using b2
 have hf := (f.gf.2 a v ha (by omega) l).1 h2
 refine ⟨v, pts[l]!.y.toNat, c.write, hk, ?_, hf, hp, by omega, by simpa using hw⟩
 unfold iD at hc
 have ec : ∀ (x : Int) (b : Bool), c = ⟨x, b⟩ → x = ((pts[l]!.y.toNat : Nat) : Int) ∧ c.write = b := fun x b e => by
  rw [e] at hv ⊢; dsimp only at hv ⊢; exact ⟨by omega, rfl⟩
 rcases List.mem_append.1 hc with hc | hc
 ·split at hc
  ·rename_i q; obtain ⟨e1, e2⟩ := ec _ _ (List.mem_singleton.1 hc); exact .inl ⟨q, e1, e2⟩
  ·split at hc
   ·rename_i q; obtain ⟨e1, e2⟩ := ec _ _ (List.mem_singleton.1 hc); exact .inr (.inl ⟨q, e1, e2⟩)
   ·split at hc
    ·rename_i q; obtain ⟨e1, e2⟩ := ec _ _ (List.mem_singleton.1 hc); exact .inr (.inr (.inl ⟨q, e1, e2⟩))
    ·split at hc
     ·rename_i q; obtain ⟨e1, e2⟩ := ec _ _ (List.mem_singleton.1 hc)
      refine .inr (.inr (.inr (.inl ⟨q.1, ?_, e1, e2⟩)))
      have := q.2; rw [e1, Int.toNat_natCast] at this; exact this
     ·cases hc
 ·split at hc
  ·rename_i q; obtain ⟨e1, e2⟩ := ec _ _ (List.mem_singleton.1 hc)
   obtain ⟨q1, q2, q3⟩ := q
   rw [e1, Int.toNat_natCast] at q2 q3
   exact .inr (.inr (.inr (.inr ⟨e1, q2, (f.gm.2 a ha _).1 q3, e2⟩)))
  ·cases hc
end
end Go.AL
namespace Go.AL
theorem n6 : ∀ (L M : List Int), L.Nodup → (∀ x ∈ L, x ∈ M) → L.length ≤ M.length
 | [], M, _, _ => Nat.zero_le _
 | x :: L, M, h, hs => by
  have hx := hs x List.mem_cons_self
  obtain ⟨h1, h2⟩ := List.nodup_cons.1 h
  have := n6 L (M.erase x) h2 fun y hy => (List.mem_erase_of_ne (fun e => h1 (by rw [← e]; exact hy))).2 (hs y (List.mem_cons_of_mem _ hy))
  rw [List.length_erase_of_mem hx] at this
  have := List.length_pos_of_mem hx
  rw [List.length_cons]; omega
def nmOk (n : Nat) (nm : List Int) : Prop := ∀ v, v < n → 0 ≤ nm[v]! ∧ nm[v]! < n ∧ ∀ u, u < v → nm[u]! ≠ nm[v]!
def nmAll (n : Nat) (nm : List Int) : Prop := ∀ i : Nat, i < n → (i : Int) ∈ nm
theorem nmOk.all {n : Nat} {nm : List Int} (hl : nm.length = n) (h : nmOk n nm) : nmAll n nm := by
 intro i hi
 by_cases q : (i : Int) ∈ nm
 ·exact q
 exfalso
 have hn : nm.Nodup := by
  rw [List.nodup_iff_pairwise_ne, List.pairwise_iff_getElem]
  intro u v hu hv huv
  have := (h v (by omega)).2.2 u huv
  rw [aZ _ _ hu, aZ _ _ hv] at this; exact this
 have := n6 ((i : Int) :: nm) ((List.range n).map fun v : Nat => (v : Int)) (List.nodup_cons.2 ⟨q, hn⟩) fun z hz => by
  rw [List.mem_map]
  rcases List.mem_cons.1 hz with rfl | hz
  ·exact ⟨i, List.mem_range.2 hi, rfl⟩
  ·obtain ⟨v, hv, e⟩ := List.getElem_of_mem hz
   have := h v (by omega)
   rw [aZ _ _ hv, e] at this
   exact ⟨z.toNat, List.mem_range.2 (by omega), by omega⟩
 simp at this; omega
theorem nmAll.ok {n : Nat} {nm : List Int} (hl : nm.length = n) (h : nmAll n nm) : nmOk n nm := by
 intro v hv
 have bad : ¬ ((¬ (0 ≤ nm[v]! ∧ nm[v]! < n)) ∨ ∃ u, u < v ∧ nm[u]! = nm[v]!) := by
  intro q
  have hr : ((List.range n).map fun v : Nat => (v : Int)).Nodup := by
   rw [List.nodup_iff_pairwise_ne, List.pairwise_map]
   exact List.Pairwise.imp (fun {a b} (z : a < b) => by omega) List.pairwise_lt_range
  have := n6 _ (nm.eraseIdx v) hr fun z hz => by
   obtain ⟨i, hi, rfl⟩ := List.mem_map.1 hz
   have hi := List.mem_range.1 hi
   obtain ⟨w, hw, e⟩ := List.getElem_of_mem (h i hi)
   rw [List.mem_eraseIdx_iff_getElem]
   by_cases hwv : w = v
   ·subst hwv
    rw [aZ _ _ hw, e] at q
    rcases q with q | ⟨u, hu, q⟩
    ·omega
    ·refine ⟨u, by omega, by omega, ?_⟩
     rw [aZ _ _ (by omega)] at q; exact q
   ·exact ⟨w, hw, hwv, e⟩
  rw [List.length_map, List.length_range, List.length_eraseIdx_of_lt (by omega)] at this
  omega
 refine ⟨?_, ?_, fun u hu e => bad (.inr ⟨u, hu, e⟩)⟩
 ·exact Decidable.byContradiction fun z => bad (.inl fun y => z y.1)
 ·exact Decidable.byContradiction fun z => bad (.inl fun y => z y.2)
theorem Ren.of {ts ts' : List Int} {nm : List Int} (hl : nm.length = ts.length) (hl' : ts'.length = ts.length) (h : nmOk ts.length nm) (ht : ∀ v, v < ts.length → ts'[nm[v]!.toNat]! = ts[v]!) : Ren ts ts' (fun v => nm[v]!.toNat) := by
 refine ⟨hl', fun v hv => ?_, fun v u hv hu e => ?_, ht, fun u hu => ?_⟩
 ·have := h v hv; omega
 ·have h1 := h v hv
  have h2 := h u hu
  rcases Nat.lt_trichotomy v u with q | q | q
  ·exact absurd (by omega) (h2.2.2 v q)
  ·exact q
  ·exact absurd (by omega) (h1.2.2 u q)
 ·obtain ⟨v, hv, e⟩ := List.getElem_of_mem (h.all hl u hu)
  refine ⟨v, by omega, ?_⟩
  rw [aZ _ _ hv, e, Int.toNat_natCast]
end Go.AL
namespace Go.AL
section
variable {ts : List Int} {pts : List Pnt}
structure NoI (ts : List Int) (pts : List Pnt) : Prop where
 u : ∀ a v, a < pts.length → v < ts.length → aT ts pts[a]! (v : Nat) ≠ 0 → ¬ Na ts pts (a, v)
 c : ∀ a L, a < pts.length → ¬ Cf ts pts a L
theorem NoI.iff (w : WG ts pts) (f : Flows ts pts) : f.iss = [] ↔ NoI ts pts := by
 have htl := w.tl
 constructor
 ·intro h
  refine ⟨fun a v ha hv hu hn => ?_, fun a L ha hc => ?_⟩
  ·have : (⟨(a : Int), 1, (v : Int)⟩ : Iss) ∈ f.iss := by
    refine HN ha (List.mem_append_left _ (List.mem_map.2 ⟨(v : Int), b9.2 ⟨v, by omega, ?_, rfl⟩, rfl⟩))
    rw [cG, cE, decide_eq_true hv, Bool.true_and, Bool.and_eq_true]
    have hb := oX ts pts[a]! (v : Int)
    refine ⟨decide_eq_true ?_, ?_⟩
    ·simp only [List.mem_cons, List.not_mem_nil, or_false]; omega
    ·cases q : f.Aa[a]!.testBit v with
     | false => rfl
     | true => exact absurd hn ((f.ga.2 a ha v).1 q).2
   rw [h] at this; cases this
  ·have := MA w f ha hc
   rw [h] at this; cases this
 ·intro h
  apply List.eq_nil_iff_forall_not_mem.2
  intro i hi
  obtain ⟨a, ha, h1⟩ := List.mem_flatMap.1 hi
  rw [List.mem_range] at ha
  rcases List.mem_append.1 h1 with h1 | h1
  ·obtain ⟨z, hz, _⟩ := List.mem_map.1 h1
   obtain ⟨v, _, hb, _⟩ := b9.1 hz
   rw [cG, cE, Bool.and_eq_true, Bool.and_eq_true] at hb
   obtain ⟨⟨b1, b2⟩, b3⟩ := hb
   have hv := of_decide_eq_true b1
   refine h.u a v ha hv ?_ ?_
   ·intro q; rw [q] at b2; simp at b2
   ·apply Classical.byContradiction; intro hn
    rw [(f.ga.2 a ha v).2 ⟨hv, hn⟩] at b3; cases b3
  ·obtain ⟨z, hz, _⟩ := List.mem_map.1 h1
   obtain ⟨v, _, hb, _⟩ := b9.1 hz
   exact h.c a v ha (Nj w f ha hb)
end
def G6 (x : Pnt) : Prop := x.op = 9 ∨ x.op = 10
def Alike (x z : Pnt) : Prop := (x.op = z.op ∧ x.x = z.x ∧ x.y = z.y ∧ x.n = z.n) ∨ (G6 x ∧ G6 z)
section
variable {ts : List Int} {x z : Pnt}
theorem Dw (h : G6 x) (v : Int) : aT ts x v = 0 := by
 unfold G6 at h
 unfold aT; rw [if_neg (by omega), if_neg (by omega), if_neg (by omega), if_neg (by omega)]
theorem DV (h : G6 x) : aN x = -1 := CQ (by unfold G6 at h; omega)
theorem Ip (h : G6 x) : bW x = false := by
 unfold G6 at h
 unfold bW; rw [decide_eq_false (by omega), decide_eq_false (by omega)]; rfl
theorem Alike.use (h : Alike x z) (v : Int) : aT ts x v = aT ts z v := by
 rcases h with ⟨h1, h2, h3, _⟩ | ⟨h1, h2⟩
 ·unfold aT; rw [h1, h2, h3]
 ·rw [Dw h1, Dw h2]
theorem Alike.set (h : Alike x z) : aN x = aN z := by
 rcases h with ⟨h1, h2, h3, _⟩ | ⟨h1, h2⟩
 ·unfold aN; rw [h1, h2]
 ·rw [DV h1, DV h2]
theorem Alike.ln (h : Alike x z) : bW x = bW z := by
 rcases h with ⟨h1, h2, h3, _⟩ | ⟨h1, h2⟩
 ·unfold bW; rw [h1]
 ·rw [Ip h1, Ip h2]
theorem Alike.eq (h : Alike x z) (hn : ¬ G6 x) : x.op = z.op ∧ x.x = z.x ∧ x.y = z.y ∧ x.n = z.n := by
 rcases h with h | h
 ·exact h
 ·exact absurd h.1 hn
end
end Go.AL
namespace Go.AL
section
variable {ts : List Int} {P Q : List Pnt} {κ : Nat → Nat} {J c : Nat}
theorem Ak {s : Mc} {x z : Pnt} (h : Alike x z) : cD ts s x = cD ts s z ∧ bV ts s x = bV ts s z := by
 have hu : bV ts s x = bV ts s z := by
  unfold bV
  simp only [h.use]
 refine ⟨?_, hu⟩
 rcases h with ⟨h1, h2, h3, h4⟩ | ⟨h1, h2⟩
 ·unfold cD; rw [h1, h2, h3, h4]
 ·unfold G6 at h1 h2
  rw [GG (by omega) (by omega), GG (by omega) (by omega)]
theorem AF {x z : Pnt} (h : Alike x z) : x.op = 11 ↔ z.op = 11 := by
 rcases h with ⟨h1, _⟩ | ⟨h1, h2⟩
 ·rw [h1]
 ·unfold G6 at h1 h2; omega
def nM (ts : List Int) (pts : List Pnt) (n a : Nat) (cs : List Int) (s : Mc) (last : Nat) : Mc × Int × Nat := gO ts pts (eT pts n a cs).1 s last
theorem PQ {a : Nat} {s : Mc} {l : Nat} : gO ts P [a] s l = if bV ts s P[a]! = true then (s, 2, a) else if (cD ts s P[a]!).2 = -1 then ((cD ts s P[a]!).1, 1, a) else ((cD ts s P[a]!).1, (cD ts s P[a]!).2, a) := by
 rw [gO]; rfl
theorem Kx {n a : Nat} {cs : List Int} {s : Mc} {last : Nat} (h : P[a]!.op = 11) : nM ts P n a cs s last = gO ts P [a] s last := by
 have e : (eT P n a cs).1 = [a] := by cases n <;> (rw [eT, if_pos h])
 unfold nM; rw [e]
theorem xD {a : Nat} {cs : List Int} {s : Mc} {last : Nat} (h : P[a]!.op ≠ 11) : nM ts P 0 a cs s last = (s, 1, last) := by
 have e : (eT P 0 a cs).1 = [] := by rw [eT, if_neg h]
 unfold nM; rw [e]; rfl
theorem NH {n a : Nat} {cs : List Int} {s : Mc} {last : Nat} (h : P[a]!.op ≠ 11) : nM ts P (n + 1) a cs s last =
  if bV ts s P[a]! = true then (s, 2, a) else if (cD ts s P[a]!).2 = -1 then nM ts P n (dX P a cs).1 (dX P a cs).2 (cD ts s P[a]!).1 a else ((cD ts s P[a]!).1, (cD ts s P[a]!).2, a) := by
 have e : (eT P (n + 1) a cs).1 = a :: (eT P n (dX P a cs).1 (dX P a cs).2).1 := by rw [eT, if_neg h]
 unfold nM; rw [e, gO]
end
end Go.AL
namespace Go.AL
def D7 (d : Nat) (x : Pnt) : Pnt := ⟨x.op, x.x, x.y, x.n, x.next.map (· + (d : Int))⟩
mutual
theorem Nk (d : Nat) : ∀ (s : Stmt) (b : Nat), uV (b + d) s = (uV b s).map (D7 d)
 | .mk op x y n th el, b => by
  have h1 := yA d th (b + 1)
  have h2 := yA d el (b + 2 + b8 th)
  simp only [uV]
  rw [show b + d + 1 = b + 1 + d by omega, show b + d + 2 + b8 th = b + 2 + b8 th + d by omega, h1, h2]
  split
  ·simp only [List.map_append, List.map_cons, List.map_nil, D7]
   congr 1
   ·congr 1
    ·congr 1
     congr 1
     simp only [List.cons.injEq, Pnt.mk.injEq, and_true, true_and]
     omega
    ·simp only [List.cons.injEq, Pnt.mk.injEq, and_true, true_and]
     omega
  ·split
   ·simp only [List.map_append, List.map_cons, List.map_nil, D7]
    congr 1
    ·congr 1
     simp only [List.cons.injEq, Pnt.mk.injEq, and_true, true_and]
     omega
   ·simp only [List.map_cons, List.map_nil, D7, List.cons.injEq, Pnt.mk.injEq, and_true, true_and]
    omega
theorem yA (d : Nat) : ∀ (l : List Stmt) (b : Nat), dZ (b + d) l = (dZ b l).map (D7 d)
 | [], b => rfl
 | s :: l, b => by
  simp only [dZ, List.map_append]
  rw [Nk d s b, show b + d + lP s = b + lP s + d by omega, yA d l (b + lP s)]
end
mutual
theorem Nt : ∀ (s : Stmt) (b : Nat), ∀ x ∈ uV b s, ∀ k ∈ x.next, (b : Int) ≤ k ∧ k ≤ (b : Int) + lP s
 | .mk op x y n th el, b => by
  have h1 := qA th (b + 1)
  have h2 := qA el (b + 2 + b8 th)
  simp only [uV, lP]
  by_cases h9 : op = 9
  ·rw [if_pos h9, if_pos h9]
   intro z hz k hk
   simp only [List.mem_append, List.mem_singleton] at hz
   rcases hz with ((rfl | hz) | rfl) | hz
   ·simp only [List.mem_cons, List.not_mem_nil, or_false] at hk
    omega
   ·have := h1 z hz k hk; omega
   ·simp only [List.mem_cons, List.not_mem_nil, or_false] at hk
    omega
   ·have := h2 z hz k hk; omega
  ·rw [if_neg h9, if_neg h9]
   by_cases h10 : op = 10
   ·rw [if_pos h10, if_pos h10]
    intro z hz k hk
    simp only [List.mem_append, List.mem_singleton] at hz
    rcases hz with (rfl | hz) | rfl
    ·simp only [List.mem_cons, List.not_mem_nil, or_false] at hk
     omega
    ·have := h1 z hz k hk; omega
    ·simp only [List.mem_cons, List.not_mem_nil, or_false] at hk
     omega
   ·rw [if_neg h10, if_neg h10]
    intro z hz k hk
    rw [List.mem_singleton] at hz
    rw [hz] at hk
    simp only [List.mem_cons, List.not_mem_nil, or_false] at hk
    omega
theorem qA : ∀ (l : List Stmt) (b : Nat), ∀ x ∈ dZ b l, ∀ k ∈ x.next, (b : Int) ≤ k ∧ k ≤ (b : Int) + b8 l
 | [], b => by simp [dZ]
 | s :: l, b => by
  have h1 := Nt s b
  have h2 := qA l (b + lP s)
  simp only [dZ, b8]
  intro z hz k hk
  rcases List.mem_append.1 hz with hz | hz
  ·have := h1 z hz k hk; omega
  ·have := h2 z hz k hk; omega
end
end Go.AL
namespace Go.AL
theorem kV {α : Type} [Inhabited α] {A B : List α} {n i : Nat} (h : A.length = n) : (A ++ B)[i]! = if i < n then A[i]! else B[i - n]! := by
 rw [fX, h]
theorem BP {α : Type} [Inhabited α] {x : α} {R : List α} {i : Nat} : (x :: R)[i]! = if i < 1 then x else R[i - 1]! := by
 rw [show x :: R = [x] ++ R from rfl, kV (n := 1) rfl]
 by_cases h : i < 1
 ·rw [if_pos h, if_pos h]
  obtain rfl : i = 0 := by omega
  rfl
 ·rw [if_neg h, if_neg h]
theorem Ie {d : Nat} {x : Pnt} {j : Nat} (h : j < x.next.length) : (D7 d x).next[j]! = x.next[j]! + d := by
 unfold D7
 dsimp only
 rw [aZ _ _ (by rw [List.length_map]; exact h), List.getElem_map, aZ _ _ h]
theorem Lq {d : Nat} {X : List Pnt} {i : Nat} (h : i < X.length) : (X.map (D7 d))[i]! = D7 d X[i]! := by
 rw [aZ _ _ (by rw [List.length_map]; exact h), List.getElem_map, aZ _ _ h]
end Go.AL
