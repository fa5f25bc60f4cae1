/-
 A part of the proofs over this program: rules and contracts of its functions (the rules).
-/
import Derived.Test.YtahdccneecdmmaaGreatJ4A06
import Derived.MapKept
import Derived.Orders
set_option linter.unusedVariables false
set_option linter.unusedSimpArgs false
namespace Go.AL
open Go.RowKit
set_option linter.unusedVariables false
set_option linter.unusedSimpArgs false
section
variable {P : Program} {C : Ctx} {ι : Pl} {T : Nat → Option AV} {F : Nat → Prop} {H : Nat → Option (List AV)} {a : Act} {w : World} {o : Oper}
theorem zG {bad : Nat → Prop} {zs : List Value} (h : zs.all (·.oneCell') = true) : ∀ n, RdL w bad ι (List.replicate n (zs.map AV.v)).flatten (List.replicate n zs).flatten
 | 0 => by simp [RdL]
 | n + 1 => by
  rw [List.replicate_succ, List.replicate_succ, List.flatten_cons, List.flatten_cons]
  exact RdL.append (tN h) (zG h n)
theorem GL (gh : HG C ι F H w) {t el : TypeId} {x : Operand} {id off n e : Nat} {cs : List AV} {zs : List Value}
  (ho : o.op = .call ⟨.builtin .clear, #[x], #[t]⟩) (hx : Rd w (aL C.X ι H) ι (.own id off n e) (a.eval x)) (hd : o.dst = none)
  (ht : mV P t = some el) (he : fL P el = some e) (hz : oV P el = some zs) (hze : zs.length = e)
  (hH : H id = some cs) (h0 : 0 < n) (hl : off + n * e ≤ cs.length) :
  Ef P C ι F H a w o (.tup []) (dU H id (some (gX cs off (List.replicate n (zs.map AV.v)).flatten))) := by
 obtain ⟨i, z, h1, h2, h3, h4⟩ := pH hz
 have hu := kF ht
 have hsz := xM he h1
 simp only [Rd] at hx
 rcases hx with ⟨_, rfl, _⟩ | ⟨b, β, c, p1, p2, p3, p4⟩
 ·omega
 have hlen : ((List.replicate n (zs.map AV.v)).flatten).length = n * e := by
  rw [List.length_flatten]; simp [hze]
 obtain ⟨w', q1, q2, q3⟩ := A5 (P := P) gh hH p1 (off := off) (new := (List.replicate n (zs.map AV.v)).flatten) (by rw [hlen]; exact hl) (zG h4 n)
 have hr : (Builtin.clear_ #[t] o.type #[a.eval x]).run P w = .ok (.tuple #[]) w' := by
  rw [p2]
  cases n with
  | zero => omega
  | succ n =>
   have hzc : (Builtin.zeroCells z.cells (n + 1)).toList = (List.replicate (n + 1) zs).flatten := by rw [sS, h3]
   simp [Builtin.clear_, b9 hu, zeroValue, typeInfo, h1, h2, hzc, q1]
 refine ⟨.value (.tuple #[]), .tuple #[], ι, w', ?_, .inl ⟨rfl, ?_⟩, q2, q3⟩
 ·simp [execOp, ho, resolve, invoke, builtin, hr]
 ·simp only [Rd]; exact ⟨[], rfl, by simp [RdV]⟩
end
section
variable {P : Program} {N : Nat} {Q : Exit → AS → Prop} {all : Array Oper} {rest : List Oper} {ts : List (Nat × AV)} {hs : List (Nat × Option (List AV))} {n : Nat} {z0 : Lo} {md : Md}
variable {d : Nat} {ty : TypeId} {pos : String} {af : Array Edge}
theorem Gu {t el id off m e : Nat} {x : Operand} {cs cs' : List AV} {zs : List Value} [ht : SlT P t el] [he : SzT P el e] [hz : ZrT P el zs]
  (hx : ev (lk ts) x = some (.own id off m e)) (hze : zs.length = e) (h0 : 0 < m) (hH : aP hs id = some cs) (hl : off + m * e ≤ cs.length)
  (hcs : gX cs off (List.replicate m (zs.map AV.v)).flatten = cs') {md' : Md} [hmd : MdA md (rO x ++ [.inr id]) [.inr id] md'] (kk : RW P N all Q md' rest ⟨ts, (id, some cs') :: hs, n, z0⟩) :
  RW P N all Q md (⟨none, .call ⟨.builtin .clear, #[x], #[t]⟩, ty, pos, af, none⟩ :: rest) ⟨ts, hs, n, z0⟩ := by
 subst hcs
 exact CJ (rs := rO x ++ [.inr id]) (ws := [(id, some (gX cs off (List.replicate m (zs.map AV.v)).flatten))]) (n' := n) (out := .tup []) rfl (fun _ h => by cases h) (Nat.le_refl n) (.inl rfl)
  (fun C ι F T H a w ag hF g gh => C1 (GL gh rfl (b0 g (ag.l.ev.trans hx)) rfl ht.pf he.pf hz.pf hze ((ag.r.h id (by simp)).trans hH) h0 hl)) (by
   show RW P N all Q (md.add (rO x ++ [.inr id]) [.inr id]) rest ⟨ts, (id, some (gX cs off (List.replicate m (zs.map AV.v)).flatten)) :: hs, n, z0⟩
   rw [hmd.pf]; exact kk)
end
end Go.AL
namespace Go.AL
open Go.RowKit
set_option linter.unusedVariables false
set_option linter.unusedSimpArgs false
section
variable {P : Program} {N : Nat} {Q : Exit → AS → Prop} {all : Array Oper} {rest : List Oper} {ts : List (Nat × AV)} {hs : List (Nat × Option (List AV))} {n : Nat} {z0 : Lo} {md : Md}
variable {d : Nat} {ty : TypeId} {pos : String} {af : Array Edge}
theorem uZ (w : World) (t el : TypeId) (hu : P.underlying t = some (.slice el)) (a : Option Addr) (m c : Nat) : (binOp .eql t (.slice a m c) (.slice none 0 0)).run P w = .ok (.bool a.isNone) w := by
 have h0 : ∀ d : Nat, (Op.equalIn (d + 1) t (.slice a m c) (.slice none 0 0)).run P w = .ok a.isNone w := fun d => by
  cases a <;> simp [Op.equalIn, b9 hu]
 have h := h0 9999
 simp only [binOp]
 simp [Op.equal, Op.maxDepth, h]
theorem y4 {t t' el : TypeId} {x : Operand} {m : Nat} {cs : List AV} [ht : SlT P t el] (hx : ev (lk ts) x = some (.imm m cs)) (hN : Nat.blt d N = true)
  (kk : ∀ b : Bool, (b = true → m = 0) → RW P N all Q .txt rest ⟨(d, .v (.bool b)) :: ts, hs, n, z0⟩) : RW P N all Q .txt (⟨some d, .binOp .eql t x (.const (.slice none 0 0)) t', ty, pos, af, none⟩ :: rest) ⟨ts, hs, n, z0⟩ := by
 rintro C a w hCN ⟨h0, ι, g, gh⟩
 refine wpList_plain rfl (fun K hK => ?_)
 have h1 := b0 g hx
 simp only [Rd] at h1
 obtain ⟨a', c, h2, h3⟩ := h1
 have hu := kF ht.pf
 have hb : a'.isNone = true → m = 0 := fun hn => by
  rcases h3 with h3 | ⟨b, o, _, rfl, _⟩
  ·exact h3
  ·cases hn
 have hg : (eqGuard .eql t x (.const (.slice none 0 0)) (.slice a' m c) (.slice none 0 0)).run P w = .ok () w := by simp [eqGuard]
 have hr : (execOp a.eval ⟨some d, .binOp .eql t x (.const (.slice none 0 0)) t', ty, pos, af, none⟩).run P w = .ok (.value (.bool a'.isNone)) w := by
  have e2 : a.eval (.const (.slice none 0 0)) = .slice none 0 0 := rfl
  simp only [execOp, h2, e2, Sem.run_bind, hg, Result.andThen_ok, uZ w t el hu, Sem.run_pure]
 simp only [Oper.wp, hr, Oper.upon]
 refine hK _ _ (kk a'.isNone hb C _ _ hCN ⟨h0, ι, ?_, gh⟩)
 show TG C ι (lk ((d, AV.v (.bool a'.isNone)) :: ts)) _ _ _
 rw [iD]
 exact g.put (by have := dL hN; omega) (by simp [Rd])
end
theorem CD {α : Type} {f : α → List AV} {e : Nat} [h : FlT f e] {hs : List (Nat × Option (List AV))} {xs : List α} {i k n : Nat} (hH : aP hs i = some (flat f xs)) (hn : n = xs.length - k) : sCells (aP hs) e (vA (.own i (0 + k * e) n e)) = some (n, flat f (xs.drop k)) := by
 show ((aP hs i).bind fun cs => if n * e ≤ (cs.drop (0 + k * e)).length then some (n, (cs.drop (0 + k * e)).take (n * e)) else none) = _
 rw [hH, Option.bind_some, Nat.zero_add]
 have h1 : (flat f xs).length = xs.length * e := aJ f xs
 have h3 : (flat f xs).drop (k * e) = flat f (xs.drop k) := by
  have h4 : flat f xs = flat f (xs.take k) ++ flat f (xs.drop k) := by rw [cS, List.take_append_drop]
  have h5 : (flat f (xs.take k)).length = (xs.take k).length * e := aJ f _
  by_cases hk : k ≤ xs.length
  ·rw [h4, ← show (flat f (xs.take k)).length = k * e from by rw [h5, List.length_take]; congr 1; omega, List.drop_left]
  ·rw [List.drop_of_length_le (by rw [h1]; exact Nat.mul_le_mul_right _ (by omega)), List.drop_of_length_le (by omega)]; rfl
 rw [h3]
 have h2 : (flat f (xs.drop k)).length = (xs.length - k) * e := by rw [aJ f (e := e), List.length_drop]
 rw [h2, hn, if_pos (Nat.le_refl _), List.take_of_length_le (by rw [h2]; exact Nat.le_refl _)]
theorem pJ {T : Nat → Option AV} {x : Operand} {dd : Nat} {k : IntKind} {m : Int} {h : Nat} (hx : ev T x = some (.v (.int k m))) (e : m = (h : Int)) : kL T (some x) dd = some h := by
 simp only [kL, hx]; rw [if_pos (by omega)]; congr 1; omega
end Go.AL
namespace Go.AL
structure Tg where
 id : Int
 uq : Bool
 deriving Inhabited, DecidableEq
structure Cl where
 val : Int
 alive : Bool
 next : Int
 stk : List Tg
 deriving Inhabited, DecidableEq
structure Pt where
 cell : Int
 tag : Int
 deriving Inhabited, DecidableEq
structure Sl where
 set : Bool
 num : Int
 ptr : Pt
 deriving Inhabited, DecidableEq
def cC (t : Tg) : List AV := [iv t.id, bv t.uq]
def bI (c : Cl) : List AV := [iv c.val, bv c.alive, iv c.next, sl cC c.stk]
def c9 (s : Sl) : List AV := [bv s.set, iv s.num, iv s.ptr.cell, iv s.ptr.tag]
instance : FlT cC 2 := ⟨fun _ => rfl⟩
instance : FlT bI 4 := ⟨fun _ => rfl⟩
instance : FlT c9 4 := ⟨fun _ => rfl⟩
instance : FE cC (fun t => [iv t.id, bv t.uq]) := ⟨fun _ => rfl⟩
instance : FE bI (fun c => [iv c.val, bv c.alive, iv c.next, sl cC c.stk]) := ⟨fun _ => rfl⟩
instance : FE c9 (fun s => [bv s.set, iv s.num, iv s.ptr.cell, iv s.ptr.tag]) := ⟨fun _ => rfl⟩
instance (t : Tg) : Pur (cC t) := ⟨rfl⟩
instance (c : Cl) : Pur (bI c) := ⟨by show (true && (true && (true && ((sl cC c.stk).pur && true)))) = true; rw [a6]; rfl⟩
instance (s : Sl) : Pur (c9 s) := ⟨rfl⟩
abbrev NY (t : Tg) : AV := .agg [iv t.id, bv t.uq]
abbrev N0 (c : Cl) : AV := .agg [iv c.val, bv c.alive, iv c.next, sl cC c.stk]
abbrev mN (p : Pt) : AV := .agg [iv p.cell, iv p.tag]
abbrev FZ (s : Sl) : AV := .agg [bv s.set, iv s.num, iv s.ptr.cell, iv s.ptr.tag]
structure OkC (c : Cl) : Prop where
 v : 0 ≤ c.val ∧ c.val ≤ 9
 n : 1 ≤ c.next ∧ c.next ≤ 1000
 l : 1 ≤ c.stk.length ∧ c.stk.length ≤ 200
 u : c.stk[0]!.uq = true
 i : ∀ t ∈ c.stk, 0 ≤ t.id ∧ t.id < c.next
 d : (c.stk.map (·.id)).Nodup
structure OkM (m : List Cl) : Prop where
 l : m.length ≤ 200
 c : ∀ c ∈ m, OkC c
def cE (stk : List Tg) (id : Int) : Int := match stk.findIdx? (fun t => decide (t.id = id)) with | some k => k | none => -1
theorem eJ (stk : List Tg) (id : Int) : -1 ≤ cE stk id ∧ cE stk id < stk.length := by
 unfold cE
 split
 ·rename_i k h
  obtain ⟨h1, _⟩ := List.findIdx?_eq_some_iff_getElem.1 h
  omega
 ·omega
theorem IY {stk : List Tg} {id : Int} (h : 0 ≤ cE stk id) : stk[(cE stk id).toNat]!.id = id := by
 unfold cE at h ⊢
 split
 ·rename_i k hk
  obtain ⟨h1, h2, _⟩ := List.findIdx?_eq_some_iff_getElem.1 hk
  rw [Int.toNat_natCast, bB _ _ h1]
  simpa using h2
 ·rename_i hk; rw [hk] at h; dsimp only at h; omega
theorem pL {stk : List Tg} {id : Int} : cE stk id < 0 ↔ ∀ t ∈ stk, t.id ≠ id := by
 unfold cE
 split
 ·rename_i k hk
  obtain ⟨h1, h2, _⟩ := List.findIdx?_eq_some_iff_getElem.1 hk
  refine ⟨fun h => by omega, fun h => ?_⟩
  exact absurd (by simpa using h2) (h _ (List.getElem_mem h1))
 ·rename_i hk
  rw [List.findIdx?_eq_none_iff] at hk
  exact ⟨fun _ t ht => by simpa using hk t ht, fun _ => by omega⟩
def gE (stk : List Tg) (k : Nat) (wr : Bool) : List Tg := if wr = true then stk.take (k + 1) else stk.take (k + 1) ++ (stk.drop (k + 1)).filter (fun t => !t.uq)
def bD (m : List Cl) (x : Pt) (wr : Bool) : Int :=
 if ¬ (0 ≤ x.cell ∧ x.cell < m.length) then 4
 else if m[x.cell.toNat]!.alive = false then 1
 else if cE m[x.cell.toNat]!.stk x.tag < 0 then 2
 else if wr = true ∧ m[x.cell.toNat]!.stk[(cE m[x.cell.toNat]!.stk x.tag).toNat]!.uq = false then 3
 else 0
def sC (c : Cl) (x : Pt) (wr : Bool) : Cl := { c with stk := gE c.stk (cE c.stk x.tag).toNat wr }
def dQ (m : List Cl) (x : Pt) (wr : Bool) : List Cl := if bD m x wr = 0 then m.set x.cell.toNat (sC m[x.cell.toNat]! x wr) else m
def oH (m : List Cl) (x : Pt) : Int := if bD m x false = 0 then m[x.cell.toNat]!.val else 0
def u7 (m : List Cl) (x : Pt) (v : Int) : Int := if 0 ≤ v ∧ v ≤ 9 then bD m x true else 4
def zM (m : List Cl) (x : Pt) (v : Int) : List Cl := if u7 m x v = 0 then m.set x.cell.toNat { sC m[x.cell.toNat]! x true with val := v } else m
def kW (m : List Cl) (x : Pt) : List Cl := if bD m x true = 0 then m.set x.cell.toNat { sC m[x.cell.toNat]! x true with alive := false } else m
def DH (c : Cl) : Prop := c.stk.length = 200 ∨ c.next = 1000
instance (c : Cl) : Decidable (DH c) := by unfold DH; infer_instance
def lP (m : List Cl) (x : Pt) (u : Bool) : Int := if bD m x u = 0 then (if DH (sC m[x.cell.toNat]! x u) then 4 else 0) else bD m x u
def psh (c : Cl) (u : Bool) : Cl := { c with stk := c.stk ++ [⟨c.next, u⟩], next := c.next + 1 }
def mY (m : List Cl) (x : Pt) (u : Bool) : List Cl := if lP m x u = 0 then m.set x.cell.toNat (psh (sC m[x.cell.toNat]! x u) u) else m
def qZ (m : List Cl) (x : Pt) (u : Bool) : Pt := if lP m x u = 0 then ⟨x.cell, m[x.cell.toNat]!.next⟩ else ⟨0, 0⟩
def uS (v : Int) : Cl := ⟨v, true, 1, [⟨0, true⟩]⟩
theorem tchS_sub {stk : List Tg} {k : Nat} {wr : Bool} : (gE stk k wr).Sublist stk := by
 unfold gE
 split
 ·exact List.take_sublist _ _
 ·have h := List.Sublist.append (List.Sublist.refl (stk.take (k + 1))) (List.filter_sublist (l := stk.drop (k + 1)) (p := fun t => !t.uq))
  rwa [List.take_append_drop] at h
theorem DC {stk : List Tg} {k : Nat} {wr : Bool} (h : 0 < stk.length) : (gE stk k wr)[0]! = stk[0]! ∧ 0 < (gE stk k wr).length := by
 cases stk with
 | nil => simp at h
 | cons a l =>
  unfold gE
  split <;> simp
theorem OkC.tch {c : Cl} (h : OkC c) (x : Pt) (wr : Bool) : OkC (sC c x wr) := by
 have hs := tchS_sub (stk := c.stk) (k := (cE c.stk x.tag).toNat) (wr := wr)
 have hh := DC (k := (cE c.stk x.tag).toNat) (wr := wr) (stk := c.stk) (by have := h.l; omega)
 refine ⟨h.v, h.n, ⟨hh.2, Nat.le_trans hs.length_le h.l.2⟩, ?_, fun t ht => h.i t (hs.subset ht), (hs.map _).nodup h.d⟩
 show (gE c.stk (cE c.stk x.tag).toNat wr)[0]!.uq = true
 rw [hh.1]; exact h.u
theorem OkC.psh {c : Cl} (h : OkC c) (u : Bool) (hf : ¬ DH c) : OkC (psh c u) := by
 have hl := h.l
 have hn := h.n
 unfold DH at hf
 refine ⟨h.v, by show 1 ≤ c.next + 1 ∧ c.next + 1 ≤ 1000; omega, by show 1 ≤ (c.stk ++ [_]).length ∧ (c.stk ++ [_]).length ≤ 200; rw [List.length_append, List.length_singleton]; omega, ?_, fun t ht => ?_, ?_⟩
 ·show (c.stk ++ [_])[0]!.uq = true
  have h1 := h.u
  rw [bB _ _ (by omega)] at h1
  rw [bB _ _ (by rw [List.length_append]; omega), List.getElem_append_left (by omega)]; exact h1
 ·rcases List.mem_append.1 ht with ht | ht
  ·have := h.i t ht; show 0 ≤ t.id ∧ t.id < c.next + 1; omega
  ·rw [List.mem_singleton] at ht; subst ht; show 0 ≤ c.next ∧ c.next < c.next + 1; omega
 ·show ((c.stk ++ [_]).map _).Nodup
  rw [List.map_append, List.nodup_append]
  refine ⟨h.d, by simp, fun a ha b hb => ?_⟩
  simp only [List.map_cons, List.map_nil, List.mem_singleton] at hb
  obtain ⟨t, ht, rfl⟩ := List.mem_map.1 ha
  have := h.i t ht
  omega
theorem OkC.nw {v : Int} (h : 0 ≤ v ∧ v ≤ 9) : OkC (uS v) := ⟨h, ⟨by show (1 : Int) ≤ 1; decide, by show (1 : Int) ≤ 1000; decide⟩, ⟨by show 1 ≤ 1; decide, by show 1 ≤ 200; decide⟩, rfl, by simp [uS], by simp [uS]⟩
theorem OkM.set {m : List Cl} (h : OkM m) {k : Nat} {c : Cl} (hc : OkC c) : OkM (m.set k c) :=
 ⟨by rw [List.length_set]; exact h.l, fun x hx => (List.mem_or_eq_of_mem_set hx).elim (h.c x) (fun e => e ▸ hc)⟩
theorem OkM.at {m : List Cl} (h : OkM m) {k : Nat} (hk : k < m.length) : OkC m[k]! := h.c _ (aR _ _ hk)
theorem dI {m : List Cl} {x : Pt} {wr : Bool} (h : bD m x wr ≠ 4) : 0 ≤ x.cell ∧ x.cell < m.length ∧ x.cell.toNat < m.length := by
 unfold bD at h
 split at h
 ·exact absurd rfl h
 ·omega
theorem yK {m : List Cl} {x : Pt} {wr : Bool} (h : bD m x wr = 0) : 0 ≤ x.cell ∧ x.cell < m.length ∧ x.cell.toNat < m.length := dI (by rw [h]; decide)
theorem OkM.tch {m : List Cl} (h : OkM m) (x : Pt) (wr : Bool) : OkM (dQ m x wr) := by
 unfold dQ; split
 ·rename_i hk; exact h.set ((h.at (yK hk).2.2).tch x wr)
 ·exact h
theorem OkM.wr {m : List Cl} (h : OkM m) (x : Pt) (v : Int) : OkM (zM m x v) := by
 unfold zM
 by_cases hk : u7 m x v = 0
 ·rw [if_pos hk]
  unfold u7 at hk
  by_cases hv : 0 ≤ v ∧ v ≤ 9
  ·rw [if_pos hv] at hk
   have h1 := (h.at (yK hk).2.2).tch x true
   exact h.set ⟨hv, h1.n, h1.l, h1.u, h1.i, h1.d⟩
  ·rw [if_neg hv] at hk; cases hk
 ·rw [if_neg hk]; exact h
theorem OkM.fr {m : List Cl} (h : OkM m) (x : Pt) : OkM (kW m x) := by
 unfold kW; split
 ·rename_i hk
  have h1 := (h.at (yK hk).2.2).tch x true
  exact h.set ⟨h1.v, h1.n, h1.l, h1.u, h1.i, h1.d⟩
 ·exact h
theorem OkM.ln {m : List Cl} (h : OkM m) (x : Pt) (u : Bool) : OkM (mY m x u) := by
 unfold mY
 by_cases hk : lP m x u = 0
 ·rw [if_pos hk]
  unfold lP at hk
  by_cases h0 : bD m x u = 0
  ·rw [if_pos h0] at hk
   by_cases hf : DH (sC m[x.cell.toNat]! x u)
   ·rw [if_pos hf] at hk; cases hk
   ·exact h.set (((h.at (yK h0).2.2).tch x u).psh u hf)
  ·rw [if_neg h0] at hk; exact absurd hk h0
 ·rw [if_neg hk]; exact h
theorem OkM.nw {m : List Cl} (h : OkM m) {v : Int} (hv : 0 ≤ v ∧ v ≤ 9) (hl : m.length < 200) : OkM (m ++ [uS v]) :=
 ⟨by rw [List.length_append, List.length_singleton]; omega, fun c hc => (List.mem_append.1 hc).elim (h.c c) (fun h => by rw [List.mem_singleton.1 h]; exact OkC.nw hv)⟩
end Go.AL
namespace Go.AL
def iF (pts : List Pnt) (a : Nat) (cs : List Int) : Nat × List Int :=
 if pts[a]!.next.length = 2 then
  match cs with
  | [] => ((pts[a]!.next[1]!).toNat, [])
  | c :: cs => ((pts[a]!.next[(c % 2).toNat]!).toNat, cs)
 else ((pts[a]!.next[0]!).toNat, cs)
def gI (pts : List Pnt) : Nat → Nat → List Int → List Nat × Bool
 | 0, a, _ => if pts[a]!.op = 11 then ([a], true) else ([], false)
 | n + 1, a, cs => if pts[a]!.op = 11 then ([a], true) else (a :: (gI pts n (iF pts a cs).1 (iF pts a cs).2).1, (gI pts n (iF pts a cs).1 (iF pts a cs).2).2)
structure Mc where
 slots : List Sl
 cells : List Cl
 read : List Int
 deriving Inhabited
def mQ : Sl := ⟨false, 0, ⟨0, 0⟩⟩
def e7 (k : Int) : Int := if k = 1 then 3 else 4
def nX (k : Int) : Int := if k = 0 then -1 else e7 k
def bW (ts : List Int) (s : Mc) (v : Nat) (x : Sl) : Mc × Int :=
 if ts[v]! = 2 ∧ s.slots[v]!.set = true then (⟨s.slots.set v x, kW s.cells s.slots[v]!.ptr, s.read⟩, nX (bD s.cells s.slots[v]!.ptr true))
 else (⟨s.slots.set v x, s.cells, s.read⟩, -1)
def cT (ts : List Int) (s : Mc) (x : Pnt) : Bool := (List.range ts.length).any fun v => decide (a8 ts x v ≠ 0) && !s.slots[v]!.set
def cV (ts : List Int) : Nat → Nat → Mc → Mc × Int
 | 0, _, s => (s, 0)
 | n + 1, v, s => if ts[v]! = 2 ∧ s.slots[v]!.set = true then
   (if bD s.cells s.slots[v]!.ptr true = 0 then cV ts n (v + 1) ⟨s.slots.set v mQ, kW s.cells s.slots[v]!.ptr, s.read⟩ else (⟨s.slots, kW s.cells s.slots[v]!.ptr, s.read⟩, e7 (bD s.cells s.slots[v]!.ptr true)))
  else cV ts n (v + 1) s
def dG (ts : List Int) (s : Mc) (x : Pnt) : Mc × Int :=
 if x.op = 1 then bW ts s x.x.toNat ⟨true, x.n, ⟨0, 0⟩⟩
 else if x.op = 2 then (if s.cells.length = 200 then (s, 1) else bW ts ⟨s.slots, s.cells ++ [uS x.n], s.read⟩ x.x.toNat ⟨true, 0, ⟨s.cells.length, 0⟩⟩)
 else if x.op = 3 then bW ts (if yV ts[x.y.toNat]! = true then ⟨s.slots.set x.y.toNat mQ, s.cells, s.read⟩ else s) x.x.toNat s.slots[x.y.toNat]!
 else if x.op = 4 ∨ x.op = 5 then
  (if lP s.cells s.slots[x.y.toNat]!.ptr (decide (x.op = 5)) = 0 then bW ts ⟨s.slots, mY s.cells s.slots[x.y.toNat]!.ptr (decide (x.op = 5)), s.read⟩ x.x.toNat ⟨true, 0, qZ s.cells s.slots[x.y.toNat]!.ptr (decide (x.op = 5))⟩
   else (s, e7 (lP s.cells s.slots[x.y.toNat]!.ptr (decide (x.op = 5)))))
 else if x.op = 6 then
  (if bD s.cells s.slots[x.y.toNat]!.ptr false = 0 then bW ts ⟨s.slots, dQ s.cells s.slots[x.y.toNat]!.ptr false, s.read ++ [oH s.cells s.slots[x.y.toNat]!.ptr]⟩ x.x.toNat ⟨true, oH s.cells s.slots[x.y.toNat]!.ptr, ⟨0, 0⟩⟩
   else (s, e7 (bD s.cells s.slots[x.y.toNat]!.ptr false)))
 else if x.op = 7 then (⟨s.slots, zM s.cells s.slots[x.x.toNat]!.ptr s.slots[x.y.toNat]!.num, s.read⟩, nX (u7 s.cells s.slots[x.x.toNat]!.ptr s.slots[x.y.toNat]!.num))
 else if x.op = 8 then (⟨s.slots.set x.x.toNat mQ, kW s.cells s.slots[x.x.toNat]!.ptr, s.read⟩, nX (bD s.cells s.slots[x.x.toNat]!.ptr true))
 else if x.op = 11 then cV ts ts.length 0 s
 else (s, -1)
def mT (ts : List Int) (pts : List Pnt) : List Nat → Mc → Nat → Mc × Int × Nat
 | [], s, last => (s, 1, last)
 | a :: l, s, _ => if cT ts s pts[a]! = true then (s, 2, a)
  else if (dG ts s pts[a]!).2 = -1 then mT ts pts l (dG ts s pts[a]!).1 a
  else ((dG ts s pts[a]!).1, (dG ts s pts[a]!).2, a)
def mc0 (nt : Nat) : Mc := ⟨List.replicate nt mQ, [], []⟩
def jC (ts : List Int) (pts : List Pnt) (cs : List Int) (most : Nat) : Mc × Int × Nat := mT ts pts (gI pts most 0 cs).1 (mc0 ts.length) 0
structure OkS (nt : Nat) (s : Mc) : Prop where
 m : OkM s.cells
 l : s.slots.length = nt
theorem OkS.put {ts : List Int} {nt : Nat} {s : Mc} (h : OkS nt s) (v : Nat) (x : Sl) : OkS nt (bW ts s v x).1 := by
 unfold bW; split
 ·exact ⟨h.m.fr _, by show (s.slots.set v x).length = nt; rw [List.length_set]; exact h.l⟩
 ·exact ⟨h.m, by show (s.slots.set v x).length = nt; rw [List.length_set]; exact h.l⟩
theorem OkS.fin {ts : List Int} {nt : Nat} : ∀ n v (s : Mc), OkS nt s → OkS nt (cV ts n v s).1
 | 0, _, _, h => h
 | n + 1, v, s, h => by
  unfold cV; split
  ·split
   ·exact OkS.fin n _ _ ⟨h.m.fr _, by show (s.slots.set v mQ).length = nt; rw [List.length_set]; exact h.l⟩
   ·exact ⟨h.m.fr _, h.l⟩
  ·exact OkS.fin n _ _ h
structure PtN (x : Pnt) : Prop where
 n : x.op = 2 → 0 ≤ x.n ∧ x.n ≤ 9
theorem OkS.do {ts : List Int} {nt : Nat} {s : Mc} (h : OkS nt s) {x : Pnt} (hx : PtN x) : OkS nt (dG ts s x).1 := by
 have hl : ∀ (v : Nat) (y : Sl), (s.slots.set v y).length = nt := fun v y => by rw [List.length_set]; exact h.l
 unfold dG
 split
 ·exact h.put _ _
 split
 ·rename_i h2
  split
  ·exact h
  ·rename_i h3
   refine OkS.put ?_ _ _
   exact ⟨h.m.nw (hx.n h2) (by have := h.m.l; omega), h.l⟩
 split
 ·split
  ·refine OkS.put ?_ _ _
   exact ⟨h.m, hl _ _⟩
  ·exact h.put _ _
 split
 ·split
  ·refine OkS.put ?_ _ _
   exact ⟨h.m.ln _ _, h.l⟩
  ·exact h
 split
 ·split
  ·refine OkS.put ?_ _ _
   exact ⟨h.m.tch _ _, h.l⟩
  ·exact h
 split
 ·exact ⟨h.m.wr _ _, h.l⟩
 split
 ·exact ⟨h.m.fr _, hl _ _⟩
 split
 ·exact OkS.fin _ _ _ h
 ·exact h
theorem OkS.mc0 (nt : Nat) : OkS nt (mc0 nt) := ⟨⟨by simp [Go.AL.mc0], by simp [Go.AL.mc0]⟩, by simp [Go.AL.mc0]⟩
theorem OkS.run {ts : List Int} {pts : List Pnt} {nt : Nat} (hp : ∀ a : Nat, PtN pts[a]!) : ∀ (l : List Nat) (s : Mc) (last : Nat), OkS nt s → OkS nt (mT ts pts l s last).1
 | [], _, _, h => h
 | a :: l, s, _, h => by
  unfold mT; split
  ·exact h
  ·split
   ·exact OkS.run hp l _ _ (h.do (hp a))
   ·exact h.do (hp a)
end Go.AL
namespace Go.AL
theorem JS (k : Int) : e7 k = 3 ∨ e7 k = 4 := by unfold e7; split; exact .inl rfl; exact .inr rfl
theorem yP (ts : List Int) : ∀ n v (s : Mc), (cV ts n v s).2 = 0 ∨ (cV ts n v s).2 = 3 ∨ (cV ts n v s).2 = 4
 | 0, _, _ => .inl rfl
 | n + 1, v, s => by
  unfold cV; split
  ·split
   ·exact yP ts n _ _
   ·exact .inr (JS _)
  ·exact yP ts n _ _
theorem Gj {ts : List Int} {s : Mc} {x : Pnt} (h : x.op = 11) : dG ts s x = cV ts ts.length 0 s := by
 unfold dG; simp [h]
theorem tX (m : List Cl) (x : Pt) (b : Bool) : (dQ m x b).length = m.length := by unfold dQ; split <;> simp
end Go.AL
namespace Go.AL
structure PtA (ts : List Int) (x : Pnt) : Prop where
 n : x.op = 1 ∨ x.op = 2 → 0 ≤ x.n ∧ x.n ≤ 9
 t1 : x.op = 1 → ts[x.x.toNat]! = 1
 t2 : x.op = 2 ∨ x.op = 8 → ts[x.x.toNat]! = 2
 t3 : x.op = 3 → ts[x.x.toNat]! = ts[x.y.toNat]! ∧ x.x ≠ x.y
 t4 : x.op = 4 → ts[x.x.toNat]! = 3 ∧ x.x ≠ x.y ∧ 2 ≤ ts[x.y.toNat]!
 t5 : x.op = 5 → ts[x.x.toNat]! = 4 ∧ x.x ≠ x.y ∧ (ts[x.y.toNat]! = 2 ∨ ts[x.y.toNat]! = 4)
 t6 : x.op = 6 → ts[x.x.toNat]! = 1 ∧ 2 ≤ ts[x.y.toNat]!
 t7 : x.op = 7 → (ts[x.x.toNat]! = 2 ∨ ts[x.x.toNat]! = 4) ∧ ts[x.y.toNat]! = 1
theorem PtA.no {ts : List Int} {x : Pnt} (h : 9 ≤ x.op) : PtA ts x := ⟨fun e => by omega, fun e => by omega, fun e => by omega, fun e => by omega, fun e => by omega, fun e => by omega, fun e => by omega, fun e => by omega⟩
theorem B0 {ts : List Int} {s : Stmt} (h : dK ts s = true) : s.op ≤ 8 := by
 unfold dK at h
 dsimp only at h
 apply Classical.byContradiction
 intro e
 rw [if_neg (by omega), if_neg (by omega)] at h
 split at h
 ·cases h
 ·rw [if_neg (by omega), if_neg (by omega), if_neg (by omega), if_neg (by omega), if_neg (by omega), if_neg (by omega)] at h; cases h
theorem H5 {ts : List Int} (s : Stmt) (h : dK ts s = true) : PtA ts ⟨s.op, s.x, s.y, s.n, []⟩ := by
 have g : ∀ v, 0 < fA ts v → fA ts v = ts[v.toNat]! := fun v => iX
 have gx := g s.x
 have gy := g s.y
 unfold dK at h
 dsimp only at h
 constructor <;> dsimp only <;> intro e
 case n => rcases e with e | e <;> simp [e] at h <;> omega
 case t1 => simp [e] at h; rw [← gx (by omega)]; omega
 case t2 => rcases e with e | e <;> simp [e] at h <;> (rw [← gx (by omega)]; omega)
 case t3 => simp [e] at h; rw [← gx (by omega), ← gy (by omega)]; exact ⟨h.2.1, h.2.2.2⟩
 case t4 => simp [e] at h; rw [← gx (by omega), ← gy (by omega)]; exact ⟨h.2.1, h.2.2.2, h.2.2.1⟩
 case t5 => simp [e] at h; rw [← gx (by omega), ← gy (by omega)]; exact ⟨h.2.1, h.2.2.2, h.2.2.1⟩
 case t6 => simp [e] at h; rw [← gx (by omega), ← gy (by omega)]; exact ⟨h.2.1, h.2.2⟩
 case t7 => simp [e] at h; rw [← gx (by omega), ← gy (by omega)]; exact ⟨h.2.1, h.2.2⟩
mutual
theorem MZ {ts : List Int} : ∀ (s : Stmt) (d b : Nat), qO ts d s = true → ∀ x ∈ uH b s, PtA ts x ∧ x.op ≠ 11 ∧ 0 < x.next.length
 | .mk op x y n th el, d, b, h => by
  simp only [qO] at h
  split at h
  ·rename_i hop
   simp only [Bool.and_eq_true] at h
   have hs := H5 _ h.2
   have ho := B0 h.2
   simp only [Stmt.op, Stmt.x, Stmt.y, Stmt.n] at hs ho
   simp only [uH, hop.1, hop.2, if_false, List.mem_singleton]
   rintro z rfl
   exact ⟨⟨hs.n, hs.t1, hs.t2, hs.t3, hs.t4, hs.t5, hs.t6, hs.t7⟩, by dsimp only; omega, by simp⟩
  ·rename_i hop
   cases d with
   | zero => cases h
   | succ d =>
    simp only [Bool.and_eq_true, decide_eq_true_eq] at h
    obtain ⟨⟨⟨_, _⟩, h1⟩, h2⟩ := h
    by_cases h9 : op = 9
    ·subst h9
     simp only [uH, if_true, List.mem_append, List.mem_singleton]
     rintro z (((rfl | hz) | rfl) | hz)
     ·exact ⟨PtA.no (by simp), by simp, by simp⟩
     ·exact tW th d (b + 1) h1 z hz
     ·exact ⟨PtA.no (by simp), by simp, by simp⟩
     ·exact tW el d (b + 2 + c6 th) h2 z hz
    ·have h10 : op = 10 := by omega
     subst h10
     simp only [uH, if_true, show ((10 : Int) = 9) = False by simp, if_false, List.mem_append, List.mem_singleton]
     rintro z ((rfl | hz) | rfl)
     ·exact ⟨PtA.no (by simp), by simp, by simp⟩
     ·exact tW th d (b + 1) h1 z hz
     ·exact ⟨PtA.no (by simp), by simp, by simp⟩
theorem tW {ts : List Int} : ∀ (l : List Stmt) (d b : Nat), okL ts d l = true → ∀ x ∈ fN b l, PtA ts x ∧ x.op ≠ 11 ∧ 0 < x.next.length
 | [], d, b, h => by simp [fN]
 | s :: l, d, b, h => by
  simp only [okL, Bool.and_eq_true] at h
  simp only [fN, List.mem_append]
  rintro x (hx | hx)
  ·exact MZ s d b h.1 x hx
  ·exact tW l d (b + nM s) h.2 x hx
end
structure WA (ts : List Int) (pts : List Pnt) : Prop where
 a : ∀ i, i < pts.length → PtA ts pts[i]!
 e : ∀ i, i < pts.length → (pts[i]!.op = 11 ↔ i + 1 = pts.length)
 n : ∀ i, i < pts.length → pts[i]!.op ≠ 11 → 0 < pts[i]!.next.length
theorem WA.of_valid {p : Prg} (h : bK p = true) : WA p.types (aB p) := by
 unfold bK at h
 simp only [Bool.and_eq_true, decide_eq_true_eq] at h
 obtain ⟨⟨_, hl⟩, _⟩ := h
 have hlen := k8 p
 have hpl := bU p.body 0
 have lo : ∀ i, i + 1 < (aB p).length → (aB p)[i]! ∈ fN 0 p.body := fun i hi => by
  have h1 : i < (fN 0 p.body).length := by omega
  unfold aB
  rw [bB _ _ (by rw [List.length_append]; omega), List.getElem_append_left h1]
  exact List.getElem_mem h1
 have hi : ∀ i, i + 1 = (aB p).length → (aB p)[i]! = ⟨11, 0, 0, 0, []⟩ := fun i hi => by
  have h1 : i = (fN 0 p.body).length := by omega
  unfold aB
  rw [bB _ _ (by rw [List.length_append, List.length_singleton]; omega)]
  simp [h1]
 refine ⟨fun i h => ?_, fun i h => ⟨fun e => ?_, fun e => by rw [hi i e]⟩, fun i h ne => ?_⟩
 ·by_cases q : i + 1 < (aB p).length
  ·exact (tW p.body 4 0 hl _ (lo i q)).1
  ·rw [hi i (by omega)]; exact PtA.no (by simp)
 ·by_cases q : i + 1 < (aB p).length
  ·exact absurd e (tW p.body 4 0 hl _ (lo i q)).2.1
  ·omega
 ·by_cases q : i + 1 < (aB p).length
  ·exact (tW p.body 4 0 hl _ (lo i q)).2.2
  ·exact absurd (by rw [hi i (by omega)]) ne
end Go.AL
namespace Go.AL
theorem IJ {ts : List Int} {s : Mc} {x : Pnt} (h : cT ts s x = false) {v : Nat} (hv : v < ts.length) (hu : a8 ts x v ≠ 0) : s.slots[v]!.set = true := by
 unfold cT at h
 rw [List.any_eq_false] at h
 have h1 := h v (List.mem_range.2 hv)
 rw [decide_eq_true hu, Bool.true_and] at h1
 simpa using h1
section
variable {ts : List Int} {pts : List Pnt}
theorem Ho (w : WG ts pts) (A : WA ts pts) {a : Nat} (ha : a < pts.length) (h11 : pts[a]!.op ≠ 11) (cs : List Int) : dH pts a (iF pts a cs).1 := by
 have key : ∀ j : Nat, j < pts[a]!.next.length → dH pts a (pts[a]!.next[j]!).toNat := fun j hj => by
  have hm := aR pts[a]!.next j hj
  refine ⟨ha, ?_⟩
  rw [show (((pts[a]!.next[j]!).toNat : Nat) : Int) = pts[a]!.next[j]! by have := (w.nx a ha _ hm).1; omega]
  exact hm
 have h0 := A.n a ha h11
 unfold iF
 split
 ·rename_i h2
  split
  ·exact key 1 (by omega)
  ·rename_i c cs
   exact key _ (by omega)
 ·exact key 0 h0
end
end Go.AL
namespace Go.AL
section
variable {ts : List Int} {pts : List Pnt}
theorem AX {s : Mc} {x : Pnt} (h : cT ts s x = true) : ∃ v, v < ts.length ∧ a8 ts x v ≠ 0 ∧ s.slots[v]!.set = false := by
 unfold cT at h
 obtain ⟨v, hv, h2⟩ := List.any_eq_true.1 h
 rw [Bool.and_eq_true, decide_eq_true_eq] at h2
 exact ⟨v, List.mem_range.1 hv, h2.1, by simpa using h2.2⟩
end
end Go.AL
namespace Go.AL
theorem vD {m : List Cl} {x : Pt} {u : Bool} (h : lP m x u = 0) : bD m x u = 0 := by
 unfold lP at h
 by_cases h0 : bD m x u = 0
 ·exact h0
 ·rw [if_neg h0] at h; exact h
end Go.AL
namespace Go.AL
theorem tH (ts : List Int) : ∀ n v (s : Mc), (cV ts n v s).1.read = s.read
 | 0, _, _ => rfl
 | n + 1, v, s => by
  unfold cV; split
  ·split
   ·exact tH ts n _ _
   ·rfl
  ·exact tH ts n _ _
theorem j7 (ts : List Int) (s : Mc) (v : Nat) (x : Sl) : (bW ts s v x).1.read = s.read := by unfold bW; split <;> rfl
end Go.AL
namespace Go.AL
structure Co where
 val : Int
 alive : Bool
 next : Int
 av : AV
instance : Inhabited Co := ⟨⟨0, false, 0, .imm 0 []⟩⟩
def eQ (c : Co) : List AV := [iv c.val, bv c.alive, iv c.next, c.av]
instance : FlT eQ 4 := ⟨fun _ => rfl⟩
instance : FE eQ (fun c => [iv c.val, bv c.alive, iv c.next, c.av]) := ⟨fun _ => rfl⟩
def qK (c : Cl) : Co := ⟨c.val, c.alive, c.next, sl cC c.stk⟩
def c8 (m : List Cl) (j : Nat) (X : AV) : List Co := (m.map qK).set j { qK m[j]! with av := X }
theorem j4 (m : List Cl) : flat eQ (m.map qK) = flat bI m := by
 unfold flat; rw [List.flatMap_map]; rfl
theorem c5 {m : List Cl} {j : Nat} {X : AV} : (c8 m j X).length = m.length := by unfold c8; rw [List.length_set, List.length_map]
theorem gR {m : List Cl} {j : Nat} {X : AV} (h : j < m.length) : (c8 m j X)[j]! = ⟨m[j]!.val, m[j]!.alive, m[j]!.next, X⟩ := by
 unfold c8
 rw [bB _ _ (by rw [List.length_set, List.length_map]; exact h), List.getElem_set_self]; rfl
theorem iU {m : List Cl} {j : Nat} {X : AV} (h : j < m.length) : flat eQ (c8 m j X) = flat bI (m.take j) ++ ([iv m[j]!.val, bv m[j]!.alive, iv m[j]!.next] ++ X :: flat bI (m.drop (j + 1))) := by
 unfold c8
 rw [List.set_eq_take_append_cons_drop, if_pos (by rw [List.length_map]; exact h), ← cS, ← List.map_take, j4, ← List.map_drop]
 congr 1
 show eQ _ ++ flat eQ _ = _
 rw [j4]; rfl
theorem vG {m : List Cl} {j : Nat} {X : AV} (h : j < m.length) : flat eQ (c8 m j X) = (flat bI (m.take j) ++ [iv m[j]!.val, bv m[j]!.alive, iv m[j]!.next]) ++ X :: flat bI (m.drop (j + 1)) := by
 rw [iU h, List.append_assoc]
theorem Ab {m : List Cl} {j : Nat} {r : List Tg} : flat eQ (c8 m j (sl cC r)) = flat bI (m.set j { m[j]! with stk := r }) := by
 rw [← j4, List.map_set]; rfl
theorem yN {m : List Cl} {j : Nat} {X : AV} (h : j < m.length) : gX (flat bI m) (0 + j * 4 + 3) [X] = flat eQ (c8 m j X) := by
 rw [← j4]
 have := fV (f := eQ) (xs := m.map qK) (k := j) (j := 3) (new := [X]) (y := { qK m[j]! with av := X }) (by rw [List.length_map]; exact h) (by simp) (by
  have e : (m.map qK)[j]! = qK m[j]! := by rw [bB _ _ (by rw [List.length_map]; exact h), List.getElem_map, bB _ _ h]
  rw [e]; rfl)
 exact this
theorem tG {m : List Cl} {j : Nat} {X Y : AV} (h : j < m.length) : gX (flat eQ (c8 m j X)) (0 + j * 4 + 3) [Y] = flat eQ (c8 m j Y) := by
 have e : c8 m j Y = (c8 m j X).set j { qK m[j]! with av := Y } := by unfold c8; rw [List.set_set]
 rw [e]
 exact fV (by rw [c5]; exact h) (by simp) (by rw [gR h]; rfl)
theorem yO {m : List Cl} {j : Nat} {X : AV} {v : Int} (h : j < m.length) : gX (flat eQ (c8 m j X)) (0 + j * 4 + 2) [iv v] = flat eQ (c8 (m.set j { m[j]! with next := v }) j X) := by
 have e : c8 (m.set j { m[j]! with next := v }) j X = (c8 m j X).set j ⟨m[j]!.val, m[j]!.alive, v, X⟩ := by
  have e2 : (m.set j { m[j]! with next := v })[j]! = { m[j]! with next := v } := by rw [bB _ _ (by rw [List.length_set]; exact h), List.getElem_set_self]
  unfold c8
  rw [e2, List.map_set, List.set_set, List.set_set]; rfl
 rw [e]
 exact fV (by rw [c5]; exact h) (by simp) (by rw [gR h]; rfl)
theorem Le.cls {ts : List (Nat × AV)} {hs : List (Nat × Option (List AV))} {n : Nat} {z0 : Lo} {o q j k : Nat} {m : List Cl} {r : List Tg} (hj : aP hs o = some (flat eQ (c8 m j (.own q 0 k 2)))) (hq : aP hs q = some (flat cC r)) (hk : k = r.length) (hjm : j < m.length) (hoq : o ≠ q) :
  Le ⟨ts, hs, n, z0⟩ ⟨ts, (o, some (flat bI (m.set j { m[j]! with stk := r }))) :: (q, none) :: hs, n, z0⟩ := by
 subst hk
 rw [vG hjm] at hj
 have h := Le.frzC (ts := ts) (n := n) (z0 := z0) _ hj hq hoq
 rw [← Ab, vG hjm]; exact h
theorem jR {ρ : Nat → Option Nat} {m : List Cl} {j k i i' : Nat} (hr : ρ i = some i') : RnL ρ (flat eQ (c8 m j (.own i 0 k 2))) (flat eQ (c8 m j (.own i' 0 k 2))) := by
 by_cases h : j < m.length
 ·rw [iU h, iU h]
  exact RnL.app (RnL.purI inferInstance) (RnL.app (RnL.purI inferInstance) (RnL.cons (RnV.own hr) (RnL.purI inferInstance)))
 ·have e : ∀ X, c8 m j X = m.map qK := fun X => List.set_eq_of_length_le (by rw [List.length_map]; omega)
  rw [e, e, j4]
  exact RnL.purI inferInstance
end Go.AL
namespace Go.AL
open Go.RowKit Go.MapKept
set_option linter.unusedVariables false
set_option linter.unusedSimpArgs false
def M1 (r : Nat) (ks : List Int) (w : World) : Prop := ∃ es ck, w.heap[r]? = some (.map es ck) ∧ ∀ e ∈ es.toList, ∃ k ∈ ks, e.key = .int .i64 k
structure GsM (C : Ctx) (s : AS) (r : Nat) (ks : List Int) (a : Act) (w : World) : Prop where
 g : Gs C s a w
 m : M1 r ks w
 l : C.w0.heap.size ≤ r
theorem Fr.trans2 {W0 W1 : Nat → Prop} {w0 w w' : World} (h : Fr W0 w0 w) (k : Fr W1 w w') (hW : ∀ b, W1 b → W0 b ∨ w0.heap.size ≤ b) : Fr W0 w0 w' :=
 ⟨k.os.trans h.os, k.tape.trans h.tape, k.output.trans h.output, Nat.le_trans h.size k.size, fun b hb hw => by
  rw [k.block b (Nat.lt_of_lt_of_le hb h.size) (fun q => (hW b q).elim hw (fun h => by omega))]; exact h.block b hb hw, fun b => Nat.le_trans (h.bs b) (k.bs b)⟩
theorem GsM.base {C : Ctx} {s : AS} {r : Nat} {ks : List Int} {a : Act} {w : World} (h : GsM C s r ks a w) : ∃ C' : Ctx, C'.N = C.N ∧ Gs C' s a w ∧ ∀ s' a' w', Gs C' s' a' w' → GsM C s' r ks a' w' := by
 obtain ⟨⟨h0, ι, g, gh⟩, ⟨es, ck, hm, hk⟩, hl⟩ := h
 let C' : Ctx := { C with w0 := w, W0 := fun b => ∃ id cs β, aP s.hs id = some cs ∧ ι id = some (some (b, β)), xlt := fun b hb => Nat.lt_of_lt_of_le (C.xlt b hb) gh.fr.size }
 have hW : ∀ b, C'.W0 b → C.W0 b ∨ C.w0.heap.size ≤ b := by
  rintro b ⟨id, cs, β, h1, h2⟩
  rcases gh.obj id cs h1 with ⟨h3, _⟩ | ⟨b', β', arr, e, h3, h4, h5, h6, h7, h8⟩
  ·rw [h3] at h2; cases h2
  ·rw [h3] at h2; cases h2; exact h8
 have hr : ¬ C'.W0 r := by
  rintro ⟨id, cs, β, h1, h2⟩
  rcases gh.obj id cs h1 with ⟨h3, _⟩ | ⟨b', β', arr, e, h3, h4, h5, h6, h7, h8⟩
  ·rw [h3] at h2; cases h2
  ·rw [h3] at h2; cases h2; rw [hm] at h4; cases h4
 refine ⟨C', rfl, ⟨h0, ι, ⟨g.df, g.sz, g.tm⟩, ⟨fun id cs h => ?_, gh.sep, Fr.refl _ _, gh.ex, gh.fresh⟩⟩, ?_⟩
 ·rcases gh.obj id cs h with h1 | ⟨b', β', arr, e, h3, h4, h5, h6, h7, h8⟩
  ·exact .inl h1
  ·exact .inr ⟨b', β', arr, e, h3, h4, h5, h6, h7, .inl ⟨id, cs, β', h, h3⟩⟩
 ·rintro s' a' w' ⟨h0', ι', g', gh'⟩
  have f : Fr C'.W0 w w' := gh'.fr
  refine ⟨⟨h0', ι', ⟨g'.df, g'.sz, g'.tm⟩, ⟨fun id cs h => ?_, gh'.sep, gh.fr.trans2 f hW, gh'.ex, gh'.fresh⟩⟩, ⟨es, ck, by rw [f.block r (eR hm) hr]; exact hm, hk⟩, hl⟩
  rcases gh'.obj id cs h with h1 | ⟨b', β', arr, e, h3, h4, h5, h6, h7, h8⟩
  ·exact .inl h1
  ·refine .inr ⟨b', β', arr, e, h3, h4, h5, h6, h7, ?_⟩
   rcases h8 with h8 | h8
   ·exact hW _ h8
   ·exact .inr (Nat.le_trans gh.fr.size h8)
def rD (P : Program) (N : Nat) (c : Code) (Q : Exit → AS → List Int → Prop) (r : Nat) (ks : List Int) (s : AS) : Prop :=
 ∀ (C : Ctx) (a : Act) (w : World), C.N = N → GsM C s r ks a w → c.wp P (fun e a' w' => ∃ s' ks', Q e s' ks' ∧ GsM C s' r ks' a' w') a w
def E9 (P : Program) (N : Nat) (all : Array Oper) (Q : Exit → AS → List Int → Prop) (r : Nat) (ks : List Int) (l : List Oper) (s : AS) : Prop :=
 ∀ (C : Ctx) (a : Act) (w : World), C.N = N → GsM C s r ks a w → wpList P all (fun e a' w' => ∃ s' ks', Q e s' ks' ∧ GsM C s' r ks' a' w') l a w
def sR (K : AS → List Int → Prop) (Q : Exit → AS → List Int → Prop) : Exit → AS → List Int → Prop
 | .normal, s, ks => K s ks
 | e, s, ks => Q e s ks
def Iu (id : Nat) (Q : Exit → AS → List Int → Prop) : Exit → AS → List Int → Prop
 | .exit i, s, ks => if i = id then Q .normal s ks else Q (.exit i) s ks
 | e, s, ks => Q e s ks
section
variable {P : Program} {N : Nat} {Q : Exit → AS → List Int → Prop} {s : AS} {r : Nat} {ks : List Int}
theorem n4 {c : Code} (h : AW P N c (fun e s' => Q e s' ks) s) : rD P N c Q r ks s := by
 intro C a w hN g
 obtain ⟨C', h1, h2, h3⟩ := g.base
 exact wp_mono (h C' a w (h1.trans hN) h2) fun e a' w' ⟨s', q1, q2⟩ => ⟨s', ks, q1, h3 _ _ _ q2⟩
theorem kV {x y : Code} (h : rD P N x (sR (fun s' ks' => rD P N y Q r ks' s') Q) r ks s) : rD P N (.seq x y) Q r ks s := by
 intro C a w hN g
 refine wp_seq (wp_mono (h C a w hN g) ?_)
 rintro e a' w' ⟨s', ks', h1, h2⟩
 cases e with
 | normal => exact h1 C a' w' hN h2
 | _ => exact ⟨s', ks', h1, h2⟩
theorem zC {x y : Code} {c : Operand} {b : Bool} (hc : ev (lk s.ts) c = some (.v (.bool b))) (h1 : b = true → rD P N x Q r ks s) (h2 : b = false → rD P N y Q r ks s) : rD P N (.cond c x y) Q r ks s := by
 rintro C a w hN ⟨⟨h0, ι, g, gh⟩, hm, hl⟩
 have h := b0 g hc
 simp only [Rd] at h
 cases b
 ·exact wp_cond_false h (h2 rfl C a w hN ⟨⟨h0, ι, g, gh⟩, hm, hl⟩)
 ·exact wp_cond_true h (h1 rfl C a w hN ⟨⟨h0, ι, g, gh⟩, hm, hl⟩)
theorem wA {id : Nat} {c : Code} (h : rD P N c (Iu id Q) r ks s) : rD P N (.block id c) Q r ks s := by
 intro C a w hN g
 refine wp_block (wp_mono (h C a w hN g) ?_)
 rintro e a' w' ⟨s', ks', h1, h2⟩
 cases e with
 | exit i =>
  simp only [Exit.inBlock, Iu] at h1 ⊢
  split
  ·rename_i hi; rw [if_pos hi] at h1; exact ⟨s', ks', h1, h2⟩
  ·rename_i hi; rw [if_neg hi] at h1; exact ⟨s', ks', h1, h2⟩
 | _ => exact ⟨s', ks', h1, h2⟩
theorem AR (h : Q .normal s ks) : rD P N .skip Q r ks s := fun C a w _ g => wp_skip ⟨s, ks, h, g⟩
theorem Fg {id : Nat} (h : Q (.exit id) s ks) : rD P N (.exit id) Q r ks s := fun C a w _ g => wp_exit ⟨s, ks, h, g⟩
theorem Hj {σ : Type} {c : Code} (p : σ → Prop) (I : σ → AS) (J : σ → List Int) (μ : σ → Nat) (h0 : ∃ i, p i ∧ Le s (I i) ∧ J i = ks)
  (round : ∀ i, p i → rD P N c (sR (fun s' ks' => ∃ j, p j ∧ μ j < μ i ∧ Le s' (I j) ∧ J j = ks') Q) r (J i) (I i)) : rD P N (.loop c) Q r ks s := by
 intro C a w hN g
 obtain ⟨i, h1, h2, h3⟩ := h0
 subst h3
 refine wp_loop (fun a w => ∃ i, p i ∧ GsM C (I i) r (J i) a w) (fun a w => oG fun n => ∃ i, p i ∧ GsM C (I i) r (J i) a w ∧ μ i = n) ⟨i, h1, ⟨h2 C a w g.g, g.m, g.l⟩⟩ ?_
 rintro a w ⟨i0, hp0, hg0⟩
 obtain ⟨⟨i, hp, hg, hm⟩, hmin⟩ := hO (S := fun n => ∃ i, p i ∧ GsM C (I i) r (J i) a w ∧ μ i = n) ⟨_, i0, hp0, hg0, rfl⟩
 refine wp_mono (round i hp C a w hN hg) ?_
 rintro e a' w' ⟨s', ks', h3, h4⟩
 cases e with
 | normal =>
  obtain ⟨j, q1, q2, q3, rfl⟩ := h3
  have h5 : GsM C (I j) r (J j) a' w' := ⟨q3 C a' w' h4.g, h4.m, h4.l⟩
  refine ⟨⟨j, q1, h5⟩, ?_⟩
  have := (hO (S := fun n => ∃ i, p i ∧ GsM C (I i) r (J i) a' w' ∧ μ i = n) ⟨_, j, q1, h5, rfl⟩).2 (μ j) ⟨j, q1, h5, rfl⟩
  omega
 | _ => exact ⟨s', ks', h3, h4⟩
theorem EX {σ : Type} {c : Code} {ts : List (Nat × AV)} {hs : List (Nat × Option (List AV))} {n : Nat} {z0 : Lo} (kl : List Nat) (kt : List (Nat × AV)) (js : List Nat) (kh : List (Nat × Option (List AV)))
  (ot : σ → List (Nat × AV)) (oh : σ → List (Nat × Option (List AV))) (J : σ → List Int) (p : σ → Prop) (μ : σ → Nat) (i0 : σ) (h0 : p i0) (hJ : J i0 = ks) (hk : oW kl ts = kt) (hj : pC js hs = kh)
  (h1 : oO ts (ot i0)) (h2 : mS hs (oh i0))
  (round : ∀ i, p i → rD P N c (sR (fun s' ks' => ∃ j, p j ∧ μ j < μ i ∧ Le s' ⟨ot j ++ kt, oh j ++ kh, n, z0⟩ ∧ J j = ks') Q) r (J i) ⟨ot i ++ kt, oh i ++ kh, n, z0⟩) :
  rD P N (.loop c) Q r ks ⟨ts, hs, n, z0⟩ := by
 subst hk hj
 exact Hj p (fun i => ⟨ot i ++ oW kl ts, oh i ++ pC js hs, n, z0⟩) J μ ⟨i0, h0, Le.lit (k7 h1 (k9 kl)) (lZ h2 (oJ js)) (Nat.le_refl _), hJ⟩ round
theorem sF {id : Nat} {l : List Oper} (h : E9 P N l.toArray Q r ks l s) : rD P N (.region id l.toArray false) Q r ks s :=
 fun C a w hN g => wp_region_lit (h C a w hN g)
variable {all : Array Oper}
theorem Mf {o : Oper} {a : Act} {w : World} {K K' : Act → World → Prop} {Q1 Q2 : Exit → Act → World → Prop} (h : ∀ a w, K a w → K' a w) (hq : ∀ e a w, Q1 e a w → e = .normal)
  (hh : o.wp P a w K Q1) : o.wp P a w K' Q2 := by
 have hL : ¬ LetsOut Q1 := fun ⟨a, w, q⟩ => by cases hq _ _ _ q
 unfold Oper.wp at *
 generalize (execOp a.eval o).run P w = z at *
 cases z with
 | ok n w' =>
  cases n <;> simp only [Oper.upon] at hh ⊢ <;>
   first
    | exact h _ _ hh
    | exact Calls.mono hh (fun e w'' he => by cases e <;> first | exact h _ _ he | (cases hq _ _ _ he) | exact absurd he hL)
    | exact Rows.mono hh (fun _ _ he => h _ _ he)
 | halt x w' => cases x <;> simp only [Oper.upon] at hh ⊢ <;> (cases hq _ _ _ hh)
theorem iV {Q1 Q2 : Exit → Act → World → Prop} {l2 : List Oper} (k : ∀ e a w, Q1 e a w → e = .normal ∧ wpList P all Q2 l2 a w) : ∀ (l1 : List Oper) (a : Act) (w : World), wpList P all Q1 l1 a w → wpList P all Q2 (l1 ++ l2) a w
 | [], a, w, h => (k _ _ _ h).2
 | o :: l1, a, w, h => by
  have hL : ¬ LetsOut Q1 := fun ⟨a, w, q⟩ => by cases (k _ _ _ q).1
  rw [List.cons_append]
  unfold wpList at h ⊢
  split
  ·rename_i hw
   rw [if_pos hw] at h
   rcases h with h | ⟨_, h⟩
   ·exact .inl (Mf (fun a w => iV k l1 a w) (fun e a w q => (k e a w q).1) h)
   ·exact absurd h hL
  ·rename_i hw; rw [if_neg hw] at h; exact iV k l1 _ _ h
theorem zA {l1 l2 : List Oper} (h : RW P N all (fun e s' => e = .normal ∧ E9 P N all Q r ks l2 s') .txt l1 s) : E9 P N all Q r ks (l1 ++ l2) s := by
 intro C a w hN g
 obtain ⟨C', h1, h2, h3⟩ := g.base
 exact iV (fun e a' w' ⟨s', ⟨q1, q2⟩, q3⟩ => ⟨q1, q2 C a' w' hN (h3 _ _ _ q3)⟩) l1 a w (h C' a w (h1.trans hN) h2)
theorem Ir (h : Q .normal s ks) : E9 P N all Q r ks [] s := fun C a w _ g => wpList_nil ⟨s, ks, h, g⟩
variable {rest : List Oper} {ts : List (Nat × AV)} {hs : List (Nat × Option (List AV))} {n : Nat} {z0 : Lo} {d : Nat} {ty : TypeId} {pos : String} {af : Array Edge}
theorem EG {dst : Option Tmp} {op : Op} {j e : Nat} {want b : Bool} (hj : (all[j]?).bind (·.dst) = some e) (hb : lk s.ts e = some (.v (.bool b))) (hw : b = want) (h : E9 P N all Q r ks (⟨dst, op, ty, pos, af, none⟩ :: rest) s) :
  E9 P N all Q r ks (⟨dst, op, ty, pos, af, some (j, want)⟩ :: rest) s := by
 subst hw
 intro C a w hN g
 have h' := h C a w hN g
 obtain ⟨⟨h0, ι, g, gh⟩, hm, hl⟩ := g
 have hyl : yielded all a.tmps j = some b := by
  obtain ⟨y, hy, hr⟩ := g.tm e _ hb
  simp only [Rd] at hr
  subst hr
  simp [yielded, hj, hy]
 unfold wpList at h' ⊢
 simp only [Region.wanted, hyl, if_true, beq_self_eq_true] at h' ⊢
 exact h'
theorem p8 {w : World} {mt kt et : TypeId} {es : Array MapEntry} {ck : Nat} {a : Int} (hu : P.underlying mt = some (.map kt et)) (hk : P.underlying kt = some (.int .i64)) (hz : (P.info? et).bind (·.zero) = some (.bool false))
  (hb : w.heap[r]? = some (.map es ck)) (hn : ∀ e ∈ es.toList, ∃ k, k ≠ a ∧ e.key = .int .i64 k) : (Instr.lookup mt (.map (some r)) (.int .i64 a) false).run P w = .ok (.bool false) w ∧ Instr.findNow (.int .i64) (.int .i64 a) es.toList 0 = some none := by
 have hkey : IsKey (.int .i64) (.int .i64 a) := by simp [IsKey]
 have hf : Instr.findNow (.int .i64) (.int .i64 a) es.toList 0 = some none := by
  rcases findNow_spec hkey es.toList 0 (fun x hx => by obtain ⟨k, _, h2⟩ := hn x hx; rw [h2]; simp [IsKey]) with ⟨h, _⟩ | ⟨j, e, _, h2, h3⟩
  ·exact h
  ·obtain ⟨k, h4, h5⟩ := hn e (List.mem_of_getElem? h2)
   rw [h5] at h3; cases h3; exact absurd rfl h4
 refine ⟨?_, hf⟩
 cases hi : P.info? et with
 | none => rw [hi] at hz; cases hz
 | some i =>
  rw [hi] at hz
  have hz2 : i.zero = some (.bool false) := hz
  simp [Instr.lookup, b9 hu, Go.MapKept.run_getObj_map hb, run_checkKey hk hkey, run_findKey hk hf, zeroValue, typeInfo, hi, hz2, Result.andThen]
theorem Cc {mt kt et : TypeId} {x y : Operand} {a : Int} (hu : P.underlying mt = some (.map kt et)) (hk : P.underlying kt = some (.int .i64)) (hz : (P.info? et).bind (·.zero) = some (.bool false))
  (hx : ev (lk ts) x = some (.v (.map (some r)))) (hy : ev (lk ts) y = some (.v (.int .i64 a))) (ha : a ∉ ks) (hN : Nat.blt d N = true) (kk : E9 P N all Q r ks rest ⟨(d, .v (.bool false)) :: ts, hs, n, z0⟩) :
  E9 P N all Q r ks (⟨some d, .lookup mt x y false, ty, pos, af, none⟩ :: rest) ⟨ts, hs, n, z0⟩ := by
 rintro C ac w hCN ⟨⟨h0, ι, g, gh⟩, ⟨es, ck, hm, hkk⟩, hl⟩
 refine wpList_plain rfl (fun K hK => ?_)
 have e1 := b0 g hx
 have e2 := b0 g hy
 simp only [Rd] at e1 e2
 have hr := (p8 (P := P) hu hk hz hm (a := a) (fun e he => by obtain ⟨k, h1, h2⟩ := hkk e he; exact ⟨k, fun q => ha (q ▸ h1), h2⟩)).1
 have hop : (execOp ac.eval ⟨some d, .lookup mt x y false, ty, pos, af, none⟩).run P w = .ok (.value (.bool false)) w := by
  simp [execOp, e1, e2, hr]
 simp only [Oper.wp, hop, Oper.upon]
 refine hK _ _ (kk C _ _ hCN ⟨⟨h0, ι, ?_, gh⟩, ⟨es, ck, hm, hkk⟩, hl⟩)
 show TG C ι (lk ((d, _) :: ts)) _ _ _
 rw [iD]
 exact g.put (by have := dL hN; omega) (by simp [Rd])
theorem Bv {mt kt et : TypeId} {x y z : Operand} {a : Int} (hu : P.underlying mt = some (.map kt et)) (hk : P.underlying kt = some (.int .i64)) (hz : (P.info? et).bind (·.zero) = some (.bool false))
  (hx : ev (lk ts) x = some (.v (.map (some r)))) (hy : ev (lk ts) y = some (.v (.int .i64 a))) (ha : a ∉ ks) (kk : E9 P N all Q r (ks ++ [a]) rest ⟨ts, hs, n, z0⟩) :
  E9 P N all Q r ks (⟨none, .mapUpdate mt x y z, ty, pos, af, none⟩ :: rest) ⟨ts, hs, n, z0⟩ := by
 rintro C ac w hCN ⟨⟨h0, ι, g, gh⟩, ⟨es, ck, hm, hkk⟩, hl⟩
 refine wpList_plain rfl (fun K hK => ?_)
 have e1 := b0 g hx
 have e2 := b0 g hy
 simp only [Rd] at e1 e2
 have hkey : IsKey (.int .i64) (.int .i64 a) := by simp [IsKey]
 have hf := (p8 (P := P) hu hk hz hm (a := a) (fun e he => by obtain ⟨k, h1, h2⟩ := hkk e he; exact ⟨k, fun q => ha (q ▸ h1), h2⟩)).2
 let o2 : Obj := .map (es.push { key := .int .i64 a, val := ac.eval z, born := ck }) (ck + 1)
 let w2 : World := { w with heap := w.heap.setIfInBounds r o2 }
 have hop : (execOp ac.eval ⟨none, .mapUpdate mt x y z, ty, pos, af, none⟩).run P w = .ok .skip w2 := by
  simp [execOp, e1, e2, Instr.mapUpdate, b9 hu, Go.MapKept.run_getObj_map hm, run_checkKey hk hkey, run_findKey hk hf, Go.MapKept.run_setObj_map _ hm, Result.andThen, w2, o2]
 obtain ⟨hs1, hs2⟩ := heap_set (o' := o2) hm
 have hne : ∀ b c e f, w.heap[b]? = some (.cells c e f) → b ≠ r := fun b c e f h q => by subst q; rw [hm] at h; cases h
 have hbs : ∀ b, rI w2 b = rI w b := fun b => by
  by_cases e : b = r
  ·subst e; show (match w2.heap[b]? with | some (.cells c _ _) => c.size | _ => 0) = _; rw [show w2.heap[b]? = some o2 from hs1]; simp [rI, hm, o2]
  ·exact n5 (hs2 b e)
 have hcell : ∀ b o v, w.cell? ⟨b, o, none⟩ = some v → w2.cell? ⟨b, o, none⟩ = some v := fun b o v h => by
  have : b ≠ r := fun q => by subst q; rw [World.cell?] at h; simp [hm] at h
  rw [dA (hs2 b this)]; exact h
 have car : ∀ bad : Nat → Prop, Carry w bad ι w2 bad ι := fun bad => ⟨fun b o v h1 h2 => ⟨h1, hcell b o v h2⟩, fun _ _ h => h, fun b => Nat.le_of_eq (hbs b).symm⟩
 simp only [Oper.wp, hop, Oper.upon]
 refine hK _ _ (kk C _ _ hCN ⟨⟨h0, ι, ?_, ?_⟩, ⟨_, _, hs1, ?_⟩, hl⟩)
 ·exact g.carry (car _)
 ·refine ⟨fun id cs h => ?_, gh.sep, ⟨gh.fr.os, gh.fr.tape, gh.fr.output, by show C.w0.heap.size ≤ (w.heap.setIfInBounds r o2).size; rw [Array.size_setIfInBounds]; exact gh.fr.size, fun b hb hw => ?_, fun b => by rw [hbs]; exact gh.fr.bs b⟩, gh.ex, gh.fresh⟩
  ·rcases gh.obj id cs h with h1 | ⟨b', β', arr, e, h3, h4, h5, h6, h7, h8⟩
   ·exact .inl h1
   ·exact .inr ⟨b', β', arr, e, h3, by rw [show w2.heap[b']? = w.heap[b']? from hs2 b' (hne _ _ _ _ h4)]; exact h4, h5, RdC.carryB (car _) _ _ _ (fun o v hv => hcell b' o v hv) h6, h7, h8⟩
  ·rw [show w2.heap[b]? = w.heap[b]? from hs2 b (by omega)]; exact gh.fr.block b hb hw
 ·intro e he
  rw [Array.toList_push, List.mem_append, List.mem_singleton] at he
  rcases he with he | rfl
  ·obtain ⟨k, h1, h2⟩ := hkk e he; exact ⟨k, List.mem_append_left _ h1, h2⟩
  ·exact ⟨a, by simp, rfl⟩
theorem Gk {Q : Exit → AS → Prop} {id : Nat} {t : TypeId} {y : Code} (hN : Nat.blt d N = true)
  (h : ∀ r, E9 P N (⟨some d, .makeMap t none, ty, pos, af, none⟩ :: rest).toArray (fun e s' ks' => e = .normal ∧ rD P N y (fun e s' _ => Q e s') r ks' s') r [] rest ⟨(d, .v (.map (some r))) :: ts, hs, n, z0⟩) :
  AW P N (.seq (.region id (⟨some d, .makeMap t none, ty, pos, af, none⟩ :: rest).toArray false) y) Q ⟨ts, hs, n, z0⟩ := by
 rintro C ac w hCN ⟨h0, ι, g, gh⟩
 refine wp_seq (wp_region_lit (wpList_plain rfl (fun K hK => ?_)))
 have hop : (execOp ac.eval ⟨some d, .makeMap t none, ty, pos, af, none⟩).run P w = .ok (.value (.map (some w.heap.size))) (w.alloc (.map #[] 0)) := by
  simp [execOp, Instr.makeMap, newObj, Sem.run]
 have f : Fr (fun _ => False) w (w.alloc (.map #[] 0)) := by
  refine ⟨rfl, rfl, rfl, by simp, fun b hb _ => Below.heap_alloc w _ b hb, fun b => ?_⟩
  rcases Nat.lt_or_ge b w.heap.size with hb | hb
  ·rw [n5 (Below.heap_alloc w _ b hb)]; exact Nat.le_refl _
  ·simp [rI, Array.getElem?_eq_none hb]
 obtain ⟨g2, c2⟩ := gh.ext f
 simp only [Oper.wp, hop, Oper.upon]
 refine hK _ _ ?_
 have hh := h w.heap.size C (ac.put (some d) (.map (some w.heap.size))) (w.alloc (.map #[] 0)) hCN ⟨⟨h0, ι, ?_, g2⟩, ⟨#[], 0, heap_alloc_new w _, by simp⟩, gh.fr.size⟩
 ·have := iV (l2 := []) (P := P) (Q2 := Exit.then (y.wp P (fun e a' w' => ∃ s', Q e s' ∧ Gs C s' a' w')) (fun e a' w' => ∃ s', Q e s' ∧ Gs C s' a' w')) (all := (⟨some d, .makeMap t none, ty, pos, af, none⟩ :: rest).toArray)
   (k := fun e a' w' ⟨s', ks', ⟨q1, q2⟩, q3⟩ => ⟨q1, by
    subst q1
    exact wpList_nil (wp_mono (q2 C a' w' hCN q3) (fun e a'' w'' ⟨s'', ks'', u1, u2⟩ => ⟨s'', u1, u2.g⟩))⟩) rest _ _ hh
  rw [List.append_nil] at this
  exact this
 ·show TG C ι (lk ((d, _) :: ts)) _ _ _
  rw [iD]
  exact (g.carry c2).put (by have := dL hN; omega) (by simp [Rd])
theorem HV {K K2 : AS → List Int → Prop} {id : Nat} (h : Q .normal s ks) : sR K (sR K2 (Iu id Q)) (.exit id) s ks := by
 have e : sR K (sR K2 (Iu id Q)) (.exit id) s ks = (if id = id then Q .normal s ks else Q (.exit id) s ks) := rfl
 rw [e, if_pos rfl]; exact h
theorem Gw {Q : Exit → AS → Prop} {id : Nat} {t : TypeId} {y : Code} (h : Stop (AW P N (.seq (.region id (⟨some d, .makeMap t none, ty, pos, af, none⟩ :: rest).toArray false) y) Q s)) :
  AW P N (.seq (.region id (⟨some d, .makeMap t none, ty, pos, af, none⟩ :: rest).toArray false) y) Q s := h
theorem L5 {Q : Exit → AS → Prop} {c : Code} (h : AW P N c Q s) : Stop (AW P N c Q s) := h
theorem AO {l : List Oper} (h : RW P N all (fun e s' => e = .normal ∧ Q e s' ks) .txt l s) : E9 P N all Q r ks l s := by
 intro C a w hN g
 obtain ⟨C', h1, h2, h3⟩ := g.base
 have := iV (l2 := []) (P := P) (all := all) (Q1 := fun e a' w' => ∃ s', (e = .normal ∧ Q e s' ks) ∧ Gs C' s' a' w') (Q2 := fun e a' w' => ∃ s' ks', Q e s' ks' ∧ GsM C s' r ks' a' w')
  (k := fun e a' w' ⟨s', ⟨q1, q2⟩, q3⟩ => ⟨q1, by subst q1; exact wpList_nil ⟨s', ks, q2, h3 _ _ _ q3⟩⟩) l a w (h C' a w (h1.trans hN) h2)
 rwa [List.append_nil] at this
end
end Go.AL
namespace Go.AL
open Go.RowKit
set_option linter.unusedVariables false
section
variable {P : Program} {N : Nat} {Q : Exit → AS → Prop} {all : Array Oper} {rest : List Oper} {ts : List (Nat × AV)} {hs : List (Nat × Option (List AV))} {n : Nat} {z0 : Lo} {md : Md}
variable {d : Nat} {ty : TypeId} {pos : String} {af : Array Edge}
theorem iG {α : Type} {hα : Inhabited α} {f g : α → List AV} {xs : List α} {e id k j z : Nat} {t : TypeId} {x : Operand} {cs' : List AV} [ha : AgT P t true] [hz : SzT P t z] (hx : ev (lk ts) x = some (.optr id (0 + k * e + j)))
  (hH : aP hs id = some (flat f xs)) (hf : FlT f e) (hg : FE f g) (hk : k < xs.length) (hj : j + z ≤ e) (hc : ((g xs[k]!).drop j).take z = cs') (h0 : Nat.blt 0 z = true) (hN : Nat.blt d N = true) {md' : Md} [hmd : MdA md (rO x ++ rA (.optr id (0 + k * e + j))) [.inl d] md']
  (kk : RW P N all Q md' rest ⟨(d, .agg cs') :: ts, hs, n, z0⟩) : RW P N all Q md (⟨some d, .load t x, ty, pos, af, none⟩ :: rest) ⟨ts, hs, n, z0⟩ := by
 have hl : (g xs[k]!).length = e := by rw [← hg.pf]; exact hf.pf _
 subst hc
 refine jZ (cs := (flat f xs).drop (0 + k * e + j)) hx ha.pf hz.pf (by simp only [deref, hH, Option.map_some]) (cs' := ((g xs[k]!).drop j).take z) ?_ (by rw [List.length_take, List.length_drop, hl]; omega) (by have := dL h0; omega) (dL hN) (by rw [hmd.pf]; exact kk)
 rw [Nat.zero_add, ← List.drop_drop, eZ f xs k hk, ← hg.pf, List.drop_append_of_le_length (by rw [hf.pf]; omega), List.take_append_of_le_length (by rw [List.length_drop, hf.pf]; omega)]
end
end Go.AL
namespace Go.AL
open Go.RowKit
set_option linter.unusedVariables false
theorem DS (c : Int) : gH .and .i64 c 1 = some (.int .i64 (c % 2)) := by
 have h : (BitVec.ofInt 64 c &&& BitVec.ofInt 64 1).toNat = (c % 2).toNat := by
  rw [BitVec.toNat_and, show (BitVec.ofInt 64 1).toNat = 1 from rfl, Nat.and_one_is_mod, BitVec.toNat_ofInt]
  omega
 have e : gH .and .i64 c 1 = some (.int .i64 (IntKind.i64.wrap ((BitVec.ofInt 64 c &&& BitVec.ofInt 64 1).toNat : Int))) := rfl
 rw [e, h]
 rcases Int.emod_two_eq c with h2 | h2 <;> rw [h2] <;> rfl
section
variable {P : Program} {N : Nat} {Q : Exit → AS → Prop} {all : Array Oper} {rest : List Oper} {ts : List (Nat × AV)} {hs : List (Nat × Option (List AV))} {n : Nat} {z0 : Lo} {md : Md}
variable {d : Nat} {ty : TypeId} {pos : String} {af : Array Edge}
theorem Iv {t t' : TypeId} {x y : Operand} {c : Int} (hx : ev (lk ts) x = some (.v (.int .i64 c))) (hy : ev (lk ts) y = some (.v (.int .i64 1)))
  (hN : Nat.blt d N = true) {md' : Md} [hmd : MdA md (rO x ++ rO y) [.inl d] md'] (kk : RW P N all Q md' rest ⟨(d, .v (.int .i64 (c % 2))) :: ts, hs, n, z0⟩) : RW P N all Q md (⟨some d, .binOp .and t x y t', ty, pos, af, none⟩ :: rest) ⟨ts, hs, n, z0⟩ :=
 eO hx hy (.inl rfl) (DS c) (dL hN) (by rw [hmd.pf]; exact kk)
end
end Go.AL
namespace Go.AL
open Go.RowKit
set_option linter.unusedVariables false
theorem El {P : Program} {N : Nat} {Q : Exit → AS → Prop} {all : Array Oper} {rest : List Oper} {ts : List (Nat × AV)} {hs : List (Nat × Option (List AV))} {n : Nat} {z0 : Lo} {d : Nat} {ty : TypeId} {pos : String} {af : Array Edge}
  {t t' el : TypeId} {x : Operand} {id off m e : Nat} [ht : SlT P t el] (hx : ev (lk ts) x = some (.own id off m e)) (hN : Nat.blt d N = true)
  (kk : ∀ b : Bool, (b = true → m = 0) → RW P N all Q .txt rest ⟨(d, .v (.bool b)) :: ts, hs, n, z0⟩) : RW P N all Q .txt (⟨some d, .binOp .eql t x (.const (.slice none 0 0)) t', ty, pos, af, none⟩ :: rest) ⟨ts, hs, n, z0⟩ := by
 rintro C a w hCN ⟨h0, ι, g, gh⟩
 refine wpList_plain rfl (fun K hK => ?_)
 have h1 := b0 g hx
 simp only [Rd] at h1
 obtain ⟨a', m', c, h2, hb⟩ : ∃ a' m' c, a.eval x = .slice a' m' c ∧ (a'.isNone = true → m = 0) := by
  rcases h1 with ⟨_, rfl, a', h2⟩ | ⟨b, β, c, _, h2, _⟩
  ·exact ⟨a', 0, 0, h2, fun _ => rfl⟩
  ·exact ⟨_, m, c, h2, fun h => by cases h⟩
 have hu := kF ht.pf
 have hg : (eqGuard .eql t x (.const (.slice none 0 0)) (.slice a' m' c) (.slice none 0 0)).run P w = .ok () w := by simp [eqGuard]
 have hr : (execOp a.eval ⟨some d, .binOp .eql t x (.const (.slice none 0 0)) t', ty, pos, af, none⟩).run P w = .ok (.value (.bool a'.isNone)) w := by
  have e2 : a.eval (.const (.slice none 0 0)) = .slice none 0 0 := rfl
  simp only [execOp, h2, e2, Sem.run_bind, hg, Result.andThen_ok, uZ w t el hu, Sem.run_pure]
 simp only [Oper.wp, hr, Oper.upon]
 refine hK _ _ (kk a'.isNone hb C _ _ hCN ⟨h0, ι, ?_, gh⟩)
 show TG C ι (lk ((d, AV.v (.bool a'.isNone)) :: ts)) _ _ _
 rw [iD]
 exact g.put (by have := dL hN; omega) (by simp [Rd])
end Go.AL
namespace Go.AL
set_option linter.unusedVariables false
section
variable {P : Program} {N : Nat} {Q : Exit → AS → Prop} {all : Array Oper} {rest : List Oper} {ts : List (Nat × AV)} {hs : List (Nat × Option (List AV))} {n : Nat} {z0 : Lo} {md : Md}
variable {d : Nat} {ty : TypeId} {pos : String} {af : Array Edge}
theorem Ep {k : FuncId} {t : Nat} {args : Array Operand} {tys : Array TypeId} {avs avs0 f c : List AV} {fv : AV} {H0 : List (Nat × Option (List AV))} {rr rr' : AV} {hh : List (Nat × Option (List AV))}
  (mp : List Nat) (n1 : Nat) (ws : List (Nat × Option (List AV))) (h : MC P k avs0 H0 mp.length (fun _ : Unit => True) (fun _ => rr) (fun _ => hh)) (hx : lk ts t = some fv) (hcl : sO fv = some (k, f, c)) [hc : CaT P k] (ha : evL (lk ts) args.toList = some avs) (hd : distinct mp = true)
  (hH0 : wH hs H0 mp 0 mp) (hk : g0 mp.length H0 = true) (har : RnL (mp[·]?) avs0 (f ++ avs ++ c)) (hM : Nat.ble (n + (n1 - mp.length)) aS = true)
  (hr : RnV (Bb mp n n1) rr rr') (hwa : cK mp ws = true) (hw : sT (Bb mp n n1) hh ws) (hN : Nat.blt d N = true)
  {md' : Md} [hmd : MdA md (rO (.tmp t) ++ fG args.toList ++ mp.map .inr) (ws.map (fun p => .inr p.1) ++ [.inl d]) md']
  (kk : RW P N all Q md' rest ⟨(d, rr') :: ts, g6 hs ws, n + (n1 - mp.length), z0⟩) : RW P N all Q md (⟨some d, .call ⟨.value (.tmp t), args, tys⟩, ty, pos, af, none⟩ :: rest) ⟨ts, hs, n, z0⟩ := by
 have hM' := Nat.le_of_ble_eq_true hM
 have kk2 : RW P N all Q (md.add (rO (.tmp t) ++ fG args.toList ++ mp.map .inr) (ws.map (fun p => .inr p.1) ++ wD (some d))) rest (put ⟨ts, g6 hs ws, n + (n1 - mp.length), z0⟩ (some d) rr') := by
  simp only [wD]; rw [hmd.pf]; exact kk
 refine iB (rs := rO (.tmp t) ++ fG args.toList ++ mp.map .inr) (ws := ws) (n' := n + (n1 - mp.length)) (out := rr') rfl (Nat.le_add_right _ _) (.inr hM') (fun C ι F T H a w K Q' hCN ag hF g gh hK => ?_) (fun x e => by cases e; exact dL hN) kk2
 obtain ⟨lf, lc, hy, h1, h2⟩ := vU hcl (b0 g (x := .tmp t) (ag.l.l.ev.trans hx))
 simp only [Oper.wp, sD hc.pf _ a w hy, Oper.upon]
 refine (A1 (nid := n) (n1 := n1) h hd gh (fun j i hj => ?_) (pX hk) har hF (fun _ _ => hr) (fun _ _ => CQ hwa hw) (iT (iT h1 (gY g (ag.l.r.evL.trans ha))) h2)).mono ?_
 ·obtain ⟨cs, cs', q1, q2, q3⟩ := tV hH0 j i hj
  exact ⟨cs, cs', by simpa using q1, by rw [ag.r.h i (List.mem_map_of_mem (List.mem_of_getElem? hj))]; exact q2, q3⟩
 ·rintro e w' ⟨v, x, ι', rfl, hx, g', c', hrd⟩
  exact hK ι' w' v (g.carry c') g' hrd
end
end Go.AL
namespace Go.AL
theorem JU {ts : List Int} {pts : List Pnt} (w : WG ts pts) (f : Flows ts pts) {Al Af : List Nat} (hlf : Af.length = pts.length * 6) {i : Nat} (hi : i < pts.length) (hal : Al[i]! < 2 ^ ts.length) : ME ts pts f.Aa (yU ts pts f.Am Al Af f.Ap i) i = BX ts pts f.Aa f.Am Al Af f.Ap i := by
 have htl := w.tl
 have hpl := w.pl
 have hset := w.set i hi
 unfold ME BX
 congr 1
 ·unfold nE
  have hsm : Sm (g7 (wS ts pts[i]! [1, 2, 3]) f.Aa[i]!) := by
   have : Sm (wS ts pts[i]! [1, 2, 3]) := bS (by omega)
   infer_instance
  rw [n7 (n := ts.length) (p := qA ts pts f.Aa i) hsm (by omega) fun v => ?_, List.map_map]
  ·rfl
  ·rw [b8, cL, Bool.and_assoc]
   congr 1
   unfold qA
   congr 1
   have hu := nP ts pts[i]! v
   by_cases e : a8 ts pts[i]! v = 0
   ·rw [e]; rfl
   ·rw [decide_eq_false e]
    have : a8 ts pts[i]! v ∈ ([1, 2, 3] : List Int) := by
     simp only [List.mem_cons, List.not_mem_nil, or_false]; omega
    rw [decide_eq_true this]; rfl
 ·unfold nB
  have hap : f.Ap[i]! < 2 ^ pts.length := by
   apply Nat.lt_pow_two_of_testBit
   intro l hl
   rw [Bool.eq_false_iff]; intro hq
   have := (k6 ((f.gp.2 i hi l).1 hq)).1
   dsimp only at this; omega
  have hcn := pA w (Am := f.Am) (Al := Al) (Af := Af) hap
  have hsm : Sm (zH ts pts f.Am Al Af f.Ap i) := ⟨Nat.lt_of_lt_of_le hcn (Nat.pow_le_pow_right (by decide) (by omega))⟩
  rw [n7 (n := pts.length) (p := fun l => (yU ts pts f.Am Al Af f.Ap i)[l]!) hsm (by omega) fun l => ?_, List.map_map]
  ·rfl
  ·by_cases hl : l < pts.length
   ·rw [decide_eq_true hl, Bool.true_and, Bool.eq_iff_iff]
    have hloans : Sm (mW ts pts[i]! Al[i]! (cF Af i) &&& f.Ap[i]!) := ⟨Nat.lt_of_lt_of_le (Nat.and_lt_two_pow _ hap) (Nat.pow_le_pow_right (by decide) (by omega))⟩
    have hacc : fE ts pts[i]! (bG ts.length pts.length f.Am)[i]![(aO pts[i]!).toNat]! = fE ts pts[i]! (f.Am[i]!.testBit (aO pts[i]!).toNat) := FR fun h0 => gL _ _ _ _ _ hi (by omega)
    have hkp : (mW ts pts[i]! Al[i]! (cF Af i)).testBit l = true ↔ (tI ts pts[i]! (dZ ts.length pts.length Af f.Ap i).1 (bG ts.length pts.length Al)[i]! pts.length)[l]! = true := by
     unfold tI
     rw [aX _ _ _ hl]
     unfold mW
     rw [eW, List.any_eq_true, cG _ _ _ _ hi]
     simp only [Nat.zero_testBit, Bool.false_eq_true, false_or, List.length_map, List.length_range, List.mem_range]
     constructor
     ·rintro ⟨z, hz, h2⟩
      obtain ⟨v, h3, h4, rfl⟩ := cO.1 hz
      rw [b8, Nat.testBit_or, cL, dY (by omega)] at h4
      simp only [Bool.and_eq_true, Bool.not_eq_true', Bool.or_eq_false_iff, Bool.and_eq_false_iff, decide_eq_false_iff_not] at h4
      have hv := cA hal h4.1
      refine ⟨v, hv, ?_⟩
      unfold Bc
      rw [aX _ _ _ hv, h4.1, decide_eq_false h4.2.2]
      have hu : ¬ a8 ts pts[i]! v = 2 := by
       rcases h4.2.1 with h5 | h5
       ·exact absurd hv h5
       ·simpa using h5
      rw [decide_eq_false hu]
      unfold dZ
      dsimp only
      rw [aX _ _ _ hv, aX _ _ _ hl]
      have h6 : (cF Af i)[v]! = Af[i * 6 + v]! := dX hlf hi (by omega)
      rw [Int.toNat_natCast, h6] at h2
      rw [h2]; rfl
     ·rintro ⟨v, hv, h2⟩
      unfold Bc at h2
      rw [aX _ _ _ hv] at h2
      unfold dZ at h2
      dsimp only at h2
      rw [aX _ _ _ hv, aX _ _ _ hl] at h2
      simp only [Bool.and_eq_true, Bool.not_eq_true', decide_eq_false_iff_not] at h2
      refine ⟨(v : Int), cO.2 ⟨v, by omega, ?_, rfl⟩, ?_⟩
      ·rw [b8, Nat.testBit_or, cL, dY (by omega), h2.1, decide_eq_false h2.2.1]
       have : decide (a8 ts pts[i]! (v : Int) ∈ ([2] : List Int)) = false := by simpa using h2.2.2.1
       rw [this]; simp
      ·rw [Int.toNat_natCast, dX hlf hi (by omega)]; exact h2.2.2.2
    have hplc : (dZ ts.length pts.length Af f.Ap i).2[l]! = f.Ap[i]!.testBit l := by unfold dZ; dsimp only; rw [aX _ _ _ hl]
    unfold zH yU
    rw [jL _ _ _ hloans, w5 _ _ _ _ _ hl, hacc, List.any_eq_true]
    simp only [Nat.zero_testBit, Bool.false_eq_true, false_or]
    constructor
    ·rintro ⟨c, hc, h1, h2, h3⟩
     rw [Nat.testBit_and, Bool.and_eq_true] at h1
     rw [gS] at h2
     simp only [Bool.and_eq_true, decide_eq_true_eq] at h2
     have hy := nF w hl h2.2.1
     have hcv := wV _ w hi c hc
     refine ⟨c, hc, ?_⟩
     unfold E8
     have e2 := h2.2.2
     rw [Nat.testBit_two_pow, decide_eq_true_eq] at e2
     rw [hkp.1 h1.1, hplc, h1.2, decide_eq_true (by omega : pts[l]!.y = c.var)]
     rcases h3 with h3 | h3
     ·rw [h3]; rfl
     ·rw [decide_eq_true h3]; simp
    ·rintro ⟨c, hc, h1⟩
     unfold E8 at h1
     rw [hplc] at h1
     simp only [Bool.and_eq_true, Bool.or_eq_true, decide_eq_true_eq] at h1
     obtain ⟨⟨⟨h1, h2⟩, h3⟩, h4⟩ := h1
     have hln := (k6 ((f.gp.2 i hi l).1 h2)).2
     dsimp only at hln
     refine ⟨c, hc, ?_, ?_, h4⟩
     ·rw [Nat.testBit_and, hkp.2 h1, h2]; rfl
     ·rw [gS, decide_eq_true hl, hln, ← h3, Nat.testBit_two_pow_self]; rfl
   ·rw [decide_eq_false hl, Bool.false_and]
    exact Nat.testBit_lt_two_pow (Nat.lt_of_lt_of_le hcn (Nat.pow_le_pow_right (by decide) (by omega)))
def zX (ts : List Int) (pts : List Pnt) (Am : List Nat) : List Nat := (List.range pts.length).map fun (i : Nat) => gD ts pts[i]! Am[i]!
theorem CI (ts : List Int) (pts : List Pnt) (Am : List Nat) : (zX ts pts Am).length = pts.length := by simp [zX]
theorem rM (ts : List Int) (pts : List Pnt) (Am : List Nat) {i : Nat} (hi : i < pts.length) : (zX ts pts Am)[i]! = gD ts pts[i]! Am[i]! := aX _ _ _ hi
def Mk (p : Prg) (f : Flows p.types (aB p)) : List Iss := kM p.types (aB p) f.Aa f.Am (zX p.types (aB p) f.Am) f.Af f.Ap (aB p).length
end Go.AL
namespace Go.AL
def smL : List Stmt := [⟨4, 2, 1, 0, [], []⟩, ⟨5, 3, 1, 0, [], []⟩, ⟨4, 2, 3, 0, [], []⟩, ⟨6, 0, 2, 0, [], []⟩, ⟨6, 0, 1, 0, [], []⟩, ⟨7, 3, 0, 0, [], []⟩, ⟨7, 1, 0, 0, [], []⟩, ⟨2, 1, 0, 2, [], []⟩]
def CA : Nat → Nat → List Stmt
 | _, 0 => []
 | n, k + 1 => smL[n % 8]! :: CA (n / 8) k
def NL : List Stmt := [⟨1, 0, 0, 1, [], []⟩, ⟨2, 1, 0, 0, [], []⟩]
def qN (n : Nat) : Prg := ⟨[1, 2, 3, 4], NL ++ CA n 4⟩
theorem KL : ∀ c, c < 8 → qO [1, 2, 3, 4] 4 smL[c]! = true ∧ fJ smL[c]! = 1 := by
 intro c hc
 have : c = 0 ∨ c = 1 ∨ c = 2 ∨ c = 3 ∨ c = 4 ∨ c = 5 ∨ c = 6 ∨ c = 7 := by omega
 rcases this with h | h | h | h | h | h | h | h <;> subst h <;> exact ⟨rfl, rfl⟩
theorem FQ : ∀ k n, okL [1, 2, 3, 4] 4 (CA n k) = true ∧ bE (CA n k) = k
 | 0, n => ⟨rfl, rfl⟩
 | k + 1, n => by
  have h1 := KL (n % 8) (Nat.mod_lt _ (by decide))
  have h2 := FQ k (n / 8)
  rw [CA, okL, bE, h1.1, h1.2, h2.1, h2.2]
  exact ⟨rfl, by omega⟩
theorem Ih (n : Nat) : bE (qN n).body = 6 := by
 have h := (FQ 4 n).2
 show fJ _ + (fJ _ + bE (CA n 4)) = 6
 rw [h]; rfl
def EH (L : List (List Iss)) : Nat := (L.filter fun l => !l.isEmpty).length
theorem FY (L : List (List Iss)) (l : List Iss) : EH (L ++ [l]) = EH L + (if l = [] then 0 else 1) := by
 unfold EH; rw [List.filter_append, List.length_append]; cases l <;> rfl
noncomputable def EE (p : Prg) (hv : bK p = true) : Flows p.types (aB p) := Classical.choice (Flows.ex (WG.of_valid hv))
noncomputable def Nx (p : Prg) (hv : bK p = true) : List Nat := Classical.choose (GoodG.exist (WG.of_valid hv) (WT.of_valid hv))
theorem GB (p : Prg) (hv : bK p = true) : GoodG p.types (aB p) (Nx p hv) := Classical.choose_spec (GoodG.exist (WG.of_valid hv) (WT.of_valid hv))
noncomputable def NZ (p : Prg) (hv : bK p = true) : List (List Iss) := [Mk p (EE p hv), Mq p (EE p hv) (Nx p hv), (EE p hv).iss]
end Go.AL
