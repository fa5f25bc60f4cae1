/-
 A part of the proofs over this program: rules and contracts of its functions (the rules).
-/
import Derived.Test.YtckihjkcgfphmaaGreatP3A04
import Derived.Laws.BytesString
import Derived.Laws.StructEq
set_option linter.unusedVariables false
set_option linter.unusedSimpArgs false
namespace Go.AL
def kE (ts : List Int) (x : Pnt) (m : Bool) : List Acc :=
 (if x.op = 4 ∨ x.op = 6 then [⟨x.y, false⟩] else if x.op = 5 then [⟨x.y, true⟩] else if x.op = 7 ∨ x.op = 8 then [⟨x.x, true⟩] else if x.op = 3 ∧ vW ts[x.y.toNat]! = true then [⟨x.y, true⟩] else []) ++
 (if 0 ≤ bT x ∧ ts[(bT x).toNat]! = 2 ∧ m = true then [⟨bT x, true⟩] else [])
def Lw (f : List Nat) (L : List Int) (a : Nat) : Nat := L.foldl (fun a v => a ||| f[v.toNat]!) a
def vR (ts : List Int) (x : Pnt) (live : Nat) (f : List Nat) : Nat := Lw f (cR (nI live (wS ts x [2] ||| iY x))) 0
theorem jG (f : List Nat) (l : Nat) : ∀ (L : List Int) (a : Nat), (Lw f L a).testBit l = true ↔ a.testBit l = true ∨ ∃ v ∈ L, f[v.toNat]!.testBit l = true
 | [], a => by simp [Lw]
 | v :: L, a => by
  show (Lw f L (a ||| f[v.toNat]!)).testBit l = true ↔ _
  rw [jG f l L, Nat.testBit_or, Bool.or_eq_true]
  simp only [List.mem_cons, exists_eq_or_imp]
  grind
def HW (pts : List Pnt) (wr : Bool) (L : List Int) (a : Nat) : Nat := L.foldl (fun a l => if wr = true ∨ pts[l.toNat]!.op = 5 then a ||| 2 ^ l.toNat else a) a
def Hy (pts : List Pnt) (loans : Nat) (acs : List Acc) (a : Nat) : Nat := acs.foldl (fun a c => HW pts c.write (cR (loans &&& qV pts (2 ^ c.var.toNat))) a) a
theorem qO (pts : List Pnt) (wr : Bool) (l : Nat) : ∀ (L : List Int) (a : Nat), (HW pts wr L a).testBit l = true ↔ a.testBit l = true ∨ ((∃ z ∈ L, z.toNat = l) ∧ (wr = true ∨ pts[l]!.op = 5))
 | [], a => by simp [HW]
 | z :: L, a => by
  show (HW pts wr L (if wr = true ∨ pts[z.toNat]!.op = 5 then a ||| 2 ^ z.toNat else a)).testBit l = true ↔ _
  rw [qO pts wr l L]
  have h2 : ∀ b : Nat, (a ||| 2 ^ b).testBit l = true ↔ a.testBit l = true ∨ b = l := by
   intro b
   rw [Nat.testBit_or, Bool.or_eq_true, Nat.testBit_two_pow, decide_eq_true_eq]
  split
  ·rename_i h
   rw [h2]
   simp only [List.mem_cons, exists_eq_or_imp]
   constructor
   ·rintro ((h1 | rfl) | ⟨h1, h3⟩)
    ·exact .inl h1
    ·exact .inr ⟨.inl rfl, h⟩
    ·exact .inr ⟨.inr h1, h3⟩
   ·rintro (h1 | ⟨rfl | h1, h3⟩)
    ·exact .inl (.inl h1)
    ·exact .inl (.inr rfl)
    ·exact .inr ⟨h1, h3⟩
  ·rename_i h
   simp only [List.mem_cons, exists_eq_or_imp]
   constructor
   ·rintro (h1 | ⟨h1, h3⟩)
    ·exact .inl h1
    ·exact .inr ⟨.inr h1, h3⟩
   ·rintro (h1 | ⟨rfl | h1, h3⟩)
    ·exact .inl h1
    ·exact absurd h3 h
    ·exact .inr ⟨h1, h3⟩
theorem kP (pts : List Pnt) (loans l : Nat) (hl : Sm loans) : ∀ (acs : List Acc) (a : Nat), (Hy pts loans acs a).testBit l = true ↔ a.testBit l = true ∨ ∃ c ∈ acs, loans.testBit l = true ∧ (qV pts (2 ^ c.var.toNat)).testBit l = true ∧ (c.write = true ∨ pts[l]!.op = 5)
 | [], a => by simp [Hy]
 | c :: acs, a => by
  show (Hy pts loans acs (HW pts c.write (cR (loans &&& qV pts (2 ^ c.var.toNat))) a)).testBit l = true ↔ _
  rw [kP pts loans l hl acs, qO]
  have h2 : (∃ z ∈ cR (loans &&& qV pts (2 ^ c.var.toNat)), z.toNat = l) ↔ loans.testBit l = true ∧ (qV pts (2 ^ c.var.toNat)).testBit l = true := by
   constructor
   ·rintro ⟨z, hz, rfl⟩
    obtain ⟨v, h1, h3, rfl⟩ := dZ.1 hz
    rw [Nat.testBit_and, Bool.and_eq_true] at h3; exact h3
   ·intro h
    have : l < 62 := eA hl.pf h.1
    exact ⟨(l : Int), dZ.2 ⟨l, this, by rw [Nat.testBit_and, h.1, h.2]; rfl, rfl⟩, rfl⟩
  rw [h2]
  simp only [List.mem_cons, exists_eq_or_imp]
  grind
end Go.AL

namespace Go.AL
theorem G4 (ts : List Int) (x : Pnt) (m : Bool) : (kE ts x m).length ≤ 2 := by
 unfold kE; rw [List.length_append]
 have h1 : ∀ (c : Prop) [Decidable c] (a b : List Acc), a.length ≤ 1 → b.length ≤ 1 → (if c then a else b).length ≤ 1 := by
  intro c _ a b h h2; split <;> assumption
 have a1 := h1 (x.op = 3 ∧ vW ts[x.y.toNat]! = true) [⟨x.y, true⟩] [] (by simp) (by simp)
 have a2 := h1 (x.op = 7 ∨ x.op = 8) [⟨x.x, true⟩] _ (by simp) a1
 have a3 := h1 (x.op = 5) [⟨x.y, true⟩] _ (by simp) a2
 have a4 := h1 (x.op = 4 ∨ x.op = 6) [⟨x.y, false⟩] _ (by simp) a3
 have a5 := h1 (0 ≤ bT x ∧ ts[(bT x).toNat]! = 2 ∧ m = true) [⟨bT x, true⟩] [] (by simp) (by simp)
 omega
theorem xU {ts : List Int} {pts : List Pnt} (m : Bool) (w : WG ts pts) {i : Nat} (hi : i < pts.length) : ∀ c ∈ kE ts pts[i]! m, 0 ≤ c.var ∧ c.var < ts.length := by
 have hst := w.set i hi
 have hx := w.x i hi
 have hy := w.y i hi
 intro c hc
 unfold kE at hc
 rw [List.mem_append] at hc
 rcases hc with hc | hc
 ·repeat' split at hc
  all_goals first
   | (rw [List.mem_singleton] at hc; subst hc; dsimp only; omega)
   | cases hc
 ·split at hc
  ·rw [List.mem_singleton] at hc; subst hc; dsimp only; omega
  ·cases hc
end Go.AL

namespace Go.AL
def EH (i : Nat) (L : List Int) : List Iss := L.map fun v => ⟨i, 1, v⟩
def Ex (pts : List Pnt) (i : Nat) (L : List Int) : List Iss := L.map fun l => ⟨i, if pts[l.toNat]!.op = 5 then 3 else 2, l⟩
def Eg (ts : List Int) (pts : List Pnt) (Am Al Af Ap : List Nat) (i : Nat) : Nat :=
 Hy pts (vR ts pts[i]! Al[i]! (fP Af i) &&& Ap[i]!) (kE ts pts[i]! (Am[i]!.testBit (bT pts[i]!).toNat)) 0
def B6 (ts : List Int) (pts : List Pnt) (Aa Am Al Af Ap : List Nat) (i : Nat) : List Iss :=
 EH i (cR (nI (wS ts pts[i]! [1, 2, 3]) Aa[i]!)) ++ Ex pts i (cR (Eg ts pts Am Al Af Ap i))
def qZ (ts : List Int) (pts : List Pnt) (Aa Am Al Af Ap : List Nat) (k : Nat) : List Iss := (List.range k).flatMap (B6 ts pts Aa Am Al Af Ap)
theorem pM (ts : List Int) (pts : List Pnt) (Aa Am Al Af Ap : List Nat) (k : Nat) : qZ ts pts Aa Am Al Af Ap (k + 1) = qZ ts pts Aa Am Al Af Ap k ++ B6 ts pts Aa Am Al Af Ap k := by
 unfold qZ; rw [List.range_succ, List.flatMap_append]; simp
theorem kW {α β : Type} [Inhabited α] (g : α → β) (L : List α) (k : Nat) (h : k < L.length) : (L.take (k + 1)).map g = (L.take k).map g ++ [g L[k]!] := by
 rw [cX _ _ h, List.map_append]; rfl
theorem Dl {xs : List Iss} {m : Nat} {a b c : Int} (hm : m = xs.length) : ((aI pK xs).drop 0).take (m * 3) ++ [iv a, iv b, iv c] = aI pK (xs ++ [⟨a, b, c⟩]) := gP hm rfl
theorem BV {ts : List Int} {pts : List Pnt} (w : WG ts pts) {Am Al Af Ap : List Nat} {i : Nat} (hp : Ap[i]! < 2 ^ pts.length) : Eg ts pts Am Al Af Ap i < 2 ^ pts.length := by
 have hpl := w.pl
 have hl : vR ts pts[i]! Al[i]! (fP Af i) &&& Ap[i]! < 2 ^ pts.length := Nat.and_lt_two_pow _ hp
 apply Nat.lt_pow_two_of_testBit
 intro l hl2
 unfold Eg
 cases hq : (Hy pts (vR ts pts[i]! Al[i]! (fP Af i) &&& Ap[i]!) (kE ts pts[i]! (Am[i]!.testBit (bT pts[i]!).toNat)) 0).testBit l with
 | false => rfl
 | true =>
  rw [kP _ _ _ ⟨Nat.lt_of_lt_of_le hl (Nat.pow_le_pow_right (by decide) (by omega))⟩] at hq
  rcases hq with hq | ⟨c, _, h2, _⟩
  ·simp at hq
  ·have := eA hl h2; omega
end Go.AL
namespace Go.AL
theorem FQ {ts : List Int} {pts : List Pnt} (w : WG ts pts) {a : Nat × Nat} (h : Mb ts pts a) : a.2 < ts.length := by
 induction h with
 | base h => obtain ⟨i, e, h2⟩ := h; have := (w.set i e.1).1; omega
 | step _ r ih => rw [r.1]; exact ih
end Go.AL

namespace Go.AL
open Go.RowKit
set_option linter.unusedVariables false
section
variable {P : Program} {N : Nat} {Q : Exit → AS → Prop} {all : Array Oper} {rest : List Oper} {ts : List (Nat × AV)} {hs : List (Nat × Option (List AV))} {n : Nat} {z0 : Lo} {md : Md}
variable {d : Nat} {ty : TypeId} {pos : String} {af : Array Edge}
theorem tA {fn : Go.Fn} {t i : Nat} {cs : List AV} (hx : lk ts t = some (.optr i 0)) (hH : cO hs i = some cs) (hN : Nat.blt d N = true)
  (kk : RW P N all Q .txt rest ⟨(d, .clos fn [] [.iptr cs]) :: (t, .iptr cs) :: ts, (i, none) :: hs, n, z0⟩) : RW P N all Q .txt (⟨some d, .makeFunc fn #[] #[.tmp t], ty, pos, af, none⟩ :: rest) ⟨ts, hs, n, z0⟩ :=
 jM (gZ (f := []) (c := [.iptr cs]) rfl (by show evL _ [Operand.tmp t] = _; simp [evL, ev, mQ]) hN (md' := .txt) kk) (Le.frzP hx hH)
end
end Go.AL

namespace Go.AL
structure Flows (ts : List Int) (pts : List Pnt) where
 Aa : List Nat
 Am : List Nat
 An : List Nat
 Al : List Nat
 Af : List Nat
 Ap : List Nat
 ga : tE ts pts Aa
 gm : sF ts pts Am
 gn : r7 ts pts An
 gl : wG ts pts Al
 gf : wR ts pts Af
 gp : wA ts pts Ap
theorem m6 (n m : Nat) (T : Nat → Nat → Prop) (h : ∀ i v, i < n → T i v → v < m) : ∃ A : List Nat, A.length = n ∧ ∀ i, i < n → ∀ v, A[i]!.testBit v = true ↔ T i v := by
 have key : ∀ i : Nat, ∃ f : Nat → Bool, ∀ v, f v = true ↔ T i v := fun i => by
  have : ∀ v, ∃ b : Bool, b = true ↔ T i v := fun v => by
   by_cases hT : T i v
   ·exact ⟨true, by simp [hT]⟩
   ·exact ⟨false, by simp [hT]⟩
  exact ⟨fun v => Classical.choose (this v), fun v => Classical.choose_spec (this v)⟩
 refine ⟨(List.range n).map (fun i => fZ (Classical.choose (key i)) m), by simp, fun i hi v => ?_⟩
 rw [cT _ _ (by simpa using hi), List.getElem_map, List.getElem_range, gC, Bool.and_eq_true, decide_eq_true_eq, Classical.choose_spec (key i) v]
 exact ⟨fun h2 => h2.2, fun h2 => ⟨h i v hi h2, h2⟩⟩
theorem Flows.ex {ts : List Int} {pts : List Pnt} (w : WG ts pts) : Nonempty (Flows ts pts) := by
 obtain ⟨Aa, a1, a2⟩ := m6 pts.length ts.length (fun i v => v < ts.length ∧ ¬ Na ts pts (i, v)) (fun i v _ h => h.1)
 obtain ⟨Am, b1, b2⟩ := m6 pts.length ts.length (fun i v => Mb ts pts (i, v)) (fun i v _ h => FQ w h)
 obtain ⟨An, c1, c2⟩ := m6 pts.length ts.length (fun i v => Nd ts pts (i, v)) (fun i v _ h => sS w h)
 obtain ⟨Al, d1, d2⟩ := m6 pts.length ts.length (fun i v => Lv ts pts i v) (fun i v _ h => by obtain ⟨k, _, h⟩ := h; exact sS w h)
 obtain ⟨Ap, e1, e2⟩ := m6 pts.length pts.length (fun i l => JS ts pts (i, l)) (fun i v _ h => (uT h).1)
 obtain ⟨Af, f1, f2⟩ := m6 (pts.length * 6) pts.length (fun q l => JA ts pts (q / 6, q % 6, l)) (fun q v _ h => (Ab w h).2.2)
 refine ⟨⟨Aa, Am, An, Al, Af, Ap, ⟨a1, a2⟩, ⟨b1, b2⟩, ⟨c1, c2⟩, ⟨d1, d2⟩, ⟨f1, fun i v hi hv l => ?_⟩, ⟨e1, e2⟩⟩⟩
 rw [f2 (i * 6 + v) (by omega) l, show (i * 6 + v) / 6 = i by omega, show (i * 6 + v) % 6 = v by omega]
def Flows.iss {ts : List Int} {pts : List Pnt} (f : Flows ts pts) : List Iss := qZ ts pts f.Aa f.Am f.Al f.Af f.Ap pts.length
end Go.AL

namespace Go.AL
open Go.RowKit
set_option linter.unusedVariables false
class BoT (P : Program) (t : Nat) : Prop where pf : P.underlying t = some .bool
theorem Dh {P : Program} {t : TypeId} (h : P.underlying t = some .bool) (a b : Bool) (w : World) : (Op.equal t (.bool a) (.bool b)).run P w = .ok (decide (a = b)) w := by
 have e : ∀ d : Nat, (Op.equalIn (d + 1) t (.bool a) (.bool b)).run P w = .ok (a == b) w := fun d => by
  simp [Op.equalIn, run_underlying h]
 have : (a == b) = decide (a = b) := by cases a <;> cases b <;> rfl
 rw [← this]; exact e 9999
def Lh (op : BinOp) (a b : Bool) : Option Value :=
 match op with
 | .eql => some (.bool (decide (a = b)))
 | .neq => some (.bool (!decide (a = b)))
 | _ => none
section
variable {P : Program} {C : Ctx} {ι : Pl} {T : Nat → Option AV} {H : Nat → Option (List AV)} {a : Act} {w : World} {o : Oper}
theorem H3 (g : TG C ι T H a w) {op : BinOp} {t t' : TypeId} {x y : Operand} {m n : Bool} {v : Value} (ht : P.underlying t = some .bool) (ho : o.op = .binOp op t x y t')
  (hx : ev T x = some (.v (.bool m))) (hy : ev T y = some (.v (.bool n))) (h : Lh op m n = some v) : Pu P C ι H a w o (.v v) := by
 have h1 := c9 g hx
 have h2 := c9 g hy
 simp only [Rd] at h1 h2
 refine ⟨v, ?_, by simp [Rd]⟩
 have hg : (eqGuard op t x y (.bool m) (.bool n)).run P w = .ok () w := by
  unfold eqGuard
  cases op <;> simp
 have hb : (binOp op t (.bool m) (.bool n)).run P w = .ok v w := by
  cases op <;> simp only [Lh] at h <;> cases h
  ·simp [binOp, Dh (P := P) ht]
  ·simp [binOp, Dh (P := P) ht]
 simp only [execOp, ho, h1, h2, Sem.run_bind, hg, Result.andThen_ok, hb, Sem.run_pure]
end
section
variable {P : Program} {N : Nat} {Q : Exit → AS → Prop} {all : Array Oper} {rest : List Oper} {ts : List (Nat × AV)} {hs : List (Nat × Option (List AV))} {n : Nat} {z0 : Lo} {md : Md}
variable {d : Nat} {ty : TypeId} {pos : String} {af : Array Edge}
theorem Jk {op : BinOp} {t t' : TypeId} {x y : Operand} {m m' : Bool} {v : Value} [ht : BoT P t] (hx : ev (lk ts) x = some (.v (.bool m))) (hy : ev (lk ts) y = some (.v (.bool m')))
  (h : Lh op m m' = some v) (hN : Nat.blt d N = true) {md' : Md} [hmd : MdA md (rO x ++ rO y) [.inl d] md'] (kk : RW P N all Q md' rest ⟨(d, .v v) :: ts, hs, n, z0⟩) : RW P N all Q md (⟨some d, .binOp op t x y t', ty, pos, af, none⟩ :: rest) ⟨ts, hs, n, z0⟩ :=
 eI rfl rfl (eH hN) (fun C ι F T H a w ag g gh => H3 g ht.pf rfl (ag.l.ev.trans hx) (ag.r.ev.trans hy) h) (by rw [hmd.pf]; exact kk)
end
theorem iQ {α : Type} {f : α → List AV} {e m : Nat} [h : FlT f e] {ys : List α} {H : Nat → Option (List AV)} (hm : m = ys.length) : sCells H e (pI (.imm m (aI f ys))) = some (m, aI f ys) := by
 subst hm
 have hl : (aI f ys).length = ys.length * e := aP f ys
 show (if ys.length * e ≤ (aI f ys).length then some (ys.length, (aI f ys).take (ys.length * e)) else none) = _
 rw [if_pos (by omega), List.take_of_length_le (by omega)]
theorem eY {α : Type} {f : α → List AV} {ys : List α} {e m : Nat} {L : List AV} (h : m = 0) : (((List.replicate 0 L).flatten).drop 0).take (m * e) ++ aI f ys = aI f ys := by subst h; simp
theorem Le.cells {ts : List (Nat × AV)} {hs : List (Nat × Option (List AV))} {n : Nat} {z0 : Lo} {i : Nat} {cs cs' : List AV} (hi : cO hs i = some cs) (hl : cs'.length = cs.length)
  (h : ∀ (w : World) (bad : Nat → Prop) (ι : Pl) (b β : Nat), RdC w bad ι cs b β → RdC w bad ι cs' b β) :
  Le ⟨ts, hs, n, z0⟩ ⟨ts, (i, some cs') :: hs, n, z0⟩ := by
 rintro C a w ⟨h0, ι, g, gh⟩
 have hk : ∀ id c, cO ((i, some cs') :: hs) id = some c → (id = i ∧ c = cs') ∨ (id ≠ i ∧ cO hs id = some c) := by
  intro id c hc
  rw [gM] at hc
  split at hc
  ·rename_i e; cases hc; exact .inl ⟨e, rfl⟩
  ·rename_i e; exact .inr ⟨fun h => e h, hc⟩
 have hk2 : ∀ id c, cO hs id = some c → ∃ c', cO ((i, some cs') :: hs) id = some c' := by
  intro id c hc
  rw [gM]
  split
  ·exact ⟨_, rfl⟩
  ·exact ⟨_, hc⟩
 have hb : bF C.X ι (cO ((i, some cs') :: hs)) = bF C.X ι (cO hs) := by
  funext b
  refine propext ⟨?_, ?_⟩
  ·rintro (h | ⟨id, c, β, h1, h2⟩)
   ·exact .inl h
   ·rcases hk id c h1 with ⟨rfl, _⟩ | ⟨_, h3⟩
    ·exact .inr ⟨_, _, _, hi, h2⟩
    ·exact .inr ⟨_, _, _, h3, h2⟩
  ·rintro (h | ⟨id, c, β, h1, h2⟩)
   ·exact .inl h
   ·obtain ⟨c', h3⟩ := hk2 id c h1
    exact .inr ⟨_, _, _, h3, h2⟩
 refine ⟨h0, ι, ⟨g.df, g.sz, fun t av ht => ?_⟩, ?_, ?_, gh.fr, gh.ex, gh.fresh⟩
 ·show ∃ y, a.tmps[t]? = some y ∧ Rd w (bF C.X ι (cO ((i, some cs') :: hs))) ι av y
  rw [hb]; exact g.tm t av ht
 ·intro id c hc
  show _ ∨ ∃ b β arr e, ι id = some (some (b, β)) ∧ w.heap[b]? = some (.cells arr e (0, 0)) ∧ β + c.length ≤ arr.size ∧ RdC w (bF C.X ι (cO ((i, some cs') :: hs))) ι c b β ∧ ¬ C.X b ∧ (C.W0 b ∨ C.w0.heap.size ≤ b)
  rw [hb]
  rcases hk id c hc with ⟨rfl, rfl⟩ | ⟨_, h3⟩
  ·rcases gh.obj _ _ hi with ⟨q1, q2⟩ | ⟨b, β, arr, e, q1, q2, q3, q4, q5⟩
   ·subst q2
    exact .inl ⟨q1, List.eq_nil_of_length_eq_zero hl⟩
   ·exact .inr ⟨b, β, arr, e, q1, q2, by rw [hl]; exact q3, h _ _ _ _ _ q4, q5⟩
  ·exact gh.obj _ _ h3
 ·intro id id' c c' b β β' h1 h2 h3 h4
  obtain ⟨d1, e1⟩ : ∃ d, cO hs id = some d := by
   rcases hk id c h1 with ⟨rfl, _⟩ | ⟨_, h⟩
   ·exact ⟨_, hi⟩
   ·exact ⟨_, h⟩
  obtain ⟨d2, e2⟩ : ∃ d, cO hs id' = some d := by
   rcases hk id' c' h2 with ⟨rfl, _⟩ | ⟨_, h⟩
   ·exact ⟨_, hi⟩
   ·exact ⟨_, h⟩
  exact gh.sep id id' d1 d2 b β β' e1 e2 h3 h4
end Go.AL

namespace Go.AL
theorem Gl {α : Type} [Inhabited α] (xs : List α) (i : Nat) : xs[i]! = if h : i < xs.length then xs[i] else default := by
 split
 ·rw [cT _ _ ‹_›]
 ·rw [getElem!_neg xs i ‹_›]
theorem dQ {α : Type} [Inhabited α] (xs : List α) (i j : Nat) (x : α) : (xs.set i x)[j]! = if i = j ∧ j < xs.length then x else xs[j]! := by
 by_cases hj : j < xs.length
 ·rw [cT _ _ (by simpa using hj), List.getElem_set, cT _ _ hj]; grind
 ·rw [getElem!_neg (xs.set i x) j (by simpa using hj), getElem!_neg xs j hj, if_neg (by omega)]
theorem fO {α : Type} [Inhabited α] (f : Nat → α) (n i : Nat) (h : i < n) : (((List.range n).map f : List α))[i]! = f i := by
 rw [cT _ i (by simpa using h)]; simp
end Go.AL

namespace Go.AL
end Go.AL

namespace Go.AL
def xA (nv N : Nat) (A : List Nat) : List (List Bool) := (List.range N).map fun (i : Nat) => (List.range nv).map fun (v : Nat) => A[i]!.testBit v
theorem wZ (nv N : Nat) (A : List Nat) (i : Nat) (h : i < N) : (xA nv N A)[i]! = (List.range nv).map fun (v : Nat) => A[i]!.testBit v := fO _ _ _ h
theorem Ez (nv N : Nat) (A : List Nat) (i v : Nat) (h : i < N) (hv : v < nv) : (xA nv N A)[i]![v]! = A[i]!.testBit v := by rw [wZ _ _ _ _ h, fO _ _ _ hv]
end Go.AL

namespace Go.AL
open Go.RowKit
set_option linter.unusedVariables false
set_option linter.unusedSimpArgs false
section
variable {P : Program} {N : Nat} {Q : Exit → AS → Prop} {all : Array Oper} {rest : List Oper} {ts : List (Nat × AV)} {hs : List (Nat × Option (List AV))} {n : Nat} {z0 : Lo} {md : Md}
variable {d : Nat} {ty : TypeId} {pos : String} {af : Array Edge}
def Stop (p : Prop) : Prop := p
theorem cV {op : Op} {g : Option (Nat × Bool)} (h : Stop (RW P N all Q md (⟨some d, op, ty, pos, af, g⟩ :: rest) ⟨ts, hs, n, z0⟩)) : RW P N all Q md (⟨some d, op, ty, pos, af, g⟩ :: rest) ⟨ts, hs, n, z0⟩ := h
theorem dX {l : List Oper} {s : AS} (h : RW P N all Q md l s) : Stop (RW P N all Q md l s) := h
theorem BB {t el : TypeId} {x : Operand} {lo : Option Operand} {i o m e l : Nat} [ht : SlT P t el] [he : SzT P el e] (hx : ev (lk ts) x = some (.own i o m e))
  (hl : eS (lk ts) lo 0 = some l) (hb : l ≤ m) (hN : Nat.blt d N = true) {md' : Md} [hmd : MdA md (rO x ++ (rB lo ++ rB none)) [.inl d] md'] (kk : RW P N all Q md' rest ⟨(d, .own i (o + l * e) (m - l) e) :: ts, hs, n, z0⟩) :
  RW P N all Q md (⟨some d, .slice t x lo none none, ty, pos, af, none⟩ :: rest) ⟨ts, hs, n, z0⟩ :=
 gN (m := m) (h := m) hx rfl hl rfl (by simp [Kb, hb]) hN (md' := md') (hmd := hmd) kk
end
end Go.AL

namespace Go.AL
def Mv (pts : List Pnt) (pl lv : List Bool) (l : Nat) (c : Acc) : Bool := lv[l]! && pl[l]! && decide (pts[l]!.y = c.var) && (c.write || decide (pts[l]!.op = 5))
def MK (pts : List Pnt) (acs : List Acc) (pl lv : List Bool) : List Bool := (List.range pts.length).map fun (l : Nat) => acs.any (Mv pts pl lv l)
theorem HR (pts : List Pnt) (acs : List Acc) (pl lv : List Bool) (l : Nat) (h : l < pts.length) : (MK pts acs pl lv)[l]! = acs.any (Mv pts pl lv l) := fO _ _ _ h
end Go.AL

namespace Go.AL
end Go.AL

namespace Go.AL
def Lk (nv N : Nat) (Af Ap : List Nat) (n : Nat) : List (List Bool) × List Bool := ((List.range nv).map fun (v : Nat) => (List.range N).map fun (l : Nat) => Af[n * 6 + v]!.testBit l, (List.range N).map fun (l : Nat) => Ap[n]!.testBit l)
end Go.AL

namespace Go.AL
def MD (ts : List Int) (x : Pnt) (fr : List (List Bool)) (lv : List Bool) (l v : Nat) : Bool := lv[v]! && (!decide (bT x = (v : Int)) && (!decide (cC ts x (v : Int) = 2) && fr[v]![l]!))
def MF (ts : List Int) (x : Pnt) (fr : List (List Bool)) (lv : List Bool) (N : Nat) : List Bool := (List.range N).map fun (l : Nat) => (List.range lv.length).any (MD ts x fr lv l)
theorem BQ {p q : Nat → Bool} {n : Nat} (h : ∀ v, v < n → p v = q v) : (List.range n).filter p = (List.range n).filter q :=
 List.filter_congr fun v hv => h v (List.mem_range.1 hv)
theorem A9 {A n : Nat} {p : Nat → Bool} (hA : Sm A) (hn : n ≤ 62) (h : ∀ v, A.testBit v = (decide (v < n) && p v)) : cR A = ((List.range n).filter p).map (fun v : Nat => (v : Int)) := by
 rw [qB (k := n) (fun v hv => by rw [h v, decide_eq_false (by omega)]; rfl) (by omega) hA]
 congr 1
 exact BQ fun v hv => by rw [h v, decide_eq_true hv]; rfl
def Mw (ts : List Int) (pts : List Pnt) (Aa : List Nat) (i v : Nat) : Bool := !decide (cC ts pts[i]! v = 0) && !Aa[i]!.testBit v
def MB (pts : List Pnt) (l : Nat) : Int := if pts[l]!.op = 5 then 3 else 2
def J3 (ts : List Int) (pts : List Pnt) (Aa : List Nat) (cf : List Bool) (i : Nat) : List Iss :=
 ((List.range ts.length).filter (Mw ts pts Aa i)).map (fun (v : Nat) => ⟨i, 1, v⟩) ++ ((List.range pts.length).filter (fun (l : Nat) => cf[l]!)).map (fun (l : Nat) => ⟨i, MB pts l, l⟩)
def Lu (ts : List Int) (pts : List Pnt) (Am Al Af Ap : List Nat) (i : Nat) : List Bool :=
 MK pts (kE ts pts[i]! (xA ts.length pts.length Am)[i]![(bT pts[i]!).toNat]!) (Lk ts.length pts.length Af Ap i).2 (MF ts pts[i]! (Lk ts.length pts.length Af Ap i).1 (xA ts.length pts.length Al)[i]! pts.length)
theorem JW {ts : List Int} {x : Pnt} {m m' : Bool} (h : 0 ≤ bT x → m = m') : kE ts x m = kE ts x m' := by
 unfold kE
 by_cases h0 : 0 ≤ bT x
 ·rw [h h0]
 ·simp only [h0, false_and, if_false]
theorem HE {ts : List Int} {pts : List Pnt} (w : WG ts pts) (f : Flows ts pts) {Af : List Nat} (hlf : Af.length = pts.length * 6) {i : Nat} (hi : i < pts.length) : J3 ts pts f.Aa (Lu ts pts f.Am f.Al Af f.Ap i) i = B6 ts pts f.Aa f.Am f.Al Af f.Ap i := by
 have htl := w.tl
 have hpl := w.pl
 have hset := w.set i hi
 unfold J3 B6
 congr 1
 ·unfold EH
  have hsm : Sm (nI (wS ts pts[i]! [1, 2, 3]) f.Aa[i]!) := by
   have : Sm (wS ts pts[i]! [1, 2, 3]) := dH (by omega)
   infer_instance
  rw [A9 (n := ts.length) (p := Mw ts pts f.Aa i) hsm (by omega) fun v => ?_, List.map_map]
  ·rfl
  ·rw [dS, dO, Bool.and_assoc]
   congr 1
   unfold Mw
   congr 1
   have hu := pC ts pts[i]! v
   by_cases e : cC ts pts[i]! v = 0
   ·rw [e]; rfl
   ·rw [decide_eq_false e]
    have : cC ts pts[i]! v ∈ ([1, 2, 3] : List Int) := by
     simp only [List.mem_cons, List.not_mem_nil, or_false]; omega
    rw [decide_eq_true this]; rfl
 ·unfold Ex
  have hap : f.Ap[i]! < 2 ^ pts.length := by
   apply Nat.lt_pow_two_of_testBit
   intro l hl
   rw [Bool.eq_false_iff]; intro hq
   have := (uT ((f.gp.2 i hi l).1 hq)).1
   dsimp only at this; omega
  have hcn := BV w (Am := f.Am) (Al := f.Al) (Af := Af) hap
  have hsm : Sm (Eg ts pts f.Am f.Al Af f.Ap i) := ⟨Nat.lt_of_lt_of_le hcn (Nat.pow_le_pow_right (by decide) (by omega))⟩
  rw [A9 (n := pts.length) (p := fun l => (Lu ts pts f.Am f.Al Af f.Ap i)[l]!) hsm (by omega) fun l => ?_, List.map_map]
  ·rfl
  ·by_cases hl : l < pts.length
   ·rw [decide_eq_true hl, Bool.true_and, Bool.eq_iff_iff]
    have hloans : Sm (vR ts pts[i]! f.Al[i]! (fP Af i) &&& f.Ap[i]!) := ⟨Nat.lt_of_lt_of_le (Nat.and_lt_two_pow _ hap) (Nat.pow_le_pow_right (by decide) (by omega))⟩
    have hal : f.Al[i]! < 2 ^ ts.length := by
     apply Nat.lt_pow_two_of_testBit
     intro v hv
     rw [Bool.eq_false_iff]; intro hq
     obtain ⟨k, e, hk⟩ := (f.gl.2 i hi v).1 hq
     have := sS w hk
     dsimp only at this; omega
    have hacc : kE ts pts[i]! (xA ts.length pts.length f.Am)[i]![(bT pts[i]!).toNat]! = kE ts pts[i]! (f.Am[i]!.testBit (bT pts[i]!).toNat) := JW fun h0 => Ez _ _ _ _ _ hi (by omega)
    have hkp : (vR ts pts[i]! f.Al[i]! (fP Af i)).testBit l = true ↔ (MF ts pts[i]! (Lk ts.length pts.length Af f.Ap i).1 (xA ts.length pts.length f.Al)[i]! pts.length)[l]! = true := by
     unfold MF
     rw [fO _ _ _ hl]
     unfold vR
     rw [jG, List.any_eq_true, wZ _ _ _ _ hi]
     simp only [Nat.zero_testBit, Bool.false_eq_true, false_or, List.length_map, List.length_range, List.mem_range]
     constructor
     ·rintro ⟨z, hz, h2⟩
      obtain ⟨v, h3, h4, rfl⟩ := dZ.1 hz
      rw [dS, Nat.testBit_or, dO, iA (by omega)] at h4
      simp only [Bool.and_eq_true, Bool.not_eq_true', Bool.or_eq_false_iff, Bool.and_eq_false_iff, decide_eq_false_iff_not] at h4
      have hv := eA hal h4.1
      refine ⟨v, hv, ?_⟩
      unfold MD
      rw [fO _ _ _ hv, h4.1, decide_eq_false h4.2.2]
      have hu : ¬ cC ts pts[i]! v = 2 := by
       rcases h4.2.1 with h5 | h5
       ·exact absurd hv h5
       ·simpa using h5
      rw [decide_eq_false hu]
      unfold Lk
      dsimp only
      rw [fO _ _ _ hv, fO _ _ _ hl]
      have h6 : (fP Af i)[v]! = Af[i * 6 + v]! := iG hlf hi (by omega)
      rw [Int.toNat_natCast, h6] at h2
      rw [h2]; rfl
     ·rintro ⟨v, hv, h2⟩
      unfold MD at h2
      rw [fO _ _ _ hv] at h2
      unfold Lk at h2
      dsimp only at h2
      rw [fO _ _ _ hv, fO _ _ _ hl] at h2
      simp only [Bool.and_eq_true, Bool.not_eq_true', decide_eq_false_iff_not] at h2
      refine ⟨(v : Int), dZ.2 ⟨v, by omega, ?_, rfl⟩, ?_⟩
      ·rw [dS, Nat.testBit_or, dO, iA (by omega), h2.1, decide_eq_false h2.2.1]
       have : decide (cC ts pts[i]! (v : Int) ∈ ([2] : List Int)) = false := by simpa using h2.2.2.1
       rw [this]; simp
      ·rw [Int.toNat_natCast, iG hlf hi (by omega)]; exact h2.2.2.2
    have hplc : (Lk ts.length pts.length Af f.Ap i).2[l]! = f.Ap[i]!.testBit l := by unfold Lk; dsimp only; rw [fO _ _ _ hl]
    unfold Eg Lu
    rw [kP _ _ _ hloans, HR _ _ _ _ _ hl, hacc, List.any_eq_true]
    simp only [Nat.zero_testBit, Bool.false_eq_true, false_or]
    constructor
    ·rintro ⟨c, hc, h1, h2, h3⟩
     rw [Nat.testBit_and, Bool.and_eq_true] at h1
     rw [jD] at h2
     simp only [Bool.and_eq_true, decide_eq_true_eq] at h2
     have hy := yW w hl h2.2.1
     have hcv := xU _ w hi c hc
     refine ⟨c, hc, ?_⟩
     unfold Mv
     have e2 := h2.2.2
     rw [Nat.testBit_two_pow, decide_eq_true_eq] at e2
     rw [hkp.1 h1.1, hplc, h1.2, decide_eq_true (by omega : pts[l]!.y = c.var)]
     rcases h3 with h3 | h3
     ·rw [h3]; rfl
     ·rw [decide_eq_true h3]; simp
    ·rintro ⟨c, hc, h1⟩
     unfold Mv at h1
     rw [hplc] at h1
     simp only [Bool.and_eq_true, Bool.or_eq_true, decide_eq_true_eq] at h1
     obtain ⟨⟨⟨h1, h2⟩, h3⟩, h4⟩ := h1
     have hln := (uT ((f.gp.2 i hi l).1 h2)).2
     dsimp only at hln
     refine ⟨c, hc, ?_, ?_, h4⟩
     ·rw [Nat.testBit_and, hkp.2 h1, h2]; rfl
     ·rw [jD, decide_eq_true hl, hln, ← h3, Nat.testBit_two_pow_self]; rfl
   ·rw [decide_eq_false hl, Bool.false_and]
    exact Nat.testBit_lt_two_pow (Nat.lt_of_lt_of_le hcn (Nat.pow_le_pow_right (by decide) (by omega)))
theorem Gq {ts : List Int} {pts : List Pnt} (w : WG ts pts) (f : Flows ts pts) {i : Nat} (hi : i < pts.length) : J3 ts pts f.Aa (Lu ts pts f.Am f.Al f.Af f.Ap i) i = B6 ts pts f.Aa f.Am f.Al f.Af f.Ap i := HE w f f.gf.1 hi
end Go.AL

namespace Go.AL
open Go.RowKit
set_option linter.unusedVariables false
set_option linter.unusedSimpArgs false

section
variable {P : Program} {N : Nat} {Q : Exit → AS → Prop} {all : Array Oper} {rest : List Oper} {ts : List (Nat × AV)} {hs : List (Nat × Option (List AV))} {n : Nat} {z0 : Lo} {md : Md}
variable {d : Nat} {ty : TypeId} {pos : String} {af : Array Edge}
end
mutual
inductive Ld (D : List Nat) (H : Nat → Option (List AV)) : AV → AV → Prop
 | pur {v : AV} : v.pur = true → Ld D H v v
 | own {id m e : Nat} {cs cs' : List AV} : id ∈ D → H id = some cs → LdL D H cs cs' → Ld D H (.own id 0 m e) (.imm m cs')
 | optr {id : Nat} {cs cs' : List AV} : id ∈ D → H id = some cs → LdL D H cs cs' → Ld D H (.optr id 0) (.iptr cs')
 | imm {m : Nat} {cs cs' : List AV} : LdL D H cs cs' → Ld D H (.imm m cs) (.imm m cs')
 | agg {cs cs' : List AV} : LdL D H cs cs' → Ld D H (.agg cs) (.agg cs')
inductive LdL (D : List Nat) (H : Nat → Option (List AV)) : List AV → List AV → Prop
 | pur {v : List AV} : dB v = true → LdL D H v v
 | nil : LdL D H [] []
 | cons {c c' : AV} {cs cs' : List AV} : Ld D H c c' → LdL D H cs cs' → LdL D H (c :: cs) (c' :: cs')
end
mutual
theorem Ld.agr {D : List Nat} {H H' : Nat → Option (List AV)} (h : ∀ id ∈ D, H id = H' id) : ∀ {v v' : AV}, Ld D H v v' → Ld D H' v v'
 | _, _, .pur hp => .pur hp
 | _, _, .own h1 h2 h3 => .own h1 (by rw [← h _ h1]; exact h2) (LdL.agr h h3)
 | _, _, .optr h1 h2 h3 => .optr h1 (by rw [← h _ h1]; exact h2) (LdL.agr h h3)
 | _, _, .imm h3 => .imm (LdL.agr h h3)
 | _, _, .agg h3 => .agg (LdL.agr h h3)
theorem LdL.agr {D : List Nat} {H H' : Nat → Option (List AV)} (h : ∀ id ∈ D, H id = H' id) : ∀ {v v' : List AV}, LdL D H v v' → LdL D H' v v'
 | _, _, .pur hp => .pur hp
 | _, _, .nil => .nil
 | _, _, .cons h1 h2 => .cons (Ld.agr h h1) (LdL.agr h h2)
end
theorem LdL.len {D : List Nat} {H : Nat → Option (List AV)} : ∀ {v v' : List AV}, LdL D H v v' → v.length = v'.length
 | _, _, .pur hp => rfl
 | _, _, .nil => rfl
 | _, _, .cons h1 h2 => by simp [LdL.len h2]
mutual
theorem Ld.ok {C : Ctx} {ι : Pl} {F : Nat → Prop} {D : List Nat} {H : Nat → Option (List AV)} {w : World} (g : HG C ι F H w) : ∀ {v v' : AV}, Ld D H v v' → ∀ {y : Value}, Rd w (bF C.X ι H) ι v y → Rd w C.X (fun _ => none) v' y
 | _, _, .pur hp, y, k => Rd.pur _ y hp (Rd.carry (⟨fun b o x h1 h2 => ⟨fun q => h1 (.inl q), h2⟩, fun _ _ h => h, fun _ => Nat.le_refl _⟩ : Carry w (bF C.X ι H) ι w C.X ι) _ _ k)
 | _, _, .own (id := id) (m := m) h1 h2 h3, y, k => by
  have hlen := LdL.len h3
  simp only [Rd] at k ⊢
  rcases k with ⟨_, rfl, a, rfl⟩ | ⟨b, β, c, q1, rfl, q2, q3⟩
  ·exact ⟨a, 0, rfl, .inl rfl⟩
  ·rcases g.obj id _ h2 with ⟨p1, _⟩ | ⟨b', β', arr, e', p1, p2, p3, p4, p5, p6⟩
   ·rw [p1] at q1; cases q1
   ·rw [p1] at q1; cases q1
    exact ⟨_, c, rfl, .inr ⟨b, β + 0, q2, rfl, .inr ⟨p5, LdL.okC g h3 p4⟩⟩⟩
 | _, _, .optr (id := id) h1 h2 h3, y, k => by
  simp only [Rd] at k ⊢
  obtain ⟨b, β, q1, rfl⟩ := k
  rcases g.obj id _ h2 with ⟨p1, _⟩ | ⟨b', β', arr, e', p1, p2, p3, p4, p5, p6⟩
  ·rw [p1] at q1; cases q1
  ·rw [p1] at q1; cases q1
   exact ⟨b, β + 0, rfl, .inr ⟨p5, LdL.okC g h3 p4⟩⟩
 | _, _, .imm (cs := cs) (cs' := cs') h3, y, k => by
  have hlen := LdL.len h3
  simp only [Rd] at k ⊢
  obtain ⟨a, c, rfl, k⟩ := k
  refine ⟨a, c, rfl, ?_⟩
  rcases k with k | ⟨b, o, hn, rfl, k⟩
  ·exact .inl k
  ·refine .inr ⟨b, o, hn, rfl, ?_⟩
   rcases k with k | ⟨hb, k⟩
   ·subst k; exact .inl (List.eq_nil_of_length_eq_zero (by rw [← hlen]; rfl))
   ·exact .inr ⟨fun q => hb (.inl q), LdL.okC g h3 k⟩
 | _, _, .agg h3, y, k => by
  simp only [Rd] at k ⊢
  obtain ⟨l, h1, h2⟩ := k
  exact ⟨l, h1, LdL.okL g h3 h2⟩
theorem LdL.okC {C : Ctx} {ι : Pl} {F : Nat → Prop} {D : List Nat} {H : Nat → Option (List AV)} {w : World} (g : HG C ι F H w) : ∀ {v v' : List AV}, LdL D H v v' → ∀ {b o : Nat}, RdC w (bF C.X ι H) ι v b o → RdC w C.X (fun _ => none) v' b o
 | _, _, .pur hp, b, o, k => RdC.pur _ b o hp (RdC.carryB (⟨fun b o x h1 h2 => ⟨fun q => h1 (.inl q), h2⟩, fun _ _ h => h, fun _ => Nat.le_refl _⟩ : Carry w (bF C.X ι H) ι w C.X ι) _ _ _ (fun o x hx => hx) k)
 | _, _, .nil, b, o, k => by simp only [RdC]
 | _, _, .cons h1 h2, b, o, k => by
  simp only [RdC] at k ⊢
  obtain ⟨⟨x, q1, q2, q3⟩, q4⟩ := k
  exact ⟨⟨x, q1, q2, Ld.ok g h1 q3⟩, LdL.okC g h2 q4⟩
theorem LdL.okL {C : Ctx} {ι : Pl} {F : Nat → Prop} {D : List Nat} {H : Nat → Option (List AV)} {w : World} (g : HG C ι F H w) : ∀ {v v' : List AV}, LdL D H v v' → ∀ {y : List Value}, RdL w (bF C.X ι H) ι v y → RdL w C.X (fun _ => none) v' y
 | _, _, .pur hp, y, k => RdL.pur _ y hp (RdL.carry (⟨fun b o x h1 h2 => ⟨fun q => h1 (.inl q), h2⟩, fun _ _ h => h, fun _ => Nat.le_refl _⟩ : Carry w (bF C.X ι H) ι w C.X ι) _ _ k)
 | _, _, .nil, y, k => by simpa only [RdL] using k
 | _, _, .cons h1 h2, y, k => by
  simp only [RdL] at k ⊢
  obtain ⟨x, l', q0, q1, q2, q3⟩ := k
  exact ⟨x, l', q0, q1, Ld.ok g h1 q2, LdL.okL g h2 q3⟩
end
theorem LdL.okV {C : Ctx} {ι : Pl} {F : Nat → Prop} {D : List Nat} {H : Nat → Option (List AV)} {w : World} (g : HG C ι F H w) : ∀ {v v' : List AV}, LdL D H v v' → ∀ {y : List Value}, RdV w (bF C.X ι H) ι v y → RdV w C.X (fun _ => none) v' y
 | _, _, .pur hp, y, k => RdV.pur _ y hp (RdV.carry (⟨fun b o x h1 h2 => ⟨fun q => h1 (.inl q), h2⟩, fun _ _ h => h, fun _ => Nat.le_refl _⟩ : Carry w (bF C.X ι H) ι w C.X ι) _ _ k)
 | _, _, .nil, y, k => by simpa only [RdV] using k
 | _, _, .cons h1 h2, y, k => by
  simp only [RdV] at k ⊢
  obtain ⟨x, l', q0, q2, q3⟩ := k
  exact ⟨x, l', q0, Ld.ok g h1 q2, LdL.okV g h2 q3⟩
section
variable {P : Program} {N : Nat} {Q : Exit → AS → Prop} {all : Array Oper} {rest : List Oper} {ts : List (Nat × AV)} {hs : List (Nat × Option (List AV))} {n : Nat} {z0 : Lo} {md : Md}
variable {d : Nat} {ty : TypeId} {pos : String} {af : Array Edge}
theorem oP {k : FuncId} {args : Array Operand} {tys : Array TypeId} {avs avs2 : List AV} {r : AV} (D : List Nat) [hc : CaT P k] (ha : evL (lk ts) args.toList = some avs) (hl : LdL D (cO hs) avs avs2) (h : PC P k avs2 (fun x => x = r)) (hfr : r.free = true) (hN : Nat.blt d N = true)
  {md' : Md} [hmd : MdA md (gK args.toList ++ D.map .inr) [.inl d] md'] (kk : RW P N all Q md' rest ⟨(d, r) :: ts, hs, n, z0⟩) : RW P N all Q md (⟨some d, .call ⟨.value (.func k), args, tys⟩, ty, pos, af, none⟩ :: rest) ⟨ts, hs, n, z0⟩ := by
 refine kL (rs := gK args.toList ++ D.map .inr) (ws := []) (n' := n) (out := r) rfl (Nat.le_refl _) (.inl rfl) (fun C ι F T H a w K Q' hCN ag hF g gh hK => ?_) (fun x hx => by cases hx; exact eH hN) (by rw [← hmd.pf] at kk; exact kk)
 simp only [Oper.wp, jW hc.pf, Oper.upon]
 have hl' : LdL D H avs avs2 := hl.agr fun id hid => (ag.r.h id (List.mem_map_of_mem hid)).symm
 have hv := hl'.okV gh (j3 g (ag.l.evL.trans ha))
 let C' : Ctx := { N := 0, w0 := w, W0 := fun _ => False, X := C.X, ι0 := fun _ => none, xlt := fun b hb => Nat.lt_of_lt_of_le (C.xlt b hb) gh.fr.size }
 have hbad : ∀ b, bF C'.X (fun _ => none) (cO []) b ↔ C.X b := fun b => ⟨fun h => (by rcases h with h | ⟨id, cs, β, h1, h2⟩ <;> first | exact h | cases h2), fun h => Or.inl h⟩
 have g' : HG C' (fun _ => none) (fun j => 0 ≤ j) (cO []) w :=
  ⟨fun id cs h => by simp [cO] at h, fun id id' cs cs' b β β' h => by simp [cO] at h, Fr.refl _ _, fun _ _ h => h, fun _ _ => rfl⟩
 have hcar : Carry w C.X (fun _ => none) w (bF C'.X (fun _ => none) (cO [])) (fun _ => none) := ⟨fun b o x h1 h2 => ⟨fun h => h1 ((hbad b).1 h), h2⟩, fun _ _ h => h, fun _ => Nat.le_refl _⟩
 refine (h C' _ w _ rfl rfl g' (RdV.carry hcar _ _ hv)).mono ?_
 rintro e w' ⟨v, r', H', ι', rfl, ⟨rfl, _⟩, h4, h5⟩
 obtain ⟨g2, c2⟩ := gh.ext h5.fr
 exact hK ι w' v (g.carry c2) (g2.less (fun _ _ h => h) (fun j hj => hj.1)).1 (Rd.free _ _ hfr h4)
end
end Go.AL

namespace Go.AL
open Go.RowKit
set_option linter.unusedVariables false
set_option linter.unusedSimpArgs false

theorem RnL.app {ρ : Nat → Option Nat} : ∀ {a a' b b' : List AV}, RnL ρ a a' → RnL ρ b b' → RnL ρ (a ++ b) (a' ++ b')
 | [], a', b, b', ha, hb => by
  have := ha.len
  cases a' with
  | nil => exact hb
  | cons _ _ => simp at this
 | c :: cs, _, b, b', .pur hp, hb => by
  simp only [dB, Bool.and_eq_true] at hp
  exact .cons (.pur hp.1) (RnL.app (.pur hp.2) hb)
 | c :: cs, _, b, b', .cons h1 h2, hb => .cons h1 (RnL.app h2 hb)
end Go.AL

namespace Go.AL
open Go.RowKit
set_option linter.unusedVariables false
set_option linter.unusedSimpArgs false

section
variable {P : Program} {N : Nat} {Q : Exit → AS → Prop}
end

end Go.AL

namespace Go.AL
open Go.RowKit
attribute [local irreducible] eZ
set_option linter.unusedVariables false
set_option linter.unusedSimpArgs false

section
variable {P : Program} {N : Nat} {Q : Exit → AS → Prop} {all : Array Oper} {rest : List Oper} {ts : List (Nat × AV)} {hs : List (Nat × Option (List AV))} {n : Nat} {z0 : Lo} {md : Md}
variable {d : Nat} {ty : TypeId} {pos : String} {af : Array Edge}
end
end Go.AL

namespace Go.AL
open Go.RowKit
set_option linter.unusedVariables false
set_option linter.unusedSimpArgs false
theorem Le.virt {ts : List (Nat × AV)} {hs : List (Nat × Option (List AV))} {n : Nat} {z0 : Lo} (hn : n < eZ) : Le ⟨ts, hs, n, z0⟩ ⟨ts, (n, some []) :: hs, n + 1, z0⟩ := by
 rintro C a w ⟨h0, ι, g, gh⟩
 obtain ⟨g1, c1⟩ := gh.virt (id := n) ⟨Nat.le_refl _, .inl hn⟩
 have e : cO ((n, some []) :: hs) = fJ (cO hs) n (some []) := AA _ _ _
 refine ⟨h0, fJ ι n (some none), ?_, ?_⟩
 ·show TG C _ (lk ts) (cO ((n, some []) :: hs)) a w
  rw [e]; exact g.carry c1
 ·show HG C _ _ (cO ((n, some []) :: hs)) w
  rw [e]
  refine (g1.less (fun _ _ h => h) (fun j hj => ?_)).1
  have h1 : n + 1 ≤ j := hj.1
  exact ⟨⟨by show n ≤ j; omega, hj.2⟩, by omega⟩
theorem Le.cellsN {ts : List (Nat × AV)} {hs : List (Nat × Option (List AV))} {n : Nat} {z0 : Lo} {i q : Nat} {cs cs' cq : List AV} (hi : cO hs i = some cs) (hq : cO hs q = some cq) (hl : cs'.length = cs.length)
  (h : ∀ (w : World) (bad : Nat → Prop) (ι : Pl) (b β : Nat), (∃ p, ι q = some p) → RdC w bad ι cs b β → RdC w bad ι cs' b β) :
  Le ⟨ts, hs, n, z0⟩ ⟨ts, (i, some cs') :: hs, n, z0⟩ := by
 rintro C a w ⟨h0, ι, g, gh⟩
 have hqq : ∃ p, ι q = some p := by
  rcases gh.obj q cq hq with ⟨p1, _⟩ | ⟨_, _, _, _, p1, _⟩ <;> exact ⟨_, p1⟩
 have hk : ∀ id c, cO ((i, some cs') :: hs) id = some c → (id = i ∧ c = cs') ∨ (id ≠ i ∧ cO hs id = some c) := by
  intro id c hc
  rw [gM] at hc
  split at hc
  ·rename_i e; cases hc; exact .inl ⟨e, rfl⟩
  ·rename_i e; exact .inr ⟨fun h => e h, hc⟩
 have hk2 : ∀ id c, cO hs id = some c → ∃ c', cO ((i, some cs') :: hs) id = some c' := by
  intro id c hc
  rw [gM]
  split
  ·exact ⟨_, rfl⟩
  ·exact ⟨_, hc⟩
 have hb : bF C.X ι (cO ((i, some cs') :: hs)) = bF C.X ι (cO hs) := by
  funext b
  refine propext ⟨?_, ?_⟩
  ·rintro (h | ⟨id, c, β, h1, h2⟩)
   ·exact .inl h
   ·rcases hk id c h1 with ⟨rfl, _⟩ | ⟨_, h3⟩
    ·exact .inr ⟨_, _, _, hi, h2⟩
    ·exact .inr ⟨_, _, _, h3, h2⟩
  ·rintro (h | ⟨id, c, β, h1, h2⟩)
   ·exact .inl h
   ·obtain ⟨c', h3⟩ := hk2 id c h1
    exact .inr ⟨_, _, _, h3, h2⟩
 refine ⟨h0, ι, ⟨g.df, g.sz, fun t av ht => ?_⟩, ?_, ?_, gh.fr, gh.ex, gh.fresh⟩
 ·show ∃ y, a.tmps[t]? = some y ∧ Rd w (bF C.X ι (cO ((i, some cs') :: hs))) ι av y
  rw [hb]; exact g.tm t av ht
 ·intro id c hc
  show _ ∨ ∃ b β arr e, ι id = some (some (b, β)) ∧ w.heap[b]? = some (.cells arr e (0, 0)) ∧ β + c.length ≤ arr.size ∧ RdC w (bF C.X ι (cO ((i, some cs') :: hs))) ι c b β ∧ ¬ C.X b ∧ (C.W0 b ∨ C.w0.heap.size ≤ b)
  rw [hb]
  rcases hk id c hc with ⟨rfl, rfl⟩ | ⟨_, h3⟩
  ·rcases gh.obj _ _ hi with ⟨q1, q2⟩ | ⟨b, β, arr, e, q1, q2, q3, q4, q5⟩
   ·subst q2
    exact .inl ⟨q1, List.eq_nil_of_length_eq_zero hl⟩
   ·exact .inr ⟨b, β, arr, e, q1, q2, by rw [hl]; exact q3, h _ _ _ _ _ hqq q4, q5⟩
  ·exact gh.obj _ _ h3
 ·intro id id' c c' b β β' h1 h2 h3 h4
  obtain ⟨d1, e1⟩ : ∃ d, cO hs id = some d := by
   rcases hk id c h1 with ⟨rfl, _⟩ | ⟨_, h⟩
   ·exact ⟨_, hi⟩
   ·exact ⟨_, h⟩
  obtain ⟨d2, e2⟩ : ∃ d, cO hs id' = some d := by
   rcases hk id' c' h2 with ⟨rfl, _⟩ | ⟨_, h⟩
   ·exact ⟨_, hi⟩
   ·exact ⟨_, h⟩
  exact gh.sep id id' d1 d2 b β β' e1 e2 h3 h4
theorem rK {w : World} {bad : Nat → Prop} {ι : Pl} {c c' : AV} (hc : ∀ y, Rd w bad ι c y → Rd w bad ι c' y) : ∀ (a : List AV) (r : List AV) (b o : Nat), RdC w bad ι (a ++ c :: r) b o → RdC w bad ι (a ++ c' :: r) b o
 | [], r, b, o, h => by
  simp only [List.nil_append, RdC] at h ⊢
  obtain ⟨⟨x, h1, h2, h3⟩, h4⟩ := h
  exact ⟨⟨x, h1, h2, hc _ h3⟩, h4⟩
 | x :: a, r, b, o, h => by
  simp only [List.cons_append, RdC] at h ⊢
  exact ⟨h.1, rK hc a r b (o + 1) h.2⟩
theorem Le.nilCell {ts : List (Nat × AV)} {hs : List (Nat × Option (List AV))} {n : Nat} {z0 : Lo} {i : Nat} (e : Nat) (c1 : List AV) {c2 : List AV} (hi : cO hs i = some (c1 ++ .v (.slice none 0 0) :: c2)) (hin : i ≠ n) (hn : n < eZ) :
  Le ⟨ts, hs, n, z0⟩ ⟨ts, (i, some (c1 ++ .own n 0 0 e :: c2)) :: (n, some []) :: hs, n + 1, z0⟩ :=
 (Le.virt hn).trans (Le.cellsN (q := n) (cs := c1 ++ .v (.slice none 0 0) :: c2) (by rw [gM, if_neg hin]; exact hi) (by rw [gM, if_pos rfl]) (by simp) fun w bad ι b β hp hr =>
  rK (fun y hy => by simp only [Rd] at hy ⊢; exact .inl ⟨hp, trivial, none, hy⟩) c1 c2 b β hr)
theorem Le.frzC {ts : List (Nat × AV)} {hs : List (Nat × Option (List AV))} {n : Nat} {z0 : Lo} {j i m e : Nat} (c1 : List AV) {c2 d : List AV} (hj : cO hs j = some (c1 ++ .own i 0 m e :: c2)) (hi : cO hs i = some d) (hij : j ≠ i) :
  Le ⟨ts, hs, n, z0⟩ ⟨ts, (j, some (c1 ++ .imm m d :: c2)) :: (i, none) :: hs, n, z0⟩ := by
 rintro C a w ⟨h0, ι, g, gh⟩
 have hk : ∀ id c, cO ((j, some (c1 ++ .imm m d :: c2)) :: (i, none) :: hs) id = some c → (id = j ∧ c = c1 ++ .imm m d :: c2) ∨ (id ≠ j ∧ id ≠ i ∧ cO hs id = some c) := by
  intro id c hc
  rw [gM] at hc
  split at hc
  ·rename_i e; cases hc; exact .inl ⟨e, rfl⟩
  ·rename_i e
   rw [gM] at hc
   split at hc
   ·cases hc
   ·rename_i e2; exact .inr ⟨e, e2, hc⟩
 have hk2 : ∀ id c, cO ((j, some (c1 ++ .imm m d :: c2)) :: (i, none) :: hs) id = some c → id ≠ i ∧ ∃ c', cO hs id = some c' := by
  intro id c hc
  rcases hk id c hc with ⟨rfl, _⟩ | ⟨_, h2, h3⟩
  ·exact ⟨hij, _, hj⟩
  ·exact ⟨h2, _, h3⟩
 have hbad : ∀ b, bF C.X ι (cO ((j, some (c1 ++ .imm m d :: c2)) :: (i, none) :: hs)) b → bF C.X ι (cO hs) b := by
  rintro b (h | ⟨id, c, β, h1, h2⟩)
  ·exact .inl h
  ·obtain ⟨_, c', h3⟩ := hk2 id c h1
   exact .inr ⟨id, c', β, h3, h2⟩
 have car : Carry w (bF C.X ι (cO hs)) ι w (bF C.X ι (cO ((j, some (c1 ++ .imm m d :: c2)) :: (i, none) :: hs))) ι := ⟨fun b o x h1 h2 => ⟨fun q => h1 (hbad b q), h2⟩, fun _ _ h => h, fun _ => Nat.le_refl _⟩
 have hcell : ∀ y, Rd w (bF C.X ι (cO ((j, some (c1 ++ .imm m d :: c2)) :: (i, none) :: hs))) ι (.own i 0 m e) y → Rd w (bF C.X ι (cO ((j, some (c1 ++ .imm m d :: c2)) :: (i, none) :: hs))) ι (.imm m d) y := by
  intro y hr
  simp only [Rd] at hr ⊢
  rcases hr with ⟨_, h2, a', h3⟩ | ⟨b, β, c, h1, h2, h3, h4⟩
  ·subst h2; exact ⟨a', 0, h3, .inl rfl⟩
  ·refine ⟨_, c, h2, ?_⟩
   rcases Nat.eq_zero_or_pos m with h5 | h5
   ·exact .inl h5
   ·refine .inr ⟨b, β + 0, h3, rfl, ?_⟩
    rcases gh.obj i d hi with ⟨q1, q2⟩ | ⟨b', β', arr, e', q1, q2, q3, q4, q5, q6⟩
    ·rw [h1] at q1; cases q1
    ·rw [h1] at q1; cases q1
     refine .inr ⟨?_, RdC.carryB car _ _ _ (fun o x hx => hx) q4⟩
     rintro (h | ⟨id', cs', β', r1, r2⟩)
     ·exact q5 h
     ·obtain ⟨r3, c', r4⟩ := hk2 id' cs' r1
      exact r3 (gh.sep _ _ _ _ _ _ _ r4 hi r2 h1)
 refine ⟨h0, ι, g.carry car, ⟨fun id c hc => ?_, fun id id' c c' b β β' h1 h2 h3 h4 => ?_, gh.fr, gh.ex, gh.fresh⟩⟩
 ·rcases hk id c hc with ⟨rfl, rfl⟩ | ⟨_, _, h3⟩
  ·rcases gh.obj _ _ hj with ⟨q1, q2⟩ | ⟨b, β, arr, e, q1, q2, q3, q4, q5⟩
   ·simp at q2
   ·exact .inr ⟨b, β, arr, e, q1, q2, by simpa using q3, rK hcell c1 c2 b β (RdC.carryB car _ _ _ (fun o x hx => hx) q4), q5⟩
  ·rcases gh.obj _ _ h3 with ⟨q1, q2⟩ | ⟨b, β, arr, e, q1, q2, q3, q4, q5⟩
   ·exact .inl ⟨q1, q2⟩
   ·exact .inr ⟨b, β, arr, e, q1, q2, q3, RdC.carryB car _ _ _ (fun o x hx => hx) q4, q5⟩
 ·obtain ⟨_, d1, e1⟩ := hk2 id c h1
  obtain ⟨_, d2, e2⟩ := hk2 id' c' h2
  exact gh.sep id id' d1 d2 b β β' e1 e2 h3 h4
end Go.AL

namespace Go.AL
open Go.RowKit
set_option linter.unusedVariables false
set_option linter.unusedSimpArgs false
theorem Ir {cs : List AV} {v : Nat} {c : AV} : hO cs (0 + v * 1) [c] = cs.take v ++ c :: cs.drop (v + 1) := by
 unfold hO; simp
end Go.AL

namespace Go.AL
open Go.RowKit
set_option linter.unusedVariables false
def HJ (op : BinOp) (a b : ByteArray) : Option Value :=
 match op with
 | .add => if a.size + b.size ≤ 9000000000000000000 then some (.string (a ++ b)) else none
 | .eql => some (.bool (a.toList == b.toList))
 | .neq => some (.bool (!(a.toList == b.toList)))
 | _ => none
def Fg (s : ByteArray) (l : List Int) : ByteArray := l.foldl (fun r n => r.push (UInt8.ofNat n.toNat)) s
section
variable {P : Program} {C : Ctx} {ι : Pl} {T : Nat → Option AV} {F : Nat → Prop} {H : Nat → Option (List AV)} {a : Act} {w : World} {o : Oper}
theorem HM (g : TG C ι T H a w) {op : BinOp} {t t' : TypeId} {x y : Operand} {m n : ByteArray} {v : Value} (ho : o.op = .binOp op t x y t')
  (hx : ev T x = some (.v (.string m))) (hy : ev T y = some (.v (.string n))) (h : HJ op m n = some v) : Pu P C ι H a w o (.v v) := by
 have h1 := c9 g hx
 have h2 := c9 g hy
 simp only [Rd] at h1 h2
 refine ⟨v, ?_, by simp [Rd]⟩
 have hg : (eqGuard op t x y (.string m) (.string n)).run P w = .ok () w := by
  unfold eqGuard
  cases op <;> simp
 have hb : (binOp op t (.string m) (.string n)).run P w = .ok v w := by
  cases op <;> simp only [HJ] at h <;> first | (cases h; done) | skip
  ·split at h
   ·rename_i hs
    cases h
    have h9 : ¬ (((m.size + n.size : Nat) : Int) > IntKind.i64.max) := by
     have : IntKind.i64.max = 9223372036854775807 := rfl
     omega
    show ((if ((m.size + n.size : Nat) : Int) > IntKind.i64.max then _ else pure (.string (m ++ n)) : Sem Value)).run P w = _
    rw [if_neg h9]; simp
   ·cases h
  all_goals (cases h; simp [binOp, Op.stringOp])
 simp only [execOp, ho, h1, h2, Sem.run_bind, hg, Result.andThen_ok, hb, Sem.run_pure]
theorem A6 {bad : Nat → Prop} {k : IntKind} : ∀ {ns : List Int} {l : List Value}, RdL w bad ι (ns.map fun n => .v (.int k n)) l → l = ns.map (Value.int k)
 | [], l, h => by simp only [List.map_nil, RdL] at h; exact h
 | n :: ns, l, h => by
  simp only [List.map_cons, RdL] at h
  obtain ⟨x, l', rfl, h0, h1, h2⟩ := h
  simp only [Rd] at h1
  rw [h1, A6 h2, List.map_cons]
theorem Lc (g : TG C ι T H a w) (gh : HG C ι F H w) {s t el : TypeId} {x : Operand} {av : AV} {m : Nat} {ns : List Int} (ho : o.op = .convert s t x) (hx : ev T x = some av)
  (ht : kC P s = some el) (hu : A7 P el = some .u8) (hst : P.underlying t = some .string) (hs : sCells H 1 (pI av) = some (m, ns.map fun n => .v (.int .u8 n))) :
  Pu P C ι H a w o (.v (.string (Fg .empty ns))) := by
 obtain ⟨ad, c, l, h1, h2, h3, h4, h5⟩ := pN gh (l0 (c9 g hx)) hs
 have hl := A6 h3
 have hll : ns.length = m := by have := h2; rw [hl] at this; simpa using this
 refine ⟨.string (Fg .empty ns), ?_, by simp [Rd]⟩
 have hcv : (convert s t (.slice ad m c)).run P w = (Conv.bytesToString (.slice ad m c)).run P w := run_convert_bytes_string w s t el ad m c (gS ht) (Bw hu) hst
 have hrun : (Conv.bytesToString (.slice ad m c)).run P w = .ok (.string (Fg .empty ns)) w := by
  cases ad with
  | none =>
   rcases h5 with ⟨b, o', h⟩ | h
   ·cases h
   ·subst h
    have : ns = [] := List.eq_nil_of_length_eq_zero hll
    subst this
    rfl
  | some ad =>
   have hload : (loadCells ad m).run P w = .ok (ns.map (Value.int .u8)).toArray w := by
    rcases h5 with ⟨b, o', h⟩ | h
    ·cases h
     have := run_loadCells_list (P := P) w ⟨b, o', none⟩ l (fun j v hj => by rw [Addr.add_lit]; exact h4 b o' rfl j v hj)
     rw [h2, Nat.mul_one, hl] at this
     exact this
    ·subst h
     have : ns = [] := List.eq_nil_of_length_eq_zero hll
     subst this
     simp [loadCells, loadCellsFrom]
   exact run_bytesToString w ad m c ns hload
 simp only [execOp, ho, h1, Sem.run_bind, hcv, hrun, Result.andThen_ok, Sem.run_pure]
end
section
variable {P : Program} {C : Ctx} {ι : Pl} {T : Nat → Option AV} {F : Nat → Prop} {H : Nat → Option (List AV)} {a : Act} {w : World} {o : Oper}
end
section
variable {P : Program} {N : Nat} {Q : Exit → AS → Prop} {all : Array Oper} {rest : List Oper} {ts : List (Nat × AV)} {hs : List (Nat × Option (List AV))} {n : Nat} {z0 : Lo} {md : Md}
variable {d : Nat} {ty : TypeId} {pos : String} {af : Array Edge}
theorem lK {op : BinOp} {t t' : TypeId} {x y : Operand} {m m' : ByteArray} {v : Value} (hx : ev (lk ts) x = some (.v (.string m))) (hy : ev (lk ts) y = some (.v (.string m')))
  (h : HJ op m m' = some v) (hN : Nat.blt d N = true) {md' : Md} [hmd : MdA md (rO x ++ rO y) [.inl d] md'] (kk : RW P N all Q md' rest ⟨(d, .v v) :: ts, hs, n, z0⟩) : RW P N all Q md (⟨some d, .binOp op t x y t', ty, pos, af, none⟩ :: rest) ⟨ts, hs, n, z0⟩ :=
 eI rfl rfl (eH hN) (fun C ι F T H a w ag g gh => HM g rfl (ag.l.ev.trans hx) (ag.r.ev.trans hy) h) (by rw [hmd.pf]; exact kk)
theorem Fe {s t el : TypeId} {x : Operand} {av : AV} {m : Nat} (ns : List Int) [ht : SlT P s el] [hu : InT P el .u8] [hst : StT P t] (hx : ev (lk ts) x = some av)
  (hs' : sCells (cO hs) 1 (pI av) = some (m, ns.map fun n => .v (.int .u8 n))) (hN : Nat.blt d N = true) {md' : Md} [hmd : MdA md (rO x ++ rA av) [.inl d] md'] (kk : RW P N all Q md' rest ⟨(d, .v (.string (Fg .empty ns))) :: ts, hs, n, z0⟩) :
  RW P N all Q md (⟨some d, .convert s t x, ty, pos, af, none⟩ :: rest) ⟨ts, hs, n, z0⟩ :=
 eI rfl rfl (eH hN) (fun C ι F T H a w ag g gh => Lc g gh rfl (ag.l.ev.trans hx) ht.pf hu.pf hst.pf (ag.r.sCells.trans hs')) (by rw [hmd.pf]; exact kk)
theorem pU {t : TypeId} {x i : Operand} {s : ByteArray} {k : IntKind} {m : Int} [ht : StT P t] (hx : ev (lk ts) x = some (.v (.string s)))
  (hi : ev (lk ts) i = some (.v (.int k m))) (hm : 0 ≤ m ∧ m < (s.size : Int)) (hN : Nat.blt d N = true) {md' : Md} [hmd : MdA md (rO x ++ rO i) [.inl d] md'] (kk : RW P N all Q md' rest ⟨(d, .v (.int .u8 ((s[m.toNat]!).toNat : Int))) :: ts, hs, n, z0⟩) :
  RW P N all Q md (⟨some d, .index t x i, ty, pos, af, none⟩ :: rest) ⟨ts, hs, n, z0⟩ :=
 DV (b := s[m.toNat]!) hx hi ht.pf hm.1 (by rw [getElem!_pos s m.toNat (by omega), getElem?_pos s m.toNat (by omega)]) (eH hN) (by rw [hmd.pf]; exact kk)
theorem Ew {t : TypeId} {x : Operand} {lo hi : Option Operand} {s : ByteArray} {l h : Nat} [ht : StT P t] (hx : ev (lk ts) x = some (.v (.string s)))
  (hl : eS (lk ts) lo 0 = some l) (hh : eS (lk ts) hi s.size = some h) (hc : l ≤ h ∧ h ≤ s.size) (hN : Nat.blt d N = true) {md' : Md} [hmd : MdA md (rO x ++ (rB lo ++ rB hi)) [.inl d] md'] (kk : RW P N all Q md' rest ⟨(d, .v (.string (s.extract l h))) :: ts, hs, n, z0⟩) :
  RW P N all Q md (⟨some d, .slice t x lo hi none, ty, pos, af, none⟩ :: rest) ⟨ts, hs, n, z0⟩ := Dx hx ht.pf hl hh hc (eH hN) (by rw [hmd.pf]; exact kk)
theorem Gh (m : Int) (h : 0 ≤ m ∧ m ≤ 255) : IntKind.u8.wrap m = m := by
 have : IntKind.u8.wrap m = m % 256 := rfl
 rw [this]; omega
theorem I2 {t t' : TypeId} {x y : Operand} {m m' : Int} (hx : ev (lk ts) x = some (.v (.int .u8 m))) (hy : ev (lk ts) y = some (.v (.int .u8 m')))
  (h : 0 ≤ m + m' ∧ m + m' ≤ 255) (hN : Nat.blt d N = true) {md' : Md} [hmd : MdA md (rO x ++ rO y) [.inl d] md'] (kk : RW P N all Q md' rest ⟨(d, .v (.int .u8 (m + m'))) :: ts, hs, n, z0⟩) : RW P N all Q md (⟨some d, .binOp .add t x y t', ty, pos, af, none⟩ :: rest) ⟨ts, hs, n, z0⟩ :=
 fA hx hy (.inl rfl) (v := .int .u8 (m + m')) (by simp only [iC, Gh _ h]) (eH hN) (by rw [hmd.pf]; exact kk)
theorem CT {t t' : TypeId} {x y : Operand} {m m' : Int} (hx : ev (lk ts) x = some (.v (.int .u8 m))) (hy : ev (lk ts) y = some (.v (.int .u8 m')))
  (h : 0 ≤ m - m' ∧ m - m' ≤ 255) (hN : Nat.blt d N = true) {md' : Md} [hmd : MdA md (rO x ++ rO y) [.inl d] md'] (kk : RW P N all Q md' rest ⟨(d, .v (.int .u8 (m - m'))) :: ts, hs, n, z0⟩) : RW P N all Q md (⟨some d, .binOp .sub t x y t', ty, pos, af, none⟩ :: rest) ⟨ts, hs, n, z0⟩ :=
 fA hx hy (.inl rfl) (v := .int .u8 (m - m')) (by simp only [iC, Gh _ h]) (eH hN) (by rw [hmd.pf]; exact kk)
theorem Ai {s t : TypeId} {x : Operand} {k' : IntKind} {m : Int} [hd : InT P t .u8] [hs' : InT P s k'] (hx : ev (lk ts) x = some (.v (.int k' m))) (h : 0 ≤ m ∧ m ≤ 255) (hN : Nat.blt d N = true) {md' : Md} [hmd : MdA md (rO x) [.inl d] md'] (kk : RW P N all Q md' rest ⟨(d, .v (.int .u8 m)) :: ts, hs, n, z0⟩) :
  RW P N all Q md (⟨some d, .convert s t x, ty, pos, af, none⟩ :: rest) ⟨ts, hs, n, z0⟩ := C7 hx hd.pf hs'.pf (eH hN) (by rw [hmd.pf, Gh _ h]; exact kk)
end
theorem pY (n : Int) : (Fg .empty [n]).size = 1 := rfl
theorem rI {a b : ByteArray} (h : a.size + b.size ≤ 9000000000000000000) : HJ .add a b = some (.string (a ++ b)) := if_pos h
end Go.AL

namespace Go.AL
def Hx (l : List Int) : ByteArray := l.foldl (fun r n => r.push (UInt8.ofNat n.toNat)) .empty
def iJ (v : Int) : ByteArray := Hx [97 + v]
def B1 (n : Int) : ByteArray := Hx [48 + n] ++ .empty
theorem pA (l : List UInt8) : ByteArray.size ⟨l.toArray⟩ = l.length := rfl
theorem nF (v : Int) : (iJ v).size = 1 := rfl
theorem nC (v : Int) : (B1 v).size = 1 := by simp [B1, Hx, ByteArray.size_append]
def qG (out : ByteArray) (k : Nat) (t : ByteArray) : ByteArray := (if 0 < k then out ++ ⟨#[59]⟩ else out) ++ t
mutual
def lV : Stmt → ByteArray
 | .mk op x y n th el =>
  if op = 1 then (iJ x ++ ⟨#[61]⟩) ++ B1 n
  else if op = 2 then (iJ x ++ ⟨#[61, 98, 111, 120, 32]⟩) ++ B1 n
  else if op = 3 then (iJ x ++ ⟨#[61]⟩) ++ iJ y
  else if op = 4 then (iJ x ++ ⟨#[61, 38]⟩) ++ iJ y
  else if op = 5 then (iJ x ++ ⟨#[61, 38, 109, 117, 116, 32]⟩) ++ iJ y
  else if op = 6 then (iJ x ++ ⟨#[61, 42]⟩) ++ iJ y
  else if op = 7 then ((⟨#[42]⟩ ++ iJ x) ++ ⟨#[61]⟩) ++ iJ y
  else if op = 8 then ⟨#[100, 114, 111, 112, 32]⟩ ++ iJ x
  else if op = 10 then (⟨#[108, 111, 111, 112, 123]⟩ ++ lY .empty 0 th) ++ ⟨#[125]⟩
  else (((⟨#[105, 102, 123]⟩ ++ lY .empty 0 th) ++ ⟨#[125, 123]⟩) ++ lY .empty 0 el) ++ ⟨#[125]⟩
def lY (out : ByteArray) (k : Nat) : List Stmt → ByteArray
 | [] => out
 | s :: l => lY (qG out k (lV s)) (k + 1) l
end
def j8 (l : List Stmt) : ByteArray := lY .empty 0 l
theorem uI : ∀ (l : List Stmt) (out : ByteArray) (k : Nat) (s : Stmt), lY out k (l ++ [s]) = qG (lY out k l) (k + l.length) (lV s)
 | [], out, k, s => by simp only [List.nil_append, lY, List.length_nil, Nat.add_zero]
 | x :: l, out, k, s => by
  simp only [List.cons_append, lY, uI l, List.length_cons]
  rw [show k + 1 + l.length = k + (l.length + 1) from by omega]
theorem uZ (l : List Stmt) (k : Nat) (h : k < l.length) : j8 (l.take (k + 1)) = qG (j8 (l.take k)) k (lV l[k]!) := by
 rw [cX _ _ h, j8, uI, List.length_take, Nat.min_eq_left (by omega), Nat.zero_add]; rfl
theorem DM (s : Stmt) : lV s = 
  if s.op = 1 then (iJ s.x ++ ⟨#[61]⟩) ++ B1 s.n
  else if s.op = 2 then (iJ s.x ++ ⟨#[61, 98, 111, 120, 32]⟩) ++ B1 s.n
  else if s.op = 3 then (iJ s.x ++ ⟨#[61]⟩) ++ iJ s.y
  else if s.op = 4 then (iJ s.x ++ ⟨#[61, 38]⟩) ++ iJ s.y
  else if s.op = 5 then (iJ s.x ++ ⟨#[61, 38, 109, 117, 116, 32]⟩) ++ iJ s.y
  else if s.op = 6 then (iJ s.x ++ ⟨#[61, 42]⟩) ++ iJ s.y
  else if s.op = 7 then ((⟨#[42]⟩ ++ iJ s.x) ++ ⟨#[61]⟩) ++ iJ s.y
  else if s.op = 8 then ⟨#[100, 114, 111, 112, 32]⟩ ++ iJ s.x
  else if s.op = 10 then (⟨#[108, 111, 111, 112, 123]⟩ ++ j8 s.th) ++ ⟨#[125]⟩
  else (((⟨#[105, 102, 123]⟩ ++ j8 s.th) ++ ⟨#[125, 123]⟩) ++ j8 s.el) ++ ⟨#[125]⟩ := by
 cases s; rw [lV]; rfl
mutual
theorem tV : ∀ s, (lV s).size + 1 ≤ 11 * dR s
 | .mk op x y n th el => by
  have h1 := lG th .empty 0
  have h2 := lG el .empty 0
  have h3 : ByteArray.size .empty = 0 := rfl
  rw [lV]
  simp only [dR]
  repeat' split
  all_goals simp only [ByteArray.size_append, pA, List.length_cons, List.length_nil, nF, nC]
  all_goals omega
theorem lG : ∀ (l : List Stmt) (out : ByteArray) (k : Nat), (lY out k l).size ≤ out.size + 11 * bX l
 | [], out, k => by simp only [lY, bX]; omega
 | s :: l, out, k => by
  have h1 := tV s
  have h2 := lG l (qG out k (lV s)) (k + 1)
  have h3 : (qG out k (lV s)).size ≤ out.size + 1 + (lV s).size := by
   unfold qG; split <;> simp only [ByteArray.size_append, pA, List.length_cons, List.length_nil] <;> omega
  simp only [lY, bX]
  omega
end
theorem lN (l : List Stmt) : (j8 l).size ≤ 11 * bX l := by
 have := lG l .empty 0
 have h3 : ByteArray.size .empty = 0 := rfl
 unfold j8; omega
theorem Dz {ts : List Int} {s : Stmt} (ht : dE ts = true) (h : eX ts s = true) : 1 ≤ s.op ∧ s.op ≤ 8 ∧ 0 ≤ s.x ∧ s.x ≤ 5 ∧ 0 ≤ s.y ∧ s.y ≤ 5 ∧ (s.op = 1 ∨ s.op = 2 → 0 ≤ s.n ∧ s.n ≤ 9) := by
 have hl := gX ht
 have hx := lQ ht s.x
 have hy := lQ ht s.y
 unfold eX at h
 dsimp only at h
 repeat' split at h
 all_goals (first | (simp only [decide_eq_true_eq] at h; omega) | (simp at h; done))
end Go.AL

namespace Go.AL
structure IsOk (nt np : Nat) (x : Iss) : Prop where
 p0 : 0 ≤ x.point
 p1 : x.point < np
 k : (x.kind = 1 ∧ 0 ≤ x.with_ ∧ x.with_ < nt) ∨ ((x.kind = 2 ∨ x.kind = 3) ∧ 0 ≤ x.with_ ∧ x.with_ < np)
theorem Lm {ts : List Int} {pts : List Pnt} {Aa : List Nat} {cf : List Bool} {i : Nat} (hi : i < pts.length) : ∀ x ∈ J3 ts pts Aa cf i, IsOk ts.length pts.length x ∧ x.point = i := by
 intro x hx
 unfold J3 at hx
 rcases List.mem_append.1 hx with h | h
 ·obtain ⟨v, hv, rfl⟩ := List.mem_map.1 h
  have hv2 := List.mem_range.1 (List.mem_filter.1 hv).1
  exact ⟨⟨by dsimp only; omega, by dsimp only; omega, .inl ⟨rfl, by dsimp only; omega, by dsimp only; omega⟩⟩, rfl⟩
 ·obtain ⟨v, hv, rfl⟩ := List.mem_map.1 h
  have hv2 := List.mem_range.1 (List.mem_filter.1 hv).1
  refine ⟨⟨by dsimp only; omega, by dsimp only; omega, .inr ⟨?_, by dsimp only; omega, by dsimp only; omega⟩⟩, rfl⟩
  show MB pts v = 2 ∨ MB pts v = 3
  unfold MB; split <;> simp
theorem CP {ts : List Int} {pts : List Pnt} (w : WG ts pts) (f : Flows ts pts) : ∀ n, n ≤ pts.length →
  (∀ x ∈ qZ ts pts f.Aa f.Am f.Al f.Af f.Ap n, IsOk ts.length pts.length x ∧ x.point < n) ∧ (qZ ts pts f.Aa f.Am f.Al f.Af f.Ap n).Pairwise (fun a b => a.point ≤ b.point)
 | 0, _ => by
  have : qZ ts pts f.Aa f.Am f.Al f.Af f.Ap 0 = [] := rfl
  rw [this]
  exact ⟨fun x h => by simp at h, List.Pairwise.nil⟩
 | n + 1, h => by
  obtain ⟨h1, h2⟩ := CP w f n (by omega)
  have h3 := Lm (ts := ts) (pts := pts) (Aa := f.Aa) (cf := Lu ts pts f.Am f.Al f.Af f.Ap n) (i := n) (by omega)
  rw [Gq w f (by omega)] at h3
  rw [pM]
  refine ⟨fun x hx => ?_, List.pairwise_append.2 ⟨h2, ?_, fun a ha b hb => ?_⟩⟩
  ·rcases List.mem_append.1 hx with hx | hx
   ·exact ⟨(h1 x hx).1, by have := (h1 x hx).2; omega⟩
   ·exact ⟨(h3 x hx).1, by have := (h3 x hx).2; omega⟩
  ·refine List.pairwise_iff_getElem.2 fun i j hi hj _ => ?_
   have a1 := (h3 _ (List.getElem_mem hi)).2
   have a2 := (h3 _ (List.getElem_mem hj)).2
   omega
  ·have a1 := (h1 a ha).2
   have a2 := (h3 b hb).2
   omega
theorem Kl {ts : List Int} {pts : List Pnt} (w : WG ts pts) (f : Flows ts pts) : (∀ k, k < f.iss.length → IsOk ts.length pts.length f.iss[k]!) ∧ (∀ k, k + 1 < f.iss.length → f.iss[k]!.point ≤ f.iss[k + 1]!.point) := by
 obtain ⟨h1, h2⟩ := CP w f pts.length (Nat.le_refl _)
 refine ⟨fun k hk => (h1 _ (cM _ k hk)).1, fun k hk => ?_⟩
 rw [cT _ _ hk, cT _ k (by omega)]
 exact List.pairwise_iff_getElem.1 h2 k (k + 1) (Nat.lt_of_succ_lt hk) hk (Nat.lt_succ_self k)
theorem Jl (ts : List Int) (pts : List Pnt) (Aa : List Nat) (cf : List Bool) (i : Nat) : (J3 ts pts Aa cf i).length ≤ ts.length + pts.length := by
 unfold J3
 rw [List.length_append, List.length_map, List.length_map]
 have h1 := List.length_filter_le (Mw ts pts Aa i) (List.range ts.length)
 have h2 := List.length_filter_le (fun (l : Nat) => cf[l]!) (List.range pts.length)
 rw [List.length_range] at h1 h2
 omega
theorem C6 {ts : List Int} {pts : List Pnt} (w : WG ts pts) (f : Flows ts pts) : ∀ n, n ≤ pts.length → (qZ ts pts f.Aa f.Am f.Al f.Af f.Ap n).length ≤ n * (ts.length + pts.length)
 | 0, _ => by simp [qZ]
 | n + 1, h => by
  have h1 := C6 w f n (by omega)
  have h2 := Jl ts pts f.Aa (Lu ts pts f.Am f.Al f.Af f.Ap n) n
  rw [Gq w f (by omega)] at h2
  rw [pM, List.length_append, Nat.succ_mul]
  omega
theorem FD {ts : List Int} {pts : List Pnt} (w : WG ts pts) (f : Flows ts pts) : f.iss.length ≤ 100000 := by
 have h := C6 w f pts.length (Nat.le_refl _)
 have h1 := w.tl
 have h2 := w.pl
 have h3 : pts.length * (ts.length + pts.length) ≤ 61 * 67 := Nat.mul_le_mul (by omega) (by omega)
 exact Nat.le_trans h (Nat.le_trans h3 (by decide))
end Go.AL

namespace Go.AL
end Go.AL

namespace Go.AL
theorem lJ {A n : Nat} (hv : ∀ v, A.testBit v = true → v < n) : A < 2 ^ n := Nat.lt_pow_two_of_testBit _ fun v h => by
 cases hq : Nat.testBit _ v with
 | false => rfl
 | true => have := hv v hq; omega
theorem lR {A n : Nat} (hn : n ≤ 62) (hv : A < 2 ^ n) : Sm A := ⟨Nat.lt_of_lt_of_le hv (Nat.pow_le_pow_right (by decide) hn)⟩
structure FB (ts : List Int) (pts : List Pnt) (f : Flows ts pts) : Prop where
 la : f.Aa.length = pts.length
 lm : f.Am.length = pts.length
 ln : f.An.length = pts.length
 ll : f.Al.length = pts.length
 lp : f.Ap.length = pts.length
 bA : ∀ i : Nat, f.Aa[i]! < 2 ^ ts.length
 bM : ∀ i : Nat, f.Am[i]! < 2 ^ ts.length
 bN : ∀ i : Nat, f.An[i]! < 2 ^ ts.length
 bL : ∀ i : Nat, f.Al[i]! < 2 ^ ts.length
 bP : ∀ i : Nat, f.Ap[i]! < 2 ^ pts.length
 sA : ∀ i : Nat, Sm f.Aa[i]!
 sM : ∀ i : Nat, Sm f.Am[i]!
 sN : ∀ i : Nat, Sm f.An[i]!
 sL : ∀ i : Nat, Sm f.Al[i]!
 sP : ∀ i : Nat, Sm f.Ap[i]!
 rl : ∀ i, i < pts.length → (fP f.Af i).length = 6
 rs : ∀ i, i < pts.length → ∀ z : Nat, Sm (fP f.Af i)[z]!
 af : ∀ i, i < pts.length → Iy pts f.An i = f.Al[i]!
 kp : ∀ i, i < pts.length → vR ts pts[i]! f.Al[i]! (fP f.Af i) < 2 ^ pts.length
 lo : ∀ i, i < pts.length → vR ts pts[i]! f.Al[i]! (fP f.Af i) &&& f.Ap[i]! < 2 ^ pts.length
 cf : ∀ i, i < pts.length → Eg ts pts f.Am f.Al f.Af f.Ap i < 2 ^ pts.length
theorem Flows.bnd {ts : List Int} {pts : List Pnt} (f : Flows ts pts) (w : WG ts pts) : FB ts pts f := by
 have hpl := w.pl
 have htl := w.tl
 have off : ∀ {A : List Nat} {n : Nat} {i : Nat}, A.length = pts.length → ¬ i < pts.length → A[i]! < 2 ^ n := fun {A n i} h hi => by
  rw [getElem!_neg A i (by omega)]; exact Nat.pow_pos (by decide)
 have bA : ∀ i : Nat, f.Aa[i]! < 2 ^ ts.length := fun i => by
  by_cases hi : i < pts.length
  ·exact lJ fun v hv => ((f.ga.2 i hi v).1 hv).1
  ·exact off f.ga.1 hi
 have bM : ∀ i : Nat, f.Am[i]! < 2 ^ ts.length := fun i => by
  by_cases hi : i < pts.length
  ·exact lJ fun v hv => FQ w ((f.gm.2 i hi v).1 hv)
  ·exact off f.gm.1 hi
 have bN : ∀ i : Nat, f.An[i]! < 2 ^ ts.length := fun i => by
  by_cases hi : i < pts.length
  ·exact lJ fun v hv => sS w ((f.gn.2 i hi v).1 hv)
  ·exact off f.gn.1 hi
 have bL : ∀ i : Nat, f.Al[i]! < 2 ^ ts.length := fun i => by
  by_cases hi : i < pts.length
  ·exact lJ fun v hv => by obtain ⟨k, _, h⟩ := (f.gl.2 i hi v).1 hv; exact sS w h
  ·exact off f.gl.1 hi
 have bP : ∀ i : Nat, f.Ap[i]! < 2 ^ pts.length := fun i => by
  by_cases hi : i < pts.length
  ·exact lJ fun v hv => (uT ((f.gp.2 i hi v).1 hv)).1
  ·exact off f.gp.1 hi
 have rs : ∀ i, i < pts.length → ∀ z : Nat, (fP f.Af i)[z]! < 2 ^ pts.length := fun i hi z => by
  by_cases hz : z < 6
  ·rw [iG f.gf.1 hi hz]
   exact lJ fun v hv => (Ab w ((f.gf.2 i z hi hz v).1 hv)).2.2
  ·rw [getElem!_neg _ z (by rw [iF f.gf.1 hi]; exact hz)]; exact Nat.pow_pos (by decide)
 have kp : ∀ i, i < pts.length → vR ts pts[i]! f.Al[i]! (fP f.Af i) < 2 ^ pts.length := fun i hi => lJ fun v hv => by
  unfold vR at hv
  rw [jG] at hv
  rcases hv with hv | ⟨z, hz, hv⟩
  ·simp at hv
  ·exact eA (rs i hi _) hv
 have lo : ∀ i, i < pts.length → vR ts pts[i]! f.Al[i]! (fP f.Af i) &&& f.Ap[i]! < 2 ^ pts.length := fun i hi => Nat.and_lt_two_pow _ (bP i)
 refine ⟨f.ga.1, f.gm.1, f.gn.1, f.gl.1, f.gp.1, bA, bM, bN, bL, bP, fun i => lR (by omega) (bA i), fun i => lR (by omega) (bM i), fun i => lR (by omega) (bN i), fun i => lR (by omega) (bL i), fun i => lR (by omega) (bP i),
  fun i hi => iF f.gf.1 hi, fun i hi z => lR (by omega) (rs i hi z), fun i hi => ?_, kp, lo, fun i hi => BV w (bP i)⟩
 rw [w7 f.gl (AX w f.gn), fO _ _ _ hi]
end Go.AL

namespace Go.AL
def z6 (pts : List Pnt) (l : Nat) (c : Acc) : Bool := decide (c.var = pts[l]!.y) && (c.write || decide (pts[l]!.op = 5))
theorem Gu {ts : List Int} {pts : List Pnt} (w : WG ts pts) (f : Flows ts pts) {i l : Nat} (hi : i < pts.length) (hl : l < pts.length) (hln : fG pts[l]! = true) :
  (Eg ts pts f.Am f.Al f.Af f.Ap i).testBit l = ((kE ts pts[i]! (f.Am[i]!.testBit (bT pts[i]!).toNat)).any (z6 pts l) && ((vR ts pts[i]! f.Al[i]! (fP f.Af i)).testBit l && f.Ap[i]!.testBit l)) := by
 have b := f.bnd w
 have hpl := w.pl
 have hy := yW w hl hln
 rw [Bool.eq_iff_iff]
 unfold Eg
 rw [kP _ _ _ (lR (by omega) (b.lo i hi)), Bool.and_eq_true, List.any_eq_true, ← Nat.testBit_and]
 simp only [Nat.zero_testBit, Bool.false_eq_true, false_or]
 constructor
 ·rintro ⟨c, hc, h1, h2, h3⟩
  refine ⟨⟨c, hc, ?_⟩, h1⟩
  rw [jD] at h2
  simp only [Bool.and_eq_true, decide_eq_true_eq] at h2
  have e2 := h2.2.2
  rw [Nat.testBit_two_pow, decide_eq_true_eq] at e2
  have hcv := xU _ w hi c hc
  unfold z6
  rw [decide_eq_true (by omega : c.var = pts[l]!.y)]
  rcases h3 with h3 | h3
  ·rw [h3]; rfl
  ·rw [decide_eq_true h3]; simp
 ·rintro ⟨⟨c, hc, h⟩, h1⟩
  unfold z6 at h
  simp only [Bool.and_eq_true, Bool.or_eq_true, decide_eq_true_eq] at h
  refine ⟨c, hc, h1, ?_, h.2⟩
  rw [jD, decide_eq_true hl, hln, h.1, Nat.testBit_two_pow_self]; rfl
end Go.AL

namespace Go.AL
end Go.AL

namespace Go.AL
end Go.AL

namespace Go.AL
open Go.RowKit
set_option linter.unusedVariables false
section
variable {P : Program} {C : Ctx} {ι : Pl} {F : Nat → Prop} {T : Nat → Option AV} {H : Nat → Option (List AV)} {a : Act} {w : World} {o : Oper}
theorem tB (z : Array Value) : ∀ n, (Builtin.zeroCells z n).toList = (List.replicate n z.toList).flatten := fun n => by
 have := pQ z n (n * z.size) rfl
 simpa [Builtin.zeroCells, madeCells] using this
end
section
variable {P : Program} {N : Nat} {Q : Exit → AS → Prop} {all : Array Oper} {rest : List Oper} {ts : List (Nat × AV)} {hs : List (Nat × Option (List AV))} {n : Nat} {z0 : Lo} {md : Md}
variable {d : Nat} {ty : TypeId} {pos : String} {af : Array Edge}
end
theorem Le.cut {ts : List (Nat × AV)} {hs : List (Nat × Option (List AV))} {n : Nat} {z0 : Lo} {i : Nat} {cs : List AV} (k : Nat) (hi : cO hs i = some cs) :
  Le ⟨ts, hs, n, z0⟩ ⟨ts, (i, some (cs.take k)) :: hs, n, z0⟩ := by
 rintro C a w ⟨h0, ι, g, gh⟩
 have hσ : ∀ id c, cO ((i, some (cs.take k)) :: hs) id = some c → ∃ c0, cO hs id = some c0 ∧ (c = c0 ∨ c = c0.take k) := by
  intro id c h
  rw [gM] at h
  split at h
  ·rename_i e; subst e; cases h; exact ⟨cs, hi, .inr rfl⟩
  ·exact ⟨c, h, .inl rfl⟩
 have car : Carry w (bF C.X ι (cO hs)) ι w (bF C.X ι (cO ((i, some (cs.take k)) :: hs))) ι := by
  refine ⟨fun b o' x h1 h2 => ⟨?_, h2⟩, fun _ _ h => h, fun _ => Nat.le_refl _⟩
  rintro (h | ⟨id, c, β, q1, q2⟩)
  ·exact h1 (.inl h)
  ·obtain ⟨c0, r, _⟩ := hσ id c q1
   exact h1 (.inr ⟨id, c0, β, r, q2⟩)
 refine ⟨h0, ι, ⟨g.df, g.sz, fun t av ht => ?_⟩, ⟨fun id c h => ?_, fun id id' c c' b β β' q1 q2 q3 q4 => ?_, gh.fr, gh.ex, gh.fresh⟩⟩
 ·obtain ⟨y, hy, hr⟩ := g.tm t av ht
  exact ⟨y, hy, Rd.carry car _ _ hr⟩
 ·obtain ⟨c0, r, e⟩ := hσ id c h
  rcases gh.obj id c0 r with ⟨h1, h2⟩ | ⟨b', β', arr', e', h1, h2, h3, h4, h5, h6⟩
  ·refine .inl ⟨h1, ?_⟩
   rcases e with e | e
   ·rw [e, h2]
   ·rw [e, h2]; simp
  ·refine .inr ⟨b', β', arr', e', h1, h2, ?_, ?_, h5, h6⟩
   ·rcases e with e | e
    ·rw [e]; exact h3
    ·rw [e, List.length_take]; omega
   ·have h7 := RdC.carryB car _ _ _ (fun o x hx => hx) h4
    rcases e with e | e
    ·rw [e]; exact h7
    ·rw [e]; exact RdC.take k h7
 ·obtain ⟨_, r1, _⟩ := hσ id c q1
  obtain ⟨_, r2, _⟩ := hσ id' c' q2
  exact gh.sep _ _ _ _ _ _ _ r1 r2 q3 q4
section
variable {P : Program} {N : Nat} {Q : Exit → AS → Prop} {all : Array Oper} {rest : List Oper} {ts : List (Nat × AV)} {hs : List (Nat × Option (List AV))} {n : Nat} {z0 : Lo}
variable {d : Nat} {ty : TypeId} {pos : String} {af : Array Edge}
theorem jJ {fn : Go.Fn} {cs : Array Operand} {i : Nat} {cc c : List AV} (t : Nat) (hx : lk ts t = some (.optr i 0)) (hH : cO hs i = some cc) (hc : evL (lk ((t, .iptr cc) :: ts)) cs.toList = some c) (hN : Nat.blt d N = true)
  (kk : RW P N all Q .txt rest ⟨(d, .clos fn [] c) :: (t, .iptr cc) :: ts, (i, none) :: hs, n, z0⟩) : RW P N all Q .txt (⟨some d, .makeFunc fn #[] cs, ty, pos, af, none⟩ :: rest) ⟨ts, hs, n, z0⟩ :=
 jM (gZ (f := []) (c := c) rfl hc hN (md' := .txt) kk) (Le.frzP hx hH)
end
section
variable {P : Program} {N : Nat} {Q : Exit → AS → Prop} {all : Array Oper} {rest : List Oper} {ts : List (Nat × AV)} {hs : List (Nat × Option (List AV))} {n : Nat} {z0 : Lo} {md : Md}
variable {d : Nat} {ty : TypeId} {pos : String} {af : Array Edge}
end
end Go.AL

namespace Go.AL
theorem BA {ts : List Int} {v : Int} (h : 0 < gI ts v) : gI ts v = ts[v.toNat]! := by
 unfold gI at h ⊢
 split at h
 ·rename_i c; rw [if_pos c]
 ·omega
end Go.AL

namespace Go.AL
open Go.RowKit
set_option linter.unusedVariables false
set_option linter.unusedSimpArgs false
end Go.AL

namespace Go.AL
open Go.RowKit
set_option linter.unusedVariables false
set_option linter.unusedSimpArgs false
section
variable {P : Program} {C : Ctx} {ι : Pl} {T : Nat → Option AV} {F : Nat → Prop} {H : Nat → Option (List AV)} {a : Act} {w : World} {o : Oper}
theorem qQ (g : TG C ι T H a w) {lo hi : Option Operand} {mx : Operand} {n cap l h m : Nat} (hl : eS T lo 0 = some l) (hh : eS T hi n = some h) (hm : eS T (some mx) n = some m) (his : hi.isSome = true) (hlh : l ≤ h) (hn : h ≤ m) (hc : m ≤ cap) :
  (Instr.sliceBounds true n cap (lo.map a.eval) (hi.map a.eval) (some (a.eval mx))).run P w = .ok (l, h, m) w := by
 have hl2 : (l : Int) ≤ (h : Int) := by omega
 have hm2 : (m : Int) ≤ (cap : Int) := by omega
 have hh2 : (h : Int) ≤ (m : Int) := by omega
 obtain ⟨x3, k3, e3, hx3⟩ : ∃ x k, some mx = some x ∧ a.eval x = .int k (m : Int) := by
  rcases n6 g hm with ⟨e, _⟩ | h
  ·cases e
  ·exact h
 cases e3
 rcases n6 g hl with ⟨rfl, rfl⟩ | ⟨x, k, rfl, hx⟩ <;> rcases n6 g hh with ⟨rfl, rfl⟩ | ⟨y, k', rfl, hy⟩ <;> first | (cases his; done) | simp [Instr.sliceBounds, Instr.sliceBound, asIntOf, *]
theorem AR (g : TG C ι T H a w) {lo hi : Option Operand} {n cap l h : Nat} (hl : eS T lo 0 = some l) (hh : eS T hi n = some h) (hlh : l ≤ h) (hn : h ≤ cap) (hc : n ≤ cap) :
  (Instr.sliceBounds true n cap (lo.map a.eval) (hi.map a.eval) none).run P w = .ok (l, h, cap) w := by
 have hc2 : (h : Int) ≤ (cap : Int) := by omega
 have hl2 : (l : Int) ≤ (h : Int) := by omega
 rcases n6 g hl with ⟨rfl, rfl⟩ | ⟨x, k, rfl, hx⟩ <;> rcases n6 g hh with ⟨rfl, rfl⟩ | ⟨y, k', rfl, hy⟩ <;>
  simp [Instr.sliceBounds, Instr.sliceBound, asIntOf, *]
theorem EA (g : TG C ι T H a w) {t el : TypeId} {x mx : Operand} {lo hi : Option Operand} {id off n e l h m : Nat} (ho : o.op = .slice t x lo hi (some mx)) (hx : ev T x = some (.own id off n e))
  (ht : kC P t = some el) (he : gB P el = some e) (his : hi.isSome = true) (hl : eS T lo 0 = some l) (hh : eS T hi n = some h) (hm : eS T (some mx) n = some m) (hc : l ≤ h ∧ h ≤ m ∧ m ≤ n) : Pu P C ι H a w o (.own id (off + l * e) (h - l) e) := by
 have h1 := c9 g hx
 have hu := gS ht
 simp only [Rd] at h1
 rcases h1 with ⟨⟨p, h1⟩, rfl, a', h3⟩ | ⟨b, β, c, h1, h3, h4, h5⟩
 ·have hr := qQ (P := P) (w := w) (cap := 0) g hl hh hm his hc.1 hc.2.1 hc.2.2
  have e1 : m = 0 := by omega
  have e2 : h = 0 := by omega
  have e3 : l = 0 := by omega
  subst e1 e2 e3
  refine ⟨.slice a' 0 0, ?_, ?_⟩
  ·simp [execOp, ho, h3, Instr.sliceAt, c8 hu, Instr.slice, hr, e6 he]
  ·simp only [Rd]; exact .inl ⟨⟨p, h1⟩, by simp, a', rfl⟩
 ·have hr := qQ (P := P) (w := w) (cap := c) g hl hh hm his hc.1 hc.2.1 (by omega)
  by_cases h0 : m = l
  ·have e1 : h = l := by omega
   subst e1 h0
   refine ⟨.slice (some ⟨b, β + off, none⟩) 0 0, ?_, ?_⟩
   ·simp [execOp, ho, h3, Instr.sliceAt, c8 hu, Instr.slice, hr, e6 he]
   ·simp only [Rd]; exact .inl ⟨⟨_, h1⟩, by simp, some ⟨b, β + off, none⟩, by simp⟩
  ·refine ⟨.slice (some ⟨b, β + (off + l * e), none⟩) (h - l) (m - l), ?_, ?_⟩
   ·simp [execOp, ho, h3, Instr.sliceAt, c8 hu, Instr.slice, hr, e6 he, h0, Addr.add_lit, Nat.add_assoc]
   ·simp only [Rd]
    refine .inr ⟨b, β, m - l, h1, rfl, by omega, ?_⟩
    rw [Nat.sub_mul]
    have q1 : l * e ≤ m * e := Nat.mul_le_mul_right _ (by omega)
    have q2 : m * e ≤ c * e := Nat.mul_le_mul_right _ (by omega)
    omega
theorem DG (g : TG C ι T H a w) {t el : TypeId} {x : Operand} {hi : Option Operand} {id off n e h : Nat} (ho : o.op = .slice t x none hi none) (hx : ev T x = some (.own id off n e))
  (ht : kC P t = some el) (he : gB P el = some e) (hh : eS T hi n = some h) (hc : h ≤ n) (h0 : 0 < n) : Pu P C ι H a w o (.ownc id off h n e) := by
 have h1 := c9 g hx
 have hu := gS ht
 simp only [Rd] at h1
 rcases h1 with ⟨_, rfl, _⟩ | ⟨b, β, c, h1, h3, h4, h5⟩
 ·omega
 ·have hr := iO (P := P) (w := w) (is := true) (cap := c) g (lo := none) rfl hh (Nat.zero_le _) hc h4
  refine ⟨.slice (some ⟨b, β + off, none⟩) h c, ?_, ?_⟩
  ·have hr' : (Instr.sliceBounds true n c none (hi.map a.eval) none).run P w = .ok (0, h, c) w := hr
   simp [execOp, ho, h3, Instr.sliceAt, c8 hu, Instr.slice, hr', e6 he, Addr.add_lit]
  ·simp only [Rd]; exact ⟨b, β, c, h1, rfl, hc, h4, h5⟩
theorem B8 (g : TG C ι T H a w) {t el : TypeId} {x : Operand} {lo hi : Option Operand} {id off n k e l h : Nat} (ho : o.op = .slice t x lo hi none) (hx : ev T x = some (.ownc id off n k e))
  (ht : kC P t = some el) (he : gB P el = some e) (hl : eS T lo 0 = some l) (hh : eS T hi n = some h) (hc : l < h ∧ h ≤ k) : Pu P C ι H a w o (.own id (off + l * e) (h - l) e) := by
 have h1 := c9 g hx
 have hu := gS ht
 simp only [Rd] at h1
 obtain ⟨b, β, c, h1, h3, h4, h4', h5⟩ := h1
 have hr := AR (P := P) (w := w) (cap := c) g hl hh (by omega) (by omega) (by omega)
 refine ⟨.slice (some ⟨b, β + (off + l * e), none⟩) (h - l) (c - l), ?_, ?_⟩
 ·simp [execOp, ho, h3, Instr.sliceAt, c8 hu, Instr.slice, hr, e6 he, show ¬ c = l from by omega, Addr.add_lit, Nat.add_assoc]
 ·simp only [Rd]
  refine .inr ⟨b, β, c - l, h1, rfl, by omega, ?_⟩
  rw [Nat.sub_mul]
  have : l * e ≤ c * e := Nat.mul_le_mul_right _ (by omega)
  omega
theorem IM (g : TG C ι T H a w) {t : TypeId} {x : Operand} {ts : Array TypeId} {el : TypeId} {id off n k e : Nat} (ho : o.op = .call ⟨.builtin .len, #[x], ts⟩) (hts : ts[0]? = some t) (hx : ev T x = some (.ownc id off n k e))
  (ht : kC P t = some el) : Pu P C ι H a w o (.v (.int .i64 n)) := by
 have h1 := c9 g hx
 have hu := gS ht
 simp only [Rd] at h1
 obtain ⟨b, β, c, h1, h3, h4, h4', h5⟩ := h1
 refine ⟨.int .i64 n, ?_, by simp only [Rd]⟩
 simp [execOp, ho, resolve, invoke, builtin, Builtin.len_, hts, h3, c8 hu, goInt]
theorem A1 (gh : HG C ι F H w) {t el : TypeId} {x y : Operand} {id off n m k e : Nat} {av : AV} {cs new : List AV} {zs : List Value}
  (ho : o.op = .call ⟨.builtin .append, #[x, y], #[t, t]⟩) (hx : Rd w (bF C.X ι H) ι (.ownc id off n k e) (a.eval x)) (hy : Rd w (bF C.X ι H) ι av (a.eval y))
  (ht : kC P t = some el) (he : gB P el = some e) (hz : nY P el = some zs)
  (hH : H id = some cs) (hs : sCells H e (pI av) = some (m, new)) (hk : n + m ≤ k) (hl : off + n * e + new.length ≤ cs.length) :
  Ef P C ι F H a w o (.ownc id off (n + m) k e) (fJ H id (some (hO cs (off + n * e) new))) := by
 obtain ⟨i, z, h1, h2, h3, h4⟩ := nP hz
 have hu := gS ht
 have hsz := uV he h1
 obtain ⟨ad, c2, l, hy2, hll, hrl, hcell, had⟩ := pN gh (l0 hy) hs
 simp only [Rd] at hx
 obtain ⟨b, β, c, p1, p2, p3, p4, p5⟩ := hx
 have hlenx : (Builtin.lenOf (a.eval y)).run P w = .ok m w := by rw [hy2]; rfl
 have hnew : (Builtin.firstCells i.size m (a.eval y)).run P w = .ok l.toArray w := by
  rw [hy2]
  rcases had with ⟨b, o', rfl⟩ | h0
  ·rw [hsz]; exact oA hll (hcell b o' rfl) w (fun _ => rfl) m
  ·subst h0
   have : l = [] := List.eq_nil_of_length_eq_zero (by simpa using hll)
   subst this
   cases ad with
   | none => rfl
   | some ad => simp [Builtin.firstCells, loadCells, loadCellsFrom]
 obtain ⟨w', q1, q2, q3⟩ := uM (P := P) gh hH p1 hl hrl
 have hroom : n + m ≤ c := by omega
 have hst : (storeCells ⟨b, β + off + n * i.size, none⟩ l).run P w = .ok () w' := by rw [hsz, Nat.add_assoc]; exact q1
 have hr : (Builtin.append_ #[t, t] o.type #[a.eval x, a.eval y]).run P w = .ok (.slice (some ⟨b, β + off, none⟩) (n + m) c) w' := by
  rw [p2]
  simp [Builtin.append_, c8 hu, sizeOf, typeInfo, h1, hlenx, hroom, hnew, Addr.add_lit, hst]
 refine ⟨_, .slice (some ⟨b, β + off, none⟩) (n + m) c, ι, w', ?_, .inl ⟨rfl, ?_⟩, q2, q3⟩
 ·simp [execOp, ho, resolve, invoke, builtin, hr]
 ·simp only [Rd]
  exact ⟨b, β, c, p1, rfl, hk, p4, Nat.le_trans p5 (q3.bs b)⟩
theorem AU {bad : Nat → Prop} {zs : List Value} (h : zs.all (·.oneCell') = true) : ∀ n, RdL w bad ι (List.replicate n (zs.map AV.v)).flatten (List.replicate n zs).flatten
 | 0 => by simp [RdL]
 | n + 1 => by
  rw [List.replicate_succ, List.replicate_succ, List.flatten_cons, List.flatten_cons]
  exact RdL.append (tP h) (AU h n)
theorem EY (gh : HG C ι F H w) {t el : TypeId} {x : Operand} {id off n e : Nat} {cs : List AV} {zs : List Value}
  (ho : o.op = .call ⟨.builtin .clear, #[x], #[t]⟩) (hx : Rd w (bF C.X ι H) ι (.own id off n e) (a.eval x)) (hd : o.dst = none)
  (ht : kC P t = some el) (he : gB P el = some e) (hz : nY P el = some zs) (hze : zs.length = e)
  (hH : H id = some cs) (h0 : 0 < n) (hl : off + n * e ≤ cs.length) :
  Ef P C ι F H a w o (.tup []) (fJ H id (some (hO cs off (List.replicate n (zs.map AV.v)).flatten))) := by
 obtain ⟨i, z, h1, h2, h3, h4⟩ := nP hz
 have hu := gS ht
 have hsz := uV he h1
 simp only [Rd] at hx
 rcases hx with ⟨_, rfl, _⟩ | ⟨b, β, c, p1, p2, p3, p4⟩
 ·omega
 have hlen : ((List.replicate n (zs.map AV.v)).flatten).length = n * e := by
  rw [List.length_flatten]; simp [hze]
 obtain ⟨w', q1, q2, q3⟩ := uM (P := P) gh hH p1 (off := off) (new := (List.replicate n (zs.map AV.v)).flatten) (by rw [hlen]; exact hl) (AU h4 n)
 have hr : (Builtin.clear_ #[t] o.type #[a.eval x]).run P w = .ok (.tuple #[]) w' := by
  rw [p2]
  cases n with
  | zero => omega
  | succ n =>
   have hzc : (Builtin.zeroCells z.cells (n + 1)).toList = (List.replicate (n + 1) zs).flatten := by rw [tB, h3]
   simp [Builtin.clear_, c8 hu, zeroValue, typeInfo, h1, h2, hzc, q1]
 refine ⟨.value (.tuple #[]), .tuple #[], ι, w', ?_, .inl ⟨rfl, ?_⟩, q2, q3⟩
 ·simp [execOp, ho, resolve, invoke, builtin, hr]
 ·simp only [Rd]; exact ⟨[], rfl, by simp [RdV]⟩
end
section
variable {P : Program} {N : Nat} {Q : Exit → AS → Prop} {all : Array Oper} {rest : List Oper} {ts : List (Nat × AV)} {hs : List (Nat × Option (List AV))} {n : Nat} {z0 : Lo} {md : Md}
variable {d : Nat} {ty : TypeId} {pos : String} {af : Array Edge}
theorem w6 {t el e : TypeId} {x hi mx : Operand} {lo : Option Operand} {id off m l h k : Nat} [ht : SlT P t el] [he : SzT P el e] (hx : ev (lk ts) x = some (.own id off m e))
  (hl : eS (lk ts) lo 0 = some l) (hh : eS (lk ts) (some hi) m = some h) (hm : eS (lk ts) (some mx) m = some k) (hc : l ≤ h ∧ h ≤ k ∧ k ≤ m) (hN : Nat.blt d N = true) {md' : Md} [hmd : MdA md (rO x ++ (rB lo ++ (rB (some hi) ++ rB (some mx)))) [.inl d] md']
  (kk : RW P N all Q md' rest ⟨(d, .own id (off + l * e) (h - l) e) :: ts, hs, n, z0⟩) : RW P N all Q md (⟨some d, .slice t x lo (some hi) (some mx), ty, pos, af, none⟩ :: rest) ⟨ts, hs, n, z0⟩ :=
 eI rfl rfl (eH hN) (fun C ι F T H a w ag g gh => EA g rfl (ag.l.ev.trans hx) ht.pf he.pf rfl (ag.r.l.bnd.trans hl) (ag.r.r.l.bnd.trans hh) (ag.r.r.r.bnd.trans hm) hc) (by rw [hmd.pf]; exact kk)
theorem wP {t el e : TypeId} {x : Operand} {hi : Option Operand} {id off m h : Nat} [ht : SlT P t el] [he : SzT P el e] (hx : ev (lk ts) x = some (.own id off m e))
  (hh : eS (lk ts) hi m = some h) (hc : h ≤ m) (h0 : 0 < m) (hN : Nat.blt d N = true) {md' : Md} [hmd : MdA md (rO x ++ rB hi) [.inl d] md']
  (kk : RW P N all Q md' rest ⟨(d, .ownc id off h m e) :: ts, hs, n, z0⟩) : RW P N all Q md (⟨some d, .slice t x none hi none, ty, pos, af, none⟩ :: rest) ⟨ts, hs, n, z0⟩ :=
 eI rfl rfl (eH hN) (fun C ι F T H a w ag g gh => DG g rfl (ag.l.ev.trans hx) ht.pf he.pf (ag.r.bnd.trans hh) hc h0) (by rw [hmd.pf]; exact kk)
theorem uB {t el e : TypeId} {x : Operand} {lo hi : Option Operand} {id off m k l h : Nat} [ht : SlT P t el] [he : SzT P el e] (hx : ev (lk ts) x = some (.ownc id off m k e))
  (hl : eS (lk ts) lo 0 = some l) (hh : eS (lk ts) hi m = some h) (hc : l < h ∧ h ≤ k) (hN : Nat.blt d N = true) {md' : Md} [hmd : MdA md (rO x ++ (rB lo ++ rB hi)) [.inl d] md']
  (kk : RW P N all Q md' rest ⟨(d, .own id (off + l * e) (h - l) e) :: ts, hs, n, z0⟩) : RW P N all Q md (⟨some d, .slice t x lo hi none, ty, pos, af, none⟩ :: rest) ⟨ts, hs, n, z0⟩ :=
 eI rfl rfl (eH hN) (fun C ι F T H a w ag g gh => B8 g rfl (ag.l.ev.trans hx) ht.pf he.pf (ag.r.l.bnd.trans hl) (ag.r.r.bnd.trans hh) hc) (by rw [hmd.pf]; exact kk)
theorem CX {t el : TypeId} {x : Operand} {l : List TypeId} {id off m k e : Nat} [ht : SlT P t el] (hx : ev (lk ts) x = some (.ownc id off m k e)) (hN : Nat.blt d N = true) {md' : Md} [hmd : MdA md (rO x) [.inl d] md']
  (kk : RW P N all Q md' rest ⟨(d, .v (.int .i64 (m : Int))) :: ts, hs, n, z0⟩) : RW P N all Q md (⟨some d, .call ⟨.builtin .len, #[x], (t :: l).toArray⟩, ty, pos, af, none⟩ :: rest) ⟨ts, hs, n, z0⟩ :=
 eI rfl rfl (eH hN) (fun C ι F T H a w ag g gh => IM g rfl (by simp) (ag.ev.trans hx) ht.pf) (by rw [hmd.pf]; exact kk)
theorem qI {t el id off m m' k e : Nat} {x y : Operand} {av : AV} {cs new cs' : List AV} {zs : List Value} [ht : SlT P t el] [he : SzT P el e] [hz : ZrT P el zs]
  (hx : ev (lk ts) x = some (.ownc id off m k e)) (hy : ev (lk ts) y = some av)
  (hH : cO hs id = some cs) (hs' : sCells (cO hs) e (pI av) = some (m', new)) (hk : m + m' ≤ k) (hl : off + m * e + new.length ≤ cs.length)
  (hcs : hO cs (off + m * e) new = cs') (hN : Nat.blt d N = true) {md' : Md} [hmd : MdA md (rO x ++ (rO y ++ ([.inr id] ++ rA av))) [.inr id, .inl d] md'] (kk : RW P N all Q md' rest ⟨(d, .ownc id off (m + m') k e) :: ts, (id, some cs') :: hs, n, z0⟩) :
  RW P N all Q md (⟨some d, .call ⟨.builtin .append, #[x, y], #[t, t]⟩, ty, pos, af, none⟩ :: rest) ⟨ts, hs, n, z0⟩ := by
 subst hcs
 exact y6 (rs := rO x ++ (rO y ++ ([.inr id] ++ rA av))) (ws := [(id, some (hO cs (off + m * e) new))]) (n' := n) (out := .ownc id off (m + m') k e) rfl (fun _ h => by cases h; exact eH hN) (Nat.le_refl n) (.inl rfl)
  (fun C ι F T H a w ag hF g gh => xJ (A1 gh rfl (c9 g (ag.l.ev.trans hx)) (c9 g (ag.r.l.ev.trans hy)) ht.pf he.pf hz.pf ((ag.r.r.l.h id (by simp)).trans hH) (ag.r.r.r.sCells.trans hs') hk hl)) (by
   show RW P N all Q (md.add (rO x ++ (rO y ++ ([.inr id] ++ rA av))) [.inr id, .inl d]) rest ⟨(d, .ownc id off (m + m') k e) :: ts, (id, some (hO cs (off + m * e) new)) :: hs, n, z0⟩
   rw [hmd.pf]; exact kk)
theorem tN {t el id off m e : Nat} {x : Operand} {cs cs' : List AV} {zs : List Value} [ht : SlT P t el] [he : SzT P el e] [hz : ZrT P el zs]
  (hx : ev (lk ts) x = some (.own id off m e)) (hze : zs.length = e) (h0 : 0 < m) (hH : cO hs id = some cs) (hl : off + m * e ≤ cs.length)
  (hcs : hO cs off (List.replicate m (zs.map AV.v)).flatten = cs') {md' : Md} [hmd : MdA md (rO x ++ [.inr id]) [.inr id] md'] (kk : RW P N all Q md' rest ⟨ts, (id, some cs') :: hs, n, z0⟩) :
  RW P N all Q md (⟨none, .call ⟨.builtin .clear, #[x], #[t]⟩, ty, pos, af, none⟩ :: rest) ⟨ts, hs, n, z0⟩ := by
 subst hcs
 exact y6 (rs := rO x ++ [.inr id]) (ws := [(id, some (hO cs off (List.replicate m (zs.map AV.v)).flatten))]) (n' := n) (out := .tup []) rfl (fun _ h => by cases h) (Nat.le_refl n) (.inl rfl)
  (fun C ι F T H a w ag hF g gh => xJ (EY gh rfl (c9 g (ag.l.ev.trans hx)) rfl ht.pf he.pf hz.pf hze ((ag.r.h id (by simp)).trans hH) h0 hl)) (by
   show RW P N all Q (md.add (rO x ++ [.inr id]) [.inr id]) rest ⟨ts, (id, some (hO cs off (List.replicate m (zs.map AV.v)).flatten)) :: hs, n, z0⟩
   rw [hmd.pf]; exact kk)
theorem Le.noroom {id off m k e : Nat} (h : lk ts d = some (.ownc id off m k e)) : Le ⟨ts, hs, n, z0⟩ ⟨(d, .own id off m e) :: ts, hs, n, z0⟩ := by
 rintro C a w ⟨hlo, ι, g1, g2⟩
 refine ⟨hlo, ι, ⟨g1.df, g1.sz, fun t av ht => ?_⟩, g2⟩
 have ht' : lk ((d, .own id off m e) :: ts) t = some av := ht
 rw [mQ] at ht'
 split at ht'
 ·rename_i q; subst q
  cases ht'
  obtain ⟨y, h1, h2⟩ := g1.tm t _ h
  refine ⟨y, h1, ?_⟩
  simp only [Rd] at h2 ⊢
  obtain ⟨b, β, c, p1, p2, p3, p4, p5⟩ := h2
  exact .inr ⟨b, β, c, p1, p2, by omega, p5⟩
 ·exact g1.tm t av ht'
end
end Go.AL

namespace Go.AL
def fF {α : Type} (k : Nat) (xs : List α) : List α := xs.take k ++ xs.drop (k + 1)
def nM (q : Prg) (k : Nat) : Prg := ⟨q.types, fF k q.body⟩
theorem eO {α : Type} {k : Nat} {xs : List α} (h : k < xs.length) : (fF k xs).length + 1 = xs.length := by
 unfold fF; rw [List.length_append, List.length_take, List.length_drop]; omega
theorem GN {α : Type} {k : Nat} {xs : List α} {x : α} (h : x ∈ fF k xs) : x ∈ xs := by
 unfold fF at h
 rcases List.mem_append.1 h with h | h
 ·exact List.mem_of_mem_take h
 ·exact List.mem_of_mem_drop h
theorem kZ : ∀ (xs : List Stmt) (k : Nat), bX (fF k xs) ≤ bX xs
 | [], k => by simp [fF, bX]
 | x :: xs, 0 => by simp [fF, bX]
 | x :: xs, k + 1 => by
  have := kZ xs k
  unfold fF at this ⊢
  simp only [List.take_succ_cons, List.drop_succ_cons, List.cons_append, bX]; omega
theorem jH {q : Prg} {k : Nat} (h : cS q = true) : cS (nM q k) = true := by
 unfold cS at h ⊢
 simp only [Bool.and_eq_true, decide_eq_true_eq] at h ⊢
 obtain ⟨⟨h1, h2⟩, h3⟩ := h
 refine ⟨⟨h1, ?_⟩, Nat.le_trans (kZ _ _) h3⟩
 rw [s9, List.all_eq_true] at h2 ⊢
 exact fun x hx => h2 x (GN hx)
theorem G7 (b : List Stmt) {i j : Nat} (h : i ≤ j) : eC (b.take i) ≤ eC (b.take j) := by
 have := qH (b.take j) i
 rwa [List.take_take, Nat.min_eq_left h] at this
structure AtS (b : List Stmt) (x : Int) (k : Nat) : Prop where
 lt : k < b.length
 lo : (eC (b.take k) : Int) ≤ x
 hi : k + 1 < b.length → x < eC (b.take (k + 1))
theorem AtS.uniq {b : List Stmt} {x : Int} {k k' : Nat} (h : AtS b x k) (h' : AtS b x k') : k = k' := by
 have key : ∀ {k k'}, AtS b x k → AtS b x k' → ¬ k < k' := fun {k k'} h h' hlt => by
  have h1 := h.hi (by have := h'.lt; omega)
  have h2 := G7 b (i := k + 1) (j := k') hlt
  have h3 := h'.lo
  omega
 have h1 := key h h'
 have h2 := key h' h
 omega
theorem AtS.ex {b : List Stmt} {x : Int} : ∀ d n, b.length - n ≤ d → n < b.length → (eC (b.take n) : Int) ≤ x → ∃ k, AtS b x k
 | 0, n, h, hn, _ => by omega
 | d + 1, n, h, hn, hx => by
  by_cases h1 : n + 1 < b.length
  ·by_cases h2 : x < eC (b.take (n + 1))
   ·exact ⟨n, hn, hx, fun _ => h2⟩
   ·exact AtS.ex d (n + 1) (by omega) h1 (by omega)
  ·exact ⟨n, hn, hx, fun h => absurd h h1⟩
inductive RepS (FI : Prg → List Iss → Prop) : Prg → List Int → List Int → Prg → List Int → Prop
 | done {q : Prg} {l m : List Int} : FI q [] → RepS FI q l m q m
 | step {q q' : Prg} {l m m' : List Int} {x : Iss} {L : List Iss} {k : Nat} : FI q (x :: L) → AtS q.body x.point k → RepS FI (nM q k) (fF k l) (m ++ [l[k]!]) q' m' → RepS FI q l m q' m'
theorem RepS.ex {FI : Prg → List Iss → Prop} (h1 : ∀ q, cS q = true → ∃ L, FI q L ∧ (∀ x ∈ L, 0 ≤ x.point) ∧ (q.body = [] → L = [])) :
  ∀ n q l m, q.body.length ≤ n → cS q = true → ∃ q' m', RepS FI q l m q' m'
 | n, q, l, m, hn, hv => by
  obtain ⟨L, hF, hp, he⟩ := h1 q hv
  cases L with
  | nil => exact ⟨q, m, .done hF⟩
  | cons x L =>
   have hne : q.body ≠ [] := fun e => by have := he e; cases this
   have hlen : 0 < q.body.length := List.length_pos_iff.2 hne
   obtain ⟨k, hk⟩ := AtS.ex (b := q.body) (x := x.point) q.body.length 0 (by omega) hlen (by have := hp x List.mem_cons_self; simpa [eC] using this)
   have hd := eO hk.lt
   cases n with
   | zero => omega
   | succ n =>
    obtain ⟨q', m', h⟩ := RepS.ex h1 n (nM q k) (fF k l) (m ++ [l[k]!]) (by show (fF k q.body).length ≤ n; omega) (jH hv)
    exact ⟨q', m', .step hF hk h⟩
theorem RepS.fin {FI : Prg → List Iss → Prop} {q q' : Prg} {l m m' : List Int} (h : RepS FI q l m q' m') : cS q = true → FI q' [] ∧ cS q' = true ∧ q'.types = q.types ∧ bX q'.body ≤ bX q.body ∧ m'.length + q'.body.length = m.length + q.body.length := by
 induction h with
 | done h => exact fun hv => ⟨h, hv, rfl, Nat.le_refl _, rfl⟩
 | @step q q' l m m' x L k _ hk _ ih =>
  intro hv
  obtain ⟨h1, h2, h3, h4, h5⟩ := ih (jH hv)
  have hd := eO hk.lt
  refine ⟨h1, h2, h3, Nat.le_trans h4 (kZ _ _), ?_⟩
  rw [h5, List.length_append, List.length_singleton]
  show m.length + 1 + (fF k q.body).length = _
  omega
theorem RepS.inv {FI : Prg → List Iss → Prop} {q q' : Prg} {l m m' : List Int} (h : RepS FI q l m q' m') : (FI q [] ∧ q' = q ∧ m' = m) ∨ ∃ x L k, FI q (x :: L) ∧ AtS q.body x.point k ∧ RepS FI (nM q k) (fF k l) (m ++ [l[k]!]) q' m' := by
 cases h with
 | done h => exact .inl ⟨h, rfl, rfl⟩
 | step h1 h2 h3 => exact .inr ⟨_, _, _, h1, h2, h3⟩
def Mz (n : Nat) (m : List Int) : List Int := ((List.range n).filter (fun (i : Nat) => decide (¬ (i : Int) ∈ m))).map (fun (i : Nat) => (i : Int))
theorem RepS.empty {FI : Prg → List Iss → Prop} {q q' : Prg} {l m' : List Int} (h : RepS FI q l [] q' m') (hv : cS q = true) : ∃ L, FI q L ∧ (m' = [] ↔ L = []) := by
 cases h with
 | done h => exact ⟨[], h, by simp⟩
 | @step _ _ _ _ _ x L k hF hk hr =>
  refine ⟨x :: L, hF, ?_⟩
  have h5 := (RepS.fin hr (jH hv)).2.2.2.2
  have hb : q'.body.length ≤ (nM q k).body.length := by
   clear h5 hF
   generalize nM q k = z at hr
   generalize fF k l = l1 at hr
   generalize ([] : List Int) ++ [l[k]!] = m1 at hr
   induction hr with
   | done _ => exact Nat.le_refl _
   | @step q q' l m m' x L k _ hk2 _ ih =>
    have := eO hk2.lt
    have hh : (nM q k).body.length + 1 = q.body.length := this
    omega
  constructor
  ·intro e; rw [e] at h5; simp at h5; omega
  ·intro e; cases e
theorem Ee {ts : List Int} {p : Prg} (hb : p.body = []) (f : Flows ts (dC p)) : f.iss = [] := by
 have hp : dC p = [⟨11, 0, 0, 0, []⟩] := by unfold dC; rw [hb]; rfl
 have h0 : (dC p)[0]! = ⟨11, 0, 0, 0, []⟩ := by rw [hp]; rfl
 unfold Flows.iss qZ
 rw [show (dC p).length = 1 by rw [hp]; rfl]
 have hw : wS ts (dC p)[0]! [1, 2, 3] = 0 := by
  apply Nat.eq_of_testBit_eq
  intro v
  rw [dO, Nat.zero_testBit, Bool.and_eq_false_iff]
  refine .inr ?_
  rw [h0, decide_eq_false_iff_not]
  have : cC ts ⟨11, 0, 0, 0, []⟩ v = 0 := by simp [cC]
  rw [this]; decide
 have ha : ∀ b, kE ts (dC p)[0]! b = [] := fun b => by rw [h0]; simp [kE, bT]
 have hb0 : cR 0 = [] := by unfold cR; simp
 have hc : Eg ts (dC p) f.Am f.Al f.Af f.Ap 0 = 0 := by unfold Eg; rw [ha]; rfl
 have hu : nI 0 f.Aa[0]! = 0 := by
  apply Nat.eq_of_testBit_eq
  intro v
  rw [dS, Nat.zero_testBit, Bool.false_and]
 show (List.range 1).flatMap _ = []
 rw [show List.range 1 = [0] from rfl]
 simp only [List.flatMap_cons, List.flatMap_nil, List.append_nil]
 unfold B6
 rw [hw, hc, hu, hb0]; rfl
end Go.AL
namespace Go.AL
end Go.AL

namespace Go.AL
open Go.RowKit
set_option linter.unusedVariables false
set_option linter.unusedSimpArgs false
section
variable {P : Program} {N : Nat} {Q : Exit → AS → Prop} {all : Array Oper} {rest : List Oper} {ts : List (Nat × AV)} {hs : List (Nat × Option (List AV))} {n : Nat} {z0 : Lo} {md : Md}
variable {d : Nat} {ty : TypeId} {pos : String} {af : Array Edge}
theorem wK (w : World) (t el : TypeId) (hu : P.underlying t = some (.slice el)) (a : Option Addr) (m c : Nat) : (binOp .eql t (.slice a m c) (.slice none 0 0)).run P w = .ok (.bool a.isNone) w := by
 have h0 : ∀ d : Nat, (Op.equalIn (d + 1) t (.slice a m c) (.slice none 0 0)).run P w = .ok a.isNone w := fun d => by
  cases a <;> simp [Op.equalIn, c8 hu]
 have h := h0 9999
 simp only [binOp]
 simp [Op.equal, Op.maxDepth, h]
theorem tR {t t' el : TypeId} {x : Operand} {m : Nat} {cs : List AV} [ht : SlT P t el] (hx : ev (lk ts) x = some (.imm m cs)) (hN : Nat.blt d N = true)
  (kk : ∀ b : Bool, (b = true → m = 0) → RW P N all Q .txt rest ⟨(d, .v (.bool b)) :: ts, hs, n, z0⟩) : RW P N all Q .txt (⟨some d, .binOp .eql t x (.const (.slice none 0 0)) t', ty, pos, af, none⟩ :: rest) ⟨ts, hs, n, z0⟩ := by
 rintro C a w hCN ⟨h0, ι, g, gh⟩
 refine wpList_plain rfl (fun K hK => ?_)
 have h1 := c9 g hx
 simp only [Rd] at h1
 obtain ⟨a', c, h2, h3⟩ := h1
 have hu := gS ht.pf
 have hb : a'.isNone = true → m = 0 := fun hn => by
  rcases h3 with h3 | ⟨b, o, _, rfl, _⟩
  ·exact h3
  ·cases hn
 have hg : (eqGuard .eql t x (.const (.slice none 0 0)) (.slice a' m c) (.slice none 0 0)).run P w = .ok () w := by simp [eqGuard]
 have hr : (execOp a.eval ⟨some d, .binOp .eql t x (.const (.slice none 0 0)) t', ty, pos, af, none⟩).run P w = .ok (.value (.bool a'.isNone)) w := by
  have e2 : a.eval (.const (.slice none 0 0)) = .slice none 0 0 := rfl
  simp only [execOp, h2, e2, Sem.run_bind, hg, Result.andThen_ok, wK w t el hu, Sem.run_pure]
 simp only [Oper.wp, hr, Oper.upon]
 refine hK _ _ (kk a'.isNone hb C _ _ hCN ⟨h0, ι, ?_, gh⟩)
 show TG C ι (lk ((d, AV.v (.bool a'.isNone)) :: ts)) _ _ _
 rw [jQ]
 exact g.put (by have := eH hN; omega) (by simp [Rd])
end
theorem CM {α : Type} {f : α → List AV} {e : Nat} [h : FlT f e] {xs : List α} {k : Nat} (hk : k < xs.length) : hO (aI f xs) (0 + k * e) (aI f (xs.drop (k + 1))) = aI f (fF k xs) ++ aI f (xs.drop (xs.length - 1)) := by
 unfold hO fF
 have hl : (aI f (xs.drop (k + 1))).length = (xs.length - (k + 1)) * e := by rw [aP f (e := e), List.length_drop]
 rw [Nat.zero_add, hl, ← Nat.add_mul, show k + (xs.length - (k + 1)) = xs.length - 1 by omega, eU f (e := e), ← dT]
 congr 1
 have h4 : aI f xs = aI f (xs.take (xs.length - 1)) ++ aI f (xs.drop (xs.length - 1)) := by rw [dT, List.take_append_drop]
 have h5 : (aI f (xs.take (xs.length - 1))).length = (xs.length - 1) * e := by rw [aP f (e := e), List.length_take, Nat.min_eq_left (by omega)]
 rw [h4, ← h5, List.drop_left]
theorem I3 {α : Type} {f : α → List AV} {e : Nat} [h : FlT f e] {xs : List α} {k : Nat} {z : List AV} (hk : k < xs.length) (hz : z.length = e) : hO (aI f (fF k xs) ++ aI f (xs.drop (xs.length - 1))) (0 + (xs.length - 1) * e) z = aI f (fF k xs) ++ z := by
 have hd := eO hk
 have h1 : (aI f (fF k xs)).length = (xs.length - 1) * e := by rw [aP f (e := e)]; congr 1; omega
 have h2 : (aI f (xs.drop (xs.length - 1))).length = e := by rw [aP f (e := e), List.length_drop, show xs.length - (xs.length - 1) = 1 by omega, Nat.one_mul]
 unfold hO
 rw [Nat.zero_add, ← h1, List.take_left, hz, List.drop_of_length_le (by rw [List.length_append, h2]; omega), List.append_nil]
theorem zP {α : Type} {f : α → List AV} {e : Nat} [h : FlT f e] {xs : List α} {k m : Nat} {z : List AV} (hk : k < xs.length) (hm : m = 1) (hz : z.length = e) : hO (aI f (fF k xs) ++ aI f (xs.drop (xs.length - 1))) (0 + (xs.length - 1) * e) (List.replicate m z).flatten = aI f (fF k xs) ++ z := by
 subst hm
 have e1 : (List.replicate 1 z).flatten = z := by simp
 rw [e1]; exact I3 hk hz
theorem rY {α : Type} {f : α → List AV} {e : Nat} [h : FlT f e] {hs : List (Nat × Option (List AV))} {xs : List α} {i k n : Nat} (hH : cO hs i = some (aI f xs)) (hn : n = xs.length - k) : sCells (cO hs) e (pI (.own i (0 + k * e) n e)) = some (n, aI f (xs.drop k)) := by
 show ((cO hs i).bind fun cs => if n * e ≤ (cs.drop (0 + k * e)).length then some (n, (cs.drop (0 + k * e)).take (n * e)) else none) = _
 rw [hH, Option.bind_some, Nat.zero_add]
 have h1 : (aI f xs).length = xs.length * e := aP f xs
 have h3 : (aI f xs).drop (k * e) = aI f (xs.drop k) := by
  have h4 : aI f xs = aI f (xs.take k) ++ aI f (xs.drop k) := by rw [dT, List.take_append_drop]
  have h5 : (aI f (xs.take k)).length = (xs.take k).length * e := aP f _
  by_cases hk : k ≤ xs.length
  ·rw [h4, ← show (aI f (xs.take k)).length = k * e from by rw [h5, List.length_take]; congr 1; omega, List.drop_left]
  ·rw [List.drop_of_length_le (by rw [h1]; exact Nat.mul_le_mul_right _ (by omega)), List.drop_of_length_le (by omega)]; rfl
 rw [h3]
 have h2 : (aI f (xs.drop k)).length = (xs.length - k) * e := by rw [aP f (e := e), List.length_drop]
 rw [h2, hn, if_pos (Nat.le_refl _), List.take_of_length_le (by rw [h2]; exact Nat.le_refl _)]
theorem fE {T : Nat → Option AV} {x : Operand} {dd : Nat} {k : IntKind} {m : Int} {h : Nat} (hx : ev T x = some (.v (.int k m))) (e : m = (h : Int)) : eS T (some x) dd = some h := by
 simp only [eS, hx]; rw [if_pos (by omega)]; congr 1; omega
end Go.AL

namespace Go.AL
structure Tg where
 id : Int
 uq : Bool
 deriving Inhabited, DecidableEq
structure Cl where
 val : Int
 alive : Bool
 next : Int
 stk : List Tg
 deriving Inhabited, DecidableEq
structure Pt where
 cell : Int
 tag : Int
 deriving Inhabited, DecidableEq
structure Sl where
 set : Bool
 num : Int
 ptr : Pt
 deriving Inhabited, DecidableEq
def dL (t : Tg) : List AV := [iv t.id, bv t.uq]
def c6 (c : Cl) : List AV := [iv c.val, bv c.alive, iv c.next, sl dL c.stk]
def eG (s : Sl) : List AV := [bv s.set, iv s.num, iv s.ptr.cell, iv s.ptr.tag]
instance : FlT dL 2 := ⟨fun _ => rfl⟩
instance : FlT c6 4 := ⟨fun _ => rfl⟩
instance : FlT eG 4 := ⟨fun _ => rfl⟩
instance : FE dL (fun t => [iv t.id, bv t.uq]) := ⟨fun _ => rfl⟩
instance : FE c6 (fun c => [iv c.val, bv c.alive, iv c.next, sl dL c.stk]) := ⟨fun _ => rfl⟩
instance : FE eG (fun s => [bv s.set, iv s.num, iv s.ptr.cell, iv s.ptr.tag]) := ⟨fun _ => rfl⟩
instance (t : Tg) : Pur (dL t) := ⟨rfl⟩
instance (c : Cl) : Pur (c6 c) := ⟨by show (true && (true && (true && ((sl dL c.stk).pur && true)))) = true; rw [aY]; rfl⟩
instance (s : Sl) : Pur (eG s) := ⟨rfl⟩
abbrev MJ (t : Tg) : AV := .agg [iv t.id, bv t.uq]
abbrev MP (c : Cl) : AV := .agg [iv c.val, bv c.alive, iv c.next, sl dL c.stk]
abbrev nB (p : Pt) : AV := .agg [iv p.cell, iv p.tag]
abbrev Gi (s : Sl) : AV := .agg [bv s.set, iv s.num, iv s.ptr.cell, iv s.ptr.tag]
structure OkC (c : Cl) : Prop where
 v : 0 ≤ c.val ∧ c.val ≤ 9
 n : 1 ≤ c.next ∧ c.next ≤ 1000
 l : 1 ≤ c.stk.length ∧ c.stk.length ≤ 200
 u : c.stk[0]!.uq = true
 i : ∀ t ∈ c.stk, 0 ≤ t.id ∧ t.id < c.next
 d : (c.stk.map (·.id)).Nodup
structure OkM (m : List Cl) : Prop where
 l : m.length ≤ 200
 c : ∀ c ∈ m, OkC c
def dD (stk : List Tg) (id : Int) : Int := match stk.findIdx? (fun t => decide (t.id = id)) with | some k => k | none => -1
theorem e9 (stk : List Tg) (id : Int) : -1 ≤ dD stk id ∧ dD stk id < stk.length := by
 unfold dD
 split
 ·rename_i k h
  obtain ⟨h1, _⟩ := List.findIdx?_eq_some_iff_getElem.1 h
  omega
 ·omega
theorem Df {stk : List Tg} {id : Int} (h : 0 ≤ dD stk id) : stk[(dD stk id).toNat]!.id = id := by
 unfold dD at h ⊢
 split
 ·rename_i k hk
  obtain ⟨h1, h2, _⟩ := List.findIdx?_eq_some_iff_getElem.1 hk
  rw [Int.toNat_natCast, cT _ _ h1]
  simpa using h2
 ·rename_i hk; rw [hk] at h; dsimp only at h; omega
theorem m9 {stk : List Tg} {id : Int} : dD stk id < 0 ↔ ∀ t ∈ stk, t.id ≠ id := by
 unfold dD
 split
 ·rename_i k hk
  obtain ⟨h1, h2, _⟩ := List.findIdx?_eq_some_iff_getElem.1 hk
  refine ⟨fun h => by omega, fun h => ?_⟩
  exact absurd (by simpa using h2) (h _ (List.getElem_mem h1))
 ·rename_i hk
  rw [List.findIdx?_eq_none_iff] at hk
  exact ⟨fun _ t ht => by simpa using hk t ht, fun _ => by omega⟩
def fT (stk : List Tg) (k : Nat) (wr : Bool) : List Tg := if wr = true then stk.take (k + 1) else stk.take (k + 1) ++ (stk.drop (k + 1)).filter (fun t => !t.uq)
def cK (m : List Cl) (x : Pt) (wr : Bool) : Int :=
 if ¬ (0 ≤ x.cell ∧ x.cell < m.length) then 4
 else if m[x.cell.toNat]!.alive = false then 1
 else if dD m[x.cell.toNat]!.stk x.tag < 0 then 2
 else if wr = true ∧ m[x.cell.toNat]!.stk[(dD m[x.cell.toNat]!.stk x.tag).toNat]!.uq = false then 3
 else 0
def jE (c : Cl) (x : Pt) (wr : Bool) : Cl := { c with stk := fT c.stk (dD c.stk x.tag).toNat wr }
def dU (m : List Cl) (x : Pt) (wr : Bool) : List Cl := if cK m x wr = 0 then m.set x.cell.toNat (jE m[x.cell.toNat]! x wr) else m
def nL (m : List Cl) (x : Pt) : Int := if cK m x false = 0 then m[x.cell.toNat]!.val else 0
def oO (m : List Cl) (x : Pt) (v : Int) : Int := if 0 ≤ v ∧ v ≤ 9 then cK m x true else 4
def nT (m : List Cl) (x : Pt) (v : Int) : List Cl := if oO m x v = 0 then m.set x.cell.toNat { jE m[x.cell.toNat]! x true with val := v } else m
def iL (m : List Cl) (x : Pt) : List Cl := if cK m x true = 0 then m.set x.cell.toNat { jE m[x.cell.toNat]! x true with alive := false } else m
def BH (c : Cl) : Prop := c.stk.length = 200 ∨ c.next = 1000
instance (c : Cl) : Decidable (BH c) := by unfold BH; infer_instance
def kY (m : List Cl) (x : Pt) (u : Bool) : Int := if cK m x u = 0 then (if BH (jE m[x.cell.toNat]! x u) then 4 else 0) else cK m x u
def psh (c : Cl) (u : Bool) : Cl := { c with stk := c.stk ++ [⟨c.next, u⟩], next := c.next + 1 }
def kA (m : List Cl) (x : Pt) (u : Bool) : List Cl := if kY m x u = 0 then m.set x.cell.toNat (psh (jE m[x.cell.toNat]! x u) u) else m
def oB (m : List Cl) (x : Pt) (u : Bool) : Pt := if kY m x u = 0 then ⟨x.cell, m[x.cell.toNat]!.next⟩ else ⟨0, 0⟩
def n7 (v : Int) : Cl := ⟨v, true, 1, [⟨0, true⟩]⟩
theorem tchS_sub {stk : List Tg} {k : Nat} {wr : Bool} : (fT stk k wr).Sublist stk := by
 unfold fT
 split
 ·exact List.take_sublist _ _
 ·have h := List.Sublist.append (List.Sublist.refl (stk.take (k + 1))) (List.filter_sublist (l := stk.drop (k + 1)) (p := fun t => !t.uq))
  rwa [List.take_append_drop] at h
theorem vS {stk : List Tg} {k : Nat} {wr : Bool} (h : 0 < stk.length) : (fT stk k wr)[0]! = stk[0]! ∧ 0 < (fT stk k wr).length := by
 cases stk with
 | nil => simp at h
 | cons a l =>
  unfold fT
  split <;> simp
theorem OkC.tch {c : Cl} (h : OkC c) (x : Pt) (wr : Bool) : OkC (jE c x wr) := by
 have hs := tchS_sub (stk := c.stk) (k := (dD c.stk x.tag).toNat) (wr := wr)
 have hh := vS (k := (dD c.stk x.tag).toNat) (wr := wr) (stk := c.stk) (by have := h.l; omega)
 refine ⟨h.v, h.n, ⟨hh.2, Nat.le_trans hs.length_le h.l.2⟩, ?_, fun t ht => h.i t (hs.subset ht), (hs.map _).nodup h.d⟩
 show (fT c.stk (dD c.stk x.tag).toNat wr)[0]!.uq = true
 rw [hh.1]; exact h.u
theorem OkC.psh {c : Cl} (h : OkC c) (u : Bool) (hf : ¬ BH c) : OkC (psh c u) := by
 have hl := h.l
 have hn := h.n
 unfold BH at hf
 refine ⟨h.v, by show 1 ≤ c.next + 1 ∧ c.next + 1 ≤ 1000; omega, by show 1 ≤ (c.stk ++ [_]).length ∧ (c.stk ++ [_]).length ≤ 200; rw [List.length_append, List.length_singleton]; omega, ?_, fun t ht => ?_, ?_⟩
 ·show (c.stk ++ [_])[0]!.uq = true
  have h1 := h.u
  rw [cT _ _ (by omega)] at h1
  rw [cT _ _ (by rw [List.length_append]; omega), List.getElem_append_left (by omega)]; exact h1
 ·rcases List.mem_append.1 ht with ht | ht
  ·have := h.i t ht; show 0 ≤ t.id ∧ t.id < c.next + 1; omega
  ·rw [List.mem_singleton] at ht; subst ht; show 0 ≤ c.next ∧ c.next < c.next + 1; omega
 ·show ((c.stk ++ [_]).map _).Nodup
  rw [List.map_append, List.nodup_append]
  refine ⟨h.d, by simp, fun a ha b hb => ?_⟩
  simp only [List.map_cons, List.map_nil, List.mem_singleton] at hb
  obtain ⟨t, ht, rfl⟩ := List.mem_map.1 ha
  have := h.i t ht
  omega
theorem OkC.nw {v : Int} (h : 0 ≤ v ∧ v ≤ 9) : OkC (n7 v) := ⟨h, ⟨by show (1 : Int) ≤ 1; decide, by show (1 : Int) ≤ 1000; decide⟩, ⟨by show 1 ≤ 1; decide, by show 1 ≤ 200; decide⟩, rfl, by simp [n7], by simp [n7]⟩
theorem OkM.set {m : List Cl} (h : OkM m) {k : Nat} {c : Cl} (hc : OkC c) : OkM (m.set k c) :=
 ⟨by rw [List.length_set]; exact h.l, fun x hx => (List.mem_or_eq_of_mem_set hx).elim (h.c x) (fun e => e ▸ hc)⟩
theorem OkM.at {m : List Cl} (h : OkM m) {k : Nat} (hk : k < m.length) : OkC m[k]! := h.c _ (cM _ _ hk)
theorem eW {m : List Cl} {x : Pt} {wr : Bool} (h : cK m x wr ≠ 4) : 0 ≤ x.cell ∧ x.cell < m.length ∧ x.cell.toNat < m.length := by
 unfold cK at h
 split at h
 ·exact absurd rfl h
 ·omega
theorem eT {m : List Cl} {x : Pt} {wr : Bool} (h : cK m x wr = 0) : 0 ≤ x.cell ∧ x.cell < m.length ∧ x.cell.toNat < m.length := eW (by rw [h]; decide)
theorem OkM.tch {m : List Cl} (h : OkM m) (x : Pt) (wr : Bool) : OkM (dU m x wr) := by
 unfold dU; split
 ·rename_i hk; exact h.set ((h.at (eT hk).2.2).tch x wr)
 ·exact h
theorem OkM.wr {m : List Cl} (h : OkM m) (x : Pt) (v : Int) : OkM (nT m x v) := by
 unfold nT
 by_cases hk : oO m x v = 0
 ·rw [if_pos hk]
  unfold oO at hk
  by_cases hv : 0 ≤ v ∧ v ≤ 9
  ·rw [if_pos hv] at hk
   have h1 := (h.at (eT hk).2.2).tch x true
   exact h.set ⟨hv, h1.n, h1.l, h1.u, h1.i, h1.d⟩
  ·rw [if_neg hv] at hk; cases hk
 ·rw [if_neg hk]; exact h
theorem OkM.fr {m : List Cl} (h : OkM m) (x : Pt) : OkM (iL m x) := by
 unfold iL; split
 ·rename_i hk
  have h1 := (h.at (eT hk).2.2).tch x true
  exact h.set ⟨h1.v, h1.n, h1.l, h1.u, h1.i, h1.d⟩
 ·exact h
theorem OkM.ln {m : List Cl} (h : OkM m) (x : Pt) (u : Bool) : OkM (kA m x u) := by
 unfold kA
 by_cases hk : kY m x u = 0
 ·rw [if_pos hk]
  unfold kY at hk
  by_cases h0 : cK m x u = 0
  ·rw [if_pos h0] at hk
   by_cases hf : BH (jE m[x.cell.toNat]! x u)
   ·rw [if_pos hf] at hk; cases hk
   ·exact h.set (((h.at (eT h0).2.2).tch x u).psh u hf)
  ·rw [if_neg h0] at hk; exact absurd hk h0
 ·rw [if_neg hk]; exact h
theorem OkM.nw {m : List Cl} (h : OkM m) {v : Int} (hv : 0 ≤ v ∧ v ≤ 9) (hl : m.length < 200) : OkM (m ++ [n7 v]) :=
 ⟨by rw [List.length_append, List.length_singleton]; omega, fun c hc => (List.mem_append.1 hc).elim (h.c c) (fun h => by rw [List.mem_singleton.1 h]; exact OkC.nw hv)⟩
end Go.AL

namespace Go.AL
def iI (pts : List Pnt) (a : Nat) (cs : List Int) : Nat × List Int :=
 if pts[a]!.next.length = 2 then
  match cs with
  | [] => ((pts[a]!.next[1]!).toNat, [])
  | c :: cs => ((pts[a]!.next[(c % 2).toNat]!).toNat, cs)
 else ((pts[a]!.next[0]!).toNat, cs)
def eJ (pts : List Pnt) : Nat → Nat → List Int → List Nat × Bool
 | 0, a, _ => if pts[a]!.op = 11 then ([a], true) else ([], false)
 | n + 1, a, cs => if pts[a]!.op = 11 then ([a], true) else (a :: (eJ pts n (iI pts a cs).1 (iI pts a cs).2).1, (eJ pts n (iI pts a cs).1 (iI pts a cs).2).2)
structure Mc where
 slots : List Sl
 cells : List Cl
 read : List Int
 deriving Inhabited
def hU : Sl := ⟨false, 0, ⟨0, 0⟩⟩
def fB (k : Int) : Int := if k = 1 then 3 else 4
def kH (k : Int) : Int := if k = 0 then -1 else fB k
def c5 (ts : List Int) (s : Mc) (v : Nat) (x : Sl) : Mc × Int :=
 if ts[v]! = 2 ∧ s.slots[v]!.set = true then (⟨s.slots.set v x, iL s.cells s.slots[v]!.ptr, s.read⟩, kH (cK s.cells s.slots[v]!.ptr true))
 else (⟨s.slots.set v x, s.cells, s.read⟩, -1)
def dI (ts : List Int) (s : Mc) (x : Pnt) : Bool := (List.range ts.length).any fun v => decide (cC ts x v ≠ 0) && !s.slots[v]!.set
def dP (ts : List Int) : Nat → Nat → Mc → Mc × Int
 | 0, _, s => (s, 0)
 | n + 1, v, s => if ts[v]! = 2 ∧ s.slots[v]!.set = true then
   (if cK s.cells s.slots[v]!.ptr true = 0 then dP ts n (v + 1) ⟨s.slots.set v hU, iL s.cells s.slots[v]!.ptr, s.read⟩ else (⟨s.slots, iL s.cells s.slots[v]!.ptr, s.read⟩, fB (cK s.cells s.slots[v]!.ptr true)))
  else dP ts n (v + 1) s
def dA (ts : List Int) (s : Mc) (x : Pnt) : Mc × Int :=
 if x.op = 1 then c5 ts s x.x.toNat ⟨true, x.n, ⟨0, 0⟩⟩
 else if x.op = 2 then (if s.cells.length = 200 then (s, 1) else c5 ts ⟨s.slots, s.cells ++ [n7 x.n], s.read⟩ x.x.toNat ⟨true, 0, ⟨s.cells.length, 0⟩⟩)
 else if x.op = 3 then c5 ts (if vW ts[x.y.toNat]! = true then ⟨s.slots.set x.y.toNat hU, s.cells, s.read⟩ else s) x.x.toNat s.slots[x.y.toNat]!
 else if x.op = 4 ∨ x.op = 5 then
  (if kY s.cells s.slots[x.y.toNat]!.ptr (decide (x.op = 5)) = 0 then c5 ts ⟨s.slots, kA s.cells s.slots[x.y.toNat]!.ptr (decide (x.op = 5)), s.read⟩ x.x.toNat ⟨true, 0, oB s.cells s.slots[x.y.toNat]!.ptr (decide (x.op = 5))⟩
   else (s, fB (kY s.cells s.slots[x.y.toNat]!.ptr (decide (x.op = 5)))))
 else if x.op = 6 then
  (if cK s.cells s.slots[x.y.toNat]!.ptr false = 0 then c5 ts ⟨s.slots, dU s.cells s.slots[x.y.toNat]!.ptr false, s.read ++ [nL s.cells s.slots[x.y.toNat]!.ptr]⟩ x.x.toNat ⟨true, nL s.cells s.slots[x.y.toNat]!.ptr, ⟨0, 0⟩⟩
   else (s, fB (cK s.cells s.slots[x.y.toNat]!.ptr false)))
 else if x.op = 7 then (⟨s.slots, nT s.cells s.slots[x.x.toNat]!.ptr s.slots[x.y.toNat]!.num, s.read⟩, kH (oO s.cells s.slots[x.x.toNat]!.ptr s.slots[x.y.toNat]!.num))
 else if x.op = 8 then (⟨s.slots.set x.x.toNat hU, iL s.cells s.slots[x.x.toNat]!.ptr, s.read⟩, kH (cK s.cells s.slots[x.x.toNat]!.ptr true))
 else if x.op = 11 then dP ts ts.length 0 s
 else (s, -1)
def iK (ts : List Int) (pts : List Pnt) : List Nat → Mc → Nat → Mc × Int × Nat
 | [], s, last => (s, 1, last)
 | a :: l, s, _ => if dI ts s pts[a]! = true then (s, 2, a)
  else if (dA ts s pts[a]!).2 = -1 then iK ts pts l (dA ts s pts[a]!).1 a
  else ((dA ts s pts[a]!).1, (dA ts s pts[a]!).2, a)
def mc0 (nt : Nat) : Mc := ⟨List.replicate nt hU, [], []⟩
def eR (ts : List Int) (pts : List Pnt) (cs : List Int) (most : Nat) : Mc × Int × Nat := iK ts pts (eJ pts most 0 cs).1 (mc0 ts.length) 0
structure OkS (nt : Nat) (s : Mc) : Prop where
 m : OkM s.cells
 l : s.slots.length = nt
theorem OkS.put {ts : List Int} {nt : Nat} {s : Mc} (h : OkS nt s) (v : Nat) (x : Sl) : OkS nt (c5 ts s v x).1 := by
 unfold c5; split
 ·exact ⟨h.m.fr _, by show (s.slots.set v x).length = nt; rw [List.length_set]; exact h.l⟩
 ·exact ⟨h.m, by show (s.slots.set v x).length = nt; rw [List.length_set]; exact h.l⟩
theorem OkS.fin {ts : List Int} {nt : Nat} : ∀ n v (s : Mc), OkS nt s → OkS nt (dP ts n v s).1
 | 0, _, _, h => h
 | n + 1, v, s, h => by
  unfold dP; split
  ·split
   ·exact OkS.fin n _ _ ⟨h.m.fr _, by show (s.slots.set v hU).length = nt; rw [List.length_set]; exact h.l⟩
   ·exact ⟨h.m.fr _, h.l⟩
  ·exact OkS.fin n _ _ h
structure PtN (x : Pnt) : Prop where
 n : x.op = 2 → 0 ≤ x.n ∧ x.n ≤ 9
theorem OkS.do {ts : List Int} {nt : Nat} {s : Mc} (h : OkS nt s) {x : Pnt} (hx : PtN x) : OkS nt (dA ts s x).1 := by
 have hl : ∀ (v : Nat) (y : Sl), (s.slots.set v y).length = nt := fun v y => by rw [List.length_set]; exact h.l
 unfold dA
 split
 ·exact h.put _ _
 split
 ·rename_i h2
  split
  ·exact h
  ·rename_i h3
   refine OkS.put ?_ _ _
   exact ⟨h.m.nw (hx.n h2) (by have := h.m.l; omega), h.l⟩
 split
 ·split
  ·refine OkS.put ?_ _ _
   exact ⟨h.m, hl _ _⟩
  ·exact h.put _ _
 split
 ·split
  ·refine OkS.put ?_ _ _
   exact ⟨h.m.ln _ _, h.l⟩
  ·exact h
 split
 ·split
  ·refine OkS.put ?_ _ _
   exact ⟨h.m.tch _ _, h.l⟩
  ·exact h
 split
 ·exact ⟨h.m.wr _ _, h.l⟩
 split
 ·exact ⟨h.m.fr _, hl _ _⟩
 split
 ·exact OkS.fin _ _ _ h
 ·exact h
theorem OkS.mc0 (nt : Nat) : OkS nt (mc0 nt) := ⟨⟨by simp [Go.AL.mc0], by simp [Go.AL.mc0]⟩, by simp [Go.AL.mc0]⟩
theorem OkS.run {ts : List Int} {pts : List Pnt} {nt : Nat} (hp : ∀ a : Nat, PtN pts[a]!) : ∀ (l : List Nat) (s : Mc) (last : Nat), OkS nt s → OkS nt (iK ts pts l s last).1
 | [], _, _, h => h
 | a :: l, s, _, h => by
  unfold iK; split
  ·exact h
  ·split
   ·exact OkS.run hp l _ _ (h.do (hp a))
   ·exact h.do (hp a)
end Go.AL
