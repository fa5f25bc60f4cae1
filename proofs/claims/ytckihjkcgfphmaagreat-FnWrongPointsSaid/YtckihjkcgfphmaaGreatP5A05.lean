/-
 A part of the proofs over this program: rules and contracts of its functions (the rules).
-/
import Derived.Test.YtckihjkcgfphmaaGreatP5A04
import Derived.Laws.BytesString
import Derived.Laws.StructEq
import Derived.Lib.SlicesCompact
set_option linter.unusedVariables false
set_option linter.unusedSimpArgs false
namespace Go.AL
def k6 (ts : List Int) (x : Pnt) (m : Bool) : List Acc :=
 (if x.op = 4 ∨ x.op = 6 then [⟨x.y, false⟩] else if x.op = 5 then [⟨x.y, true⟩] else if x.op = 7 ∨ x.op = 8 then [⟨x.x, true⟩] else if x.op = 3 ∧ wC ts[x.y.toNat]! = true then [⟨x.y, true⟩] else []) ++
 (if 0 ≤ bT x ∧ ts[(bT x).toNat]! = 2 ∧ m = true then [⟨bT x, true⟩] else [])
def LB (f : List Nat) (L : List Int) (a : Nat) : Nat := L.foldl (fun a v => a ||| f[v.toNat]!) a
def wN (ts : List Int) (x : Pnt) (live : Nat) (f : List Nat) : Nat := LB f (cX (nL live (wS ts x [2] ||| iW x))) 0
theorem jD (f : List Nat) (l : Nat) : ∀ (L : List Int) (a : Nat), (LB f L a).testBit l = true ↔ a.testBit l = true ∨ ∃ v ∈ L, f[v.toNat]!.testBit l = true
 | [], a => by simp [LB]
 | v :: L, a => by
  show (LB f L (a ||| f[v.toNat]!)).testBit l = true ↔ _
  rw [jD f l L, Nat.testBit_or, Bool.or_eq_true]
  simp only [List.mem_cons, exists_eq_or_imp]
  grind
def Jk (pts : List Pnt) (wr : Bool) (L : List Int) (a : Nat) : Nat := L.foldl (fun a l => if wr = true ∨ pts[l.toNat]!.op = 5 then a ||| 2 ^ l.toNat else a) a
def HP (pts : List Pnt) (loans : Nat) (acs : List Acc) (a : Nat) : Nat := acs.foldl (fun a c => Jk pts c.write (cX (loans &&& rF pts (2 ^ c.var.toNat))) a) a
theorem qI (pts : List Pnt) (wr : Bool) (l : Nat) : ∀ (L : List Int) (a : Nat), (Jk pts wr L a).testBit l = true ↔ a.testBit l = true ∨ ((∃ z ∈ L, z.toNat = l) ∧ (wr = true ∨ pts[l]!.op = 5))
 | [], a => by simp [Jk]
 | z :: L, a => by
  show (Jk pts wr L (if wr = true ∨ pts[z.toNat]!.op = 5 then a ||| 2 ^ z.toNat else a)).testBit l = true ↔ _
  rw [qI pts wr l L]
  have h2 : ∀ b : Nat, (a ||| 2 ^ b).testBit l = true ↔ a.testBit l = true ∨ b = l := by
   intro b
   rw [Nat.testBit_or, Bool.or_eq_true, Nat.testBit_two_pow, decide_eq_true_eq]
  split
  ·rename_i h
   rw [h2]
   simp only [List.mem_cons, exists_eq_or_imp]
   constructor
   ·rintro ((h1 | rfl) | ⟨h1, h3⟩)
    ·exact .inl h1
    ·exact .inr ⟨.inl rfl, h⟩
    ·exact .inr ⟨.inr h1, h3⟩
   ·rintro (h1 | ⟨rfl | h1, h3⟩)
    ·exact .inl (.inl h1)
    ·exact .inl (.inr rfl)
    ·exact .inr ⟨h1, h3⟩
  ·rename_i h
   simp only [List.mem_cons, exists_eq_or_imp]
   constructor
   ·rintro (h1 | ⟨h1, h3⟩)
    ·exact .inl h1
    ·exact .inr ⟨.inr h1, h3⟩
   ·rintro (h1 | ⟨rfl | h1, h3⟩)
    ·exact .inl h1
    ·exact absurd h3 h
    ·exact .inr ⟨h1, h3⟩
theorem kC (pts : List Pnt) (loans l : Nat) (hl : Sm loans) : ∀ (acs : List Acc) (a : Nat), (HP pts loans acs a).testBit l = true ↔ a.testBit l = true ∨ ∃ c ∈ acs, loans.testBit l = true ∧ (rF pts (2 ^ c.var.toNat)).testBit l = true ∧ (c.write = true ∨ pts[l]!.op = 5)
 | [], a => by simp [HP]
 | c :: acs, a => by
  show (HP pts loans acs (Jk pts c.write (cX (loans &&& rF pts (2 ^ c.var.toNat))) a)).testBit l = true ↔ _
  rw [kC pts loans l hl acs, qI]
  have h2 : (∃ z ∈ cX (loans &&& rF pts (2 ^ c.var.toNat)), z.toNat = l) ↔ loans.testBit l = true ∧ (rF pts (2 ^ c.var.toNat)).testBit l = true := by
   constructor
   ·rintro ⟨z, hz, rfl⟩
    obtain ⟨v, h1, h3, rfl⟩ := dZ.1 hz
    rw [Nat.testBit_and, Bool.and_eq_true] at h3; exact h3
   ·intro h
    have : l < 62 := eB hl.pf h.1
    exact ⟨(l : Int), dZ.2 ⟨l, this, by rw [Nat.testBit_and, h.1, h.2]; rfl, rfl⟩, rfl⟩
  rw [h2]
  simp only [List.mem_cons, exists_eq_or_imp]
  grind
end Go.AL

namespace Go.AL
theorem HO (ts : List Int) (x : Pnt) (m : Bool) : (k6 ts x m).length ≤ 2 := by
 unfold k6; rw [List.length_append]
 have h1 : ∀ (c : Prop) [Decidable c] (a b : List Acc), a.length ≤ 1 → b.length ≤ 1 → (if c then a else b).length ≤ 1 := by
  intro c _ a b h h2; split <;> assumption
 have a1 := h1 (x.op = 3 ∧ wC ts[x.y.toNat]! = true) [⟨x.y, true⟩] [] (by simp) (by simp)
 have a2 := h1 (x.op = 7 ∨ x.op = 8) [⟨x.x, true⟩] _ (by simp) a1
 have a3 := h1 (x.op = 5) [⟨x.y, true⟩] _ (by simp) a2
 have a4 := h1 (x.op = 4 ∨ x.op = 6) [⟨x.y, false⟩] _ (by simp) a3
 have a5 := h1 (0 ≤ bT x ∧ ts[(bT x).toNat]! = 2 ∧ m = true) [⟨bT x, true⟩] [] (by simp) (by simp)
 omega
theorem xE {ts : List Int} {pts : List Pnt} (m : Bool) (w : WG ts pts) {i : Nat} (hi : i < pts.length) : ∀ c ∈ k6 ts pts[i]! m, 0 ≤ c.var ∧ c.var < ts.length := by
 have hst := w.set i hi
 have hx := w.x i hi
 have hy := w.y i hi
 intro c hc
 unfold k6 at hc
 rw [List.mem_append] at hc
 rcases hc with hc | hc
 ·repeat' split at hc
  all_goals first
   | (rw [List.mem_singleton] at hc; subst hc; dsimp only; omega)
   | cases hc
 ·split at hc
  ·rw [List.mem_singleton] at hc; subst hc; dsimp only; omega
  ·cases hc
end Go.AL

namespace Go.AL
def D3 (i : Nat) (L : List Int) : List Iss := L.map fun v => ⟨i, 1, v⟩
def EU (pts : List Pnt) (i : Nat) (L : List Int) : List Iss := L.map fun l => ⟨i, if pts[l.toNat]!.op = 5 then 3 else 2, l⟩
def G9 (ts : List Int) (pts : List Pnt) (Am Al Af Ap : List Nat) (i : Nat) : Nat :=
 HP pts (wN ts pts[i]! Al[i]! (fE Af i) &&& Ap[i]!) (k6 ts pts[i]! (Am[i]!.testBit (bT pts[i]!).toNat)) 0
def Ep (ts : List Int) (pts : List Pnt) (Aa Am Al Af Ap : List Nat) (i : Nat) : List Iss :=
 D3 i (cX (nL (wS ts pts[i]! [1, 2, 3]) Aa[i]!)) ++ EU pts i (cX (G9 ts pts Am Al Af Ap i))
def Ag (ts : List Int) (pts : List Pnt) (Aa Am Al Af Ap : List Nat) (k : Nat) : List Iss := (List.range k).flatMap (Ep ts pts Aa Am Al Af Ap)
theorem vT (ts : List Int) (pts : List Pnt) (Aa Am Al Af Ap : List Nat) (k : Nat) : Ag ts pts Aa Am Al Af Ap (k + 1) = Ag ts pts Aa Am Al Af Ap k ++ Ep ts pts Aa Am Al Af Ap k := by
 unfold Ag; rw [List.range_succ, List.flatMap_append]; simp
theorem kQ {α β : Type} [Inhabited α] (g : α → β) (L : List α) (k : Nat) (h : k < L.length) : (L.take (k + 1)).map g = (L.take k).map g ++ [g L[k]!] := by
 rw [c5 _ _ h, List.map_append]; rfl
theorem Dn {xs : List Iss} {m : Nat} {a b c : Int} (hm : m = xs.length) : ((aI pB xs).drop 0).take (m * 3) ++ [iv a, iv b, iv c] = aI pB (xs ++ [⟨a, b, c⟩]) := gI hm rfl
theorem BY {ts : List Int} {pts : List Pnt} (w : WG ts pts) {Am Al Af Ap : List Nat} {i : Nat} (hp : Ap[i]! < 2 ^ pts.length) : G9 ts pts Am Al Af Ap i < 2 ^ pts.length := by
 have hpl := w.pl
 have hl : wN ts pts[i]! Al[i]! (fE Af i) &&& Ap[i]! < 2 ^ pts.length := Nat.and_lt_two_pow _ hp
 apply Nat.lt_pow_two_of_testBit
 intro l hl2
 unfold G9
 cases hq : (HP pts (wN ts pts[i]! Al[i]! (fE Af i) &&& Ap[i]!) (k6 ts pts[i]! (Am[i]!.testBit (bT pts[i]!).toNat)) 0).testBit l with
 | false => rfl
 | true =>
  rw [kC _ _ _ ⟨Nat.lt_of_lt_of_le hl (Nat.pow_le_pow_right (by decide) (by omega))⟩] at hq
  rcases hq with hq | ⟨c, _, h2, _⟩
  ·simp at hq
  ·have := eB hl h2; omega
end Go.AL
namespace Go.AL
theorem FP {ts : List Int} {pts : List Pnt} (w : WG ts pts) {a : Nat × Nat} (h : Mb ts pts a) : a.2 < ts.length := by
 induction h with
 | base h => obtain ⟨i, e, h2⟩ := h; have := (w.set i e.1).1; omega
 | step _ r ih => rw [r.1]; exact ih
end Go.AL

namespace Go.AL
open Go.RowKit
set_option linter.unusedVariables false
section
variable {P : Program} {N : Nat} {Q : Exit → AS → Prop} {all : Array Oper} {rest : List Oper} {ts : List (Nat × AV)} {hs : List (Nat × Option (List AV))} {n : Nat} {z0 : Lo} {md : Md}
variable {d : Nat} {ty : TypeId} {pos : String} {af : Array Edge}
theorem uD {fn : Go.Fn} {t i : Nat} {cs : List AV} (hx : lk ts t = some (.optr i 0)) (hH : cO hs i = some cs) (hN : Nat.blt d N = true)
  (kk : RW P N all Q .txt rest ⟨(d, .clos fn [] [.iptr cs]) :: (t, .iptr cs) :: ts, (i, none) :: hs, n, z0⟩) : RW P N all Q .txt (⟨some d, .makeFunc fn #[] #[.tmp t], ty, pos, af, none⟩ :: rest) ⟨ts, hs, n, z0⟩ :=
 hO (gU (f := []) (c := [.iptr cs]) rfl (by show evL _ [Operand.tmp t] = _; simp [evL, ev, l7]) hN (md' := .txt) kk) (Le.frzP hx hH)
end
end Go.AL

namespace Go.AL
structure Flows (ts : List Int) (pts : List Pnt) where
 Aa : List Nat
 Am : List Nat
 An : List Nat
 Al : List Nat
 Af : List Nat
 Ap : List Nat
 ga : sJ ts pts Aa
 gm : uP ts pts Am
 gn : sG ts pts An
 gl : vO ts pts Al
 gf : wL ts pts Af
 gp : wY ts pts Ap
theorem nG (n m : Nat) (T : Nat → Nat → Prop) (h : ∀ i v, i < n → T i v → v < m) : ∃ A : List Nat, A.length = n ∧ ∀ i, i < n → ∀ v, A[i]!.testBit v = true ↔ T i v := by
 have key : ∀ i : Nat, ∃ f : Nat → Bool, ∀ v, f v = true ↔ T i v := fun i => by
  have : ∀ v, ∃ b : Bool, b = true ↔ T i v := fun v => by
   by_cases hT : T i v
   ·exact ⟨true, by simp [hT]⟩
   ·exact ⟨false, by simp [hT]⟩
  exact ⟨fun v => Classical.choose (this v), fun v => Classical.choose_spec (this v)⟩
 refine ⟨(List.range n).map (fun i => fT (Classical.choose (key i)) m), by simp, fun i hi v => ?_⟩
 rw [cV _ _ (by simpa using hi), List.getElem_map, List.getElem_range, fS, Bool.and_eq_true, decide_eq_true_eq, Classical.choose_spec (key i) v]
 exact ⟨fun h2 => h2.2, fun h2 => ⟨h i v hi h2, h2⟩⟩
theorem Flows.ex {ts : List Int} {pts : List Pnt} (w : WG ts pts) : Nonempty (Flows ts pts) := by
 obtain ⟨Aa, a1, a2⟩ := nG pts.length ts.length (fun i v => v < ts.length ∧ ¬ Na ts pts (i, v)) (fun i v _ h => h.1)
 obtain ⟨Am, b1, b2⟩ := nG pts.length ts.length (fun i v => Mb ts pts (i, v)) (fun i v _ h => FP w h)
 obtain ⟨An, c1, c2⟩ := nG pts.length ts.length (fun i v => Nd ts pts (i, v)) (fun i v _ h => tT w h)
 obtain ⟨Al, d1, d2⟩ := nG pts.length ts.length (fun i v => Lv ts pts i v) (fun i v _ h => by obtain ⟨k, _, h⟩ := h; exact tT w h)
 obtain ⟨Ap, e1, e2⟩ := nG pts.length pts.length (fun i l => Kj ts pts (i, l)) (fun i v _ h => (uJ h).1)
 obtain ⟨Af, f1, f2⟩ := nG (pts.length * 6) pts.length (fun q l => JT ts pts (q / 6, q % 6, l)) (fun q v _ h => (A9 w h).2.2)
 refine ⟨⟨Aa, Am, An, Al, Af, Ap, ⟨a1, a2⟩, ⟨b1, b2⟩, ⟨c1, c2⟩, ⟨d1, d2⟩, ⟨f1, fun i v hi hv l => ?_⟩, ⟨e1, e2⟩⟩⟩
 rw [f2 (i * 6 + v) (by omega) l, show (i * 6 + v) / 6 = i by omega, show (i * 6 + v) % 6 = v by omega]
def Flows.iss {ts : List Int} {pts : List Pnt} (f : Flows ts pts) : List Iss := Ag ts pts f.Aa f.Am f.Al f.Af f.Ap pts.length
end Go.AL

namespace Go.AL
open Go.RowKit
set_option linter.unusedVariables false
class BoT (P : Program) (t : Nat) : Prop where pf : P.underlying t = some .bool
section
variable {P : Program} {C : Ctx} {ι : Pl} {T : Nat → Option AV} {H : Nat → Option (List AV)} {a : Act} {w : World} {o : Oper}
end
section
variable {P : Program} {N : Nat} {Q : Exit → AS → Prop} {all : Array Oper} {rest : List Oper} {ts : List (Nat × AV)} {hs : List (Nat × Option (List AV))} {n : Nat} {z0 : Lo} {md : Md}
variable {d : Nat} {ty : TypeId} {pos : String} {af : Array Edge}
end
theorem iJ {α : Type} {f : α → List AV} {e m : Nat} [h : FlT f e] {ys : List α} {H : Nat → Option (List AV)} (hm : m = ys.length) : sCells H e (qS (.imm m (aI f ys))) = some (m, aI f ys) := by
 subst hm
 have hl : (aI f ys).length = ys.length * e := aQ f ys
 show (if ys.length * e ≤ (aI f ys).length then some (ys.length, (aI f ys).take (ys.length * e)) else none) = _
 rw [if_pos (by omega), List.take_of_length_le (by omega)]
theorem e9 {α : Type} {f : α → List AV} {ys : List α} {e m : Nat} {L : List AV} (h : m = 0) : (((List.replicate 0 L).flatten).drop 0).take (m * e) ++ aI f ys = aI f ys := by subst h; simp
theorem Le.cells {ts : List (Nat × AV)} {hs : List (Nat × Option (List AV))} {n : Nat} {z0 : Lo} {i : Nat} {cs cs' : List AV} (hi : cO hs i = some cs) (hl : cs'.length = cs.length)
  (h : ∀ (w : World) (bad : Nat → Prop) (ι : Pl) (b β : Nat), RdC w bad ι cs b β → RdC w bad ι cs' b β) :
  Le ⟨ts, hs, n, z0⟩ ⟨ts, (i, some cs') :: hs, n, z0⟩ := by
 rintro C a w ⟨h0, ι, g, gh⟩
 have hk : ∀ id c, cO ((i, some cs') :: hs) id = some c → (id = i ∧ c = cs') ∨ (id ≠ i ∧ cO hs id = some c) := by
  intro id c hc
  rw [gG] at hc
  split at hc
  ·rename_i e; cases hc; exact .inl ⟨e, rfl⟩
  ·rename_i e; exact .inr ⟨fun h => e h, hc⟩
 have hk2 : ∀ id c, cO hs id = some c → ∃ c', cO ((i, some cs') :: hs) id = some c' := by
  intro id c hc
  rw [gG]
  split
  ·exact ⟨_, rfl⟩
  ·exact ⟨_, hc⟩
 have hb : a8 C.X ι (cO ((i, some cs') :: hs)) = a8 C.X ι (cO hs) := by
  funext b
  refine propext ⟨?_, ?_⟩
  ·rintro (h | ⟨id, c, β, h1, h2⟩)
   ·exact .inl h
   ·rcases hk id c h1 with ⟨rfl, _⟩ | ⟨_, h3⟩
    ·exact .inr ⟨_, _, _, hi, h2⟩
    ·exact .inr ⟨_, _, _, h3, h2⟩
  ·rintro (h | ⟨id, c, β, h1, h2⟩)
   ·exact .inl h
   ·obtain ⟨c', h3⟩ := hk2 id c h1
    exact .inr ⟨_, _, _, h3, h2⟩
 refine ⟨h0, ι, ⟨g.df, g.sz, fun t av ht => ?_⟩, ?_, ?_, gh.fr, gh.ex, gh.fresh⟩
 ·show ∃ y, a.tmps[t]? = some y ∧ Rd w (a8 C.X ι (cO ((i, some cs') :: hs))) ι av y
  rw [hb]; exact g.tm t av ht
 ·intro id c hc
  show _ ∨ ∃ b β arr e, ι id = some (some (b, β)) ∧ w.heap[b]? = some (.cells arr e (0, 0)) ∧ β + c.length ≤ arr.size ∧ RdC w (a8 C.X ι (cO ((i, some cs') :: hs))) ι c b β ∧ ¬ C.X b ∧ (C.W0 b ∨ C.w0.heap.size ≤ b)
  rw [hb]
  rcases hk id c hc with ⟨rfl, rfl⟩ | ⟨_, h3⟩
  ·rcases gh.obj _ _ hi with ⟨q1, q2⟩ | ⟨b, β, arr, e, q1, q2, q3, q4, q5⟩
   ·subst q2
    exact .inl ⟨q1, List.eq_nil_of_length_eq_zero hl⟩
   ·exact .inr ⟨b, β, arr, e, q1, q2, by rw [hl]; exact q3, h _ _ _ _ _ q4, q5⟩
  ·exact gh.obj _ _ h3
 ·intro id id' c c' b β β' h1 h2 h3 h4
  obtain ⟨d1, e1⟩ : ∃ d, cO hs id = some d := by
   rcases hk id c h1 with ⟨rfl, _⟩ | ⟨_, h⟩
   ·exact ⟨_, hi⟩
   ·exact ⟨_, h⟩
  obtain ⟨d2, e2⟩ : ∃ d, cO hs id' = some d := by
   rcases hk id' c' h2 with ⟨rfl, _⟩ | ⟨_, h⟩
   ·exact ⟨_, hi⟩
   ·exact ⟨_, h⟩
  exact gh.sep id id' d1 d2 b β β' e1 e2 h3 h4
end Go.AL

namespace Go.AL
theorem GV {α : Type} [Inhabited α] (xs : List α) (i : Nat) : xs[i]! = if h : i < xs.length then xs[i] else default := by
 split
 ·rw [cV _ _ ‹_›]
 ·rw [getElem!_neg xs i ‹_›]
theorem Di {α : Type} [Inhabited α] {a b : List α} (hl : a.length = b.length) (h : ∀ i, i < a.length → a[i]! = b[i]!) : a = b := by
 refine List.ext_getElem hl fun i h1 h2 => ?_
 have := h i h1
 rwa [cV _ _ h1, cV _ _ h2] at this
theorem dK {α : Type} [Inhabited α] (xs : List α) (i j : Nat) (x : α) : (xs.set i x)[j]! = if i = j ∧ j < xs.length then x else xs[j]! := by
 by_cases hj : j < xs.length
 ·rw [cV _ _ (by simpa using hj), List.getElem_set, cV _ _ hj]; grind
 ·rw [getElem!_neg (xs.set i x) j (by simpa using hj), getElem!_neg xs j hj, if_neg (by omega)]
theorem fM {α : Type} [Inhabited α] (f : Nat → α) (n i : Nat) (h : i < n) : (((List.range n).map f : List α))[i]! = f i := by
 rw [cV _ i (by simpa using h)]; simp
end Go.AL

namespace Go.AL
end Go.AL

namespace Go.AL
def wH (nv N : Nat) (A : List Nat) : List (List Bool) := (List.range N).map fun (i : Nat) => (List.range nv).map fun (v : Nat) => A[i]!.testBit v
theorem wO (nv N : Nat) (A : List Nat) (i : Nat) (h : i < N) : (wH nv N A)[i]! = (List.range nv).map fun (v : Nat) => A[i]!.testBit v := fM _ _ _ h
theorem EJ (nv N : Nat) (A : List Nat) (i v : Nat) (h : i < N) (hv : v < nv) : (wH nv N A)[i]![v]! = A[i]!.testBit v := by rw [wO _ _ _ _ h, fM _ _ _ hv]
end Go.AL

namespace Go.AL
open Go.RowKit
set_option linter.unusedVariables false
set_option linter.unusedSimpArgs false
section
variable {P : Program} {N : Nat} {Q : Exit → AS → Prop} {all : Array Oper} {rest : List Oper} {ts : List (Nat × AV)} {hs : List (Nat × Option (List AV))} {n : Nat} {z0 : Lo} {md : Md}
variable {d : Nat} {ty : TypeId} {pos : String} {af : Array Edge}
def Stop (p : Prop) : Prop := p
theorem cS {op : Op} {g : Option (Nat × Bool)} (h : Stop (RW P N all Q md (⟨some d, op, ty, pos, af, g⟩ :: rest) ⟨ts, hs, n, z0⟩)) : RW P N all Q md (⟨some d, op, ty, pos, af, g⟩ :: rest) ⟨ts, hs, n, z0⟩ := h
theorem dO {l : List Oper} {s : AS} (h : RW P N all Q md l s) : Stop (RW P N all Q md l s) := h
theorem BA {t el : TypeId} {x : Operand} {lo : Option Operand} {i o m e l : Nat} [ht : SlT P t el] [he : SzT P el e] (hx : ev (lk ts) x = some (.own i o m e))
  (hl : gX (lk ts) lo 0 = some l) (hb : l ≤ m) (hN : Nat.blt d N = true) {md' : Md} [hmd : MdA md (rO x ++ (rB lo ++ rB none)) [.inl d] md'] (kk : RW P N all Q md' rest ⟨(d, .own i (o + l * e) (m - l) e) :: ts, hs, n, z0⟩) :
  RW P N all Q md (⟨some d, .slice t x lo none none, ty, pos, af, none⟩ :: rest) ⟨ts, hs, n, z0⟩ :=
 hG (m := m) (h := m) hx rfl hl rfl (by simp [JV, hb]) hN (md' := md') (hmd := hmd) kk
end
end Go.AL

namespace Go.AL
def Mw (pts : List Pnt) (pl lv : List Bool) (l : Nat) (c : Acc) : Bool := lv[l]! && pl[l]! && decide (pts[l]!.y = c.var) && (c.write || decide (pts[l]!.op = 5))
def MJ (pts : List Pnt) (acs : List Acc) (pl lv : List Bool) : List Bool := (List.range pts.length).map fun (l : Nat) => acs.any (Mw pts pl lv l)
theorem HX (pts : List Pnt) (acs : List Acc) (pl lv : List Bool) (l : Nat) (h : l < pts.length) : (MJ pts acs pl lv)[l]! = acs.any (Mw pts pl lv l) := fM _ _ _ h
end Go.AL

namespace Go.AL
end Go.AL

namespace Go.AL
def Kd (nv N : Nat) (Af Ap : List Nat) (n : Nat) : List (List Bool) × List Bool := ((List.range nv).map fun (v : Nat) => (List.range N).map fun (l : Nat) => Af[n * 6 + v]!.testBit l, (List.range N).map fun (l : Nat) => Ap[n]!.testBit l)
end Go.AL

namespace Go.AL
def ME (ts : List Int) (x : Pnt) (fr : List (List Bool)) (lv : List Bool) (l v : Nat) : Bool := lv[v]! && (!decide (bT x = (v : Int)) && (!decide (cF ts x (v : Int) = 2) && fr[v]![l]!))
def MG (ts : List Int) (x : Pnt) (fr : List (List Bool)) (lv : List Bool) (N : Nat) : List Bool := (List.range N).map fun (l : Nat) => (List.range lv.length).any (ME ts x fr lv l)
theorem B6 {p q : Nat → Bool} {n : Nat} (h : ∀ v, v < n → p v = q v) : (List.range n).filter p = (List.range n).filter q :=
 List.filter_congr fun v hv => h v (List.mem_range.1 hv)
theorem Bi {A n : Nat} {p : Nat → Bool} (hA : Sm A) (hn : n ≤ 62) (h : ∀ v, A.testBit v = (decide (v < n) && p v)) : cX A = ((List.range n).filter p).map (fun v : Nat => (v : Int)) := by
 rw [p8 (k := n) (fun v hv => by rw [h v, decide_eq_false (by omega)]; rfl) (by omega) hA]
 congr 1
 exact B6 fun v hv => by rw [h v, decide_eq_true hv]; rfl
def Mx (ts : List Int) (pts : List Pnt) (Aa : List Nat) (i v : Nat) : Bool := !decide (cF ts pts[i]! v = 0) && !Aa[i]!.testBit v
def MN (pts : List Pnt) (l : Nat) : Int := if pts[l]!.op = 5 then 3 else 2
def Ma (ts : List Int) (pts : List Pnt) (Aa : List Nat) (cf : List Bool) (i : Nat) : List Iss :=
 ((List.range ts.length).filter (Mx ts pts Aa i)).map (fun (v : Nat) => ⟨i, 1, v⟩) ++ ((List.range pts.length).filter (fun (l : Nat) => cf[l]!)).map (fun (l : Nat) => ⟨i, MN pts l, l⟩)
def L0 (ts : List Int) (pts : List Pnt) (Am Al Af Ap : List Nat) (i : Nat) : List Bool :=
 MJ pts (k6 ts pts[i]! (wH ts.length pts.length Am)[i]![(bT pts[i]!).toNat]!) (Kd ts.length pts.length Af Ap i).2 (MG ts pts[i]! (Kd ts.length pts.length Af Ap i).1 (wH ts.length pts.length Al)[i]! pts.length)
theorem Kw {ts : List Int} {x : Pnt} {m m' : Bool} (h : 0 ≤ bT x → m = m') : k6 ts x m = k6 ts x m' := by
 unfold k6
 by_cases h0 : 0 ≤ bT x
 ·rw [h h0]
 ·simp only [h0, false_and, if_false]
theorem II {ts : List Int} {pts : List Pnt} (w : WG ts pts) (f : Flows ts pts) {Af : List Nat} (hlf : Af.length = pts.length * 6) {i : Nat} (hi : i < pts.length) : Ma ts pts f.Aa (L0 ts pts f.Am f.Al Af f.Ap i) i = Ep ts pts f.Aa f.Am f.Al Af f.Ap i := by
 have htl := w.tl
 have hpl := w.pl
 have hset := w.set i hi
 unfold Ma Ep
 congr 1
 ·unfold D3
  have hsm : Sm (nL (wS ts pts[i]! [1, 2, 3]) f.Aa[i]!) := by
   have : Sm (wS ts pts[i]! [1, 2, 3]) := dH (by omega)
   infer_instance
  rw [Bi (n := ts.length) (p := Mx ts pts f.Aa i) hsm (by omega) fun v => ?_, List.map_map]
  ·rfl
  ·rw [dY, dU, Bool.and_assoc]
   congr 1
   unfold Mx
   congr 1
   have hu := pI ts pts[i]! v
   by_cases e : cF ts pts[i]! v = 0
   ·rw [e]; rfl
   ·rw [decide_eq_false e]
    have : cF ts pts[i]! v ∈ ([1, 2, 3] : List Int) := by
     simp only [List.mem_cons, List.not_mem_nil, or_false]; omega
    rw [decide_eq_true this]; rfl
 ·unfold EU
  have hap : f.Ap[i]! < 2 ^ pts.length := by
   apply Nat.lt_pow_two_of_testBit
   intro l hl
   rw [Bool.eq_false_iff]; intro hq
   have := (uJ ((f.gp.2 i hi l).1 hq)).1
   dsimp only at this; omega
  have hcn := BY w (Am := f.Am) (Al := f.Al) (Af := Af) hap
  have hsm : Sm (G9 ts pts f.Am f.Al Af f.Ap i) := ⟨Nat.lt_of_lt_of_le hcn (Nat.pow_le_pow_right (by decide) (by omega))⟩
  rw [Bi (n := pts.length) (p := fun l => (L0 ts pts f.Am f.Al Af f.Ap i)[l]!) hsm (by omega) fun l => ?_, List.map_map]
  ·rfl
  ·by_cases hl : l < pts.length
   ·rw [decide_eq_true hl, Bool.true_and, Bool.eq_iff_iff]
    have hloans : Sm (wN ts pts[i]! f.Al[i]! (fE Af i) &&& f.Ap[i]!) := ⟨Nat.lt_of_lt_of_le (Nat.and_lt_two_pow _ hap) (Nat.pow_le_pow_right (by decide) (by omega))⟩
    have hal : f.Al[i]! < 2 ^ ts.length := by
     apply Nat.lt_pow_two_of_testBit
     intro v hv
     rw [Bool.eq_false_iff]; intro hq
     obtain ⟨k, e, hk⟩ := (f.gl.2 i hi v).1 hq
     have := tT w hk
     dsimp only at this; omega
    have hacc : k6 ts pts[i]! (wH ts.length pts.length f.Am)[i]![(bT pts[i]!).toNat]! = k6 ts pts[i]! (f.Am[i]!.testBit (bT pts[i]!).toNat) := Kw fun h0 => EJ _ _ _ _ _ hi (by omega)
    have hkp : (wN ts pts[i]! f.Al[i]! (fE Af i)).testBit l = true ↔ (MG ts pts[i]! (Kd ts.length pts.length Af f.Ap i).1 (wH ts.length pts.length f.Al)[i]! pts.length)[l]! = true := by
     unfold MG
     rw [fM _ _ _ hl]
     unfold wN
     rw [jD, List.any_eq_true, wO _ _ _ _ hi]
     simp only [Nat.zero_testBit, Bool.false_eq_true, false_or, List.length_map, List.length_range, List.mem_range]
     constructor
     ·rintro ⟨z, hz, h2⟩
      obtain ⟨v, h3, h4, rfl⟩ := dZ.1 hz
      rw [dY, Nat.testBit_or, dU, hR (by omega)] at h4
      simp only [Bool.and_eq_true, Bool.not_eq_true', Bool.or_eq_false_iff, Bool.and_eq_false_iff, decide_eq_false_iff_not] at h4
      have hv := eB hal h4.1
      refine ⟨v, hv, ?_⟩
      unfold ME
      rw [fM _ _ _ hv, h4.1, decide_eq_false h4.2.2]
      have hu : ¬ cF ts pts[i]! v = 2 := by
       rcases h4.2.1 with h5 | h5
       ·exact absurd hv h5
       ·simpa using h5
      rw [decide_eq_false hu]
      unfold Kd
      dsimp only
      rw [fM _ _ _ hv, fM _ _ _ hl]
      have h6 : (fE Af i)[v]! = Af[i * 6 + v]! := gZ hlf hi (by omega)
      rw [Int.toNat_natCast, h6] at h2
      rw [h2]; rfl
     ·rintro ⟨v, hv, h2⟩
      unfold ME at h2
      rw [fM _ _ _ hv] at h2
      unfold Kd at h2
      dsimp only at h2
      rw [fM _ _ _ hv, fM _ _ _ hl] at h2
      simp only [Bool.and_eq_true, Bool.not_eq_true', decide_eq_false_iff_not] at h2
      refine ⟨(v : Int), dZ.2 ⟨v, by omega, ?_, rfl⟩, ?_⟩
      ·rw [dY, Nat.testBit_or, dU, hR (by omega), h2.1, decide_eq_false h2.2.1]
       have : decide (cF ts pts[i]! (v : Int) ∈ ([2] : List Int)) = false := by simpa using h2.2.2.1
       rw [this]; simp
      ·rw [Int.toNat_natCast, gZ hlf hi (by omega)]; exact h2.2.2.2
    have hplc : (Kd ts.length pts.length Af f.Ap i).2[l]! = f.Ap[i]!.testBit l := by unfold Kd; dsimp only; rw [fM _ _ _ hl]
    unfold G9 L0
    rw [kC _ _ _ hloans, HX _ _ _ _ _ hl, hacc, List.any_eq_true]
    simp only [Nat.zero_testBit, Bool.false_eq_true, false_or]
    constructor
    ·rintro ⟨c, hc, h1, h2, h3⟩
     rw [Nat.testBit_and, Bool.and_eq_true] at h1
     rw [jA] at h2
     simp only [Bool.and_eq_true, decide_eq_true_eq] at h2
     have hy := x4 w hl h2.2.1
     have hcv := xE _ w hi c hc
     refine ⟨c, hc, ?_⟩
     unfold Mw
     have e2 := h2.2.2
     rw [Nat.testBit_two_pow, decide_eq_true_eq] at e2
     rw [hkp.1 h1.1, hplc, h1.2, decide_eq_true (by omega : pts[l]!.y = c.var)]
     rcases h3 with h3 | h3
     ·rw [h3]; rfl
     ·rw [decide_eq_true h3]; simp
    ·rintro ⟨c, hc, h1⟩
     unfold Mw at h1
     rw [hplc] at h1
     simp only [Bool.and_eq_true, Bool.or_eq_true, decide_eq_true_eq] at h1
     obtain ⟨⟨⟨h1, h2⟩, h3⟩, h4⟩ := h1
     have hln := (uJ ((f.gp.2 i hi l).1 h2)).2
     dsimp only at hln
     refine ⟨c, hc, ?_, ?_, h4⟩
     ·rw [Nat.testBit_and, hkp.2 h1, h2]; rfl
     ·rw [jA, decide_eq_true hl, hln, ← h3, Nat.testBit_two_pow_self]; rfl
   ·rw [decide_eq_false hl, Bool.false_and]
    exact Nat.testBit_lt_two_pow (Nat.lt_of_lt_of_le hcn (Nat.pow_le_pow_right (by decide) (by omega)))
theorem KL {ts : List Int} {pts : List Pnt} (w : WG ts pts) (f : Flows ts pts) {i : Nat} (hi : i < pts.length) : Ma ts pts f.Aa (L0 ts pts f.Am f.Al f.Af f.Ap i) i = Ep ts pts f.Aa f.Am f.Al f.Af f.Ap i := II w f f.gf.1 hi
end Go.AL

namespace Go.AL
open Go.RowKit
set_option linter.unusedVariables false
set_option linter.unusedSimpArgs false

section
variable {P : Program} {N : Nat} {Q : Exit → AS → Prop} {all : Array Oper} {rest : List Oper} {ts : List (Nat × AV)} {hs : List (Nat × Option (List AV))} {n : Nat} {z0 : Lo} {md : Md}
variable {d : Nat} {ty : TypeId} {pos : String} {af : Array Edge}
end
mutual
inductive Ld (D : List Nat) (H : Nat → Option (List AV)) : AV → AV → Prop
 | pur {v : AV} : v.pur = true → Ld D H v v
 | own {id m e : Nat} {cs cs' : List AV} : id ∈ D → H id = some cs → LdL D H cs cs' → Ld D H (.own id 0 m e) (.imm m cs')
 | optr {id : Nat} {cs cs' : List AV} : id ∈ D → H id = some cs → LdL D H cs cs' → Ld D H (.optr id 0) (.iptr cs')
 | imm {m : Nat} {cs cs' : List AV} : LdL D H cs cs' → Ld D H (.imm m cs) (.imm m cs')
 | agg {cs cs' : List AV} : LdL D H cs cs' → Ld D H (.agg cs) (.agg cs')
inductive LdL (D : List Nat) (H : Nat → Option (List AV)) : List AV → List AV → Prop
 | pur {v : List AV} : dA v = true → LdL D H v v
 | nil : LdL D H [] []
 | cons {c c' : AV} {cs cs' : List AV} : Ld D H c c' → LdL D H cs cs' → LdL D H (c :: cs) (c' :: cs')
end
mutual
theorem Ld.agr {D : List Nat} {H H' : Nat → Option (List AV)} (h : ∀ id ∈ D, H id = H' id) : ∀ {v v' : AV}, Ld D H v v' → Ld D H' v v'
 | _, _, .pur hp => .pur hp
 | _, _, .own h1 h2 h3 => .own h1 (by rw [← h _ h1]; exact h2) (LdL.agr h h3)
 | _, _, .optr h1 h2 h3 => .optr h1 (by rw [← h _ h1]; exact h2) (LdL.agr h h3)
 | _, _, .imm h3 => .imm (LdL.agr h h3)
 | _, _, .agg h3 => .agg (LdL.agr h h3)
theorem LdL.agr {D : List Nat} {H H' : Nat → Option (List AV)} (h : ∀ id ∈ D, H id = H' id) : ∀ {v v' : List AV}, LdL D H v v' → LdL D H' v v'
 | _, _, .pur hp => .pur hp
 | _, _, .nil => .nil
 | _, _, .cons h1 h2 => .cons (Ld.agr h h1) (LdL.agr h h2)
end
theorem LdL.len {D : List Nat} {H : Nat → Option (List AV)} : ∀ {v v' : List AV}, LdL D H v v' → v.length = v'.length
 | _, _, .pur hp => rfl
 | _, _, .nil => rfl
 | _, _, .cons h1 h2 => by simp [LdL.len h2]
mutual
theorem Ld.ok {C : Ctx} {ι : Pl} {F : Nat → Prop} {D : List Nat} {H : Nat → Option (List AV)} {w : World} (g : HG C ι F H w) : ∀ {v v' : AV}, Ld D H v v' → ∀ {y : Value}, Rd w (a8 C.X ι H) ι v y → Rd w C.X (fun _ => none) v' y
 | _, _, .pur hp, y, k => Rd.pur _ y hp (Rd.carry (⟨fun b o x h1 h2 => ⟨fun q => h1 (.inl q), h2⟩, fun _ _ h => h, fun _ => Nat.le_refl _⟩ : Carry w (a8 C.X ι H) ι w C.X ι) _ _ k)
 | _, _, .own (id := id) (m := m) h1 h2 h3, y, k => by
  have hlen := LdL.len h3
  simp only [Rd] at k ⊢
  rcases k with ⟨_, rfl, a, rfl⟩ | ⟨b, β, c, q1, rfl, q2, q3⟩
  ·exact ⟨a, 0, rfl, .inl rfl⟩
  ·rcases g.obj id _ h2 with ⟨p1, _⟩ | ⟨b', β', arr, e', p1, p2, p3, p4, p5, p6⟩
   ·rw [p1] at q1; cases q1
   ·rw [p1] at q1; cases q1
    exact ⟨_, c, rfl, .inr ⟨b, β + 0, q2, rfl, .inr ⟨p5, LdL.okC g h3 p4⟩⟩⟩
 | _, _, .optr (id := id) h1 h2 h3, y, k => by
  simp only [Rd] at k ⊢
  obtain ⟨b, β, q1, rfl⟩ := k
  rcases g.obj id _ h2 with ⟨p1, _⟩ | ⟨b', β', arr, e', p1, p2, p3, p4, p5, p6⟩
  ·rw [p1] at q1; cases q1
  ·rw [p1] at q1; cases q1
   exact ⟨b, β + 0, rfl, .inr ⟨p5, LdL.okC g h3 p4⟩⟩
 | _, _, .imm (cs := cs) (cs' := cs') h3, y, k => by
  have hlen := LdL.len h3
  simp only [Rd] at k ⊢
  obtain ⟨a, c, rfl, k⟩ := k
  refine ⟨a, c, rfl, ?_⟩
  rcases k with k | ⟨b, o, hn, rfl, k⟩
  ·exact .inl k
  ·refine .inr ⟨b, o, hn, rfl, ?_⟩
   rcases k with k | ⟨hb, k⟩
   ·subst k; exact .inl (List.eq_nil_of_length_eq_zero (by rw [← hlen]; rfl))
   ·exact .inr ⟨fun q => hb (.inl q), LdL.okC g h3 k⟩
 | _, _, .agg h3, y, k => by
  simp only [Rd] at k ⊢
  obtain ⟨l, h1, h2⟩ := k
  exact ⟨l, h1, LdL.okL g h3 h2⟩
theorem LdL.okC {C : Ctx} {ι : Pl} {F : Nat → Prop} {D : List Nat} {H : Nat → Option (List AV)} {w : World} (g : HG C ι F H w) : ∀ {v v' : List AV}, LdL D H v v' → ∀ {b o : Nat}, RdC w (a8 C.X ι H) ι v b o → RdC w C.X (fun _ => none) v' b o
 | _, _, .pur hp, b, o, k => RdC.pur _ b o hp (RdC.carryB (⟨fun b o x h1 h2 => ⟨fun q => h1 (.inl q), h2⟩, fun _ _ h => h, fun _ => Nat.le_refl _⟩ : Carry w (a8 C.X ι H) ι w C.X ι) _ _ _ (fun o x hx => hx) k)
 | _, _, .nil, b, o, k => by simp only [RdC]
 | _, _, .cons h1 h2, b, o, k => by
  simp only [RdC] at k ⊢
  obtain ⟨⟨x, q1, q2, q3⟩, q4⟩ := k
  exact ⟨⟨x, q1, q2, Ld.ok g h1 q3⟩, LdL.okC g h2 q4⟩
theorem LdL.okL {C : Ctx} {ι : Pl} {F : Nat → Prop} {D : List Nat} {H : Nat → Option (List AV)} {w : World} (g : HG C ι F H w) : ∀ {v v' : List AV}, LdL D H v v' → ∀ {y : List Value}, RdL w (a8 C.X ι H) ι v y → RdL w C.X (fun _ => none) v' y
 | _, _, .pur hp, y, k => RdL.pur _ y hp (RdL.carry (⟨fun b o x h1 h2 => ⟨fun q => h1 (.inl q), h2⟩, fun _ _ h => h, fun _ => Nat.le_refl _⟩ : Carry w (a8 C.X ι H) ι w C.X ι) _ _ k)
 | _, _, .nil, y, k => by simpa only [RdL] using k
 | _, _, .cons h1 h2, y, k => by
  simp only [RdL] at k ⊢
  obtain ⟨x, l', q0, q1, q2, q3⟩ := k
  exact ⟨x, l', q0, q1, Ld.ok g h1 q2, LdL.okL g h2 q3⟩
end
theorem LdL.okV {C : Ctx} {ι : Pl} {F : Nat → Prop} {D : List Nat} {H : Nat → Option (List AV)} {w : World} (g : HG C ι F H w) : ∀ {v v' : List AV}, LdL D H v v' → ∀ {y : List Value}, RdV w (a8 C.X ι H) ι v y → RdV w C.X (fun _ => none) v' y
 | _, _, .pur hp, y, k => RdV.pur _ y hp (RdV.carry (⟨fun b o x h1 h2 => ⟨fun q => h1 (.inl q), h2⟩, fun _ _ h => h, fun _ => Nat.le_refl _⟩ : Carry w (a8 C.X ι H) ι w C.X ι) _ _ k)
 | _, _, .nil, y, k => by simpa only [RdV] using k
 | _, _, .cons h1 h2, y, k => by
  simp only [RdV] at k ⊢
  obtain ⟨x, l', q0, q2, q3⟩ := k
  exact ⟨x, l', q0, Ld.ok g h1 q2, LdL.okV g h2 q3⟩
section
variable {P : Program} {N : Nat} {Q : Exit → AS → Prop} {all : Array Oper} {rest : List Oper} {ts : List (Nat × AV)} {hs : List (Nat × Option (List AV))} {n : Nat} {z0 : Lo} {md : Md}
variable {d : Nat} {ty : TypeId} {pos : String} {af : Array Edge}
theorem oF {k : FuncId} {args : Array Operand} {tys : Array TypeId} {avs avs2 : List AV} {r : AV} (D : List Nat) [hc : CaT P k] (ha : evL (lk ts) args.toList = some avs) (hl : LdL D (cO hs) avs avs2) (h : PC P k avs2 (fun x => x = r)) (hfr : r.free = true) (hN : Nat.blt d N = true)
  {md' : Md} [hmd : MdA md (gL args.toList ++ D.map .inr) [.inl d] md'] (kk : RW P N all Q md' rest ⟨(d, r) :: ts, hs, n, z0⟩) : RW P N all Q md (⟨some d, .call ⟨.value (.func k), args, tys⟩, ty, pos, af, none⟩ :: rest) ⟨ts, hs, n, z0⟩ := by
 refine kF (rs := gL args.toList ++ D.map .inr) (ws := []) (n' := n) (out := r) rfl (Nat.le_refl _) (.inl rfl) (fun C ι F T H a w K Q' hCN ag hF g gh hK => ?_) (fun x hx => by cases hx; exact eO hN) (by rw [← hmd.pf] at kk; exact kk)
 simp only [Oper.wp, jS hc.pf, Oper.upon]
 have hl' : LdL D H avs avs2 := hl.agr fun id hid => (ag.r.h id (List.mem_map_of_mem hid)).symm
 have hv := hl'.okV gh (jV g (ag.l.evL.trans ha))
 let C' : Ctx := { N := 0, w0 := w, W0 := fun _ => False, X := C.X, ι0 := fun _ => none, xlt := fun b hb => Nat.lt_of_lt_of_le (C.xlt b hb) gh.fr.size }
 have hbad : ∀ b, a8 C'.X (fun _ => none) (cO []) b ↔ C.X b := fun b => ⟨fun h => (by rcases h with h | ⟨id, cs, β, h1, h2⟩ <;> first | exact h | cases h2), fun h => Or.inl h⟩
 have g' : HG C' (fun _ => none) (fun j => 0 ≤ j) (cO []) w :=
  ⟨fun id cs h => by simp [cO] at h, fun id id' cs cs' b β β' h => by simp [cO] at h, Fr.refl _ _, fun _ _ h => h, fun _ _ => rfl⟩
 have hcar : Carry w C.X (fun _ => none) w (a8 C'.X (fun _ => none) (cO [])) (fun _ => none) := ⟨fun b o x h1 h2 => ⟨fun h => h1 ((hbad b).1 h), h2⟩, fun _ _ h => h, fun _ => Nat.le_refl _⟩
 refine (h C' _ w _ rfl rfl g' (RdV.carry hcar _ _ hv)).mono ?_
 rintro e w' ⟨v, r', H', ι', rfl, ⟨rfl, _⟩, h4, h5⟩
 obtain ⟨g2, c2⟩ := gh.ext h5.fr
 exact hK ι w' v (g.carry c2) (g2.less (fun _ _ h => h) (fun j hj => hj.1)).1 (Rd.free _ _ hfr h4)
end
end Go.AL

namespace Go.AL
open Go.RowKit
set_option linter.unusedVariables false
set_option linter.unusedSimpArgs false

theorem RnL.app {ρ : Nat → Option Nat} : ∀ {a a' b b' : List AV}, RnL ρ a a' → RnL ρ b b' → RnL ρ (a ++ b) (a' ++ b')
 | [], a', b, b', ha, hb => by
  have := ha.len
  cases a' with
  | nil => exact hb
  | cons _ _ => simp at this
 | c :: cs, _, b, b', .pur hp, hb => by
  simp only [dA, Bool.and_eq_true] at hp
  exact .cons (.pur hp.1) (RnL.app (.pur hp.2) hb)
 | c :: cs, _, b, b', .cons h1 h2, hb => .cons h1 (RnL.app h2 hb)
end Go.AL

namespace Go.AL
open Go.RowKit
set_option linter.unusedVariables false
set_option linter.unusedSimpArgs false

section
variable {P : Program} {N : Nat} {Q : Exit → AS → Prop}
end

end Go.AL

namespace Go.AL
open Go.RowKit
attribute [local irreducible] eS
set_option linter.unusedVariables false
set_option linter.unusedSimpArgs false

section
variable {P : Program} {N : Nat} {Q : Exit → AS → Prop} {all : Array Oper} {rest : List Oper} {ts : List (Nat × AV)} {hs : List (Nat × Option (List AV))} {n : Nat} {z0 : Lo} {md : Md}
variable {d : Nat} {ty : TypeId} {pos : String} {af : Array Edge}
end
end Go.AL

namespace Go.AL
open Go.RowKit
set_option linter.unusedVariables false
set_option linter.unusedSimpArgs false
theorem Le.virt {ts : List (Nat × AV)} {hs : List (Nat × Option (List AV))} {n : Nat} {z0 : Lo} (hn : n < eS) : Le ⟨ts, hs, n, z0⟩ ⟨ts, (n, some []) :: hs, n + 1, z0⟩ := by
 rintro C a w ⟨h0, ι, g, gh⟩
 obtain ⟨g1, c1⟩ := gh.virt (id := n) ⟨Nat.le_refl _, .inl hn⟩
 have e : cO ((n, some []) :: hs) = fI (cO hs) n (some []) := zE _ _ _
 refine ⟨h0, fI ι n (some none), ?_, ?_⟩
 ·show TG C _ (lk ts) (cO ((n, some []) :: hs)) a w
  rw [e]; exact g.carry c1
 ·show HG C _ _ (cO ((n, some []) :: hs)) w
  rw [e]
  refine (g1.less (fun _ _ h => h) (fun j hj => ?_)).1
  have h1 : n + 1 ≤ j := hj.1
  exact ⟨⟨by show n ≤ j; omega, hj.2⟩, by omega⟩
theorem Le.cellsN {ts : List (Nat × AV)} {hs : List (Nat × Option (List AV))} {n : Nat} {z0 : Lo} {i q : Nat} {cs cs' cq : List AV} (hi : cO hs i = some cs) (hq : cO hs q = some cq) (hl : cs'.length = cs.length)
  (h : ∀ (w : World) (bad : Nat → Prop) (ι : Pl) (b β : Nat), (∃ p, ι q = some p) → RdC w bad ι cs b β → RdC w bad ι cs' b β) :
  Le ⟨ts, hs, n, z0⟩ ⟨ts, (i, some cs') :: hs, n, z0⟩ := by
 rintro C a w ⟨h0, ι, g, gh⟩
 have hqq : ∃ p, ι q = some p := by
  rcases gh.obj q cq hq with ⟨p1, _⟩ | ⟨_, _, _, _, p1, _⟩ <;> exact ⟨_, p1⟩
 have hk : ∀ id c, cO ((i, some cs') :: hs) id = some c → (id = i ∧ c = cs') ∨ (id ≠ i ∧ cO hs id = some c) := by
  intro id c hc
  rw [gG] at hc
  split at hc
  ·rename_i e; cases hc; exact .inl ⟨e, rfl⟩
  ·rename_i e; exact .inr ⟨fun h => e h, hc⟩
 have hk2 : ∀ id c, cO hs id = some c → ∃ c', cO ((i, some cs') :: hs) id = some c' := by
  intro id c hc
  rw [gG]
  split
  ·exact ⟨_, rfl⟩
  ·exact ⟨_, hc⟩
 have hb : a8 C.X ι (cO ((i, some cs') :: hs)) = a8 C.X ι (cO hs) := by
  funext b
  refine propext ⟨?_, ?_⟩
  ·rintro (h | ⟨id, c, β, h1, h2⟩)
   ·exact .inl h
   ·rcases hk id c h1 with ⟨rfl, _⟩ | ⟨_, h3⟩
    ·exact .inr ⟨_, _, _, hi, h2⟩
    ·exact .inr ⟨_, _, _, h3, h2⟩
  ·rintro (h | ⟨id, c, β, h1, h2⟩)
   ·exact .inl h
   ·obtain ⟨c', h3⟩ := hk2 id c h1
    exact .inr ⟨_, _, _, h3, h2⟩
 refine ⟨h0, ι, ⟨g.df, g.sz, fun t av ht => ?_⟩, ?_, ?_, gh.fr, gh.ex, gh.fresh⟩
 ·show ∃ y, a.tmps[t]? = some y ∧ Rd w (a8 C.X ι (cO ((i, some cs') :: hs))) ι av y
  rw [hb]; exact g.tm t av ht
 ·intro id c hc
  show _ ∨ ∃ b β arr e, ι id = some (some (b, β)) ∧ w.heap[b]? = some (.cells arr e (0, 0)) ∧ β + c.length ≤ arr.size ∧ RdC w (a8 C.X ι (cO ((i, some cs') :: hs))) ι c b β ∧ ¬ C.X b ∧ (C.W0 b ∨ C.w0.heap.size ≤ b)
  rw [hb]
  rcases hk id c hc with ⟨rfl, rfl⟩ | ⟨_, h3⟩
  ·rcases gh.obj _ _ hi with ⟨q1, q2⟩ | ⟨b, β, arr, e, q1, q2, q3, q4, q5⟩
   ·subst q2
    exact .inl ⟨q1, List.eq_nil_of_length_eq_zero hl⟩
   ·exact .inr ⟨b, β, arr, e, q1, q2, by rw [hl]; exact q3, h _ _ _ _ _ hqq q4, q5⟩
  ·exact gh.obj _ _ h3
 ·intro id id' c c' b β β' h1 h2 h3 h4
  obtain ⟨d1, e1⟩ : ∃ d, cO hs id = some d := by
   rcases hk id c h1 with ⟨rfl, _⟩ | ⟨_, h⟩
   ·exact ⟨_, hi⟩
   ·exact ⟨_, h⟩
  obtain ⟨d2, e2⟩ : ∃ d, cO hs id' = some d := by
   rcases hk id' c' h2 with ⟨rfl, _⟩ | ⟨_, h⟩
   ·exact ⟨_, hi⟩
   ·exact ⟨_, h⟩
  exact gh.sep id id' d1 d2 b β β' e1 e2 h3 h4
theorem rM {w : World} {bad : Nat → Prop} {ι : Pl} {c c' : AV} (hc : ∀ y, Rd w bad ι c y → Rd w bad ι c' y) : ∀ (a : List AV) (r : List AV) (b o : Nat), RdC w bad ι (a ++ c :: r) b o → RdC w bad ι (a ++ c' :: r) b o
 | [], r, b, o, h => by
  simp only [List.nil_append, RdC] at h ⊢
  obtain ⟨⟨x, h1, h2, h3⟩, h4⟩ := h
  exact ⟨⟨x, h1, h2, hc _ h3⟩, h4⟩
 | x :: a, r, b, o, h => by
  simp only [List.cons_append, RdC] at h ⊢
  exact ⟨h.1, rM hc a r b (o + 1) h.2⟩
theorem Le.nilCell {ts : List (Nat × AV)} {hs : List (Nat × Option (List AV))} {n : Nat} {z0 : Lo} {i : Nat} (e : Nat) (c1 : List AV) {c2 : List AV} (hi : cO hs i = some (c1 ++ .v (.slice none 0 0) :: c2)) (hin : i ≠ n) (hn : n < eS) :
  Le ⟨ts, hs, n, z0⟩ ⟨ts, (i, some (c1 ++ .own n 0 0 e :: c2)) :: (n, some []) :: hs, n + 1, z0⟩ :=
 (Le.virt hn).trans (Le.cellsN (q := n) (cs := c1 ++ .v (.slice none 0 0) :: c2) (by rw [gG, if_neg hin]; exact hi) (by rw [gG, if_pos rfl]) (by simp) fun w bad ι b β hp hr =>
  rM (fun y hy => by simp only [Rd] at hy ⊢; exact .inl ⟨hp, trivial, none, hy⟩) c1 c2 b β hr)
theorem Le.frzC {ts : List (Nat × AV)} {hs : List (Nat × Option (List AV))} {n : Nat} {z0 : Lo} {j i m e : Nat} (c1 : List AV) {c2 d : List AV} (hj : cO hs j = some (c1 ++ .own i 0 m e :: c2)) (hi : cO hs i = some d) (hij : j ≠ i) :
  Le ⟨ts, hs, n, z0⟩ ⟨ts, (j, some (c1 ++ .imm m d :: c2)) :: (i, none) :: hs, n, z0⟩ := by
 rintro C a w ⟨h0, ι, g, gh⟩
 have hk : ∀ id c, cO ((j, some (c1 ++ .imm m d :: c2)) :: (i, none) :: hs) id = some c → (id = j ∧ c = c1 ++ .imm m d :: c2) ∨ (id ≠ j ∧ id ≠ i ∧ cO hs id = some c) := by
  intro id c hc
  rw [gG] at hc
  split at hc
  ·rename_i e; cases hc; exact .inl ⟨e, rfl⟩
  ·rename_i e
   rw [gG] at hc
   split at hc
   ·cases hc
   ·rename_i e2; exact .inr ⟨e, e2, hc⟩
 have hk2 : ∀ id c, cO ((j, some (c1 ++ .imm m d :: c2)) :: (i, none) :: hs) id = some c → id ≠ i ∧ ∃ c', cO hs id = some c' := by
  intro id c hc
  rcases hk id c hc with ⟨rfl, _⟩ | ⟨_, h2, h3⟩
  ·exact ⟨hij, _, hj⟩
  ·exact ⟨h2, _, h3⟩
 have hbad : ∀ b, a8 C.X ι (cO ((j, some (c1 ++ .imm m d :: c2)) :: (i, none) :: hs)) b → a8 C.X ι (cO hs) b := by
  rintro b (h | ⟨id, c, β, h1, h2⟩)
  ·exact .inl h
  ·obtain ⟨_, c', h3⟩ := hk2 id c h1
   exact .inr ⟨id, c', β, h3, h2⟩
 have car : Carry w (a8 C.X ι (cO hs)) ι w (a8 C.X ι (cO ((j, some (c1 ++ .imm m d :: c2)) :: (i, none) :: hs))) ι := ⟨fun b o x h1 h2 => ⟨fun q => h1 (hbad b q), h2⟩, fun _ _ h => h, fun _ => Nat.le_refl _⟩
 have hcell : ∀ y, Rd w (a8 C.X ι (cO ((j, some (c1 ++ .imm m d :: c2)) :: (i, none) :: hs))) ι (.own i 0 m e) y → Rd w (a8 C.X ι (cO ((j, some (c1 ++ .imm m d :: c2)) :: (i, none) :: hs))) ι (.imm m d) y := by
  intro y hr
  simp only [Rd] at hr ⊢
  rcases hr with ⟨_, h2, a', h3⟩ | ⟨b, β, c, h1, h2, h3, h4⟩
  ·subst h2; exact ⟨a', 0, h3, .inl rfl⟩
  ·refine ⟨_, c, h2, ?_⟩
   rcases Nat.eq_zero_or_pos m with h5 | h5
   ·exact .inl h5
   ·refine .inr ⟨b, β + 0, h3, rfl, ?_⟩
    rcases gh.obj i d hi with ⟨q1, q2⟩ | ⟨b', β', arr, e', q1, q2, q3, q4, q5, q6⟩
    ·rw [h1] at q1; cases q1
    ·rw [h1] at q1; cases q1
     refine .inr ⟨?_, RdC.carryB car _ _ _ (fun o x hx => hx) q4⟩
     rintro (h | ⟨id', cs', β', r1, r2⟩)
     ·exact q5 h
     ·obtain ⟨r3, c', r4⟩ := hk2 id' cs' r1
      exact r3 (gh.sep _ _ _ _ _ _ _ r4 hi r2 h1)
 refine ⟨h0, ι, g.carry car, ⟨fun id c hc => ?_, fun id id' c c' b β β' h1 h2 h3 h4 => ?_, gh.fr, gh.ex, gh.fresh⟩⟩
 ·rcases hk id c hc with ⟨rfl, rfl⟩ | ⟨_, _, h3⟩
  ·rcases gh.obj _ _ hj with ⟨q1, q2⟩ | ⟨b, β, arr, e, q1, q2, q3, q4, q5⟩
   ·simp at q2
   ·exact .inr ⟨b, β, arr, e, q1, q2, by simpa using q3, rM hcell c1 c2 b β (RdC.carryB car _ _ _ (fun o x hx => hx) q4), q5⟩
  ·rcases gh.obj _ _ h3 with ⟨q1, q2⟩ | ⟨b, β, arr, e, q1, q2, q3, q4, q5⟩
   ·exact .inl ⟨q1, q2⟩
   ·exact .inr ⟨b, β, arr, e, q1, q2, q3, RdC.carryB car _ _ _ (fun o x hx => hx) q4, q5⟩
 ·obtain ⟨_, d1, e1⟩ := hk2 id c h1
  obtain ⟨_, d2, e2⟩ := hk2 id' c' h2
  exact gh.sep id id' d1 d2 b β β' e1 e2 h3 h4
end Go.AL

namespace Go.AL
open Go.RowKit
set_option linter.unusedVariables false
set_option linter.unusedSimpArgs false
theorem IE {cs : List AV} {v : Nat} {c : AV} : iN cs (0 + v * 1) [c] = cs.take v ++ c :: cs.drop (v + 1) := by
 unfold iN; simp
end Go.AL

namespace Go.AL
open Go.RowKit
set_option linter.unusedVariables false
def I4 (op : BinOp) (a b : ByteArray) : Option Value :=
 match op with
 | .add => if a.size + b.size ≤ 9000000000000000000 then some (.string (a ++ b)) else none
 | .eql => some (.bool (a.toList == b.toList))
 | .neq => some (.bool (!(a.toList == b.toList)))
 | _ => none
def FK (s : ByteArray) (l : List Int) : ByteArray := l.foldl (fun r n => r.push (UInt8.ofNat n.toNat)) s
section
variable {P : Program} {C : Ctx} {ι : Pl} {T : Nat → Option AV} {F : Nat → Prop} {H : Nat → Option (List AV)} {a : Act} {w : World} {o : Oper}
theorem ID (g : TG C ι T H a w) {op : BinOp} {t t' : TypeId} {x y : Operand} {m n : ByteArray} {v : Value} (ho : o.op = .binOp op t x y t')
  (hx : ev T x = some (.v (.string m))) (hy : ev T y = some (.v (.string n))) (h : I4 op m n = some v) : Pu P C ι H a w o (.v v) := by
 have h1 := dB g hx
 have h2 := dB g hy
 simp only [Rd] at h1 h2
 refine ⟨v, ?_, by simp [Rd]⟩
 have hg : (eqGuard op t x y (.string m) (.string n)).run P w = .ok () w := by
  unfold eqGuard
  cases op <;> simp
 have hb : (binOp op t (.string m) (.string n)).run P w = .ok v w := by
  cases op <;> simp only [I4] at h <;> first | (cases h; done) | skip
  ·split at h
   ·rename_i hs
    cases h
    have h9 : ¬ (((m.size + n.size : Nat) : Int) > IntKind.i64.max) := by
     have : IntKind.i64.max = 9223372036854775807 := rfl
     omega
    show ((if ((m.size + n.size : Nat) : Int) > IntKind.i64.max then _ else pure (.string (m ++ n)) : Sem Value)).run P w = _
    rw [if_neg h9]; simp
   ·cases h
  all_goals (cases h; simp [binOp, Op.stringOp])
 simp only [execOp, ho, h1, h2, Sem.run_bind, hg, Result.andThen_ok, hb, Sem.run_pure]
theorem zN {bad : Nat → Prop} {k : IntKind} : ∀ {ns : List Int} {l : List Value}, RdL w bad ι (ns.map fun n => .v (.int k n)) l → l = ns.map (Value.int k)
 | [], l, h => by simp only [List.map_nil, RdL] at h; exact h
 | n :: ns, l, h => by
  simp only [List.map_cons, RdL] at h
  obtain ⟨x, l', rfl, h0, h1, h2⟩ := h
  simp only [Rd] at h1
  rw [h1, zN h2, List.map_cons]
theorem Lu (g : TG C ι T H a w) (gh : HG C ι F H w) {s t el : TypeId} {x : Operand} {av : AV} {m : Nat} {ns : List Int} (ho : o.op = .convert s t x) (hx : ev T x = some av)
  (ht : lZ P s = some el) (hu : Ab P el = some .u8) (hst : P.underlying t = some .string) (hs : sCells H 1 (qS av) = some (m, ns.map fun n => .v (.int .u8 n))) :
  Pu P C ι H a w o (.v (.string (FK .empty ns))) := by
 obtain ⟨ad, c, l, h1, h2, h3, h4, h5⟩ := wR gh (oC (dB g hx)) hs
 have hl := zN h3
 have hll : ns.length = m := by have := h2; rw [hl] at this; simpa using this
 refine ⟨.string (FK .empty ns), ?_, by simp [Rd]⟩
 have hcv : (convert s t (.slice ad m c)).run P w = (Conv.bytesToString (.slice ad m c)).run P w := run_convert_bytes_string w s t el ad m c (iL ht) (Cg hu) hst
 have hrun : (Conv.bytesToString (.slice ad m c)).run P w = .ok (.string (FK .empty ns)) w := by
  cases ad with
  | none =>
   rcases h5 with ⟨b, o', h⟩ | h
   ·cases h
   ·subst h
    have : ns = [] := List.eq_nil_of_length_eq_zero hll
    subst this
    rfl
  | some ad =>
   have hload : (loadCells ad m).run P w = .ok (ns.map (Value.int .u8)).toArray w := by
    rcases h5 with ⟨b, o', h⟩ | h
    ·cases h
     have := run_loadCells_list (P := P) w ⟨b, o', none⟩ l (fun j v hj => by rw [Addr.add_lit]; exact h4 b o' rfl j v hj)
     rw [h2, Nat.mul_one, hl] at this
     exact this
    ·subst h
     have : ns = [] := List.eq_nil_of_length_eq_zero hll
     subst this
     simp [loadCells, loadCellsFrom]
   exact run_bytesToString w ad m c ns hload
 simp only [execOp, ho, h1, Sem.run_bind, hcv, hrun, Result.andThen_ok, Sem.run_pure]
end
section
variable {P : Program} {C : Ctx} {ι : Pl} {T : Nat → Option AV} {F : Nat → Prop} {H : Nat → Option (List AV)} {a : Act} {w : World} {o : Oper}
end
section
variable {P : Program} {N : Nat} {Q : Exit → AS → Prop} {all : Array Oper} {rest : List Oper} {ts : List (Nat × AV)} {hs : List (Nat × Option (List AV))} {n : Nat} {z0 : Lo} {md : Md}
variable {d : Nat} {ty : TypeId} {pos : String} {af : Array Edge}
theorem lF {op : BinOp} {t t' : TypeId} {x y : Operand} {m m' : ByteArray} {v : Value} (hx : ev (lk ts) x = some (.v (.string m))) (hy : ev (lk ts) y = some (.v (.string m')))
  (h : I4 op m m' = some v) (hN : Nat.blt d N = true) {md' : Md} [hmd : MdA md (rO x ++ rO y) [.inl d] md'] (kk : RW P N all Q md' rest ⟨(d, .v v) :: ts, hs, n, z0⟩) : RW P N all Q md (⟨some d, .binOp op t x y t', ty, pos, af, none⟩ :: rest) ⟨ts, hs, n, z0⟩ :=
 eY rfl rfl (eO hN) (fun C ι F T H a w ag g gh => ID g rfl (ag.l.ev.trans hx) (ag.r.ev.trans hy) h) (by rw [hmd.pf]; exact kk)
theorem F9 {s t el : TypeId} {x : Operand} {av : AV} {m : Nat} (ns : List Int) [ht : SlT P s el] [hu : InT P el .u8] [hst : StT P t] (hx : ev (lk ts) x = some av)
  (hs' : sCells (cO hs) 1 (qS av) = some (m, ns.map fun n => .v (.int .u8 n))) (hN : Nat.blt d N = true) {md' : Md} [hmd : MdA md (rO x ++ rA av) [.inl d] md'] (kk : RW P N all Q md' rest ⟨(d, .v (.string (FK .empty ns))) :: ts, hs, n, z0⟩) :
  RW P N all Q md (⟨some d, .convert s t x, ty, pos, af, none⟩ :: rest) ⟨ts, hs, n, z0⟩ :=
 eY rfl rfl (eO hN) (fun C ι F T H a w ag g gh => Lu g gh rfl (ag.l.ev.trans hx) ht.pf hu.pf hst.pf (ag.r.sCells.trans hs')) (by rw [hmd.pf]; exact kk)
theorem qE {t : TypeId} {x i : Operand} {s : ByteArray} {k : IntKind} {m : Int} [ht : StT P t] (hx : ev (lk ts) x = some (.v (.string s)))
  (hi : ev (lk ts) i = some (.v (.int k m))) (hm : 0 ≤ m ∧ m < (s.size : Int)) (hN : Nat.blt d N = true) {md' : Md} [hmd : MdA md (rO x ++ rO i) [.inl d] md'] (kk : RW P N all Q md' rest ⟨(d, .v (.int .u8 ((s[m.toNat]!).toNat : Int))) :: ts, hs, n, z0⟩) :
  RW P N all Q md (⟨some d, .index t x i, ty, pos, af, none⟩ :: rest) ⟨ts, hs, n, z0⟩ :=
 DS (b := s[m.toNat]!) hx hi ht.pf hm.1 (by rw [getElem!_pos s m.toNat (by omega), getElem?_pos s m.toNat (by omega)]) (eO hN) (by rw [hmd.pf]; exact kk)
theorem D1 {t : TypeId} {x : Operand} {lo hi : Option Operand} {s : ByteArray} {l h : Nat} [ht : StT P t] (hx : ev (lk ts) x = some (.v (.string s)))
  (hl : gX (lk ts) lo 0 = some l) (hh : gX (lk ts) hi s.size = some h) (hc : l ≤ h ∧ h ≤ s.size) (hN : Nat.blt d N = true) {md' : Md} [hmd : MdA md (rO x ++ (rB lo ++ rB hi)) [.inl d] md'] (kk : RW P N all Q md' rest ⟨(d, .v (.string (s.extract l h))) :: ts, hs, n, z0⟩) :
  RW P N all Q md (⟨some d, .slice t x lo hi none, ty, pos, af, none⟩ :: rest) ⟨ts, hs, n, z0⟩ := EA hx ht.pf hl hh hc (eO hN) (by rw [hmd.pf]; exact kk)
theorem HL (m : Int) (h : 0 ≤ m ∧ m ≤ 255) : IntKind.u8.wrap m = m := by
 have : IntKind.u8.wrap m = m % 256 := rfl
 rw [this]; omega
theorem IS {t t' : TypeId} {x y : Operand} {m m' : Int} (hx : ev (lk ts) x = some (.v (.int .u8 m))) (hy : ev (lk ts) y = some (.v (.int .u8 m')))
  (h : 0 ≤ m + m' ∧ m + m' ≤ 255) (hN : Nat.blt d N = true) {md' : Md} [hmd : MdA md (rO x ++ rO y) [.inl d] md'] (kk : RW P N all Q md' rest ⟨(d, .v (.int .u8 (m + m'))) :: ts, hs, n, z0⟩) : RW P N all Q md (⟨some d, .binOp .add t x y t', ty, pos, af, none⟩ :: rest) ⟨ts, hs, n, z0⟩ :=
 e5 hx hy (.inl rfl) (v := .int .u8 (m + m')) (by simp only [hZ, HL _ h]) (eO hN) (by rw [hmd.pf]; exact kk)
theorem Dz {t t' : TypeId} {x y : Operand} {m m' : Int} (hx : ev (lk ts) x = some (.v (.int .u8 m))) (hy : ev (lk ts) y = some (.v (.int .u8 m')))
  (h : 0 ≤ m - m' ∧ m - m' ≤ 255) (hN : Nat.blt d N = true) {md' : Md} [hmd : MdA md (rO x ++ rO y) [.inl d] md'] (kk : RW P N all Q md' rest ⟨(d, .v (.int .u8 (m - m'))) :: ts, hs, n, z0⟩) : RW P N all Q md (⟨some d, .binOp .sub t x y t', ty, pos, af, none⟩ :: rest) ⟨ts, hs, n, z0⟩ :=
 e5 hx hy (.inl rfl) (v := .int .u8 (m - m')) (by simp only [hZ, HL _ h]) (eO hN) (by rw [hmd.pf]; exact kk)
theorem A6 {s t : TypeId} {x : Operand} {k' : IntKind} {m : Int} [hd : InT P t .u8] [hs' : InT P s k'] (hx : ev (lk ts) x = some (.v (.int k' m))) (h : 0 ≤ m ∧ m ≤ 255) (hN : Nat.blt d N = true) {md' : Md} [hmd : MdA md (rO x) [.inl d] md'] (kk : RW P N all Q md' rest ⟨(d, .v (.int .u8 m)) :: ts, hs, n, z0⟩) :
  RW P N all Q md (⟨some d, .convert s t x, ty, pos, af, none⟩ :: rest) ⟨ts, hs, n, z0⟩ := CY hx hd.pf hs'.pf (eO hN) (by rw [hmd.pf, HL _ h]; exact kk)
end
theorem pN (n : Int) : (FK .empty [n]).size = 1 := rfl
theorem rX {a b : ByteArray} (h : a.size + b.size ≤ 9000000000000000000) : I4 .add a b = some (.string (a ++ b)) := if_pos h
end Go.AL

namespace Go.AL
def FA (l : List Int) : ByteArray := l.foldl (fun r n => r.push (UInt8.ofNat n.toNat)) .empty
def iE (v : Int) : ByteArray := FA [97 + v]
def BJ (n : Int) : ByteArray := FA [48 + n] ++ .empty
theorem oL (l : List UInt8) : ByteArray.size ⟨l.toArray⟩ = l.length := rfl
theorem nD (v : Int) : (iE v).size = 1 := rfl
theorem nE (v : Int) : (BJ v).size = 1 := by simp [BJ, FA, ByteArray.size_append]
def qF (out : ByteArray) (k : Nat) (t : ByteArray) : ByteArray := (if 0 < k then out ++ ⟨#[59]⟩ else out) ++ t
mutual
def lV : Stmt → ByteArray
 | .mk op x y n th el =>
  if op = 1 then (iE x ++ ⟨#[61]⟩) ++ BJ n
  else if op = 2 then (iE x ++ ⟨#[61, 98, 111, 120, 32]⟩) ++ BJ n
  else if op = 3 then (iE x ++ ⟨#[61]⟩) ++ iE y
  else if op = 4 then (iE x ++ ⟨#[61, 38]⟩) ++ iE y
  else if op = 5 then (iE x ++ ⟨#[61, 38, 109, 117, 116, 32]⟩) ++ iE y
  else if op = 6 then (iE x ++ ⟨#[61, 42]⟩) ++ iE y
  else if op = 7 then ((⟨#[42]⟩ ++ iE x) ++ ⟨#[61]⟩) ++ iE y
  else if op = 8 then ⟨#[100, 114, 111, 112, 32]⟩ ++ iE x
  else if op = 10 then (⟨#[108, 111, 111, 112, 123]⟩ ++ lX .empty 0 th) ++ ⟨#[125]⟩
  else (((⟨#[105, 102, 123]⟩ ++ lX .empty 0 th) ++ ⟨#[125, 123]⟩) ++ lX .empty 0 el) ++ ⟨#[125]⟩
def lX (out : ByteArray) (k : Nat) : List Stmt → ByteArray
 | [] => out
 | s :: l => lX (qF out k (lV s)) (k + 1) l
end
def j4 (l : List Stmt) : ByteArray := lX .empty 0 l
theorem uS : ∀ (l : List Stmt) (out : ByteArray) (k : Nat) (s : Stmt), lX out k (l ++ [s]) = qF (lX out k l) (k + l.length) (lV s)
 | [], out, k, s => by simp only [List.nil_append, lX, List.length_nil, Nat.add_zero]
 | x :: l, out, k, s => by
  simp only [List.cons_append, lX, uS l, List.length_cons]
  rw [show k + 1 + l.length = k + (l.length + 1) from by omega]
theorem tR (l : List Stmt) (k : Nat) (h : k < l.length) : j4 (l.take (k + 1)) = qF (j4 (l.take k)) k (lV l[k]!) := by
 rw [c5 _ _ h, j4, uS, List.length_take, Nat.min_eq_left (by omega), Nat.zero_add]; rfl
theorem Eb (s : Stmt) : lV s = 
  if s.op = 1 then (iE s.x ++ ⟨#[61]⟩) ++ BJ s.n
  else if s.op = 2 then (iE s.x ++ ⟨#[61, 98, 111, 120, 32]⟩) ++ BJ s.n
  else if s.op = 3 then (iE s.x ++ ⟨#[61]⟩) ++ iE s.y
  else if s.op = 4 then (iE s.x ++ ⟨#[61, 38]⟩) ++ iE s.y
  else if s.op = 5 then (iE s.x ++ ⟨#[61, 38, 109, 117, 116, 32]⟩) ++ iE s.y
  else if s.op = 6 then (iE s.x ++ ⟨#[61, 42]⟩) ++ iE s.y
  else if s.op = 7 then ((⟨#[42]⟩ ++ iE s.x) ++ ⟨#[61]⟩) ++ iE s.y
  else if s.op = 8 then ⟨#[100, 114, 111, 112, 32]⟩ ++ iE s.x
  else if s.op = 10 then (⟨#[108, 111, 111, 112, 123]⟩ ++ j4 s.th) ++ ⟨#[125]⟩
  else (((⟨#[105, 102, 123]⟩ ++ j4 s.th) ++ ⟨#[125, 123]⟩) ++ j4 s.el) ++ ⟨#[125]⟩ := by
 cases s; rw [lV]; rfl
mutual
theorem uO : ∀ s, (lV s).size + 1 ≤ 11 * dQ s
 | .mk op x y n th el => by
  have h1 := lE th .empty 0
  have h2 := lE el .empty 0
  have h3 : ByteArray.size .empty = 0 := rfl
  rw [lV]
  simp only [dQ]
  repeat' split
  all_goals simp only [ByteArray.size_append, oL, List.length_cons, List.length_nil, nD, nE]
  all_goals omega
theorem lE : ∀ (l : List Stmt) (out : ByteArray) (k : Nat), (lX out k l).size ≤ out.size + 11 * b9 l
 | [], out, k => by simp only [lX, b9]; omega
 | s :: l, out, k => by
  have h1 := uO s
  have h2 := lE l (qF out k (lV s)) (k + 1)
  have h3 : (qF out k (lV s)).size ≤ out.size + 1 + (lV s).size := by
   unfold qF; split <;> simp only [ByteArray.size_append, oL, List.length_cons, List.length_nil] <;> omega
  simp only [lX, b9]
  omega
end
theorem lH (l : List Stmt) : (j4 l).size ≤ 11 * b9 l := by
 have := lE l .empty 0
 have h3 : ByteArray.size .empty = 0 := rfl
 unfold j4; omega
theorem DT {ts : List Int} {s : Stmt} (ht : dD ts = true) (h : eV ts s = true) : 1 ≤ s.op ∧ s.op ≤ 8 ∧ 0 ≤ s.x ∧ s.x ≤ 5 ∧ 0 ≤ s.y ∧ s.y ≤ 5 ∧ (s.op = 1 ∨ s.op = 2 → 0 ≤ s.n ∧ s.n ≤ 9) := by
 have hl := iX ht
 have hx := lR ht s.x
 have hy := lR ht s.y
 unfold eV at h
 dsimp only at h
 repeat' split at h
 all_goals (first | (simp only [decide_eq_true_eq] at h; omega) | (simp at h; done))
end Go.AL

namespace Go.AL
theorem Jq (ts : List Int) (pts : List Pnt) (Aa : List Nat) (cf : List Bool) (i : Nat) : (Ma ts pts Aa cf i).length ≤ ts.length + pts.length := by
 unfold Ma
 rw [List.length_append, List.length_map, List.length_map]
 have h1 := List.length_filter_le (Mx ts pts Aa i) (List.range ts.length)
 have h2 := List.length_filter_le (fun (l : Nat) => cf[l]!) (List.range pts.length)
 rw [List.length_range] at h1 h2
 omega
theorem CH {ts : List Int} {pts : List Pnt} (w : WG ts pts) (f : Flows ts pts) : ∀ n, n ≤ pts.length → (Ag ts pts f.Aa f.Am f.Al f.Af f.Ap n).length ≤ n * (ts.length + pts.length)
 | 0, _ => by simp [Ag]
 | n + 1, h => by
  have h1 := CH w f n (by omega)
  have h2 := Jq ts pts f.Aa (L0 ts pts f.Am f.Al f.Af f.Ap n) n
  rw [KL w f (by omega)] at h2
  rw [vT, List.length_append, Nat.succ_mul]
  omega
theorem E8 {ts : List Int} {pts : List Pnt} (w : WG ts pts) (f : Flows ts pts) : f.iss.length ≤ 100000 := by
 have h := CH w f pts.length (Nat.le_refl _)
 have h1 := w.tl
 have h2 := w.pl
 have h3 : pts.length * (ts.length + pts.length) ≤ 61 * 67 := Nat.mul_le_mul (by omega) (by omega)
 exact Nat.le_trans h (Nat.le_trans h3 (by decide))
end Go.AL

namespace Go.AL
def FN (xs : List Bool) (k : Nat) : List Int := ((List.range k).filter (fun l => xs[l]!)).map (fun (l : Nat) => (l : Int))
theorem IL {xs : List Bool} {k : Nat} (h : xs[k]! = true) : FN xs (k + 1) = FN xs k ++ [(k : Int)] := by
 unfold FN; rw [m3, if_pos h, List.map_append]; rfl
theorem E7 {xs : List Bool} {k : Nat} (h : xs[k]! = false) : FN xs (k + 1) = FN xs k := by
 unfold FN; rw [m3, if_neg (by rw [h]; decide), List.append_nil]
end Go.AL

namespace Go.AL
theorem lK {A n : Nat} (hv : ∀ v, A.testBit v = true → v < n) : A < 2 ^ n := Nat.lt_pow_two_of_testBit _ fun v h => by
 cases hq : Nat.testBit _ v with
 | false => rfl
 | true => have := hv v hq; omega
theorem lD {A n : Nat} (hn : n ≤ 62) (hv : A < 2 ^ n) : Sm A := ⟨Nat.lt_of_lt_of_le hv (Nat.pow_le_pow_right (by decide) hn)⟩
structure FB (ts : List Int) (pts : List Pnt) (f : Flows ts pts) : Prop where
 la : f.Aa.length = pts.length
 lm : f.Am.length = pts.length
 ln : f.An.length = pts.length
 ll : f.Al.length = pts.length
 lp : f.Ap.length = pts.length
 bA : ∀ i : Nat, f.Aa[i]! < 2 ^ ts.length
 bM : ∀ i : Nat, f.Am[i]! < 2 ^ ts.length
 bN : ∀ i : Nat, f.An[i]! < 2 ^ ts.length
 bL : ∀ i : Nat, f.Al[i]! < 2 ^ ts.length
 bP : ∀ i : Nat, f.Ap[i]! < 2 ^ pts.length
 sA : ∀ i : Nat, Sm f.Aa[i]!
 sM : ∀ i : Nat, Sm f.Am[i]!
 sN : ∀ i : Nat, Sm f.An[i]!
 sL : ∀ i : Nat, Sm f.Al[i]!
 sP : ∀ i : Nat, Sm f.Ap[i]!
 rl : ∀ i, i < pts.length → (fE f.Af i).length = 6
 rs : ∀ i, i < pts.length → ∀ z : Nat, Sm (fE f.Af i)[z]!
 af : ∀ i, i < pts.length → I5 pts f.An i = f.Al[i]!
 kp : ∀ i, i < pts.length → wN ts pts[i]! f.Al[i]! (fE f.Af i) < 2 ^ pts.length
 lo : ∀ i, i < pts.length → wN ts pts[i]! f.Al[i]! (fE f.Af i) &&& f.Ap[i]! < 2 ^ pts.length
 cf : ∀ i, i < pts.length → G9 ts pts f.Am f.Al f.Af f.Ap i < 2 ^ pts.length
theorem Flows.bnd {ts : List Int} {pts : List Pnt} (f : Flows ts pts) (w : WG ts pts) : FB ts pts f := by
 have hpl := w.pl
 have htl := w.tl
 have off : ∀ {A : List Nat} {n : Nat} {i : Nat}, A.length = pts.length → ¬ i < pts.length → A[i]! < 2 ^ n := fun {A n i} h hi => by
  rw [getElem!_neg A i (by omega)]; exact Nat.pow_pos (by decide)
 have bA : ∀ i : Nat, f.Aa[i]! < 2 ^ ts.length := fun i => by
  by_cases hi : i < pts.length
  ·exact lK fun v hv => ((f.ga.2 i hi v).1 hv).1
  ·exact off f.ga.1 hi
 have bM : ∀ i : Nat, f.Am[i]! < 2 ^ ts.length := fun i => by
  by_cases hi : i < pts.length
  ·exact lK fun v hv => FP w ((f.gm.2 i hi v).1 hv)
  ·exact off f.gm.1 hi
 have bN : ∀ i : Nat, f.An[i]! < 2 ^ ts.length := fun i => by
  by_cases hi : i < pts.length
  ·exact lK fun v hv => tT w ((f.gn.2 i hi v).1 hv)
  ·exact off f.gn.1 hi
 have bL : ∀ i : Nat, f.Al[i]! < 2 ^ ts.length := fun i => by
  by_cases hi : i < pts.length
  ·exact lK fun v hv => by obtain ⟨k, _, h⟩ := (f.gl.2 i hi v).1 hv; exact tT w h
  ·exact off f.gl.1 hi
 have bP : ∀ i : Nat, f.Ap[i]! < 2 ^ pts.length := fun i => by
  by_cases hi : i < pts.length
  ·exact lK fun v hv => (uJ ((f.gp.2 i hi v).1 hv)).1
  ·exact off f.gp.1 hi
 have rs : ∀ i, i < pts.length → ∀ z : Nat, (fE f.Af i)[z]! < 2 ^ pts.length := fun i hi z => by
  by_cases hz : z < 6
  ·rw [gZ f.gf.1 hi hz]
   exact lK fun v hv => (A9 w ((f.gf.2 i z hi hz v).1 hv)).2.2
  ·rw [getElem!_neg _ z (by rw [iC f.gf.1 hi]; exact hz)]; exact Nat.pow_pos (by decide)
 have kp : ∀ i, i < pts.length → wN ts pts[i]! f.Al[i]! (fE f.Af i) < 2 ^ pts.length := fun i hi => lK fun v hv => by
  unfold wN at hv
  rw [jD] at hv
  rcases hv with hv | ⟨z, hz, hv⟩
  ·simp at hv
  ·exact eB (rs i hi _) hv
 have lo : ∀ i, i < pts.length → wN ts pts[i]! f.Al[i]! (fE f.Af i) &&& f.Ap[i]! < 2 ^ pts.length := fun i hi => Nat.and_lt_two_pow _ (bP i)
 refine ⟨f.ga.1, f.gm.1, f.gn.1, f.gl.1, f.gp.1, bA, bM, bN, bL, bP, fun i => lD (by omega) (bA i), fun i => lD (by omega) (bM i), fun i => lD (by omega) (bN i), fun i => lD (by omega) (bL i), fun i => lD (by omega) (bP i),
  fun i hi => iC f.gf.1 hi, fun i hi z => lD (by omega) (rs i hi z), fun i hi => ?_, kp, lo, fun i hi => BY w (bP i)⟩
 rw [w4 f.gl (AP w f.gn), fM _ _ _ hi]
end Go.AL

namespace Go.AL
def Aq (pts : List Pnt) (l : Nat) (c : Acc) : Bool := decide (c.var = pts[l]!.y) && (c.write || decide (pts[l]!.op = 5))
theorem E5 {ts : List Int} {pts : List Pnt} (w : WG ts pts) (f : Flows ts pts) {i l : Nat} (hi : i < pts.length) (hl : l < pts.length) (hln : fC pts[l]! = true) :
  (G9 ts pts f.Am f.Al f.Af f.Ap i).testBit l = ((k6 ts pts[i]! (f.Am[i]!.testBit (bT pts[i]!).toNat)).any (Aq pts l) && ((wN ts pts[i]! f.Al[i]! (fE f.Af i)).testBit l && f.Ap[i]!.testBit l)) := by
 have b := f.bnd w
 have hpl := w.pl
 have hy := x4 w hl hln
 rw [Bool.eq_iff_iff]
 unfold G9
 rw [kC _ _ _ (lD (by omega) (b.lo i hi)), Bool.and_eq_true, List.any_eq_true, ← Nat.testBit_and]
 simp only [Nat.zero_testBit, Bool.false_eq_true, false_or]
 constructor
 ·rintro ⟨c, hc, h1, h2, h3⟩
  refine ⟨⟨c, hc, ?_⟩, h1⟩
  rw [jA] at h2
  simp only [Bool.and_eq_true, decide_eq_true_eq] at h2
  have e2 := h2.2.2
  rw [Nat.testBit_two_pow, decide_eq_true_eq] at e2
  have hcv := xE _ w hi c hc
  unfold Aq
  rw [decide_eq_true (by omega : c.var = pts[l]!.y)]
  rcases h3 with h3 | h3
  ·rw [h3]; rfl
  ·rw [decide_eq_true h3]; simp
 ·rintro ⟨⟨c, hc, h⟩, h1⟩
  unfold Aq at h
  simp only [Bool.and_eq_true, Bool.or_eq_true, decide_eq_true_eq] at h
  refine ⟨c, hc, h1, ?_, h.2⟩
  rw [jA, decide_eq_true hl, hln, h.1, Nat.testBit_two_pow_self]; rfl
end Go.AL

namespace Go.AL
end Go.AL

namespace Go.AL
end Go.AL

namespace Go.AL
def Wy (pts : List Pnt) (a b : Nat) : Prop := Clo (fun b => eQ pts a b) (fun b c => eQ pts b c) b
structure GoodR (pts : List Pnt) (a : Nat) (F : List Bool) : Prop where
 l : F.length = pts.length
 g : ∀ i, i < pts.length → (F[i]! = true ↔ Wy pts a i)
theorem GoodR.exist (pts : List Pnt) (a : Nat) : ∃ F, GoodR pts a F :=
 ⟨(List.range pts.length).map (fun i => @decide (Wy pts a i) (Classical.propDecidable _)), by simp, fun i hi => by rw [cV _ i (by simpa using hi)]; simp⟩
theorem Wy.lt {pts : List Pnt} {a b : Nat} (w : ∀ i, i < pts.length → ∀ k ∈ pts[i]!.next, 0 ≤ k ∧ k < pts.length) (h : Wy pts a b) : b < pts.length := by
 cases h with
 | base e => have := w _ e.1 _ e.2; omega
 | step _ e => have := w _ e.1 _ e.2; omega
end Go.AL

namespace Go.AL
end Go.AL

namespace Go.AL
section
variable {pts : List Pnt} {f : Nat} (w : ∀ i, i < pts.length → ∀ k ∈ pts[i]!.next, 0 ≤ k ∧ k < pts.length) (hf : f < pts.length)
include w hf
end
end Go.AL

namespace Go.AL
open Go.RowKit
set_option linter.unusedVariables false
section
variable {P : Program} {C : Ctx} {ι : Pl} {F : Nat → Prop} {T : Nat → Option AV} {H : Nat → Option (List AV)} {a : Act} {w : World} {o : Oper}
theorem vK (t tn ty e : TypeId) (i : TypeInfo) (z : Value) (k kn : IntKind) (ht : P.underlying t = some (.slice e)) (htn : P.underlying tn = some (.int kn)) (hi : P.info? e = some i) (hz : i.zero = some z)
  (n : Nat) (h0 : 0 < n) (hs : 0 < i.size) (h63 : n ≤ 9223372036854775807) (hb : n * i.bytes ≤ 140737488355328) :
  (Builtin.append_ #[t, tn] ty #[.slice none 0 0, .int k (n : Int)]).run P w =
   .ok (.slice (some ⟨w.heap.size, 0, none⟩) n (grownCap w n 0 e)) (w.drew.alloc (.cells (Builtin.zeroCells z.cells n ++ Builtin.zeroCells z.cells (grownCap w n 0 e - n)) e)) := by
 have h1 : n ≠ 0 := by omega
 have h2 : IntKind.i64.wrap (n : Int) = n := sO (by omega)
 have h3 : ¬ (9223372036854775807 < (n : Int)) := by omega
 have hfit := growslice_fits (need := n) (old := 0) (bytes := i.bytes) (by omega) hb
 have h4 : ¬ (281474976710656 < Builtin.nextslicecap n 0 * i.bytes) := by omega
 have h5 : ¬ (281474976710656 < (n : Int) * (i.bytes : Int)) := by rw [← Int.natCast_mul]; omega
 have h6 : ¬ ((n : Int) < 0) := by omega
 have h7 : ¬ (n * i.size = 0) := Nat.mul_ne_zero h1 (by omega)
 have h8 : ∀ w : World, (Builtin.firstCells i.size 0 (.slice none 0 0)).run P w = .ok #[] w := fun w => by simp [Builtin.firstCells, loadCells, loadCellsFrom]
 simp [Builtin.append_, dC ht, dC htn, sizeOf, typeInfo, zeroValue, hi, hz, asInt, asIntOf, h2, h1, h6, h7, h3, h4, h5, Question.forced, h8, newRow, grownCap]
theorem mG (z : Array Value) : ∀ n, (Builtin.zeroCells z n).toList = (List.replicate n z.toList).flatten := fun n => by
 have := pQ z n (n * z.size) rfl
 simpa [Builtin.zeroCells, madeCells] using this
theorem Gq (g : TG C ι T H a w) (gh : HG C ι F H w) {t tn el : TypeId} {e by' id n : Nat} {x y : Operand} {zs : List Value} {k k' : IntKind} (ho : o.op = .call ⟨.builtin .append, #[x, y], #[t, tn]⟩)
  (hx : ev T x = some (.v (.slice none 0 0))) (hy : ev T y = some (.v (.int k (n : Int)))) (ht : lZ P t = some el) (htn : P.underlying tn = some (.int k')) (he : gH P el = some e) (hb : AD P el = some by') (hz : n7 P el = some zs) (hze : zs.length = e)
  (he0 : 0 < e) (h0 : 0 < n) (hsm : n * by' ≤ 140737488355328) (hmx : n ≤ 9223372036854775807) (hf : F id) :
  Ef P C ι (fun j => F j ∧ j ≠ id) H a w o (.own id 0 n e) (fI H id (some ((List.replicate n (zs.map .v)).flatten))) := by
 obtain ⟨i, z, h1, h2, h3, h4⟩ := nU hz
 have hzsz : z.cells.size = e := by rw [← hze, ← h3]; simp
 have hx' := dB g hx
 have hy' := dB g hy
 simp only [Rd] at hx' hy'
 have hr := vK (P := P) (w := w) t tn o.type el i z k k' (iL ht) htn h1 h2 n h0 (by rw [uG he h1]; exact he0) hmx (by rw [BS hb h1]; exact hsm)
 obtain ⟨g1, c1⟩ := pO gh
 have harr : (Builtin.zeroCells z.cells n).toList = (List.replicate n zs).flatten := by rw [mG, h3]
 obtain ⟨g3, c4⟩ := g1.alloc (id := id) hf (arr := Builtin.zeroCells z.cells n ++ Builtin.zeroCells z.cells (grownCap w n 0 el - n)) el (cs := (List.replicate n (zs.map AV.v)).flatten) (l := (List.replicate n zs).flatten) (rest := (Builtin.zeroCells z.cells (grownCap w n 0 el - n)).toList)
  (by rw [Array.toList_append, harr]) (by
   have : (List.replicate n (zs.map AV.v)).flatten = ((List.replicate n zs).flatten).map AV.v := by rw [List.map_flatten, List.map_replicate]
   rw [this]; exact qW (pA zs h4 n))
 refine ⟨_, .slice (some ⟨w.heap.size, 0, none⟩) n (grownCap w n 0 el), _, _, ?_, .inl ⟨rfl, ?_⟩, g3, c1.trans c4⟩
 ·simp [execOp, ho, resolve, invoke, builtin, hx', hy', hr]
 ·simp only [Rd]
  have hge := grownCap_ge w n 0 el
  refine .inr ⟨w.heap.size, 0, _, by simp, by simp, hge, ?_⟩
  have hh : (w.drew.alloc (.cells (Builtin.zeroCells z.cells n ++ Builtin.zeroCells z.cells (grownCap w n 0 el - n)) el)).heap[w.heap.size]? = some (.cells (Builtin.zeroCells z.cells n ++ Builtin.zeroCells z.cells (grownCap w n 0 el - n)) el (0, 0)) := heap_alloc_new w.drew _
  rw [nJ, hh]
  simp only [Array.size_append, size_zeroCells, hzsz, ← Nat.add_mul]
  rw [show n + (grownCap w n 0 el - n) = grownCap w n 0 el from by omega]
  omega
end
section
variable {P : Program} {N : Nat} {Q : Exit → AS → Prop} {all : Array Oper} {rest : List Oper} {ts : List (Nat × AV)} {hs : List (Nat × Option (List AV))} {n : Nat} {z0 : Lo} {md : Md}
variable {d : Nat} {ty : TypeId} {pos : String} {af : Array Edge}
theorem Fx {t tn el : TypeId} {e by' m : Nat} {x y : Operand} {zs : List Value} {k k' : IntKind} {z : Int} [ht : SlT P t el] [he : SzT P el e] [hb : ByT P el by'] [hz : ZrT P el zs] (htn : P.underlying tn = some (.int k'))
  (hx : ev (lk ts) x = some (.v (.slice none 0 0))) (hy : ev (lk ts) y = some (.v (.int k z))) (hzm : z = (m : Int)) (hze : zs.length = e) (he0 : Nat.blt 0 e = true) (h0 : 0 < m) (hsm : m * by' ≤ 140737488355328) (hmx : m ≤ 9223372036854775807)
  (hM : Nat.blt n eS = true) (hN : Nat.blt d N = true) (kk : RW P N all Q .txt rest ⟨(d, .own n 0 m e) :: ts, (n, some ((List.replicate m (zs.map .v)).flatten)) :: hs, n + 1, z0⟩) :
  RW P N all Q .txt (⟨some d, .call ⟨.builtin .append, #[x, y], #[t, tn]⟩, ty, pos, af, none⟩ :: rest) ⟨ts, hs, n, z0⟩ := by
 subst hzm
 exact L5 (rs := rO x ++ rO y) rfl rfl (eO hN) hM (fun C ι F T H a w ag hF g gh => Gq g gh rfl (ag.l.ev.trans hx) (ag.r.ev.trans hy) ht.pf htn he.pf hb.pf hz.pf hze (eO he0) h0 hsm hmx hF) kk
theorem Ex {t el : TypeId} {x : Operand} [ht : SlT P t el] (hx : ev (lk ts) x = some (.v (.slice none 0 0))) (hN : Nat.blt d N = true) (kk : RW P N all Q .txt rest ⟨(d, .v (.int .i64 0)) :: ts, hs, n, z0⟩) :
  RW P N all Q .txt (⟨some d, .call ⟨.builtin .cap, #[x], #[t]⟩, ty, pos, af, none⟩ :: rest) ⟨ts, hs, n, z0⟩ := by
 refine eY (out := .v (.int .i64 0)) (rs := rO x) rfl rfl (eO hN) (fun C ι F T H a w ag g gh => ?_) kk
 have hx' := dB g (ag.ev.trans hx)
 simp only [Rd] at hx'
 exact ⟨.int .i64 0, by simp [execOp, resolve, invoke, builtin, hx', Builtin.cap_, dC (iL ht.pf), goInt], by simp only [Rd]⟩
theorem BV {t el : TypeId} {x y : Operand} {i o m e : Nat} {k : IntKind} {z : Int} {h : Nat} [ht : SlT P t el] [he : SzT P el e] (hx : ev (lk ts) x = some (.own i o m e)) (hy : ev (lk ts) y = some (.v (.int k z))) (hz : z = (h : Int)) (hb : h ≤ m) (hN : Nat.blt d N = true)
  {md' : Md} [hmd : MdA md (rO x ++ (rB none ++ rB (some y))) [.inl d] md'] (kk : RW P N all Q md' rest ⟨(d, .own i o h e) :: ts, hs, n, z0⟩) : RW P N all Q md (⟨some d, .slice t x none (some y) none, ty, pos, af, none⟩ :: rest) ⟨ts, hs, n, z0⟩ := by
 subst hz
 exact hG (m := m) (l := 0) (h := h) hx rfl rfl (by simp [gX, hy]) (by simp [JV, hb]) hN (md' := md') (hmd := hmd) kk
theorem zO {t el e : TypeId} {x : Operand} {hi : Option Operand} [ht : SlT P t el] [he : SzT P el e] (hx : ev (lk ts) x = some (.v (.slice none 0 0))) (hh : gX (lk ts) hi 0 = some 0) (hN : Nat.blt d N = true)
  (kk : RW P N all Q .txt rest ⟨(d, .v (.slice none 0 0)) :: ts, hs, n, z0⟩) : RW P N all Q .txt (⟨some d, .slice t x none hi none, ty, pos, af, none⟩ :: rest) ⟨ts, hs, n, z0⟩ := by
 refine eY (out := .v (.slice none 0 0)) (rs := rO x ++ rB hi) rfl rfl (eO hN) (fun C ι F T H a w ag g gh => ?_) kk
 have h1 := dB g (ag.l.ev.trans hx)
 simp only [Rd] at h1
 have hu := iL ht.pf
 have hr := iM (P := P) (w := w) (is := true) (cap := 0) g (lo := none) (hi := hi) (l := 0) (h := 0) (n := 0) rfl (ag.r.bnd.trans hh) (Nat.le_refl _) (Nat.le_refl _) (Nat.le_refl _)
 rw [show Option.map a.eval (none : Option Operand) = none from rfl] at hr
 refine ⟨.slice none 0 0, ?_, by simp only [Rd]⟩
 simp [execOp, h1, Instr.sliceAt, dC hu, Instr.slice, hr, fX he.pf]
end
theorem Le.cut {ts : List (Nat × AV)} {hs : List (Nat × Option (List AV))} {n : Nat} {z0 : Lo} {i : Nat} {cs : List AV} (k : Nat) (hi : cO hs i = some cs) :
  Le ⟨ts, hs, n, z0⟩ ⟨ts, (i, some (cs.take k)) :: hs, n, z0⟩ := by
 rintro C a w ⟨h0, ι, g, gh⟩
 have hσ : ∀ id c, cO ((i, some (cs.take k)) :: hs) id = some c → ∃ c0, cO hs id = some c0 ∧ (c = c0 ∨ c = c0.take k) := by
  intro id c h
  rw [gG] at h
  split at h
  ·rename_i e; subst e; cases h; exact ⟨cs, hi, .inr rfl⟩
  ·exact ⟨c, h, .inl rfl⟩
 have car : Carry w (a8 C.X ι (cO hs)) ι w (a8 C.X ι (cO ((i, some (cs.take k)) :: hs))) ι := by
  refine ⟨fun b o' x h1 h2 => ⟨?_, h2⟩, fun _ _ h => h, fun _ => Nat.le_refl _⟩
  rintro (h | ⟨id, c, β, q1, q2⟩)
  ·exact h1 (.inl h)
  ·obtain ⟨c0, r, _⟩ := hσ id c q1
   exact h1 (.inr ⟨id, c0, β, r, q2⟩)
 refine ⟨h0, ι, ⟨g.df, g.sz, fun t av ht => ?_⟩, ⟨fun id c h => ?_, fun id id' c c' b β β' q1 q2 q3 q4 => ?_, gh.fr, gh.ex, gh.fresh⟩⟩
 ·obtain ⟨y, hy, hr⟩ := g.tm t av ht
  exact ⟨y, hy, Rd.carry car _ _ hr⟩
 ·obtain ⟨c0, r, e⟩ := hσ id c h
  rcases gh.obj id c0 r with ⟨h1, h2⟩ | ⟨b', β', arr', e', h1, h2, h3, h4, h5, h6⟩
  ·refine .inl ⟨h1, ?_⟩
   rcases e with e | e
   ·rw [e, h2]
   ·rw [e, h2]; simp
  ·refine .inr ⟨b', β', arr', e', h1, h2, ?_, ?_, h5, h6⟩
   ·rcases e with e | e
    ·rw [e]; exact h3
    ·rw [e, List.length_take]; omega
   ·have h7 := RdC.carryB car _ _ _ (fun o x hx => hx) h4
    rcases e with e | e
    ·rw [e]; exact h7
    ·rw [e]; exact RdC.take k h7
 ·obtain ⟨_, r1, _⟩ := hσ id c q1
  obtain ⟨_, r2, _⟩ := hσ id' c' q2
  exact gh.sep _ _ _ _ _ _ _ r1 r2 q3 q4
def Mv (l : List Int) : List AV := [sl cI l]
instance : FlT Mv 1 := ⟨fun _ => rfl⟩
instance : FE Mv (fun l => [sl cI l]) := ⟨fun _ => rfl⟩
instance (l : List Int) : Pur (Mv l) := ⟨by show (AV.pur (sl cI l) && true) = true; rw [Bool.and_true]; exact aY cI l⟩
section
variable {P : Program} {N : Nat} {Q : Exit → AS → Prop} {all : Array Oper} {rest : List Oper} {ts : List (Nat × AV)} {hs : List (Nat × Option (List AV))} {n : Nat} {z0 : Lo}
variable {d : Nat} {ty : TypeId} {pos : String} {af : Array Edge}
theorem jI {fn : Go.Fn} {cs : Array Operand} {i : Nat} {cc c : List AV} (t : Nat) (hx : lk ts t = some (.optr i 0)) (hH : cO hs i = some cc) (hc : evL (lk ((t, .iptr cc) :: ts)) cs.toList = some c) (hN : Nat.blt d N = true)
  (kk : RW P N all Q .txt rest ⟨(d, .clos fn [] c) :: (t, .iptr cc) :: ts, (i, none) :: hs, n, z0⟩) : RW P N all Q .txt (⟨some d, .makeFunc fn #[] cs, ty, pos, af, none⟩ :: rest) ⟨ts, hs, n, z0⟩ :=
 hO (gU (f := []) (c := c) rfl hc hN (md' := .txt) kk) (Le.frzP hx hH)
end
section
variable {P : Program} {N : Nat} {Q : Exit → AS → Prop} {all : Array Oper} {rest : List Oper} {ts : List (Nat × AV)} {hs : List (Nat × Option (List AV))} {n : Nat} {z0 : Lo} {md : Md}
variable {d : Nat} {ty : TypeId} {pos : String} {af : Array Edge}
end
theorem GB {xs ys : List Int} {m : Nat} (hm : m = xs.length) : ((aI cI xs).drop 0).take (m * 1) ++ aI cI ys = aI cI (xs ++ ys) := by
 subst hm
 have h : (aI cI xs).length = xs.length * 1 := aQ cI xs
 rw [List.drop_zero, List.take_of_length_le (by omega)]
 simp [aI]
end Go.AL

namespace Go.AL
section
variable {pts : List Pnt} {f t : Nat} (w : ∀ i, i < pts.length → ∀ k ∈ pts[i]!.next, 0 ≤ k ∧ k < pts.length) (hf : f < pts.length)
include w hf
end
end Go.AL

namespace Go.AL
end Go.AL

namespace Go.AL
structure RI (pts : List Pnt) (a : Nat) (F : List Bool) (T : List Int) : Prop where
 len : F.length = pts.length
 src : ∀ k ∈ pts[a]!.next, F[k.toNat]! = true ∨ k ∈ T
 cl : ∀ i, i < pts.length → F[i]! = true → ∀ k ∈ pts[i]!.next, F[k.toNat]! = true ∨ k ∈ T
 snd : ∀ i, i < pts.length → F[i]! = true → Wy pts a i
 tw : ∀ k ∈ T, 0 ≤ k ∧ k < pts.length ∧ Wy pts a k.toNat
def BD (F : List Bool) (T : List Int) : Nat := 3 * F.countP (fun b => !b) + T.length
theorem RI.start {pts : List Pnt} {a : Nat} (w : ∀ i, i < pts.length → ∀ k ∈ pts[i]!.next, 0 ≤ k ∧ k < pts.length) (ha : a < pts.length) : RI pts a (List.replicate pts.length false) pts[a]!.next := by
 have h0 : ∀ i, (List.replicate pts.length false)[i]! = true → False := fun i h => by
  by_cases hi : i < pts.length
  ·rw [cV _ i (by simpa using hi)] at h; simp at h
  ·rw [getElem!_neg _ i (by simpa using hi)] at h; cases h
 exact ⟨by simp, fun k hk => .inr hk, fun i hi h => (h0 i h).elim, fun i hi h => (h0 i h).elim, fun k hk =>
  ⟨(w a ha k hk).1, (w a ha k hk).2, .base ⟨ha, by rw [Int.toNat_of_nonneg (w a ha k hk).1]; exact hk⟩⟩⟩
theorem RI.vis {pts : List Pnt} {a : Nat} {F : List Bool} {T T' : List Int} {k : Int} (I : RI pts a F T) (h1 : ∀ x ∈ T, x = k ∨ x ∈ T') (h2 : ∀ x ∈ T', x ∈ T) (hF : F[k.toNat]! = true) : RI pts a F T' := by
 have key : ∀ x, F[x.toNat]! = true ∨ x ∈ T → F[x.toNat]! = true ∨ x ∈ T' := fun x h => by
  rcases h with h | h
  ·exact .inl h
  ·rcases h1 x h with rfl | h
   ·exact .inl hF
   ·exact .inr h
 exact ⟨I.len, fun x hx => key x (I.src x hx), fun i hi h x hx => key x (I.cl i hi h x hx), I.snd, fun x hx => I.tw x (h2 x hx)⟩
theorem RI.new {pts : List Pnt} {a : Nat} (w : ∀ i, i < pts.length → ∀ k ∈ pts[i]!.next, 0 ≤ k ∧ k < pts.length) {F : List Bool} {T T' : List Int} {k : Int} (I : RI pts a F T) (hk : k ∈ T) (h1 : ∀ x ∈ T, x = k ∨ x ∈ T') (h2 : ∀ x ∈ pts[k.toNat]!.next, x ∈ T') (h3 : ∀ x ∈ T', x ∈ T ∨ x ∈ pts[k.toNat]!.next) :
  RI pts a (F.set k.toNat true) T' := by
 have hkl := I.tw k hk
 have hl := I.len
 have mono : ∀ i : Nat, F[i]! = true → (F.set k.toNat true)[i]! = true := fun i h => by
  rw [dK]; split
  ·rfl
  ·exact h
 have hkk : (F.set k.toNat true)[k.toNat]! = true := by rw [dK, if_pos ⟨rfl, by omega⟩]
 have key : ∀ x, F[x.toNat]! = true ∨ x ∈ T → (F.set k.toNat true)[x.toNat]! = true ∨ x ∈ T' := fun x h => by
  rcases h with h | h
  ·exact .inl (mono _ h)
  ·rcases h1 x h with rfl | h
   ·exact .inl hkk
   ·exact .inr h
 have hold : ∀ i, (F.set k.toNat true)[i]! = true → i = k.toNat ∨ F[i]! = true := fun i h => by
  rw [dK] at h; split at h
  ·rename_i e; exact .inl e.1.symm
  ·exact .inr h
 refine ⟨by rw [List.length_set]; exact hl, fun x hx => key x (I.src x hx), fun i hi h x hx => ?_, fun i hi h => ?_, fun x hx => ?_⟩
 ·rcases hold i h with rfl | h
  ·exact .inr (h2 x hx)
  ·exact key x (I.cl i hi h x hx)
 ·rcases hold i h with rfl | h
  ·exact hkl.2.2
  ·exact I.snd i hi h
 ·rcases h3 x hx with h | h
  ·exact I.tw x h
  ·have := w _ (by omega) x h
   exact ⟨this.1, this.2, .step hkl.2.2 ⟨by omega, by rw [Int.toNat_of_nonneg this.1]; exact h⟩⟩
theorem RI.fin {pts : List Pnt} {a : Nat} {F F0 : List Bool} (I : RI pts a F []) (hF : GoodR pts a F0) (w : ∀ i, i < pts.length → ∀ k ∈ pts[i]!.next, 0 ≤ k ∧ k < pts.length) : F = F0 := by
 refine Di (by rw [I.len, hF.l]) fun i hi => ?_
 rw [I.len] at hi
 rw [Bool.eq_iff_iff, hF.g i hi]
 refine ⟨I.snd i hi, fun h => ?_⟩
 have := Clo.sub (T := fun k => F[k]! = true) (fun k he => ?_) (fun x y hx he => ?_) i h
 ·exact this
 ·rcases I.src _ he.2 with h | h
  ·simpa using h
  ·cases h
 ·rcases I.cl x he.1 hx _ he.2 with h | h
  ·simpa using h
  ·cases h
theorem H5 {F : List Bool} {k : Nat} (hk : k < F.length) (h : F[k]! = false) (T : List Int) : BD (F.set k true) T + 3 = BD F T := by
 unfold BD
 have h1 : F[k] = false := by rw [← cV F k hk]; exact h
 have h2 : 0 < F.countP (fun b => !b) := List.countP_pos_iff.2 ⟨F[k], List.getElem_mem hk, by rw [h1]; rfl⟩
 rw [List.countP_set hk, h1]; simp; omega
theorem Jn (F : List Bool) (T : List Int) : T.length ≤ BD F T := by unfold BD; omega
theorem Ie (F : List Bool) (T S : List Int) : BD F (T ++ S) = BD F T + S.length := by unfold BD; rw [List.length_append]; omega
theorem FJ (F : List Bool) (T : List Int) (x : Int) : BD F (x :: T) = BD F T + 1 := by unfold BD; rw [List.length_cons]; omega
theorem EZ {n : Nat} {T : List Int} (hn : n ≤ 61) (hT : T.length ≤ 2) : BD (List.replicate n false) T ≤ 200 := by
 unfold BD
 have : (List.replicate n false).countP (fun b => !b) ≤ n := Nat.le_trans List.countP_le_length (by simp)
 omega
end Go.AL

namespace Go.AL
open Go.Lib
theorem DA : ∀ {a b : List Int}, a.Pairwise (· < ·) → b.Pairwise (· < ·) → (∀ x, x ∈ a ↔ x ∈ b) → a = b
 | [], [], _, _, _ => rfl
 | [], y :: b, _, _, h => by have := (h y).2 (by simp); cases this
 | x :: a, [], _, _, h => by have := (h x).1 (by simp); cases this
 | x :: a, y :: b, ha, hb, h => by
  rw [List.pairwise_cons] at ha hb
  have exy : x = y := by
   have h1 := (h x).1 (by simp)
   have h2 := (h y).2 (by simp)
   rcases List.mem_cons.1 h1 with e | e
   ·exact e
   ·rcases List.mem_cons.1 h2 with e' | e'
    ·exact e'.symm
    ·have q1 := hb.1 x e
     have q2 := ha.1 y e'
     omega
  subst exy
  rw [DA ha.2 hb.2 fun z => ?_]
  constructor
  ·intro hz
   have q := ha.1 z hz
   rcases List.mem_cons.1 ((h z).1 (List.mem_cons_of_mem _ hz)) with e | e
   ·omega
   ·exact e
  ·intro hz
   have q := hb.1 z hz
   rcases List.mem_cons.1 ((h z).2 (List.mem_cons_of_mem _ hz)) with e | e
   ·omega
   ·exact e
theorem mU (zs : List Int) (j : Nat) : zs.toArray[j]! = zs[j]! := by simp
theorem vU (zs : List Int) (j : Nat) : keeps zs.toArray j = true ↔ j = 0 ∨ zs[j]! ≠ zs[j - 1]! := by
 unfold keeps
 rw [mU, mU]; simp
theorem qJ (zs : List Int) (x : Int) : x ∈ compact zs ↔ x ∈ zs := by
 unfold compact compactUpTo
 rw [List.mem_map]
 constructor
 ·rintro ⟨j, hj, rfl⟩
  have hj' := List.mem_range.1 (List.mem_filter.1 hj).1
  rw [mU]; exact cK _ _ hj'
 ·intro hx
  obtain ⟨i, hi, e⟩ := List.getElem_of_mem hx
  have key : ∀ n i, i ≤ n → i < zs.length → zs[i]! = x → ∃ j, j < zs.length ∧ zs[j]! = x ∧ (j = 0 ∨ zs[j]! ≠ zs[j - 1]!) := by
   intro n
   induction n with
   | zero => intro i h1 h2 h3; exact ⟨i, h2, h3, .inl (by omega)⟩
   | succ n ih =>
    intro i h1 h2 h3
    by_cases q : i = 0 ∨ zs[i]! ≠ zs[i - 1]!
    ·exact ⟨i, h2, h3, q⟩
    ·have q1 : i ≠ 0 := fun e => q (.inl e)
     have q2 : zs[i]! = zs[i - 1]! := Classical.byContradiction fun e => q (.inr e)
     exact ih (i - 1) (by omega) (by omega) (by rw [← q2]; exact h3)
  obtain ⟨j, h1, h2, h3⟩ := key i i (Nat.le_refl _) hi (by rw [cV _ _ hi]; exact e)
  exact ⟨j, List.mem_filter.2 ⟨List.mem_range.2 h1, (vU zs j).2 h3⟩, by rw [mU]; exact h2⟩
theorem zT (zs : List Int) (h : zs.Pairwise (· ≤ ·)) : (compact zs).Pairwise (· < ·) := by
 have hle : ∀ i j, i ≤ j → j < zs.length → zs[i]! ≤ zs[j]! := fun i j h1 h2 => by
  by_cases e : i = j
  ·rw [e]; exact Int.le_refl _
  ·rw [cV _ _ h2, cV _ _ (by omega)]
   exact (List.pairwise_iff_getElem.1 h) i j (by omega) h2 (by omega)
 unfold compact compactUpTo
 rw [List.pairwise_map, List.pairwise_filter]
 refine List.Pairwise.imp_of_mem ?_ (List.pairwise_lt_range (n := zs.length))
 intro i j hi hj hij k1 k2
 have hj' := List.mem_range.1 hj
 rw [mU, mU]
 rcases (vU zs j).1 k2 with e | e
 ·omega
 ·have h1 := hle i (j - 1) (by omega) (by omega)
  have h2 := hle (j - 1) j (by omega) hj'
  omega
theorem iZ (zs : List Int) : (compact zs).length ≤ zs.length := by
 unfold compact compactUpTo; rw [List.length_map]; exact Nat.le_trans (List.length_filter_le _ _) (by rw [List.length_range]; exact Nat.le_refl _)
def vB (B : Nat → Bool) (A : Nat → Int) (k : Nat) : List Int := ((List.range k).filter B).map A
theorem Dt {B : Nat → Bool} {A : Nat → Int} {k : Nat} (h : B k = true) : vB B A (k + 1) = vB B A k ++ [A k] := by
 unfold vB; rw [List.range_succ, List.filter_append, List.map_append, List.filter_cons_of_pos h]; rfl
theorem z1 {B : Nat → Bool} {A : Nat → Int} {k : Nat} (h : B k = false) : vB B A (k + 1) = vB B A k := by
 unfold vB; rw [List.range_succ, List.filter_append, List.map_append, List.filter_cons_of_neg (by rw [h]; decide)]; simp
theorem C5 {B : Nat → Bool} {A : Nat → Int} {k : Nat} : (vB B A k).length ≤ k := by
 unfold vB; rw [List.length_map]; exact Nat.le_trans (List.length_filter_le _ _) (by rw [List.length_range]; exact Nat.le_refl _)
theorem Cy {B : Nat → Bool} {A : Nat → Int} {k : Nat} {x : Int} : x ∈ vB B A k ↔ ∃ j, j < k ∧ B j = true ∧ A j = x := by
 unfold vB
 rw [List.mem_map]
 constructor
 ·rintro ⟨j, h1, h2⟩
  obtain ⟨h3, h4⟩ := List.mem_filter.1 h1
  exact ⟨j, List.mem_range.1 h3, h4, h2⟩
 ·rintro ⟨j, h1, h2, h3⟩
  exact ⟨j, List.mem_filter.2 ⟨List.mem_range.2 h1, h2⟩, h3⟩
def E0 (N : Nat) (L : List Int) : List Bool := (List.range N).map fun (i : Nat) => decide ((i : Int) ∈ L)
theorem oR (N : Nat) (L : List Int) : (E0 N L).length = N := by simp [E0]
theorem rK {N : Nat} {L : List Int} {i : Nat} (h : i < N) : (E0 N L)[i]! = decide ((i : Int) ∈ L) := by
 unfold E0; rw [cV _ _ (by simpa using h), List.getElem_map, List.getElem_range]
theorem JE {N : Nat} {L : List Int} {a : Nat} (h : a < N) : (E0 N L).set a true = E0 N (L ++ [(a : Int)]) := by
 apply Di
 ·rw [List.length_set, oR, oR]
 ·intro i hi
  rw [List.length_set, oR] at hi
  rw [dK, oR, rK hi, rK hi]
  by_cases e : a = i
  ·rw [if_pos ⟨e, hi⟩, e]; exact (decide_eq_true (by simp)).symm
  ·rw [if_neg (fun q => e q.1), decide_eq_decide]
   simp only [List.mem_append, List.mem_singleton]
   constructor
   ·exact .inl
   ·rintro (q | q)
    ·exact q
    ·omega
theorem JB (N : Nat) : E0 N [] = List.replicate N false := by
 unfold E0; simp only [List.not_mem_nil, decide_false]; rw [List.map_const', List.length_range]
def pL (L : List Int) : List Int := L.mergeSort fun x y => decide (x ≤ y)
theorem lP (L : List Int) : (pL L).length = L.length := List.length_mergeSort _
theorem C0 (L : List Int) (x : Int) : x ∈ pL L ↔ x ∈ L := List.mem_mergeSort
theorem Ly (L : List Int) : (pL L).Pairwise (· ≤ ·) := by
 have h := List.pairwise_mergeSort (le := fun x y : Int => decide (x ≤ y)) (fun a b c h1 h2 => by simp only [decide_eq_true_eq] at *; omega) (fun a b => by simp only [Bool.or_eq_true, decide_eq_true_eq]; omega) L
 exact h.imp (fun h => by simpa using h)
theorem ED {N : Nat} {L : List Int} (h : ∀ x ∈ L, 0 ≤ x ∧ x < (N : Int)) : FN (E0 N L) N = compact (pL L) := by
 refine DA ?_ (zT _ (Ly L)) fun x => ?_
 ·unfold FN
  rw [List.pairwise_map, List.pairwise_filter]
  exact (List.pairwise_lt_range (n := N)).imp fun h _ _ => by omega
 ·rw [qJ, C0]
  unfold FN
  rw [List.mem_map]
  constructor
  ·rintro ⟨i, hi, rfl⟩
   obtain ⟨h1, h2⟩ := List.mem_filter.1 hi
   rw [rK (List.mem_range.1 h1)] at h2
   simpa using h2
  ·intro hx
   have hb := h x hx
   refine ⟨x.toNat, List.mem_filter.2 ⟨List.mem_range.2 (by omega), ?_⟩, by omega⟩
   rw [rK (by omega), show ((x.toNat : Nat) : Int) = x by omega]
   exact decide_eq_true hx
end Go.AL

namespace Go.AL
theorem BO {ts : List Int} {v : Int} (h : 0 < gE ts v) : gE ts v = ts[v.toNat]! := by
 unfold gE at h ⊢
 split at h
 ·rename_i c; rw [if_pos c]
 ·omega
end Go.AL

namespace Go.AL
open Go.RowKit
set_option linter.unusedVariables false
set_option linter.unusedSimpArgs false
end Go.AL

namespace Go.AL
open Go.RowKit
set_option linter.unusedVariables false
set_option linter.unusedSimpArgs false
section
variable {P : Program} {C : Ctx} {ι : Pl} {T : Nat → Option AV} {F : Nat → Prop} {H : Nat → Option (List AV)} {a : Act} {w : World} {o : Oper}
theorem zK {bad : Nat → Prop} {zs : List Value} (h : zs.all (·.oneCell') = true) : ∀ n, RdL w bad ι (List.replicate n (zs.map AV.v)).flatten (List.replicate n zs).flatten
 | 0 => by simp [RdL]
 | n + 1 => by
  rw [List.replicate_succ, List.replicate_succ, List.flatten_cons, List.flatten_cons]
  exact RdL.append (qW h) (zK h n)
theorem Gc (gh : HG C ι F H w) {t el : TypeId} {x : Operand} {id off n e : Nat} {cs : List AV} {zs : List Value}
  (ho : o.op = .call ⟨.builtin .clear, #[x], #[t]⟩) (hx : Rd w (a8 C.X ι H) ι (.own id off n e) (a.eval x)) (hd : o.dst = none)
  (ht : lZ P t = some el) (he : gH P el = some e) (hz : n7 P el = some zs) (hze : zs.length = e)
  (hH : H id = some cs) (h0 : 0 < n) (hl : off + n * e ≤ cs.length) :
  Ef P C ι F H a w o (.tup []) (fI H id (some (iN cs off (List.replicate n (zs.map AV.v)).flatten))) := by
 obtain ⟨i, z, h1, h2, h3, h4⟩ := nU hz
 have hu := iL ht
 have hsz := uG he h1
 simp only [Rd] at hx
 rcases hx with ⟨_, rfl, _⟩ | ⟨b, β, c, p1, p2, p3, p4⟩
 ·omega
 have hlen : ((List.replicate n (zs.map AV.v)).flatten).length = n * e := by
  rw [List.length_flatten]; simp [hze]
 obtain ⟨w', q1, q2, q3⟩ := Ay (P := P) gh hH p1 (off := off) (new := (List.replicate n (zs.map AV.v)).flatten) (by rw [hlen]; exact hl) (zK h4 n)
 have hr : (Builtin.clear_ #[t] o.type #[a.eval x]).run P w = .ok (.tuple #[]) w' := by
  rw [p2]
  cases n with
  | zero => omega
  | succ n =>
   have hzc : (Builtin.zeroCells z.cells (n + 1)).toList = (List.replicate (n + 1) zs).flatten := by rw [mG, h3]
   simp [Builtin.clear_, dC hu, zeroValue, typeInfo, h1, h2, hzc, q1]
 refine ⟨.value (.tuple #[]), .tuple #[], ι, w', ?_, .inl ⟨rfl, ?_⟩, q2, q3⟩
 ·simp [execOp, ho, resolve, invoke, builtin, hr]
 ·simp only [Rd]; exact ⟨[], rfl, by simp [RdV]⟩
end
section
variable {P : Program} {N : Nat} {Q : Exit → AS → Prop} {all : Array Oper} {rest : List Oper} {ts : List (Nat × AV)} {hs : List (Nat × Option (List AV))} {n : Nat} {z0 : Lo} {md : Md}
variable {d : Nat} {ty : TypeId} {pos : String} {af : Array Edge}
theorem Hr {t el id off m e : Nat} {x : Operand} {cs cs' : List AV} {zs : List Value} [ht : SlT P t el] [he : SzT P el e] [hz : ZrT P el zs]
  (hx : ev (lk ts) x = some (.own id off m e)) (hze : zs.length = e) (h0 : 0 < m) (hH : cO hs id = some cs) (hl : off + m * e ≤ cs.length)
  (hcs : iN cs off (List.replicate m (zs.map AV.v)).flatten = cs') {md' : Md} [hmd : MdA md (rO x ++ [.inr id]) [.inr id] md'] (kk : RW P N all Q md' rest ⟨ts, (id, some cs') :: hs, n, z0⟩) :
  RW P N all Q md (⟨none, .call ⟨.builtin .clear, #[x], #[t]⟩, ty, pos, af, none⟩ :: rest) ⟨ts, hs, n, z0⟩ := by
 subst hcs
 exact C4 (rs := rO x ++ [.inr id]) (ws := [(id, some (iN cs off (List.replicate m (zs.map AV.v)).flatten))]) (n' := n) (out := .tup []) rfl (fun _ h => by cases h) (Nat.le_refl n) (.inl rfl)
  (fun C ι F T H a w ag hF g gh => Dk (Gc gh rfl (dB g (ag.l.ev.trans hx)) rfl ht.pf he.pf hz.pf hze ((ag.r.h id (by simp)).trans hH) h0 hl)) (by
   show RW P N all Q (md.add (rO x ++ [.inr id]) [.inr id]) rest ⟨ts, (id, some (iN cs off (List.replicate m (zs.map AV.v)).flatten)) :: hs, n, z0⟩
   rw [hmd.pf]; exact kk)
end
end Go.AL

namespace Go.AL
end Go.AL
namespace Go.AL
end Go.AL

namespace Go.AL
open Go.RowKit
set_option linter.unusedVariables false
set_option linter.unusedSimpArgs false
section
variable {P : Program} {N : Nat} {Q : Exit → AS → Prop} {all : Array Oper} {rest : List Oper} {ts : List (Nat × AV)} {hs : List (Nat × Option (List AV))} {n : Nat} {z0 : Lo} {md : Md}
variable {d : Nat} {ty : TypeId} {pos : String} {af : Array Edge}
theorem vN (w : World) (t el : TypeId) (hu : P.underlying t = some (.slice el)) (a : Option Addr) (m c : Nat) : (binOp .eql t (.slice a m c) (.slice none 0 0)).run P w = .ok (.bool a.isNone) w := by
 have h0 : ∀ d : Nat, (Op.equalIn (d + 1) t (.slice a m c) (.slice none 0 0)).run P w = .ok a.isNone w := fun d => by
  cases a <;> simp [Op.equalIn, dC hu]
 have h := h0 9999
 simp only [binOp]
 simp [Op.equal, Op.maxDepth, h]
theorem Ak {t t' el : TypeId} {x : Operand} {m : Nat} {cs : List AV} [ht : SlT P t el] (hx : ev (lk ts) x = some (.imm m cs)) (hN : Nat.blt d N = true)
  (kk : ∀ b : Bool, (b = true → m = 0) → RW P N all Q .txt rest ⟨(d, .v (.bool b)) :: ts, hs, n, z0⟩) : RW P N all Q .txt (⟨some d, .binOp .eql t x (.const (.slice none 0 0)) t', ty, pos, af, none⟩ :: rest) ⟨ts, hs, n, z0⟩ := by
 rintro C a w hCN ⟨h0, ι, g, gh⟩
 refine wpList_plain rfl (fun K hK => ?_)
 have h1 := dB g hx
 simp only [Rd] at h1
 obtain ⟨a', c, h2, h3⟩ := h1
 have hu := iL ht.pf
 have hb : a'.isNone = true → m = 0 := fun hn => by
  rcases h3 with h3 | ⟨b, o, _, rfl, _⟩
  ·exact h3
  ·cases hn
 have hg : (eqGuard .eql t x (.const (.slice none 0 0)) (.slice a' m c) (.slice none 0 0)).run P w = .ok () w := by simp [eqGuard]
 have hr : (execOp a.eval ⟨some d, .binOp .eql t x (.const (.slice none 0 0)) t', ty, pos, af, none⟩).run P w = .ok (.value (.bool a'.isNone)) w := by
  have e2 : a.eval (.const (.slice none 0 0)) = .slice none 0 0 := rfl
  simp only [execOp, h2, e2, Sem.run_bind, hg, Result.andThen_ok, vN w t el hu, Sem.run_pure]
 simp only [Oper.wp, hr, Oper.upon]
 refine hK _ _ (kk a'.isNone hb C _ _ hCN ⟨h0, ι, ?_, gh⟩)
 show TG C ι (lk ((d, AV.v (.bool a'.isNone)) :: ts)) _ _ _
 rw [jM]
 exact g.put (by have := eO hN; omega) (by simp [Rd])
end
theorem Dw {α : Type} {f : α → List AV} {e : Nat} [h : FlT f e] {hs : List (Nat × Option (List AV))} {xs : List α} {i k n : Nat} (hH : cO hs i = some (aI f xs)) (hn : n = xs.length - k) : sCells (cO hs) e (qS (.own i (0 + k * e) n e)) = some (n, aI f (xs.drop k)) := by
 show ((cO hs i).bind fun cs => if n * e ≤ (cs.drop (0 + k * e)).length then some (n, (cs.drop (0 + k * e)).take (n * e)) else none) = _
 rw [hH, Option.bind_some, Nat.zero_add]
 have h1 : (aI f xs).length = xs.length * e := aQ f xs
 have h3 : (aI f xs).drop (k * e) = aI f (xs.drop k) := by
  have h4 : aI f xs = aI f (xs.take k) ++ aI f (xs.drop k) := by rw [dR, List.take_append_drop]
  have h5 : (aI f (xs.take k)).length = (xs.take k).length * e := aQ f _
  by_cases hk : k ≤ xs.length
  ·rw [h4, ← show (aI f (xs.take k)).length = k * e from by rw [h5, List.length_take]; congr 1; omega, List.drop_left]
  ·rw [List.drop_of_length_le (by rw [h1]; exact Nat.mul_le_mul_right _ (by omega)), List.drop_of_length_le (by omega)]; rfl
 rw [h3]
 have h2 : (aI f (xs.drop k)).length = (xs.length - k) * e := by rw [aQ f (e := e), List.length_drop]
 rw [h2, hn, if_pos (Nat.le_refl _), List.take_of_length_le (by rw [h2]; exact Nat.le_refl _)]
theorem pT {T : Nat → Option AV} {x : Operand} {dd : Nat} {k : IntKind} {m : Int} {h : Nat} (hx : ev T x = some (.v (.int k m))) (e : m = (h : Int)) : gX T (some x) dd = some h := by
 simp only [gX, hx]; rw [if_pos (by omega)]; congr 1; omega
end Go.AL

namespace Go.AL
structure Tg where
 id : Int
 uq : Bool
 deriving Inhabited, DecidableEq
structure Cl where
 val : Int
 alive : Bool
 next : Int
 stk : List Tg
 deriving Inhabited, DecidableEq
structure Pt where
 cell : Int
 tag : Int
 deriving Inhabited, DecidableEq
structure Sl where
 set : Bool
 num : Int
 ptr : Pt
 deriving Inhabited, DecidableEq
def dM (t : Tg) : List AV := [iv t.id, bv t.uq]
def c7 (c : Cl) : List AV := [iv c.val, bv c.alive, iv c.next, sl dM c.stk]
def eH (s : Sl) : List AV := [bv s.set, iv s.num, iv s.ptr.cell, iv s.ptr.tag]
instance : FlT dM 2 := ⟨fun _ => rfl⟩
instance : FlT c7 4 := ⟨fun _ => rfl⟩
instance : FlT eH 4 := ⟨fun _ => rfl⟩
instance : FE dM (fun t => [iv t.id, bv t.uq]) := ⟨fun _ => rfl⟩
instance : FE c7 (fun c => [iv c.val, bv c.alive, iv c.next, sl dM c.stk]) := ⟨fun _ => rfl⟩
instance : FE eH (fun s => [bv s.set, iv s.num, iv s.ptr.cell, iv s.ptr.tag]) := ⟨fun _ => rfl⟩
instance (t : Tg) : Pur (dM t) := ⟨rfl⟩
instance (c : Cl) : Pur (c7 c) := ⟨by show (true && (true && (true && ((sl dM c.stk).pur && true)))) = true; rw [aY]; rfl⟩
instance (s : Sl) : Pur (eH s) := ⟨rfl⟩
abbrev MK (t : Tg) : AV := .agg [iv t.id, bv t.uq]
abbrev MM (c : Cl) : AV := .agg [iv c.val, bv c.alive, iv c.next, sl dM c.stk]
abbrev m5 (p : Pt) : AV := .agg [iv p.cell, iv p.tag]
abbrev E9 (s : Sl) : AV := .agg [bv s.set, iv s.num, iv s.ptr.cell, iv s.ptr.tag]
structure OkC (c : Cl) : Prop where
 v : 0 ≤ c.val ∧ c.val ≤ 9
 n : 1 ≤ c.next ∧ c.next ≤ 1000
 l : 1 ≤ c.stk.length ∧ c.stk.length ≤ 200
 u : c.stk[0]!.uq = true
 i : ∀ t ∈ c.stk, 0 ≤ t.id ∧ t.id < c.next
 d : (c.stk.map (·.id)).Nodup
structure OkM (m : List Cl) : Prop where
 l : m.length ≤ 200
 c : ∀ c ∈ m, OkC c
def dE (stk : List Tg) (id : Int) : Int := match stk.findIdx? (fun t => decide (t.id = id)) with | some k => k | none => -1
theorem eZ (stk : List Tg) (id : Int) : -1 ≤ dE stk id ∧ dE stk id < stk.length := by
 unfold dE
 split
 ·rename_i k h
  obtain ⟨h1, _⟩ := List.findIdx?_eq_some_iff_getElem.1 h
  omega
 ·omega
theorem CW {stk : List Tg} {id : Int} (h : 0 ≤ dE stk id) : stk[(dE stk id).toNat]!.id = id := by
 unfold dE at h ⊢
 split
 ·rename_i k hk
  obtain ⟨h1, h2, _⟩ := List.findIdx?_eq_some_iff_getElem.1 hk
  rw [Int.toNat_natCast, cV _ _ h1]
  simpa using h2
 ·rename_i hk; rw [hk] at h; dsimp only at h; omega
theorem m9 {stk : List Tg} {id : Int} : dE stk id < 0 ↔ ∀ t ∈ stk, t.id ≠ id := by
 unfold dE
 split
 ·rename_i k hk
  obtain ⟨h1, h2, _⟩ := List.findIdx?_eq_some_iff_getElem.1 hk
  refine ⟨fun h => by omega, fun h => ?_⟩
  exact absurd (by simpa using h2) (h _ (List.getElem_mem h1))
 ·rename_i hk
  rw [List.findIdx?_eq_none_iff] at hk
  exact ⟨fun _ t ht => by simpa using hk t ht, fun _ => by omega⟩
def fP (stk : List Tg) (k : Nat) (wr : Bool) : List Tg := if wr = true then stk.take (k + 1) else stk.take (k + 1) ++ (stk.drop (k + 1)).filter (fun t => !t.uq)
def cP (m : List Cl) (x : Pt) (wr : Bool) : Int :=
 if ¬ (0 ≤ x.cell ∧ x.cell < m.length) then 4
 else if m[x.cell.toNat]!.alive = false then 1
 else if dE m[x.cell.toNat]!.stk x.tag < 0 then 2
 else if wr = true ∧ m[x.cell.toNat]!.stk[(dE m[x.cell.toNat]!.stk x.tag).toNat]!.uq = false then 3
 else 0
def iY (c : Cl) (x : Pt) (wr : Bool) : Cl := { c with stk := fP c.stk (dE c.stk x.tag).toNat wr }
def dS (m : List Cl) (x : Pt) (wr : Bool) : List Cl := if cP m x wr = 0 then m.set x.cell.toNat (iY m[x.cell.toNat]! x wr) else m
def nK (m : List Cl) (x : Pt) : Int := if cP m x false = 0 then m[x.cell.toNat]!.val else 0
def oJ (m : List Cl) (x : Pt) (v : Int) : Int := if 0 ≤ v ∧ v ≤ 9 then cP m x true else 4
def nP (m : List Cl) (x : Pt) (v : Int) : List Cl := if oJ m x v = 0 then m.set x.cell.toNat { iY m[x.cell.toNat]! x true with val := v } else m
def iD (m : List Cl) (x : Pt) : List Cl := if cP m x true = 0 then m.set x.cell.toNat { iY m[x.cell.toNat]! x true with alive := false } else m
def Bn (c : Cl) : Prop := c.stk.length = 200 ∨ c.next = 1000
instance (c : Cl) : Decidable (Bn c) := by unfold Bn; infer_instance
def kU (m : List Cl) (x : Pt) (u : Bool) : Int := if cP m x u = 0 then (if Bn (iY m[x.cell.toNat]! x u) then 4 else 0) else cP m x u
def psh (c : Cl) (u : Bool) : Cl := { c with stk := c.stk ++ [⟨c.next, u⟩], next := c.next + 1 }
def j5 (m : List Cl) (x : Pt) (u : Bool) : List Cl := if kU m x u = 0 then m.set x.cell.toNat (psh (iY m[x.cell.toNat]! x u) u) else m
def oU (m : List Cl) (x : Pt) (u : Bool) : Pt := if kU m x u = 0 then ⟨x.cell, m[x.cell.toNat]!.next⟩ else ⟨0, 0⟩
def nT (v : Int) : Cl := ⟨v, true, 1, [⟨0, true⟩]⟩
theorem tchS_sub {stk : List Tg} {k : Nat} {wr : Bool} : (fP stk k wr).Sublist stk := by
 unfold fP
 split
 ·exact List.take_sublist _ _
 ·have h := List.Sublist.append (List.Sublist.refl (stk.take (k + 1))) (List.filter_sublist (l := stk.drop (k + 1)) (p := fun t => !t.uq))
  rwa [List.take_append_drop] at h
theorem vP {stk : List Tg} {k : Nat} {wr : Bool} (h : 0 < stk.length) : (fP stk k wr)[0]! = stk[0]! ∧ 0 < (fP stk k wr).length := by
 cases stk with
 | nil => simp at h
 | cons a l =>
  unfold fP
  split <;> simp
theorem OkC.tch {c : Cl} (h : OkC c) (x : Pt) (wr : Bool) : OkC (iY c x wr) := by
 have hs := tchS_sub (stk := c.stk) (k := (dE c.stk x.tag).toNat) (wr := wr)
 have hh := vP (k := (dE c.stk x.tag).toNat) (wr := wr) (stk := c.stk) (by have := h.l; omega)
 refine ⟨h.v, h.n, ⟨hh.2, Nat.le_trans hs.length_le h.l.2⟩, ?_, fun t ht => h.i t (hs.subset ht), (hs.map _).nodup h.d⟩
 show (fP c.stk (dE c.stk x.tag).toNat wr)[0]!.uq = true
 rw [hh.1]; exact h.u
theorem OkC.psh {c : Cl} (h : OkC c) (u : Bool) (hf : ¬ Bn c) : OkC (psh c u) := by
 have hl := h.l
 have hn := h.n
 unfold Bn at hf
 refine ⟨h.v, by show 1 ≤ c.next + 1 ∧ c.next + 1 ≤ 1000; omega, by show 1 ≤ (c.stk ++ [_]).length ∧ (c.stk ++ [_]).length ≤ 200; rw [List.length_append, List.length_singleton]; omega, ?_, fun t ht => ?_, ?_⟩
 ·show (c.stk ++ [_])[0]!.uq = true
  have h1 := h.u
  rw [cV _ _ (by omega)] at h1
  rw [cV _ _ (by rw [List.length_append]; omega), List.getElem_append_left (by omega)]; exact h1
 ·rcases List.mem_append.1 ht with ht | ht
  ·have := h.i t ht; show 0 ≤ t.id ∧ t.id < c.next + 1; omega
  ·rw [List.mem_singleton] at ht; subst ht; show 0 ≤ c.next ∧ c.next < c.next + 1; omega
 ·show ((c.stk ++ [_]).map _).Nodup
  rw [List.map_append, List.nodup_append]
  refine ⟨h.d, by simp, fun a ha b hb => ?_⟩
  simp only [List.map_cons, List.map_nil, List.mem_singleton] at hb
  obtain ⟨t, ht, rfl⟩ := List.mem_map.1 ha
  have := h.i t ht
  omega
theorem OkC.nw {v : Int} (h : 0 ≤ v ∧ v ≤ 9) : OkC (nT v) := ⟨h, ⟨by show (1 : Int) ≤ 1; decide, by show (1 : Int) ≤ 1000; decide⟩, ⟨by show 1 ≤ 1; decide, by show 1 ≤ 200; decide⟩, rfl, by simp [nT], by simp [nT]⟩
theorem OkM.set {m : List Cl} (h : OkM m) {k : Nat} {c : Cl} (hc : OkC c) : OkM (m.set k c) :=
 ⟨by rw [List.length_set]; exact h.l, fun x hx => (List.mem_or_eq_of_mem_set hx).elim (h.c x) (fun e => e ▸ hc)⟩
theorem OkM.at {m : List Cl} (h : OkM m) {k : Nat} (hk : k < m.length) : OkC m[k]! := h.c _ (cK _ _ hk)
theorem eU {m : List Cl} {x : Pt} {wr : Bool} (h : cP m x wr ≠ 4) : 0 ≤ x.cell ∧ x.cell < m.length ∧ x.cell.toNat < m.length := by
 unfold cP at h
 split at h
 ·exact absurd rfl h
 ·omega
theorem eR {m : List Cl} {x : Pt} {wr : Bool} (h : cP m x wr = 0) : 0 ≤ x.cell ∧ x.cell < m.length ∧ x.cell.toNat < m.length := eU (by rw [h]; decide)
theorem OkM.tch {m : List Cl} (h : OkM m) (x : Pt) (wr : Bool) : OkM (dS m x wr) := by
 unfold dS; split
 ·rename_i hk; exact h.set ((h.at (eR hk).2.2).tch x wr)
 ·exact h
theorem OkM.wr {m : List Cl} (h : OkM m) (x : Pt) (v : Int) : OkM (nP m x v) := by
 unfold nP
 by_cases hk : oJ m x v = 0
 ·rw [if_pos hk]
  unfold oJ at hk
  by_cases hv : 0 ≤ v ∧ v ≤ 9
  ·rw [if_pos hv] at hk
   have h1 := (h.at (eR hk).2.2).tch x true
   exact h.set ⟨hv, h1.n, h1.l, h1.u, h1.i, h1.d⟩
  ·rw [if_neg hv] at hk; cases hk
 ·rw [if_neg hk]; exact h
theorem OkM.fr {m : List Cl} (h : OkM m) (x : Pt) : OkM (iD m x) := by
 unfold iD; split
 ·rename_i hk
  have h1 := (h.at (eR hk).2.2).tch x true
  exact h.set ⟨h1.v, h1.n, h1.l, h1.u, h1.i, h1.d⟩
 ·exact h
theorem OkM.ln {m : List Cl} (h : OkM m) (x : Pt) (u : Bool) : OkM (j5 m x u) := by
 unfold j5
 by_cases hk : kU m x u = 0
 ·rw [if_pos hk]
  unfold kU at hk
  by_cases h0 : cP m x u = 0
  ·rw [if_pos h0] at hk
   by_cases hf : Bn (iY m[x.cell.toNat]! x u)
   ·rw [if_pos hf] at hk; cases hk
   ·exact h.set (((h.at (eR h0).2.2).tch x u).psh u hf)
  ·rw [if_neg h0] at hk; exact absurd hk h0
 ·rw [if_neg hk]; exact h
theorem OkM.nw {m : List Cl} (h : OkM m) {v : Int} (hv : 0 ≤ v ∧ v ≤ 9) (hl : m.length < 200) : OkM (m ++ [nT v]) :=
 ⟨by rw [List.length_append, List.length_singleton]; omega, fun c hc => (List.mem_append.1 hc).elim (h.c c) (fun h => by rw [List.mem_singleton.1 h]; exact OkC.nw hv)⟩
end Go.AL

namespace Go.AL
def iF (pts : List Pnt) (a : Nat) (cs : List Int) : Nat × List Int :=
 if pts[a]!.next.length = 2 then
  match cs with
  | [] => ((pts[a]!.next[1]!).toNat, [])
  | c :: cs => ((pts[a]!.next[(c % 2).toNat]!).toNat, cs)
 else ((pts[a]!.next[0]!).toNat, cs)
def eL (pts : List Pnt) : Nat → Nat → List Int → List Nat × Bool
 | 0, a, _ => if pts[a]!.op = 11 then ([a], true) else ([], false)
 | n + 1, a, cs => if pts[a]!.op = 11 then ([a], true) else (a :: (eL pts n (iF pts a cs).1 (iF pts a cs).2).1, (eL pts n (iF pts a cs).1 (iF pts a cs).2).2)
structure Mc where
 slots : List Sl
 cells : List Cl
 read : List Int
 deriving Inhabited
def gW : Sl := ⟨false, 0, ⟨0, 0⟩⟩
def e8 (k : Int) : Int := if k = 1 then 3 else 4
def kN (k : Int) : Int := if k = 0 then -1 else e8 k
def c6 (ts : List Int) (s : Mc) (v : Nat) (x : Sl) : Mc × Int :=
 if ts[v]! = 2 ∧ s.slots[v]!.set = true then (⟨s.slots.set v x, iD s.cells s.slots[v]!.ptr, s.read⟩, kN (cP s.cells s.slots[v]!.ptr true))
 else (⟨s.slots.set v x, s.cells, s.read⟩, -1)
def dI (ts : List Int) (s : Mc) (x : Pnt) : Bool := (List.range ts.length).any fun v => decide (cF ts x v ≠ 0) && !s.slots[v]!.set
def dP (ts : List Int) : Nat → Nat → Mc → Mc × Int
 | 0, _, s => (s, 0)
 | n + 1, v, s => if ts[v]! = 2 ∧ s.slots[v]!.set = true then
   (if cP s.cells s.slots[v]!.ptr true = 0 then dP ts n (v + 1) ⟨s.slots.set v gW, iD s.cells s.slots[v]!.ptr, s.read⟩ else (⟨s.slots, iD s.cells s.slots[v]!.ptr, s.read⟩, e8 (cP s.cells s.slots[v]!.ptr true)))
  else dP ts n (v + 1) s
def c9 (ts : List Int) (s : Mc) (x : Pnt) : Mc × Int :=
 if x.op = 1 then c6 ts s x.x.toNat ⟨true, x.n, ⟨0, 0⟩⟩
 else if x.op = 2 then (if s.cells.length = 200 then (s, 1) else c6 ts ⟨s.slots, s.cells ++ [nT x.n], s.read⟩ x.x.toNat ⟨true, 0, ⟨s.cells.length, 0⟩⟩)
 else if x.op = 3 then c6 ts (if wC ts[x.y.toNat]! = true then ⟨s.slots.set x.y.toNat gW, s.cells, s.read⟩ else s) x.x.toNat s.slots[x.y.toNat]!
 else if x.op = 4 ∨ x.op = 5 then
  (if kU s.cells s.slots[x.y.toNat]!.ptr (decide (x.op = 5)) = 0 then c6 ts ⟨s.slots, j5 s.cells s.slots[x.y.toNat]!.ptr (decide (x.op = 5)), s.read⟩ x.x.toNat ⟨true, 0, oU s.cells s.slots[x.y.toNat]!.ptr (decide (x.op = 5))⟩
   else (s, e8 (kU s.cells s.slots[x.y.toNat]!.ptr (decide (x.op = 5)))))
 else if x.op = 6 then
  (if cP s.cells s.slots[x.y.toNat]!.ptr false = 0 then c6 ts ⟨s.slots, dS s.cells s.slots[x.y.toNat]!.ptr false, s.read ++ [nK s.cells s.slots[x.y.toNat]!.ptr]⟩ x.x.toNat ⟨true, nK s.cells s.slots[x.y.toNat]!.ptr, ⟨0, 0⟩⟩
   else (s, e8 (cP s.cells s.slots[x.y.toNat]!.ptr false)))
 else if x.op = 7 then (⟨s.slots, nP s.cells s.slots[x.x.toNat]!.ptr s.slots[x.y.toNat]!.num, s.read⟩, kN (oJ s.cells s.slots[x.x.toNat]!.ptr s.slots[x.y.toNat]!.num))
 else if x.op = 8 then (⟨s.slots.set x.x.toNat gW, iD s.cells s.slots[x.x.toNat]!.ptr, s.read⟩, kN (cP s.cells s.slots[x.x.toNat]!.ptr true))
 else if x.op = 11 then dP ts ts.length 0 s
 else (s, -1)
def iG (ts : List Int) (pts : List Pnt) : List Nat → Mc → Nat → Mc × Int × Nat
 | [], s, last => (s, 1, last)
 | a :: l, s, _ => if dI ts s pts[a]! = true then (s, 2, a)
  else if (c9 ts s pts[a]!).2 = -1 then iG ts pts l (c9 ts s pts[a]!).1 a
  else ((c9 ts s pts[a]!).1, (c9 ts s pts[a]!).2, a)
def mc0 (nt : Nat) : Mc := ⟨List.replicate nt gW, [], []⟩
def eJ (ts : List Int) (pts : List Pnt) (cs : List Int) (most : Nat) : Mc × Int × Nat := iG ts pts (eL pts most 0 cs).1 (mc0 ts.length) 0
structure OkS (nt : Nat) (s : Mc) : Prop where
 m : OkM s.cells
 l : s.slots.length = nt
theorem OkS.put {ts : List Int} {nt : Nat} {s : Mc} (h : OkS nt s) (v : Nat) (x : Sl) : OkS nt (c6 ts s v x).1 := by
 unfold c6; split
 ·exact ⟨h.m.fr _, by show (s.slots.set v x).length = nt; rw [List.length_set]; exact h.l⟩
 ·exact ⟨h.m, by show (s.slots.set v x).length = nt; rw [List.length_set]; exact h.l⟩
theorem OkS.fin {ts : List Int} {nt : Nat} : ∀ n v (s : Mc), OkS nt s → OkS nt (dP ts n v s).1
 | 0, _, _, h => h
 | n + 1, v, s, h => by
  unfold dP; split
  ·split
   ·exact OkS.fin n _ _ ⟨h.m.fr _, by show (s.slots.set v gW).length = nt; rw [List.length_set]; exact h.l⟩
   ·exact ⟨h.m.fr _, h.l⟩
  ·exact OkS.fin n _ _ h
structure PtN (x : Pnt) : Prop where
 n : x.op = 2 → 0 ≤ x.n ∧ x.n ≤ 9
theorem OkS.do {ts : List Int} {nt : Nat} {s : Mc} (h : OkS nt s) {x : Pnt} (hx : PtN x) : OkS nt (c9 ts s x).1 := by
 have hl : ∀ (v : Nat) (y : Sl), (s.slots.set v y).length = nt := fun v y => by rw [List.length_set]; exact h.l
 unfold c9
 split
 ·exact h.put _ _
 split
 ·rename_i h2
  split
  ·exact h
  ·rename_i h3
   refine OkS.put ?_ _ _
   exact ⟨h.m.nw (hx.n h2) (by have := h.m.l; omega), h.l⟩
 split
 ·split
  ·refine OkS.put ?_ _ _
   exact ⟨h.m, hl _ _⟩
  ·exact h.put _ _
 split
 ·split
  ·refine OkS.put ?_ _ _
   exact ⟨h.m.ln _ _, h.l⟩
  ·exact h
 split
 ·split
  ·refine OkS.put ?_ _ _
   exact ⟨h.m.tch _ _, h.l⟩
  ·exact h
 split
 ·exact ⟨h.m.wr _ _, h.l⟩
 split
 ·exact ⟨h.m.fr _, hl _ _⟩
 split
 ·exact OkS.fin _ _ _ h
 ·exact h
theorem OkS.mc0 (nt : Nat) : OkS nt (mc0 nt) := ⟨⟨by simp [Go.AL.mc0], by simp [Go.AL.mc0]⟩, by simp [Go.AL.mc0]⟩
theorem OkS.run {ts : List Int} {pts : List Pnt} {nt : Nat} (hp : ∀ a : Nat, PtN pts[a]!) : ∀ (l : List Nat) (s : Mc) (last : Nat), OkS nt s → OkS nt (iG ts pts l s last).1
 | [], _, _, h => h
 | a :: l, s, _, h => by
  unfold iG; split
  ·exact h
  ·split
   ·exact OkS.run hp l _ _ (h.do (hp a))
   ·exact h.do (hp a)
end Go.AL

namespace Go.AL
theorem Fp (k : Int) : kN k = -1 ∨ kN k = 3 ∨ kN k = 4 := by unfold kN e8; split; exact .inl rfl; split; exact .inr (.inl rfl); exact .inr (.inr rfl)
theorem oI (k : Int) : e8 k = 3 ∨ e8 k = 4 := by unfold e8; split; exact .inl rfl; exact .inr rfl
theorem Je (ts : List Int) (s : Mc) (v : Nat) (x : Sl) : (c6 ts s v x).2 = -1 ∨ (c6 ts s v x).2 = 3 ∨ (c6 ts s v x).2 = 4 := by
 unfold c6; split
 ·exact Fp _
 ·exact .inl rfl
theorem Hm {ts : List Int} {s : Mc} {x : Pnt} (h : x.op ≠ 11) : (c9 ts s x).2 = -1 ∨ (c9 ts s x).2 = 1 ∨ (c9 ts s x).2 = 3 ∨ (c9 ts s x).2 = 4 := by
 have p := fun s v y => Je ts s v y
 have p' : ∀ s v y, (c6 ts s v y).2 = -1 ∨ (c6 ts s v y).2 = 1 ∨ (c6 ts s v y).2 = 3 ∨ (c6 ts s v y).2 = 4 := fun s v y => by
  rcases p s v y with h | h | h
  ·exact .inl h
  ·exact .inr (.inr (.inl h))
  ·exact .inr (.inr (.inr h))
 have g : ∀ k, kN k = -1 ∨ kN k = 1 ∨ kN k = 3 ∨ kN k = 4 := fun k => by
  rcases Fp k with h | h | h
  ·exact .inl h
  ·exact .inr (.inr (.inl h))
  ·exact .inr (.inr (.inr h))
 have e : ∀ k, e8 k = -1 ∨ e8 k = 1 ∨ e8 k = 3 ∨ e8 k = 4 := fun k => .inr (.inr (oI k))
 unfold c9
 rw [if_neg h]
 split
 ·exact p' _ _ _
 split
 ·split
  ·exact .inr (.inl rfl)
  ·exact p' _ _ _
 split
 ·exact p' _ _ _
 split
 ·split
  ·exact p' _ _ _
  ·exact e _
 split
 ·split
  ·exact p' _ _ _
  ·exact e _
 split
 ·exact g _
 split
 ·exact g _
 exact .inl rfl
theorem m6 (ts : List Int) : ∀ n v (s : Mc), (dP ts n v s).2 = 0 ∨ (dP ts n v s).2 = 3 ∨ (dP ts n v s).2 = 4
 | 0, _, _ => .inl rfl
 | n + 1, v, s => by
  unfold dP; split
  ·split
   ·exact m6 ts n _ _
   ·exact .inr (oI _)
  ·exact m6 ts n _ _
theorem tP {ts : List Int} {s : Mc} {x : Pnt} (h : x.op = 11) : c9 ts s x = dP ts ts.length 0 s := by
 unfold c9; simp [h]
theorem HS (m : List Cl) (x : Pt) : (iD m x).length = m.length := by unfold iD; split <;> simp
theorem mB (m : List Cl) (x : Pt) (b : Bool) : (dS m x b).length = m.length := by unfold dS; split <;> simp
theorem Dy (m : List Cl) (x : Pt) (b : Bool) : (j5 m x b).length = m.length := by unfold j5; split <;> simp
theorem Jd (m : List Cl) (x : Pt) (v : Int) : (nP m x v).length = m.length := by unfold nP; split <;> simp
end Go.AL
