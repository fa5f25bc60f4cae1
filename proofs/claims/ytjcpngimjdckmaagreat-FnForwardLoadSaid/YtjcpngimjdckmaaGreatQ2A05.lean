/-
 A part of the proofs over this program: rules and contracts of its functions (the rules).
-/
import Derived.Test.YtjcpngimjdckmaaGreatQ2A04
import Derived.Laws.BytesString
import Derived.Laws.StructEq
set_option linter.unusedVariables false
set_option linter.unusedSimpArgs false
namespace Go.AL
def oP (ts : List Int) (x : Pnt) (m : Bool) : List Acc :=
 (if x.op = 4 ∨ x.op = 6 then [⟨x.y, false⟩] else if x.op = 5 then [⟨x.y, true⟩] else if x.op = 7 ∨ x.op = 8 then [⟨x.x, true⟩] else if x.op = 3 ∧ Ea ts[x.y.toNat]! = true then [⟨x.y, true⟩] else []) ++
 (if 0 ≤ bD x ∧ ts[(bD x).toNat]! = 2 ∧ m = true then [⟨bD x, true⟩] else [])
def L6 (f : List Nat) (L : List Int) (a : Nat) : Nat := L.foldl (fun a v => a ||| f[v.toNat]!) a
def zX (ts : List Int) (x : Pnt) (live : Nat) (f : List Nat) : Nat := L6 f (cQ (oI live (wS ts x [2] ||| iK x))) 0
theorem iM (f : List Nat) (l : Nat) : ∀ (L : List Int) (a : Nat), (L6 f L a).testBit l = true ↔ a.testBit l = true ∨ ∃ v ∈ L, f[v.toNat]!.testBit l = true
 | [], a => by simp [L6]
 | v :: L, a => by
  show (L6 f L (a ||| f[v.toNat]!)).testBit l = true ↔ _
  rw [iM f l L, Nat.testBit_or, Bool.or_eq_true]
  simp only [List.mem_cons, exists_eq_or_imp]
  grind
def I0 (pts : List Pnt) (wr : Bool) (L : List Int) (a : Nat) : Nat := L.foldl (fun a l => if wr = true ∨ pts[l.toNat]!.op = 5 then a ||| 2 ^ l.toNat else a) a
def Ij (pts : List Pnt) (loans : Nat) (acs : List Acc) (a : Nat) : Nat := acs.foldl (fun a c => I0 pts c.write (cQ (loans &&& r9 pts (2 ^ c.var.toNat))) a) a
theorem rP (pts : List Pnt) (wr : Bool) (l : Nat) : ∀ (L : List Int) (a : Nat), (I0 pts wr L a).testBit l = true ↔ a.testBit l = true ∨ ((∃ z ∈ L, z.toNat = l) ∧ (wr = true ∨ pts[l]!.op = 5))
 | [], a => by simp [I0]
 | z :: L, a => by
  show (I0 pts wr L (if wr = true ∨ pts[z.toNat]!.op = 5 then a ||| 2 ^ z.toNat else a)).testBit l = true ↔ _
  rw [rP pts wr l L]
  have h2 : ∀ b : Nat, (a ||| 2 ^ b).testBit l = true ↔ a.testBit l = true ∨ b = l := by
   intro b
   rw [Nat.testBit_or, Bool.or_eq_true, Nat.testBit_two_pow, decide_eq_true_eq]
  split
  ·rename_i h
   rw [h2]
   simp only [List.mem_cons, exists_eq_or_imp]
   constructor
   ·rintro ((h1 | rfl) | ⟨h1, h3⟩)
    ·exact .inl h1
    ·exact .inr ⟨.inl rfl, h⟩
    ·exact .inr ⟨.inr h1, h3⟩
   ·rintro (h1 | ⟨rfl | h1, h3⟩)
    ·exact .inl (.inl h1)
    ·exact .inl (.inr rfl)
    ·exact .inr ⟨h1, h3⟩
  ·rename_i h
   simp only [List.mem_cons, exists_eq_or_imp]
   constructor
   ·rintro (h1 | ⟨h1, h3⟩)
    ·exact .inl h1
    ·exact .inr ⟨.inr h1, h3⟩
   ·rintro (h1 | ⟨rfl | h1, h3⟩)
    ·exact .inl h1
    ·exact absurd h3 h
    ·exact .inr ⟨h1, h3⟩
theorem kB (pts : List Pnt) (loans l : Nat) (hl : Sm loans) : ∀ (acs : List Acc) (a : Nat), (Ij pts loans acs a).testBit l = true ↔ a.testBit l = true ∨ ∃ c ∈ acs, loans.testBit l = true ∧ (r9 pts (2 ^ c.var.toNat)).testBit l = true ∧ (c.write = true ∨ pts[l]!.op = 5)
 | [], a => by simp [Ij]
 | c :: acs, a => by
  show (Ij pts loans acs (I0 pts c.write (cQ (loans &&& r9 pts (2 ^ c.var.toNat))) a)).testBit l = true ↔ _
  rw [kB pts loans l hl acs, rP]
  have h2 : (∃ z ∈ cQ (loans &&& r9 pts (2 ^ c.var.toNat)), z.toNat = l) ↔ loans.testBit l = true ∧ (r9 pts (2 ^ c.var.toNat)).testBit l = true := by
   constructor
   ·rintro ⟨z, hz, rfl⟩
    obtain ⟨v, h1, h3, rfl⟩ := dQ.1 hz
    rw [Nat.testBit_and, Bool.and_eq_true] at h3; exact h3
   ·intro h
    have : l < 62 := eT hl.pf h.1
    exact ⟨(l : Int), dQ.2 ⟨l, this, by rw [Nat.testBit_and, h.1, h.2]; rfl, rfl⟩, rfl⟩
  rw [h2]
  simp only [List.mem_cons, exists_eq_or_imp]
  grind
end Go.AL
namespace Go.AL
theorem Hv (ts : List Int) (x : Pnt) (m : Bool) : (oP ts x m).length ≤ 2 := by
 unfold oP; rw [List.length_append]
 have h1 : ∀ (c : Prop) [Decidable c] (a b : List Acc), a.length ≤ 1 → b.length ≤ 1 → (if c then a else b).length ≤ 1 := by
  intro c _ a b h h2; split <;> assumption
 have a1 := h1 (x.op = 3 ∧ Ea ts[x.y.toNat]! = true) [⟨x.y, true⟩] [] (by simp) (by simp)
 have a2 := h1 (x.op = 7 ∨ x.op = 8) [⟨x.x, true⟩] _ (by simp) a1
 have a3 := h1 (x.op = 5) [⟨x.y, true⟩] _ (by simp) a2
 have a4 := h1 (x.op = 4 ∨ x.op = 6) [⟨x.y, false⟩] _ (by simp) a3
 have a5 := h1 (0 ≤ bD x ∧ ts[(bD x).toNat]! = 2 ∧ m = true) [⟨bD x, true⟩] [] (by simp) (by simp)
 omega
theorem DT {ts : List Int} {pts : List Pnt} (m : Bool) (w : WG ts pts) {i : Nat} (hi : i < pts.length) : ∀ c ∈ oP ts pts[i]! m, 0 ≤ c.var ∧ c.var < ts.length := by
 have hst := w.set i hi
 have hx := w.x i hi
 have hy := w.y i hi
 intro c hc
 unfold oP at hc
 rw [List.mem_append] at hc
 rcases hc with hc | hc
 ·repeat' split at hc
  all_goals first
   | (rw [List.mem_singleton] at hc; subst hc; dsimp only; omega)
   | cases hc
 ·split at hc
  ·rw [List.mem_singleton] at hc; subst hc; dsimp only; omega
  ·cases hc
end Go.AL
namespace Go.AL
def Ig (i : Nat) (L : List Int) : List Iss := L.map fun v => ⟨i, 1, v⟩
def HU (pts : List Pnt) (i : Nat) (L : List Int) : List Iss := L.map fun l => ⟨i, if pts[l.toNat]!.op = 5 then 3 else 2, l⟩
def FG (ts : List Int) (pts : List Pnt) (Am Al Af Ap : List Nat) (i : Nat) : Nat :=
 Ij pts (zX ts pts[i]! Al[i]! (fY Af i) &&& Ap[i]!) (oP ts pts[i]! (Am[i]!.testBit (bD pts[i]!).toNat)) 0
def La (ts : List Int) (pts : List Pnt) (Aa Am Al Af Ap : List Nat) (i : Nat) : List Iss :=
 Ig i (cQ (oI (wS ts pts[i]! [1, 2, 3]) Aa[i]!)) ++ HU pts i (cQ (FG ts pts Am Al Af Ap i))
def Ey (ts : List Int) (pts : List Pnt) (Aa Am Al Af Ap : List Nat) (k : Nat) : List Iss := (List.range k).flatMap (La ts pts Aa Am Al Af Ap)
theorem Es (ts : List Int) (pts : List Pnt) (Aa Am Al Af Ap : List Nat) (k : Nat) : Ey ts pts Aa Am Al Af Ap (k + 1) = Ey ts pts Aa Am Al Af Ap k ++ La ts pts Aa Am Al Af Ap k := by
 unfold Ey; rw [List.range_succ, List.flatMap_append]; simp
theorem kO {α β : Type} [Inhabited α] (g : α → β) (L : List α) (k : Nat) (h : k < L.length) : (L.take (k + 1)).map g = (L.take k).map g ++ [g L[k]!] := by
 rw [dC _ _ h, List.map_append]; rfl
theorem DK {xs : List Iss} {m : Nat} {a b c : Int} (hm : m = xs.length) : ((flat rV xs).drop 0).take (m * 3) ++ [iv a, iv b, iv c] = flat rV (xs ++ [⟨a, b, c⟩]) := iH hm rfl
theorem FN {ts : List Int} {pts : List Pnt} (w : WG ts pts) {Am Al Af Ap : List Nat} {i : Nat} (hp : Ap[i]! < 2 ^ pts.length) : FG ts pts Am Al Af Ap i < 2 ^ pts.length := by
 have hpl := w.pl
 have hl : zX ts pts[i]! Al[i]! (fY Af i) &&& Ap[i]! < 2 ^ pts.length := Nat.and_lt_two_pow _ hp
 apply Nat.lt_pow_two_of_testBit
 intro l hl2
 unfold FG
 cases hq : (Ij pts (zX ts pts[i]! Al[i]! (fY Af i) &&& Ap[i]!) (oP ts pts[i]! (Am[i]!.testBit (bD pts[i]!).toNat)) 0).testBit l with
 | false => rfl
 | true =>
  rw [kB _ _ _ ⟨Nat.lt_of_lt_of_le hl (Nat.pow_le_pow_right (by decide) (by omega))⟩] at hq
  rcases hq with hq | ⟨c, _, h2, _⟩
  ·simp at hq
  ·have := eT hl h2; omega
end Go.AL
namespace Go.AL
theorem GU {ts : List Int} {pts : List Pnt} (w : WG ts pts) {a : Nat × Nat} (h : Mb ts pts a) : a.2 < ts.length := by
 induction h with
 | base h => obtain ⟨i, e, h2⟩ := h; have := (w.set i e.1).1; omega
 | step _ r ih => rw [r.1]; exact ih
end Go.AL
namespace Go.AL
open Go.RowKit
set_option linter.unusedVariables false
section
variable {P : Program} {N : Nat} {Q : Exit → AS → Prop} {all : Array Oper} {rest : List Oper} {ts : List (Nat × AV)} {hs : List (Nat × Option (List AV))} {n : Nat} {z0 : Lo} {md : Md}
variable {d : Nat} {ty : TypeId} {pos : String} {af : Array Edge}
theorem tJ {fn : Go.Fn} {t i : Nat} {cs : List AV} (hx : lk ts t = some (.optr i 0)) (hH : cA hs i = some cs) (hN : Nat.blt d N = true)
  (kk : RW P N all Q .txt rest ⟨(d, .clos fn [] [.iptr cs]) :: (t, .iptr cs) :: ts, (i, none) :: hs, n, z0⟩) : RW P N all Q .txt (⟨some d, .makeFunc fn #[] #[.tmp t], ty, pos, af, none⟩ :: rest) ⟨ts, hs, n, z0⟩ :=
 kL (kF (f := []) (c := [.iptr cs]) rfl (by show evL _ [Operand.tmp t] = _; simp [evL, ev, lF]) hN (md' := .txt) kk) (Le.frzP hx hH)
end
end Go.AL
namespace Go.AL
structure Flows (ts : List Int) (pts : List Pnt) where
 Aa : List Nat
 Am : List Nat
 An : List Nat
 Al : List Nat
 Af : List Nat
 Ap : List Nat
 ga : uG ts pts Aa
 gm : tO ts pts Am
 gn : vH ts pts An
 gl : rH ts pts Al
 gf : xQ ts pts Af
 gp : wT ts pts Ap
theorem nH (n m : Nat) (T : Nat → Nat → Prop) (h : ∀ i v, i < n → T i v → v < m) : ∃ A : List Nat, A.length = n ∧ ∀ i, i < n → ∀ v, A[i]!.testBit v = true ↔ T i v := by
 have key : ∀ i : Nat, ∃ f : Nat → Bool, ∀ v, f v = true ↔ T i v := fun i => by
  have : ∀ v, ∃ b : Bool, b = true ↔ T i v := fun v => by
   by_cases hT : T i v
   ·exact ⟨true, by simp [hT]⟩
   ·exact ⟨false, by simp [hT]⟩
  exact ⟨fun v => Classical.choose (this v), fun v => Classical.choose_spec (this v)⟩
 refine ⟨(List.range n).map (fun i => fX (Classical.choose (key i)) m), by simp, fun i hi v => ?_⟩
 rw [cK _ _ (by simpa using hi), List.getElem_map, List.getElem_range, fZ, Bool.and_eq_true, decide_eq_true_eq, Classical.choose_spec (key i) v]
 exact ⟨fun h2 => h2.2, fun h2 => ⟨h i v hi h2, h2⟩⟩
theorem Flows.ex {ts : List Int} {pts : List Pnt} (w : WG ts pts) : Nonempty (Flows ts pts) := by
 obtain ⟨Aa, a1, a2⟩ := nH pts.length ts.length (fun i v => v < ts.length ∧ ¬ Na ts pts (i, v)) (fun i v _ h => h.1)
 obtain ⟨Am, b1, b2⟩ := nH pts.length ts.length (fun i v => Mb ts pts (i, v)) (fun i v _ h => GU w h)
 obtain ⟨An, c1, c2⟩ := nH pts.length ts.length (fun i v => Nd ts pts (i, v)) (fun i v _ h => tX w h)
 obtain ⟨Al, d1, d2⟩ := nH pts.length ts.length (fun i v => Lv ts pts i v) (fun i v _ h => by obtain ⟨k, _, h⟩ := h; exact tX w h)
 obtain ⟨Ap, e1, e2⟩ := nH pts.length pts.length (fun i l => BU ts pts (i, l)) (fun i v _ h => (rF h).1)
 obtain ⟨Af, f1, f2⟩ := nH (pts.length * 6) pts.length (fun q l => yY ts pts (q / 6, q % 6, l)) (fun q v _ h => (Ag w h).2.2)
 refine ⟨⟨Aa, Am, An, Al, Af, Ap, ⟨a1, a2⟩, ⟨b1, b2⟩, ⟨c1, c2⟩, ⟨d1, d2⟩, ⟨f1, fun i v hi hv l => ?_⟩, ⟨e1, e2⟩⟩⟩
 rw [f2 (i * 6 + v) (by omega) l, show (i * 6 + v) / 6 = i by omega, show (i * 6 + v) % 6 = v by omega]
def Flows.iss {ts : List Int} {pts : List Pnt} (f : Flows ts pts) : List Iss := Ey ts pts f.Aa f.Am f.Al f.Af f.Ap pts.length
end Go.AL
namespace Go.AL
open Go.RowKit
set_option linter.unusedVariables false
class BoT (P : Program) (t : Nat) : Prop where pf : P.underlying t = some .bool
theorem Db {P : Program} {t : TypeId} (h : P.underlying t = some .bool) (a b : Bool) (w : World) : (Op.equal t (.bool a) (.bool b)).run P w = .ok (decide (a = b)) w := by
 have e : ∀ d : Nat, (Op.equalIn (d + 1) t (.bool a) (.bool b)).run P w = .ok (a == b) w := fun d => by
  simp [Op.equalIn, run_underlying h]
 have : (a == b) = decide (a = b) := by cases a <;> cases b <;> rfl
 rw [← this]; exact e 9999
def KU (op : BinOp) (a b : Bool) : Option Value :=
 match op with
 | .eql => some (.bool (decide (a = b)))
 | .neq => some (.bool (!decide (a = b)))
 | _ => none
section
variable {P : Program} {C : Ctx} {ι : Pl} {T : Nat → Option AV} {H : Nat → Option (List AV)} {a : Act} {w : World} {o : Oper}
theorem Ip (g : TG C ι T H a w) {op : BinOp} {t t' : TypeId} {x y : Operand} {m n : Bool} {v : Value} (ht : P.underlying t = some .bool) (ho : o.op = .binOp op t x y t')
  (hx : ev T x = some (.v (.bool m))) (hy : ev T y = some (.v (.bool n))) (h : KU op m n = some v) : Pu P C ι H a w o (.v v) := by
 have h1 := dA g hx
 have h2 := dA g hy
 simp only [Rd] at h1 h2
 refine ⟨v, ?_, by simp [Rd]⟩
 have hg : (eqGuard op t x y (.bool m) (.bool n)).run P w = .ok () w := by
  unfold eqGuard
  cases op <;> simp
 have hb : (binOp op t (.bool m) (.bool n)).run P w = .ok v w := by
  cases op <;> simp only [KU] at h <;> cases h
  ·simp [binOp, Db (P := P) ht]
  ·simp [binOp, Db (P := P) ht]
 simp only [execOp, ho, h1, h2, Sem.run_bind, hg, Result.andThen_ok, hb, Sem.run_pure]
end
section
variable {P : Program} {N : Nat} {Q : Exit → AS → Prop} {all : Array Oper} {rest : List Oper} {ts : List (Nat × AV)} {hs : List (Nat × Option (List AV))} {n : Nat} {z0 : Lo} {md : Md}
variable {d : Nat} {ty : TypeId} {pos : String} {af : Array Edge}
theorem lM {op : BinOp} {t t' : TypeId} {x y : Operand} {m m' : Bool} {v : Value} [ht : BoT P t] (hx : ev (lk ts) x = some (.v (.bool m))) (hy : ev (lk ts) y = some (.v (.bool m')))
  (h : KU op m m' = some v) (hN : Nat.blt d N = true) {md' : Md} [hmd : MdA md (rO x ++ rO y) [.inl d] md'] (kk : RW P N all Q md' rest ⟨(d, .v v) :: ts, hs, n, z0⟩) : RW P N all Q md (⟨some d, .binOp op t x y t', ty, pos, af, none⟩ :: rest) ⟨ts, hs, n, z0⟩ :=
 eJ rfl rfl (eL hN) (fun C ι F T H a w ag g gh => Ip g ht.pf rfl (ag.l.ev.trans hx) (ag.r.ev.trans hy) h) (by rw [hmd.pf]; exact kk)
end
theorem yN {α : Type} {f : α → List AV} {e m : Nat} [h : FlT f e] {ys : List α} {H : Nat → Option (List AV)} (hm : m = ys.length) : sCells H e (pY (.imm m (flat f ys))) = some (m, flat f ys) := by
 subst hm
 have hl : (flat f ys).length = ys.length * e := aQ f ys
 show (if ys.length * e ≤ (flat f ys).length then some (ys.length, (flat f ys).take (ys.length * e)) else none) = _
 rw [if_pos (by omega), List.take_of_length_le (by omega)]
theorem mH {α : Type} {f : α → List AV} {ys : List α} {e m : Nat} {L : List AV} (h : m = 0) : (((List.replicate 0 L).flatten).drop 0).take (m * e) ++ flat f ys = flat f ys := by subst h; simp
theorem Le.cells {ts : List (Nat × AV)} {hs : List (Nat × Option (List AV))} {n : Nat} {z0 : Lo} {i : Nat} {cs cs' : List AV} (hi : cA hs i = some cs) (hl : cs'.length = cs.length)
  (h : ∀ (w : World) (bad : Nat → Prop) (ι : Pl) (b β : Nat), RdC w bad ι cs b β → RdC w bad ι cs' b β) :
  Le ⟨ts, hs, n, z0⟩ ⟨ts, (i, some cs') :: hs, n, z0⟩ := by
 rintro C a w ⟨h0, ι, g, gh⟩
 have hk : ∀ id c, cA ((i, some cs') :: hs) id = some c → (id = i ∧ c = cs') ∨ (id ≠ i ∧ cA hs id = some c) := by
  intro id c hc
  rw [eI] at hc
  split at hc
  ·rename_i e; cases hc; exact .inl ⟨e, rfl⟩
  ·rename_i e; exact .inr ⟨fun h => e h, hc⟩
 have hk2 : ∀ id c, cA hs id = some c → ∃ c', cA ((i, some cs') :: hs) id = some c' := by
  intro id c hc
  rw [eI]
  split
  ·exact ⟨_, rfl⟩
  ·exact ⟨_, hc⟩
 have hb : a9 C.X ι (cA ((i, some cs') :: hs)) = a9 C.X ι (cA hs) := by
  funext b
  refine propext ⟨?_, ?_⟩
  ·rintro (h | ⟨id, c, β, h1, h2⟩)
   ·exact .inl h
   ·rcases hk id c h1 with ⟨rfl, _⟩ | ⟨_, h3⟩
    ·exact .inr ⟨_, _, _, hi, h2⟩
    ·exact .inr ⟨_, _, _, h3, h2⟩
  ·rintro (h | ⟨id, c, β, h1, h2⟩)
   ·exact .inl h
   ·obtain ⟨c', h3⟩ := hk2 id c h1
    exact .inr ⟨_, _, _, h3, h2⟩
 refine ⟨h0, ι, ⟨g.df, g.sz, fun t av ht => ?_⟩, ?_, ?_, gh.fr, gh.ex, gh.fresh⟩
 ·show ∃ y, a.tmps[t]? = some y ∧ Rd w (a9 C.X ι (cA ((i, some cs') :: hs))) ι av y
  rw [hb]; exact g.tm t av ht
 ·intro id c hc
  show _ ∨ ∃ b β arr e, ι id = some (some (b, β)) ∧ w.heap[b]? = some (.cells arr e (0, 0)) ∧ β + c.length ≤ arr.size ∧ RdC w (a9 C.X ι (cA ((i, some cs') :: hs))) ι c b β ∧ ¬ C.X b ∧ (C.W0 b ∨ C.w0.heap.size ≤ b)
  rw [hb]
  rcases hk id c hc with ⟨rfl, rfl⟩ | ⟨_, h3⟩
  ·rcases gh.obj _ _ hi with ⟨q1, q2⟩ | ⟨b, β, arr, e, q1, q2, q3, q4, q5⟩
   ·subst q2
    exact .inl ⟨q1, List.eq_nil_of_length_eq_zero hl⟩
   ·exact .inr ⟨b, β, arr, e, q1, q2, by rw [hl]; exact q3, h _ _ _ _ _ q4, q5⟩
  ·exact gh.obj _ _ h3
 ·intro id id' c c' b β β' h1 h2 h3 h4
  obtain ⟨d1, e1⟩ : ∃ d, cA hs id = some d := by
   rcases hk id c h1 with ⟨rfl, _⟩ | ⟨_, h⟩
   ·exact ⟨_, hi⟩
   ·exact ⟨_, h⟩
  obtain ⟨d2, e2⟩ : ∃ d, cA hs id' = some d := by
   rcases hk id' c' h2 with ⟨rfl, _⟩ | ⟨_, h⟩
   ·exact ⟨_, hi⟩
   ·exact ⟨_, h⟩
  exact gh.sep id id' d1 d2 b β β' e1 e2 h3 h4
def L7 (r : List Bool) : List AV := [sl cB r]
instance : FlT L7 1 := ⟨fun _ => rfl⟩
instance : FE L7 (fun r => [sl cB r]) := ⟨fun _ => rfl⟩
instance (r : List Bool) : Pur (L7 r) := ⟨by show (AV.pur (sl cB r) && true) = true; rw [Bool.and_true]; exact aZ cB r⟩
end Go.AL
namespace Go.AL
theorem Gw {α : Type} [Inhabited α] (xs : List α) (i : Nat) : xs[i]! = if h : i < xs.length then xs[i] else default := by
 split
 ·rw [cK _ _ ‹_›]
 ·rw [getElem!_neg xs i ‹_›]
theorem Dj {α : Type} [Inhabited α] {a b : List α} (hl : a.length = b.length) (h : ∀ i, i < a.length → a[i]! = b[i]!) : a = b := by
 refine List.ext_getElem hl fun i h1 h2 => ?_
 have := h i h1
 rwa [cK _ _ h1, cK _ _ h2] at this
theorem c8 {α : Type} [Inhabited α] (xs : List α) (i j : Nat) (x : α) : (xs.set i x)[j]! = if i = j ∧ j < xs.length then x else xs[j]! := by
 by_cases hj : j < xs.length
 ·rw [cK _ _ (by simpa using hj), List.getElem_set, cK _ _ hj]; grind
 ·rw [getElem!_neg (xs.set i x) j (by simpa using hj), getElem!_neg xs j hj, if_neg (by omega)]
theorem tR {α : Type} [Inhabited α] (f : Nat → α) (n i : Nat) (h : i < n) : (((List.range n).map f : List α))[i]! = f i := by
 rw [cK _ i (by simpa using h)]; simp
theorem zA {α : Type} [Inhabited α] (x : α) (n i : Nat) (h : i < n) : (List.replicate n x : List α)[i]! = x := by
 rw [cK _ i (by simpa using h)]; simp
end Go.AL
namespace Go.AL
theorem I3 {α : Type} [Inhabited α] (xs ys : List α) (i : Nat) : (xs ++ ys)[i]! = if i < xs.length then xs[i]! else ys[i - xs.length]! := by
 by_cases h : i < xs.length
 ·rw [if_pos h, cK _ i (by simp; omega), cK _ i h, List.getElem_append_left h]
 ·rw [if_neg h]
  by_cases h2 : i - xs.length < ys.length
  ·rw [cK (xs ++ ys) i (by simp; omega), cK _ _ h2, List.getElem_append_right (by omega)]
  ·rw [getElem!_neg (xs ++ ys) i (by simp; omega), getElem!_neg ys _ h2]
end Go.AL
namespace Go.AL
def xS (f : Nat → Nat) : Nat → Nat
 | 0 => 0
 | n + 1 => xS f n + f n
theorem sumF_le {f g : Nat → Nat} : ∀ n, (∀ i, i < n → f i ≤ g i) → xS f n ≤ xS g n
 | 0, _ => Nat.le_refl _
 | n + 1, h => Nat.add_le_add (sumF_le n fun i hi => h i (by omega)) (h n (by omega))
theorem zH {f g : Nat → Nat} : ∀ n, (∀ i, i < n → f i ≤ g i) → (∃ i, i < n ∧ f i < g i) → xS f n < xS g n
 | 0, _, ⟨i, h, _⟩ => by omega
 | n + 1, h, ⟨i, hi, hlt⟩ => by
  show xS f n + f n < xS g n + g n
  have h1 := sumF_le n fun i hi => h i (by omega)
  have h2 := h n (by omega)
  by_cases e : i = n
  ·subst e; omega
  ·have := zH n (fun i hi => h i (by omega)) ⟨i, by omega, hlt⟩
   omega
def uT (nv N : Nat) (A : List Nat) : List (List Bool) := (List.range N).map fun (i : Nat) => (List.range nv).map fun (v : Nat) => A[i]!.testBit v
theorem qQ (nv N : Nat) (A : List Nat) : (uT nv N A).length = N := by simp [uT]
theorem qZ (nv N : Nat) (A : List Nat) (i : Nat) (h : i < N) : (uT nv N A)[i]! = (List.range nv).map fun (v : Nat) => A[i]!.testBit v := tR _ _ _ h
theorem xD (nv N : Nat) (A : List Nat) (i v : Nat) (h : i < N) (hv : v < nv) : (uT nv N A)[i]![v]! = A[i]!.testBit v := by rw [qZ _ _ _ _ h, tR _ _ _ hv]
end Go.AL
namespace Go.AL
open Go.RowKit
set_option linter.unusedVariables false
set_option linter.unusedSimpArgs false
section
variable {P : Program} {N : Nat} {Q : Exit → AS → Prop} {all : Array Oper} {rest : List Oper} {ts : List (Nat × AV)} {hs : List (Nat × Option (List AV))} {n : Nat} {z0 : Lo} {md : Md}
variable {d : Nat} {ty : TypeId} {pos : String} {af : Array Edge}
def Stop (p : Prop) : Prop := p
theorem dE {op : Op} {g : Option (Nat × Bool)} (h : Stop (RW P N all Q md (⟨some d, op, ty, pos, af, g⟩ :: rest) ⟨ts, hs, n, z0⟩)) : RW P N all Q md (⟨some d, op, ty, pos, af, g⟩ :: rest) ⟨ts, hs, n, z0⟩ := h
theorem eX {l : List Oper} {s : AS} (h : RW P N all Q md l s) : Stop (RW P N all Q md l s) := h
theorem Ch {t el : TypeId} {x : Operand} {lo : Option Operand} {i o m e l : Nat} [ht : SlT P t el] [he : SzT P el e] (hx : ev (lk ts) x = some (.own i o m e))
  (hl : eU (lk ts) lo 0 = some l) (hb : l ≤ m) (hN : Nat.blt d N = true) {md' : Md} [hmd : MdA md (rO x ++ (rB lo ++ rB none)) [.inl d] md'] (kk : RW P N all Q md' rest ⟨(d, .own i (o + l * e) (m - l) e) :: ts, hs, n, z0⟩) :
  RW P N all Q md (⟨some d, .slice t x lo none none, ty, pos, af, none⟩ :: rest) ⟨ts, hs, n, z0⟩ :=
 gB (m := m) (h := m) hx rfl hl rfl (by simp [LG, hb]) hN (md' := md') (hmd := hmd) kk
end
end Go.AL
namespace Go.AL
def yT (nv : Nat) (b : List Bool) : Nat := xS (fun v => if b[v]! = true then 0 else 1) nv
def Ll (nv N : Nat) (R : List (List Bool)) : Nat := xS (fun i => yT nv R[i]!) N
theorem Ew {nv : Nat} {a b : List Bool} (h : ∀ v, v < nv → a[v]! = true → b[v]! = true) : yT nv b ≤ yT nv a :=
 sumF_le nv fun v hv => by
  show (if b[v]! = true then 0 else 1) ≤ (if a[v]! = true then 0 else 1)
  by_cases ha : a[v]! = true
  ·rw [if_pos (h v hv ha)]; omega
  ·rw [if_neg ha]; split <;> omega
theorem IJ {nv : Nat} {a b : List Bool} (h : ∀ v, v < nv → a[v]! = true → b[v]! = true) {v : Nat} (hv : v < nv) (ha : a[v]! = false) (hb : b[v]! = true) : yT nv b < yT nv a :=
 zH nv (fun v hv => by
  show (if b[v]! = true then 0 else 1) ≤ (if a[v]! = true then 0 else 1)
  by_cases ha : a[v]! = true
  ·rw [if_pos (h v hv ha)]; omega
  ·rw [if_neg ha]; split <;> omega) ⟨v, hv, by show (if b[v]! = true then 0 else 1) < (if a[v]! = true then 0 else 1); rw [if_pos hb, if_neg (by rw [ha]; decide)]; omega⟩
theorem LP {nv N : Nat} {R R' : List (List Bool)} (h : ∀ i, i < N → yT nv R'[i]! ≤ yT nv R[i]!) {i : Nat} (hi : i < N) (hlt : yT nv R'[i]! < yT nv R[i]!) : Ll nv N R' < Ll nv N R :=
 zH N h ⟨i, hi, hlt⟩
theorem Iv {nv N i v : Nat} {R : List (List Bool)} (hl : R.length = N) (hi : i < N) (hv : v < nv) (hr : R[i]!.length = nv) (hf : R[i]![v]! = false) : Ll nv N (R.set i (R[i]!.set v true)) < Ll nv N R := by
 have hq : ∀ u, u < nv → R[i]![u]! = true → (R[i]!.set v true)[u]! = true := fun u hu h => by rw [c8]; split <;> first | rfl | exact h
 refine LP (fun j hj => ?_) hi ?_
 ·rw [c8]
  split
  ·rename_i e; obtain ⟨rfl, _⟩ := e; exact Ew hq
  ·exact Nat.le_refl _
 ·rw [c8, if_pos ⟨rfl, by omega⟩]
  exact IJ hq hv hf (by rw [c8, if_pos ⟨rfl, by omega⟩])
theorem D1 {pts : List Pnt} {i n : Nat} (e : edge pts i n) : ∃ k, k < pts[i]!.next.length ∧ (pts[i]!.next[k]!).toNat = n := by
 obtain ⟨k, hk, h⟩ := List.getElem_of_mem e.2
 exact ⟨k, hk, by rw [cK _ _ hk, h]; simp⟩
theorem FM {ts : List Int} {pts : List Pnt} (w : WG ts pts) {i k : Nat} (hi : i < pts.length) (hk : k < pts[i]!.next.length) : edge pts i (pts[i]!.next[k]!).toNat := by
 have hm := b9 _ _ hk
 have := w.nx i hi _ hm
 exact ⟨hi, by rw [Int.toNat_of_nonneg this.1]; exact hm⟩
def iV (ts : List Int) (pts : List Pnt) (R : List (List Bool)) (n v : Nat) : Bool := !decide (bQ ts pts[n]! v = 0) || (R[n]![v]! && !decide (bD pts[n]! = v))
structure LS (ts : List Int) (pts : List Pnt) (R0 R : List (List Bool)) (c : Bool) (D : Nat → Nat → Nat → Prop) : Prop where
 lo : R.length = pts.length
 ro : ∀ i, i < pts.length → R[i]!.length = ts.length
 snd : ∀ i v, i < pts.length → v < ts.length → R[i]![v]! = true → Lv ts pts i v
 dec : c = true → Ll ts.length pts.length R < Ll ts.length pts.length R0
 same : c = false → R = R0 ∧ ∀ i k v, i < pts.length → k < pts[i]!.next.length → v < ts.length → D i k v → iV ts pts R (pts[i]!.next[k]!).toNat v = true → R[i]![v]! = true
theorem LS.mono {ts : List Int} {pts : List Pnt} {R0 R : List (List Bool)} {c : Bool} {D D' : Nat → Nat → Nat → Prop} (h : LS ts pts R0 R c D)
  (k : ∀ i k v, i < pts.length → k < pts[i]!.next.length → v < ts.length → D' i k v → D i k v) : LS ts pts R0 R c D' :=
 ⟨h.lo, h.ro, h.snd, h.dec, fun hc => ⟨(h.same hc).1, fun i q v hi hq hv hd => (h.same hc).2 i q v hi hq hv (k i q v hi hq hv hd)⟩⟩
theorem LS.skip {ts : List Int} {pts : List Pnt} {R0 R : List (List Bool)} {c : Bool} {D D' : Nat → Nat → Nat → Prop} (h : LS ts pts R0 R c D) {i k v : Nat} (hs : iV ts pts R (pts[i]!.next[k]!).toNat v = true → R[i]![v]! = true)
  (hD : ∀ i' k' v', i' < pts.length → k' < pts[i']!.next.length → v' < ts.length → D' i' k' v' → D i' k' v' ∨ (i' = i ∧ k' = k ∧ v' = v)) : LS ts pts R0 R c D' :=
 ⟨h.lo, h.ro, h.snd, h.dec, fun hc => ⟨(h.same hc).1, fun i' q v' hi hq hv hd hn => by
  rcases hD i' q v' hi hq hv hd with h1 | ⟨rfl, rfl, rfl⟩
  ·exact (h.same hc).2 i' q v' hi hq hv h1 hn
  ·exact hs hn⟩⟩
theorem IK {ts : List Int} {pts : List Pnt} (w : WG ts pts) {R : List (List Bool)} (hs : ∀ i v, i < pts.length → v < ts.length → R[i]![v]! = true → Lv ts pts i v) {n v : Nat} (hn : n < pts.length) (hv : v < ts.length) (h : iV ts pts R n v = true) : Nd ts pts (n, v) := by
 unfold iV at h
 simp only [Bool.or_eq_true, Bool.not_eq_true', decide_eq_false_iff_not, Bool.and_eq_true] at h
 rcases h with h | ⟨h1, h2⟩
 ·exact .base ⟨hn, hv, h⟩
 ·obtain ⟨k, e, hk⟩ := hs n v hn hv h1
  exact .step hk ⟨rfl, e, h2⟩
theorem LS.hit {ts : List Int} {pts : List Pnt} (w : WG ts pts) {R0 R : List (List Bool)} {c : Bool} {D : Nat → Nat → Nat → Prop} (D' : Nat → Nat → Nat → Prop) (h : LS ts pts R0 R c D) {i k v : Nat} (hi : i < pts.length) (hk : k < pts[i]!.next.length) (hv : v < ts.length)
  (hn : iV ts pts R (pts[i]!.next[k]!).toNat v = true) (hf : R[i]![v]! = false) : LS ts pts R0 (R.set i (R[i]!.set v true)) true D' := by
 have hlt := Iv h.lo hi hv (h.ro i hi) hf
 have e := FM w hi hk
 have hro := h.ro i hi
 have hlo := h.lo
 refine ⟨by rw [List.length_set]; exact h.lo, fun j hj => ?_, fun j u hj hu hr => ?_, fun _ => ?_, fun hc => by cases hc⟩
 ·rw [c8]; split
  ·rw [List.length_set]; exact hro
  ·exact h.ro j hj
 ·rw [c8] at hr
  split at hr
  ·rename_i q
   obtain ⟨rfl, _⟩ := q
   rw [c8] at hr
   split at hr
   ·rename_i q
    obtain ⟨rfl, _⟩ := q
    exact ⟨_, e, IK w h.snd (eH w e) hv hn⟩
   ·exact h.snd _ u hj hu hr
  ·exact h.snd j u hj hu hr
 ·cases hc : c with
  | true => have := h.dec hc; omega
  | false => rw [← (h.same hc).1]; exact hlt
def DL (z : Int) (kk vv : Nat) (i k v : Nat) : Prop := z < (i : Int) ∨ (z = (i : Int) ∧ (k < kk ∨ (k = kk ∧ v < vv)))
structure LH (ts : List Int) (pts : List Pnt) (R : List (List Bool)) (c : Bool) : Prop where
 lo : R.length = pts.length
 ro : ∀ i, i < pts.length → R[i]!.length = ts.length
 snd : ∀ i v, i < pts.length → v < ts.length → R[i]![v]! = true → Lv ts pts i v
 cl : c = false → ∀ i k v, i < pts.length → k < pts[i]!.next.length → v < ts.length → iV ts pts R (pts[i]!.next[k]!).toNat v = true → R[i]![v]! = true
theorem LH.start {ts : List Int} {pts : List Pnt} {R : List (List Bool)} {c : Bool} (h : LH ts pts R c) : LS ts pts R R false (DL ((pts.length : Int) - 1) 0 0) :=
 ⟨h.lo, h.ro, h.snd, fun hc => (by cases hc), fun _ => ⟨rfl, fun i k v hi hk hv hd _ => by unfold DL at hd; omega⟩⟩
theorem LH.init (ts : List Int) (pts : List Pnt) : LH ts pts (List.replicate pts.length (List.replicate ts.length false)) true :=
 ⟨by simp, fun i hi => (by rw [zA _ _ _ hi]; simp), fun i v hi hv h => (by rw [zA _ _ _ hi, zA _ _ _ hv] at h; cases h), fun h => (by cases h)⟩
def M5 (nv N : Nat) (R : List (List Bool)) (c : Bool) : Nat := 2 * Ll nv N R + (if c = true then 1 else 0)
theorem LS.fin {ts : List Int} {pts : List Pnt} {R0 R : List (List Bool)} {c : Bool} {z : Int} (hz : z < 0) (h : LS ts pts R0 R c (DL z 0 0)) : LH ts pts R c ∧ M5 ts.length pts.length R c < M5 ts.length pts.length R0 true := by
 refine ⟨⟨h.lo, h.ro, h.snd, fun hc i k v hi hk hv => (h.same hc).2 i k v hi hk hv (.inl (by omega))⟩, ?_⟩
 unfold M5
 cases hc : c with
 | true => have := h.dec hc; simp only [if_true]; omega
 | false => rw [(h.same hc).1]; simp
theorem LH.final {ts : List Int} {pts : List Pnt} (w : WG ts pts) {R : List (List Bool)} {A : List Nat} (hA : rH ts pts A) (h : LH ts pts R false) : R = uT ts.length pts.length A := by
 have key : ∀ a : Nat × Nat, Nd ts pts a → (∀ i, edge pts i a.1 → R[i]![a.2]! = true) ∧ a.2 < ts.length := by
  refine Clo.sub (T := fun a : Nat × Nat => (∀ i, edge pts i a.1 → R[i]![a.2]! = true) ∧ a.2 < ts.length) ?_ ?_
  ·rintro ⟨n, v⟩ ⟨h1, h2, h3⟩
   dsimp only at h1 h2 h3 ⊢
   refine ⟨fun i e => ?_, h2⟩
   obtain ⟨k, hk, hkn⟩ := D1 e
   refine h.cl rfl i k v e.1 hk h2 ?_
   rw [hkn]; unfold iV; rw [decide_eq_false h3]; rfl
  ·rintro ⟨x, v⟩ ⟨y, v'⟩ ⟨hT, hv⟩ ⟨rfl, e, hs⟩
   dsimp only at hT hv e hs ⊢
   refine ⟨fun i ei => ?_, hv⟩
   obtain ⟨k, hk, hkn⟩ := D1 ei
   refine h.cl rfl i k _ ei.1 hk hv ?_
   rw [hkn]; unfold iV; rw [hT y e, decide_eq_false hs]; simp
 refine Dj (by rw [qQ, h.lo]) fun i hi => ?_
 rw [h.lo] at hi
 have hl := h.ro i hi
 refine Dj (by rw [hl, qZ _ _ _ _ hi]; simp) fun v hv => ?_
 rw [hl] at hv
 rw [xD _ _ _ _ _ hi hv, Bool.eq_iff_iff, hA.2 i hi v]
 exact ⟨fun hr => h.snd i v hi hv hr, fun ⟨k, e, hk⟩ => (key (k, v) hk).1 i e⟩
end Go.AL
namespace Go.AL
def M4 (pts : List Pnt) (v : Int) (pl : List Bool) : List Bool := (List.range pl.length).map fun (l : Nat) => pl[l]! && !(dZ pts[l]! && decide (pts[l]!.y = v))
end Go.AL
namespace Go.AL
open Go.RowKit
set_option linter.unusedVariables false
set_option linter.unusedSimpArgs false
def rS (R : List (List Bool)) : List (Nat × Option (List AV)) := (List.range R.length).map fun k => (k + dJ, some (flat cB R[k]!))
theorem Ao (g : Nat → List AV) (j : Nat) : ∀ ks : List Nat, cA (ks.map fun k => (k + dJ, some (g k))) (j + dJ) = if j ∈ ks then some (g j) else none
 | [] => by simp [cA]
 | k :: ks => by
  rw [List.map_cons, eI, Ao g j ks]
  by_cases h : j = k
  ·subst h; simp
  ·rw [if_neg (by omega)]; simp [h]
theorem Ay (g : Nat → List AV) (i : Nat) (hi : i < dJ) : ∀ ks : List Nat, cA (ks.map fun k => (k + dJ, some (g k))) i = none
 | [] => by simp [cA]
 | k :: ks => by
  rw [List.map_cons, eI, Ay g i hi ks, if_neg (by omega)]
theorem De (R : List (List Bool)) (k : Nat) : cA (rS R) (k + dJ) = if k < R.length then some (flat cB R[k]!) else none := by
 unfold rS; rw [Ao (fun k => flat cB R[k]!)]; simp
theorem vU (R : List (List Bool)) (i : Nat) (hi : i < dJ) : cA (rS R) i = none := Ay _ i hi _
theorem uA {R : List (List Bool)} {i : Nat} {cs : List AV} (h : cA (rS R) i = some cs) : ∃ k, k < R.length ∧ i = k + dJ ∧ cs = flat cB R[k]! := by
 rcases Nat.lt_or_ge i dJ with hi | hi
 ·rw [vU R i hi] at h; cases h
 ·obtain ⟨k, rfl⟩ : ∃ k, i = k + dJ := ⟨i - dJ, by omega⟩
  rw [De] at h
  split at h
  ·cases h; exact ⟨k, by assumption, rfl, rfl⟩
  ·cases h
inductive FamR (R R' : List (List Bool)) : List (Nat × Option (List AV)) → List (Nat × Option (List AV)) → Prop
 | here : FamR R R' (rS R) (rS R')
 | cons {t : Nat} {v : Option (List AV)} {l l' : List (Nat × Option (List AV))} : Nat.blt t dJ = true → FamR R R' l l' → FamR R R' ((t, v) :: l) ((t, v) :: l')
theorem FamR.nil : FamR [] [] [] [] := FamR.here
theorem FamR.fam {R R' : List (List Bool)} {hs hs' : List (Nat × Option (List AV))} (h : FamR R R' hs hs') (k : Nat) : cA hs (k + dJ) = if k < R.length then some (flat cB R[k]!) else none := by
 induction h with
 | here => exact De R k
 | cons ht _ ih => rw [eI, if_neg (by have := eL ht; omega)]; exact ih
theorem FamR.symm {R R' : List (List Bool)} {hs hs' : List (Nat × Option (List AV))} (h : FamR R R' hs hs') : FamR R' R hs' hs := by
 induction h with
 | here => exact .here
 | cons ht _ ih => exact .cons ht ih
theorem FamR.low {R R' : List (List Bool)} {hs hs' : List (Nat × Option (List AV))} (h : FamR R R' hs hs') (i : Nat) (hi : i < dJ) : cA hs i = cA hs' i := by
 induction h with
 | here => rw [vU R i hi, vU R' i hi]
 | cons ht _ ih => rw [eI, eI, ih]
theorem FamR.get {R R' : List (List Bool)} {hs hs' : List (Nat × Option (List AV))} (h : FamR R R' hs hs') {k : Nat} (hk : k < R.length) : cA hs (k + dJ) = some (flat cB R[k]!) := by rw [h.fam, if_pos hk]
theorem Hm {α : Type} [Inhabited α] (xs : List α) (i j : Nat) (x : α) : (xs.set i x)[j]! = if i = j ∧ j < xs.length then x else xs[j]! := c8 xs i j x
theorem Le.fset {ts : List (Nat × AV)} {hs hs' : List (Nat × Option (List AV))} {n : Nat} {z0 : Lo} {k : Nat} {r : List Bool} {R : List (List Bool)} (hF : FamR R (R.set k r) hs hs') (hk : k < R.length) :
  Le ⟨ts, (k + dJ, some (flat cB r)) :: hs, n, z0⟩ ⟨ts, hs', n, z0⟩ := by
 refine Le.of (fun _ _ h => h) (fun i cs h => ?_) (Nat.le_refl _) rfl
 have h' : cA hs' i = some cs := h
 show cA ((k + dJ, some (flat cB r)) :: hs) i = some cs
 rcases Nat.lt_or_ge i dJ with hi | hi
 ·rw [eI, if_neg (by omega), hF.low i hi]; exact h'
 ·obtain ⟨j, rfl⟩ : ∃ j, i = j + dJ := ⟨i - dJ, by omega⟩
  rw [hF.symm.fam] at h'
  split at h'
  ·rename_i hj
   rw [List.length_set] at hj
   rw [Hm] at h'
   rw [eI]
   by_cases e : j = k
   ·subst e; rw [if_pos ⟨rfl, hk⟩] at h'; rw [if_pos rfl]; exact h'
   ·rw [if_neg (fun q => e q.1.symm)] at h'
    rw [if_neg (by omega), hF.get hj]; exact h'
  ·cases h'
section
variable {P : Program} {N : Nat} {Q : Exit → AS → Prop} {all : Array Oper} {rest : List Oper} {ts : List (Nat × AV)} {hs : List (Nat × Option (List AV))} {n : Nat} {z0 : Lo} {md : Md}
variable {d : Nat} {ty : TypeId} {pos : String} {af : Array Edge}
theorem Hi {xs : List Bool} {q : Nat} (h : q < xs.length) : (flat cB xs).drop q = .v (.bool xs[q]!) :: flat cB (xs.drop (q + 1)) := by
 have := gE cB (e := 1) xs q h
 rw [Nat.mul_one] at this; rw [this]; rfl
theorem Gl {t : TypeId} {x : Operand} {k v : Nat} {R : List (List Bool)} [ha : AgT P t false] (hx : ev (lk ts) x = some (.optr (k + dJ) (0 + v * 1))) (hF : FamR R R hs hs) (hk : k < R.length) (hv : v < R[k]!.length)
  (hN : Nat.blt d N = true) {md' : Md} [hmd : MdA md (rO x ++ [.inr (k + dJ)]) [.inl d] md'] (kk : RW P N all Q md' rest ⟨(d, .v (.bool R[k]![v]!)) :: ts, hs, n, z0⟩) : RW P N all Q md (⟨some d, .load t x, ty, pos, af, none⟩ :: rest) ⟨ts, hs, n, z0⟩ := by
 refine mQ (cs := (flat cB R[k]!).drop (0 + v * 1)) (c := .v (.bool R[k]![v]!)) hx ha.pf ?_ ?_ (eL hN) (by rw [← hmd.pf] at kk; exact kk)
 ·simp only [deref, hF.get hk, Option.map_some]
 ·rw [Nat.zero_add, Nat.mul_one, Hi hv]; rfl
theorem FA {t : TypeId} {x y : Operand} {k v : Nat} {b : Bool} {R : List (List Bool)} {hs' : List (Nat × Option (List AV))} [hz : SzT P t 1] (hx : ev (lk ts) x = some (.optr (k + dJ) (0 + v * 1))) (hy : ev (lk ts) y = some (.v (.bool b)))
  (hF : FamR R (R.set k (R[k]!.set v b)) hs hs') (hk : k < R.length) (hv : v < R[k]!.length)
  (kk : RW P N all Q .txt rest ⟨ts, hs', n, z0⟩) : RW P N all Q .txt (⟨none, .store t x y, ty, pos, af, none⟩ :: rest) ⟨ts, hs, n, z0⟩ := by
 refine aV (md' := .txt) (cs := flat cB R[k]!) (new := [.v (.bool b)]) (cs' := flat cB (R[k]!.set v b)) hx hy rfl rfl (hF.get hk) ?_ ?_ (kL kk (Le.fset hF hk))
 ·rw [aQ cB (e := 1), List.length_singleton]; omega
 ·exact k8 hv rfl
theorem BE {f g : Nat → List AV} {t el e m M : Nat} {k : Int} {x i : Operand} {kk0 : IntKind} [ht : SlT P t el] [he : SzT P el e] (hx : ev (lk ts) x = some (.imm m (flat f (List.range M))))
  (hi : ev (lk ts) i = some (.v (.int kk0 k))) (hm : 0 ≤ k ∧ k < m) (hml : m = M) (hf : FlT f e) (hg : FE f g) (hN : Nat.blt d N = true) {md' : Md} [hmd : MdA md (rO x ++ rO i) [.inl d] md'] (kk : RW P N all Q md' rest ⟨(d, .iptr (g k.toNat ++ flat f ((List.range M).drop (k.toNat + 1)))) :: ts, hs, n, z0⟩) :
  RW P N all Q md (⟨some d, .indexAddr t x i, ty, pos, af, none⟩ :: rest) ⟨ts, hs, n, z0⟩ := by
 have e1 : (List.range M)[k.toNat]! = k.toNat := by rw [cK _ k.toNat (by simp; omega)]; simp
 exact cO hx hi hm (by simpa using hml) hf hg hN (md' := md') (hmd := hmd) (by rw [e1]; exact kk)
end
def Fj (b w : Nat) (k : Nat) : List AV := [.own (b + k + dJ) 0 w 1]
instance (b w : Nat) : FlT (Fj b w) 1 := ⟨fun _ => rfl⟩
instance (b w : Nat) : FE (Fj b w) (fun k => [.own (b + k + dJ) 0 w 1]) := ⟨fun _ => rfl⟩
mutual
inductive Ld (D : List Nat) (H : Nat → Option (List AV)) : AV → AV → Prop
 | pur {v : AV} : v.pur = true → Ld D H v v
 | own {id m e : Nat} {cs cs' : List AV} : id ∈ D → H id = some cs → LdL D H cs cs' → Ld D H (.own id 0 m e) (.imm m cs')
 | optr {id : Nat} {cs cs' : List AV} : id ∈ D → H id = some cs → LdL D H cs cs' → Ld D H (.optr id 0) (.iptr cs')
 | imm {m : Nat} {cs cs' : List AV} : LdL D H cs cs' → Ld D H (.imm m cs) (.imm m cs')
 | agg {cs cs' : List AV} : LdL D H cs cs' → Ld D H (.agg cs) (.agg cs')
inductive LdL (D : List Nat) (H : Nat → Option (List AV)) : List AV → List AV → Prop
 | pur {v : List AV} : c9 v = true → LdL D H v v
 | nil : LdL D H [] []
 | cons {c c' : AV} {cs cs' : List AV} : Ld D H c c' → LdL D H cs cs' → LdL D H (c :: cs) (c' :: cs')
end
mutual
theorem Ld.agr {D : List Nat} {H H' : Nat → Option (List AV)} (h : ∀ id ∈ D, H id = H' id) : ∀ {v v' : AV}, Ld D H v v' → Ld D H' v v'
 | _, _, .pur hp => .pur hp
 | _, _, .own h1 h2 h3 => .own h1 (by rw [← h _ h1]; exact h2) (LdL.agr h h3)
 | _, _, .optr h1 h2 h3 => .optr h1 (by rw [← h _ h1]; exact h2) (LdL.agr h h3)
 | _, _, .imm h3 => .imm (LdL.agr h h3)
 | _, _, .agg h3 => .agg (LdL.agr h h3)
theorem LdL.agr {D : List Nat} {H H' : Nat → Option (List AV)} (h : ∀ id ∈ D, H id = H' id) : ∀ {v v' : List AV}, LdL D H v v' → LdL D H' v v'
 | _, _, .pur hp => .pur hp
 | _, _, .nil => .nil
 | _, _, .cons h1 h2 => .cons (Ld.agr h h1) (LdL.agr h h2)
end
mutual
theorem Ld.purR {D : List Nat} {H : Nat → Option (List AV)} : ∀ {v v' : AV}, Ld D H v v' → v'.pur = true
 | _, _, .pur hp => hp
 | _, _, .own h1 h2 h3 => LdL.purR h3
 | _, _, .optr h1 h2 h3 => LdL.purR h3
 | _, _, .imm h3 => LdL.purR h3
 | _, _, .agg h3 => LdL.purR h3
theorem LdL.purR {D : List Nat} {H : Nat → Option (List AV)} : ∀ {v v' : List AV}, LdL D H v v' → c9 v' = true
 | _, _, .pur hp => hp
 | _, _, .nil => rfl
 | _, _, .cons h1 h2 => by simp only [c9, Ld.purR h1, LdL.purR h2, Bool.and_self]
end
theorem LdL.len {D : List Nat} {H : Nat → Option (List AV)} : ∀ {v v' : List AV}, LdL D H v v' → v.length = v'.length
 | _, _, .pur hp => rfl
 | _, _, .nil => rfl
 | _, _, .cons h1 h2 => by simp [LdL.len h2]
mutual
theorem Ld.ok {C : Ctx} {ι : Pl} {F : Nat → Prop} {D : List Nat} {H : Nat → Option (List AV)} {w : World} (g : HG C ι F H w) : ∀ {v v' : AV}, Ld D H v v' → ∀ {y : Value}, Rd w (a9 C.X ι H) ι v y → Rd w C.X (fun _ => none) v' y
 | _, _, .pur hp, y, k => Rd.pur _ y hp (Rd.carry (⟨fun b o x h1 h2 => ⟨fun q => h1 (.inl q), h2⟩, fun _ _ h => h, fun _ => Nat.le_refl _⟩ : Carry w (a9 C.X ι H) ι w C.X ι) _ _ k)
 | _, _, .own (id := id) (m := m) h1 h2 h3, y, k => by
  have hlen := LdL.len h3
  simp only [Rd] at k ⊢
  rcases k with ⟨_, rfl, a, rfl⟩ | ⟨b, β, c, q1, rfl, q2, q3⟩
  ·exact ⟨a, 0, rfl, .inl rfl⟩
  ·rcases g.obj id _ h2 with ⟨p1, _⟩ | ⟨b', β', arr, e', p1, p2, p3, p4, p5, p6⟩
   ·rw [p1] at q1; cases q1
   ·rw [p1] at q1; cases q1
    exact ⟨_, c, rfl, .inr ⟨b, β + 0, q2, rfl, .inr ⟨p5, LdL.okC g h3 p4⟩⟩⟩
 | _, _, .optr (id := id) h1 h2 h3, y, k => by
  simp only [Rd] at k ⊢
  obtain ⟨b, β, q1, rfl⟩ := k
  rcases g.obj id _ h2 with ⟨p1, _⟩ | ⟨b', β', arr, e', p1, p2, p3, p4, p5, p6⟩
  ·rw [p1] at q1; cases q1
  ·rw [p1] at q1; cases q1
   exact ⟨b, β + 0, rfl, .inr ⟨p5, LdL.okC g h3 p4⟩⟩
 | _, _, .imm (cs := cs) (cs' := cs') h3, y, k => by
  have hlen := LdL.len h3
  simp only [Rd] at k ⊢
  obtain ⟨a, c, rfl, k⟩ := k
  refine ⟨a, c, rfl, ?_⟩
  rcases k with k | ⟨b, o, hn, rfl, k⟩
  ·exact .inl k
  ·refine .inr ⟨b, o, hn, rfl, ?_⟩
   rcases k with k | ⟨hb, k⟩
   ·subst k; exact .inl (List.eq_nil_of_length_eq_zero (by rw [← hlen]; rfl))
   ·exact .inr ⟨fun q => hb (.inl q), LdL.okC g h3 k⟩
 | _, _, .agg h3, y, k => by
  simp only [Rd] at k ⊢
  obtain ⟨l, h1, h2⟩ := k
  exact ⟨l, h1, LdL.okL g h3 h2⟩
theorem LdL.okC {C : Ctx} {ι : Pl} {F : Nat → Prop} {D : List Nat} {H : Nat → Option (List AV)} {w : World} (g : HG C ι F H w) : ∀ {v v' : List AV}, LdL D H v v' → ∀ {b o : Nat}, RdC w (a9 C.X ι H) ι v b o → RdC w C.X (fun _ => none) v' b o
 | _, _, .pur hp, b, o, k => RdC.pur _ b o hp (RdC.carryB (⟨fun b o x h1 h2 => ⟨fun q => h1 (.inl q), h2⟩, fun _ _ h => h, fun _ => Nat.le_refl _⟩ : Carry w (a9 C.X ι H) ι w C.X ι) _ _ _ (fun o x hx => hx) k)
 | _, _, .nil, b, o, k => by simp only [RdC]
 | _, _, .cons h1 h2, b, o, k => by
  simp only [RdC] at k ⊢
  obtain ⟨⟨x, q1, q2, q3⟩, q4⟩ := k
  exact ⟨⟨x, q1, q2, Ld.ok g h1 q3⟩, LdL.okC g h2 q4⟩
theorem LdL.okL {C : Ctx} {ι : Pl} {F : Nat → Prop} {D : List Nat} {H : Nat → Option (List AV)} {w : World} (g : HG C ι F H w) : ∀ {v v' : List AV}, LdL D H v v' → ∀ {y : List Value}, RdL w (a9 C.X ι H) ι v y → RdL w C.X (fun _ => none) v' y
 | _, _, .pur hp, y, k => RdL.pur _ y hp (RdL.carry (⟨fun b o x h1 h2 => ⟨fun q => h1 (.inl q), h2⟩, fun _ _ h => h, fun _ => Nat.le_refl _⟩ : Carry w (a9 C.X ι H) ι w C.X ι) _ _ k)
 | _, _, .nil, y, k => by simpa only [RdL] using k
 | _, _, .cons h1 h2, y, k => by
  simp only [RdL] at k ⊢
  obtain ⟨x, l', q0, q1, q2, q3⟩ := k
  exact ⟨x, l', q0, q1, Ld.ok g h1 q2, LdL.okL g h2 q3⟩
end
theorem LdL.okV {C : Ctx} {ι : Pl} {F : Nat → Prop} {D : List Nat} {H : Nat → Option (List AV)} {w : World} (g : HG C ι F H w) : ∀ {v v' : List AV}, LdL D H v v' → ∀ {y : List Value}, RdV w (a9 C.X ι H) ι v y → RdV w C.X (fun _ => none) v' y
 | _, _, .pur hp, y, k => RdV.pur _ y hp (RdV.carry (⟨fun b o x h1 h2 => ⟨fun q => h1 (.inl q), h2⟩, fun _ _ h => h, fun _ => Nat.le_refl _⟩ : Carry w (a9 C.X ι H) ι w C.X ι) _ _ k)
 | _, _, .nil, y, k => by simpa only [RdV] using k
 | _, _, .cons h1 h2, y, k => by
  simp only [RdV] at k ⊢
  obtain ⟨x, l', q0, q2, q3⟩ := k
  exact ⟨x, l', q0, Ld.ok g h1 q2, LdL.okV g h2 q3⟩
theorem LdL.flt {D : List Nat} {H : Nat → Option (List AV)} {α : Type} {f f' : α → List AV} : ∀ {xs : List α}, (∀ x ∈ xs, LdL D H (f x) (f' x)) → LdL D H (flat f xs) (flat f' xs)
 | [], _ => .nil
 | x :: xs, h => by
  have h1 := h x (List.mem_cons_self)
  have h2 := LdL.flt (f := f) (f' := f') (xs := xs) (fun y hy => h y (List.mem_cons_of_mem _ hy))
  have app : ∀ {a a' b b' : List AV}, LdL D H a a' → LdL D H b b' → LdL D H (a ++ b) (a' ++ b') := by
   intro a a' b b' ha hb
   induction a generalizing a' with
   | nil =>
    have := LdL.len ha
    cases a' with
    | nil => exact hb
    | cons _ _ => simp at this
   | cons c cs ih =>
    cases ha with
    | pur hp =>
     simp only [c9, Bool.and_eq_true] at hp
     exact .cons (.pur hp.1) (ih (.pur hp.2))
    | cons q1 q2 => exact .cons q1 (ih q2)
  simp only [Go.AL.flat, List.flatMap_cons] at h2 ⊢
  exact app h1 h2
theorem LdL.rows {D : List Nat} {hs : List (Nat × Option (List AV))} {R : List (List Bool)} {b m w : Nat} (hF : FamR R R hs hs) (hD : ∀ k, k < m → b + k + dJ ∈ D) (hm : b + m ≤ R.length) (hw : ∀ k, k < m → R[b + k]!.length = w) :
  LdL D (cA hs) (flat (Fj b w) (List.range m)) (flat L7 ((R.drop b).take m)) := by
 have e : flat L7 ((R.drop b).take m) = flat (fun k => [sl cB R[b + k]!]) (List.range m) := by
  have : (R.drop b).take m = (List.range m).map fun k => R[b + k]! := by
   refine List.ext_getElem (by simp; omega) fun i h1 h2 => ?_
   simp only [List.length_take, List.length_drop] at h1
   rw [List.getElem_take, List.getElem_drop, List.getElem_map, List.getElem_range, cK _ _ (by omega)]
  rw [this, Go.AL.flat, List.flatMap_map]; rfl
 rw [e]
 refine LdL.flt fun k hk => ?_
 rw [List.mem_range] at hk
 have hq := hw k hk
 show LdL D (cA hs) [.own (b + k + dJ) 0 w 1] [.imm R[b + k]!.length (flat cB R[b + k]!)]
 rw [hq]
 exact .cons (.own (hD k hk) (hF.get (by omega)) (.pur (inferInstance : Pur (flat cB R[b + k]!)).pf)) .nil
section
variable {P : Program} {N : Nat} {Q : Exit → AS → Prop} {all : Array Oper} {rest : List Oper} {ts : List (Nat × AV)} {hs : List (Nat × Option (List AV))} {n : Nat} {z0 : Lo} {md : Md}
variable {d : Nat} {ty : TypeId} {pos : String} {af : Array Edge}
theorem pB {k : FuncId} {args : Array Operand} {tys : Array TypeId} {avs avs2 : List AV} {r : AV} (D : List Nat) [hc : CaT P k] (ha : evL (lk ts) args.toList = some avs) (hl : LdL D (cA hs) avs avs2) (h : PC P k avs2 (fun x => x = r)) (hfr : r.free = true) (hN : Nat.blt d N = true)
  {md' : Md} [hmd : MdA md (hO args.toList ++ D.map .inr) [.inl d] md'] (kk : RW P N all Q md' rest ⟨(d, r) :: ts, hs, n, z0⟩) : RW P N all Q md (⟨some d, .call ⟨.value (.func k), args, tys⟩, ty, pos, af, none⟩ :: rest) ⟨ts, hs, n, z0⟩ := by
 refine lD (rs := hO args.toList ++ D.map .inr) (ws := []) (n' := n) (out := r) rfl (Nat.le_refl _) (.inl rfl) (fun C ι F T H a w K Q' hCN ag hF g gh hK => ?_) (fun x hx => by cases hx; exact eL hN) (by rw [← hmd.pf] at kk; exact kk)
 simp only [Oper.wp, jN hc.pf, Oper.upon]
 have hl' : LdL D H avs avs2 := hl.agr fun id hid => (ag.r.h id (List.mem_map_of_mem hid)).symm
 have hv := hl'.okV gh (kR g (ag.l.evL.trans ha))
 let C' : Ctx := { N := 0, w0 := w, W0 := fun _ => False, X := C.X, ι0 := fun _ => none, xlt := fun b hb => Nat.lt_of_lt_of_le (C.xlt b hb) gh.fr.size }
 have hbad : ∀ b, a9 C'.X (fun _ => none) (cA []) b ↔ C.X b := fun b => ⟨fun h => (by rcases h with h | ⟨id, cs, β, h1, h2⟩ <;> first | exact h | cases h2), fun h => Or.inl h⟩
 have g' : HG C' (fun _ => none) (fun j => 0 ≤ j) (cA []) w :=
  ⟨fun id cs h => by simp [cA] at h, fun id id' cs cs' b β β' h => by simp [cA] at h, Fr.refl _ _, fun _ _ h => h, fun _ _ => rfl⟩
 have hcar : Carry w C.X (fun _ => none) w (a9 C'.X (fun _ => none) (cA [])) (fun _ => none) := ⟨fun b o x h1 h2 => ⟨fun h => h1 ((hbad b).1 h), h2⟩, fun _ _ h => h, fun _ => Nat.le_refl _⟩
 refine (h C' _ w _ rfl rfl g' (RdV.carry hcar _ _ hv)).mono ?_
 rintro e w' ⟨v, r', H', ι', rfl, ⟨rfl, _⟩, h4, h5⟩
 obtain ⟨g2, c2⟩ := gh.ext h5.fr
 exact hK ι w' v (g.carry c2) (g2.less (fun _ _ h => h) (fun j hj => hj.1)).1 (Rd.free _ _ hfr h4)
theorem Le.frzAll {D : List Nat} {av out : AV} (hd : lk ts d = some av) (hl : Ld D (cA hs) av out) : Le ⟨ts, hs, n, z0⟩ ⟨[(d, out)], [], n, z0⟩ := by
 rintro C a w ⟨h0, ι, g, gh⟩
 obtain ⟨gh', car⟩ := gh.less (F' := Fn n z0) (H' := cA []) (fun id c h => by simp [cA] at h) (fun _ h => h)
 refine ⟨h0, ι, ⟨g.df, g.sz, fun t av' ht => ?_⟩, gh'⟩
 have ht' : lk [(d, out)] t = some av' := ht
 rw [lF] at ht'
 split at ht'
 ·rename_i e
  subst e
  cases ht'
  obtain ⟨y, hy, hr⟩ := g.tm t _ hd
  refine ⟨y, hy, Rd.pur _ _ hl.purR (Rd.carry (⟨fun b o x h1 h2 => ⟨?_, h2⟩, fun _ _ h => h, fun _ => Nat.le_refl _⟩ : Carry w C.X (fun _ => none) w (a9 C.X ι (cA [])) (fun _ => none)) _ _ (hl.ok gh hr))⟩
  rintro (h | ⟨id, cs, β, q1, q2⟩)
  ·exact h1 h
  ·simp [cA] at q1
 ·simp [lk] at ht'
end
end Go.AL
namespace Go.AL
open Go.RowKit
set_option linter.unusedVariables false
set_option linter.unusedSimpArgs false
mutual
theorem RnV.bw {w : World} {ρ : Nat → Option Nat} {bad bad' : Nat → Prop} {ι ι' : Pl} (h : ∀ i i', ρ i = some i' → ι i = ι' i') (hc : ∀ b, bad b → bad' b) : ∀ {v v' : AV}, RnV ρ v v' → ∀ {y : Value}, Rd w bad' ι' v' y → Rd w bad ι v y
 | _, _, .pur hp, y, k => Rd.pur _ y hp (Rd.carry (⟨fun b o x h1 h2 => ⟨fun q => h1 (hc b q), h2⟩, fun _ _ h => h, fun _ => Nat.le_refl _⟩ : Carry w bad' ι' w bad ι') _ _ k)
 | _, _, .own hi, y, k => by simp only [Rd, h _ _ hi] at k ⊢; exact k
 | _, _, .optr hi, y, k => by simp only [Rd, h _ _ hi] at k ⊢; exact k
 | _, _, .imm (cs := cs) (cs' := cs') hl, y, k => by
  have hlen := RnL.len hl
  simp only [Rd] at k ⊢
  obtain ⟨a, c, rfl, k⟩ := k
  refine ⟨a, c, rfl, ?_⟩
  rcases k with k | ⟨b, o, hn, rfl, k⟩
  ·exact .inl k
  ·refine .inr ⟨b, o, hn, rfl, ?_⟩
   rcases k with k | ⟨hb, k⟩
   ·subst k; exact .inl (List.eq_nil_of_length_eq_zero (by rw [hlen]; rfl))
   ·exact .inr ⟨fun q => hb (hc b q), RnL.bwC h hc hl k⟩
 | _, _, .agg hl, y, k => by
  simp only [Rd] at k ⊢
  obtain ⟨l, h1, h2⟩ := k
  exact ⟨l, h1, RnL.bwL h hc hl h2⟩
 | _, _, .tup hl, y, k => by
  simp only [Rd] at k ⊢
  obtain ⟨l, h1, h2⟩ := k
  exact ⟨l, h1, RnL.bwV h hc hl h2⟩
 | _, _, .clos h1 h2, y, k => by
  simp only [Rd] at k ⊢
  obtain ⟨lf, lc, q1, q2, q3⟩ := k
  exact ⟨lf, lc, q1, RnL.bwV h hc h1 q2, RnL.bwV h hc h2 q3⟩
theorem RnL.bwL {w : World} {ρ : Nat → Option Nat} {bad bad' : Nat → Prop} {ι ι' : Pl} (h : ∀ i i', ρ i = some i' → ι i = ι' i') (hc : ∀ b, bad b → bad' b) : ∀ {v v' : List AV}, RnL ρ v v' → ∀ {y : List Value}, RdL w bad' ι' v' y → RdL w bad ι v y
 | _, _, .pur hp, y, k => RdL.pur _ y hp (RdL.carry (⟨fun b o x h1 h2 => ⟨fun q => h1 (hc b q), h2⟩, fun _ _ h => h, fun _ => Nat.le_refl _⟩ : Carry w bad' ι' w bad ι') _ _ k)
 | _, _, .nil, y, k => by simpa only [RdL] using k
 | _, _, .cons h1 h2, y, k => by
  simp only [RdL] at k ⊢
  obtain ⟨x, l', q0, q1, q2, q3⟩ := k
  exact ⟨x, l', q0, q1, RnV.bw h hc h1 q2, RnL.bwL h hc h2 q3⟩
theorem RnL.bwV {w : World} {ρ : Nat → Option Nat} {bad bad' : Nat → Prop} {ι ι' : Pl} (h : ∀ i i', ρ i = some i' → ι i = ι' i') (hc : ∀ b, bad b → bad' b) : ∀ {v v' : List AV}, RnL ρ v v' → ∀ {y : List Value}, RdV w bad' ι' v' y → RdV w bad ι v y
 | _, _, .pur hp, y, k => RdV.pur _ y hp (RdV.carry (⟨fun b o x h1 h2 => ⟨fun q => h1 (hc b q), h2⟩, fun _ _ h => h, fun _ => Nat.le_refl _⟩ : Carry w bad' ι' w bad ι') _ _ k)
 | _, _, .nil, y, k => by simpa only [RdV] using k
 | _, _, .cons h1 h2, y, k => by
  simp only [RdV] at k ⊢
  obtain ⟨x, l', q0, q2, q3⟩ := k
  exact ⟨x, l', q0, RnV.bw h hc h1 q2, RnL.bwV h hc h2 q3⟩
theorem RnL.bwC {w : World} {ρ : Nat → Option Nat} {bad bad' : Nat → Prop} {ι ι' : Pl} (h : ∀ i i', ρ i = some i' → ι i = ι' i') (hc : ∀ b, bad b → bad' b) : ∀ {v v' : List AV}, RnL ρ v v' → ∀ {b o : Nat}, RdC w bad' ι' v' b o → RdC w bad ι v b o
 | _, _, .pur hp, b, o, k => RdC.pur _ b o hp (RdC.carryB (⟨fun b o x h1 h2 => ⟨fun q => h1 (hc b q), h2⟩, fun _ _ h => h, fun _ => Nat.le_refl _⟩ : Carry w bad' ι' w bad ι') _ _ _ (fun o x hx => hx) k)
 | _, _, .nil, b, o, k => by simp only [RdC]
 | _, _, .cons h1 h2, b, o, k => by
  simp only [RdC] at k ⊢
  obtain ⟨⟨x, q1, q2, q3⟩, q4⟩ := k
  exact ⟨⟨x, q1, q2, RnV.bw h hc h1 q3⟩, RnL.bwC h hc h2 q4⟩
end
theorem RnL.app {ρ : Nat → Option Nat} : ∀ {a a' b b' : List AV}, RnL ρ a a' → RnL ρ b b' → RnL ρ (a ++ b) (a' ++ b')
 | [], a', b, b', ha, hb => by
  have := ha.len
  cases a' with
  | nil => exact hb
  | cons _ _ => simp at this
 | c :: cs, _, b, b', .pur hp, hb => by
  simp only [c9, Bool.and_eq_true] at hp
  exact .cons (.pur hp.1) (RnL.app (.pur hp.2) hb)
 | c :: cs, _, b, b', .cons h1 h2, hb => .cons h1 (RnL.app h2 hb)
theorem RnL.flt {ρ : Nat → Option Nat} {α : Type} {f f' : α → List AV} : ∀ {xs : List α}, (∀ x ∈ xs, RnL ρ (f x) (f' x)) → RnL ρ (flat f xs) (flat f' xs)
 | [], _ => .nil
 | x :: xs, h => by
  have h1 := h x (List.mem_cons_self)
  have h2 := RnL.flt (f := f) (f' := f') (xs := xs) (fun y hy => h y (List.mem_cons_of_mem _ hy))
  simp only [flat, List.flatMap_cons] at h2 ⊢
  exact h1.app h2
theorem Le.renG (ρ : Nat → Option Nat) {ts ts' : List (Nat × AV)} {hs hs' : List (Nat × Option (List AV))} {n n' : Nat} {lo lo' : Lo} (hlo : lo'.lo = lo.lo) (hfb : lo.fb ≤ lo'.fb)
  (hid : ∀ id, id < lo.lo ∨ (dJ ≤ id ∧ id < lo.fb) → ρ id = some id) (hinj : ∀ a b c, ρ a = some c → ρ b = some c → a = b) (hfr : ∀ id, Fn n' lo' id → ρ id = none)
  (h1 : ∀ t v, lk ts' t = some v → ∃ v0, lk ts t = some v0 ∧ RnV ρ v v0) (h2 : ∀ id cs, cA hs' id = some cs → ∃ j cs0, ρ id = some j ∧ cA hs j = some cs0 ∧ RnL ρ cs cs0) :
  Le ⟨ts, hs, n, lo⟩ ⟨ts', hs', n', lo'⟩ := by
 rintro C a w ⟨h0, ι, g, gh⟩
 let ι' : Pl := fun id => match ρ id with | some j => ι j | none => none
 have hto : ∀ id j, ρ id = some j → ι' id = ι j := fun id j h => by simp only [ι', h]
 have hbad : ∀ b, a9 C.X ι' (cA hs') b → a9 C.X ι (cA hs) b := by
  rintro b (h | ⟨id, cs, β, q1, q2⟩)
  ·exact .inl h
  ·obtain ⟨j, cs0, q3, q4, _⟩ := h2 id cs q1
   rw [hto _ _ q3] at q2
   exact .inr ⟨j, cs0, β, q4, q2⟩
 refine ⟨fun id h => ?_, ι', ⟨g.df, g.sz, fun t v ht => ?_⟩, ⟨fun id cs h => ?_, fun id id' cs cs' b β β' q1 q2 q3 q4 => ?_, gh.fr, fun id p hp => ?_, fun id hid' => ?_⟩⟩
 ·have h' : lo.lo ≤ id := by rw [← hlo]; exact h
  rcases h0 id h' with q | q
  ·exact .inl ⟨q.1, Nat.lt_of_lt_of_le q.2 hfb⟩
  ·exact .inr q
 ·obtain ⟨v0, q1, q2⟩ := h1 t v ht
  obtain ⟨y, q3, q4⟩ := g.tm t v0 q1
  exact ⟨y, q3, RnV.bw hto hbad q2 q4⟩
 ·obtain ⟨j, cs0, q3, q4, q5⟩ := h2 id cs h
  rcases gh.obj j cs0 q4 with ⟨p1, p2⟩ | ⟨b, β, arr, e, p1, p2, p3, p4, p5, p6⟩
  ·refine .inl ⟨by rw [hto _ _ q3]; exact p1, ?_⟩
   subst p2; exact List.eq_nil_of_length_eq_zero (by rw [q5.len]; rfl)
  ·exact .inr ⟨b, β, arr, e, by rw [hto _ _ q3]; exact p1, p2, by rw [q5.len]; exact p3, RnL.bwC hto hbad q5 p4, p5, p6⟩
 ·obtain ⟨j, c1, r1, r2, _⟩ := h2 id cs q1
  obtain ⟨j', c2, r3, r4, _⟩ := h2 id' cs' q2
  rw [hto _ _ r1] at q3
  rw [hto _ _ r3] at q4
  have := gh.sep _ _ _ _ _ _ _ r2 r4 q3 q4
  subst this
  exact hinj _ _ _ r1 r3
 ·have : ρ id = some id := by
   refine hid id ?_
   rcases Nat.lt_or_ge id lo.lo with q | q
   ·exact .inl q
   ·rcases h0 id q with q1 | q1
    ·exact .inr q1
    ·rw [q1] at hp; cases hp
  rw [hto _ _ this]; exact gh.ex id p hp
 ·have := hfr id hid'
  simp only [ι', this]
def l5 (m : List (Nat × Nat)) (lo : Lo) (pn : Option Nat) (id : Nat) : Option Nat :=
 if id < lo.lo then some id else if dJ ≤ id then (if id < lo.fb then some id else if id = lo.fb then pn else none) else zW m id
theorem oV {m : List (Nat × Nat)} {lo : Lo} {pn : Option Nat} {id : Nat} (h1 : dJ ≤ id) (h2 : id < lo.fb) : l5 m lo pn id = some id := by
 unfold l5; split
 ·rfl
 ·simp [h1, h2]
def MY (ρ : Nat → Option Nat) (l : List (Nat × AV)) : List (Nat × AV) → Prop
 | [] => True
 | (t, v) :: l' => (∃ v0, lk l t = some v0 ∧ RnV ρ v v0) ∧ MY ρ l l'
def Cy (ρ : Nat → Option Nat) (l : List (Nat × Option (List AV))) : List (Nat × Option (List AV)) → Prop
 | [] => True
 | (t, none) :: l' => Cy ρ l l'
 | (t, some cs) :: l' => (∃ j cs0, ρ t = some j ∧ cA l j = some cs0 ∧ RnL ρ cs cs0) ∧ Cy ρ l l'
theorem CN {ρ : Nat → Option Nat} {l : List (Nat × AV)} : ∀ {l' : List (Nat × AV)}, MY ρ l l' → ∀ t v, lk l' t = some v → ∃ v0, lk l t = some v0 ∧ RnV ρ v v0
 | [], _, t, v, h => by simp [lk] at h
 | (u, x) :: l', hr, t, v, h => by
  simp only [MY] at hr
  simp only [lF] at h
  split at h
  ·rename_i e; subst e; cases h; exact hr.1
  ·exact CN hr.2 t v h
theorem y4 {a b : List (Nat × Option (List AV))} {u : Nat} {c : List AV} : cA (a ++ b) u = some c → cA a u = some c ∨ cA b u = some c := by
 induction a with
 | nil => exact fun h => .inr h
 | cons x a ih =>
  obtain ⟨t, v⟩ := x
  rw [List.cons_append, eI, eI]
  split
  ·exact fun h => .inl h
  ·exact ih
theorem sO {ρ : Nat → Option Nat} {l : List (Nat × Option (List AV))} : ∀ {l' : List (Nat × Option (List AV))}, Cy ρ l l' → ∀ t cs, cA l' t = some cs →
  ∃ j cs0, ρ t = some j ∧ cA l j = some cs0 ∧ RnL ρ cs cs0
 | [], _, t, v, h => by simp [cA] at h
 | (u, none) :: l', hr, t, v, h => by
  simp only [Cy] at hr
  simp only [eI] at h
  split at h
  ·cases h
  ·exact sO hr t v h
 | (u, some x) :: l', hr, t, v, h => by
  simp only [Cy] at hr
  simp only [eI] at h
  split at h
  ·rename_i e; subst e; cases h; exact hr.1
  ·exact sO hr.2 t v h
theorem yZ {m : List (Nat × Nat)} {lo : Lo} {pn : Option Nat} {n' : Nat} (hm : Ik lo.lo n' m = true) {a c : Nat} (h : l5 m lo pn a = some c) :
  (a < lo.lo ∧ c = a) ∨ (lo.lo ≤ a ∧ dJ ≤ a ∧ a < lo.fb ∧ c = a) ∨ (lo.lo ≤ a ∧ dJ ≤ a ∧ a = lo.fb ∧ pn = some c) ∨ (lo.lo ≤ a ∧ a < dJ ∧ a < n' ∧ lo.lo ≤ c ∧ c < dJ ∧ zW m a = some c) := by
 unfold l5 at h
 split at h
 ·cases h; exact .inl ⟨by assumption, rfl⟩
 ·split at h
  ·split at h
   ·cases h; exact .inr (.inl ⟨by omega, by assumption, by assumption, rfl⟩)
   ·split at h
    ·exact .inr (.inr (.inl ⟨by omega, by assumption, by assumption, h⟩))
    ·cases h
  ·have := kI hm _ _ h
   exact .inr (.inr (.inr ⟨by omega, by omega, by omega, by omega, by omega, h⟩))
theorem Le.renF (m : List (Nat × Nat)) (pn : Option Nat) {ts ts' : List (Nat × AV)} {hs hs' : List (Nat × Option (List AV))} {n n' : Nat} {lo lo' : Lo} (hm : Ik lo.lo n' m = true) (hn : lo.lo ≤ n') (hlo : lo'.lo = lo.lo)
  (hfb : lo'.fb = lo.fb + (if pn.isSome then 1 else 0)) (hp : ∀ b, pn = some b → lo.lo ≤ b ∧ b < dJ ∧ ∀ a, zW m a ≠ some b)
  (h1 : ∀ t v, lk ts' t = some v → ∃ v0, lk ts t = some v0 ∧ RnV (l5 m lo pn) v v0) (h2 : ∀ id cs, cA hs' id = some cs → ∃ j cs0, l5 m lo pn id = some j ∧ cA hs j = some cs0 ∧ RnL (l5 m lo pn) cs cs0) :
  Le ⟨ts, hs, n, lo⟩ ⟨ts', hs', n', lo'⟩ := by
 refine Le.renG (l5 m lo pn) hlo (by rw [hfb]; omega) (fun id h => ?_) (fun a b c ha hb => ?_) (fun id h => ?_) h1 h2
 ·rcases h with h | h
  ·unfold l5; rw [if_pos h]
  ·exact oV h.1 h.2
 ·rcases yZ hm ha with a1 | a1 | a1 | a1 <;> rcases yZ hm hb with b1 | b1 | b1 | b1
  all_goals try omega
  ·have := hp c b1.2.2.2; omega
  ·have := hp c b1.2.2.2; omega
  ·have := hp c a1.2.2.2; omega
  ·have := hp c a1.2.2.2; omega
  ·exact absurd b1.2.2.2.2.2 ((hp c a1.2.2.2).2.2 b)
  ·exact absurd a1.2.2.2.2.2 ((hp c b1.2.2.2).2.2 a)
  ·exact zE hm _ _ _ a1.2.2.2.2.2 b1.2.2.2.2.2
 ·cases hc : l5 m lo pn id with
  | none => rfl
  | some c =>
   have h3 : n' ≤ id := h.1
   have h4 : id < dJ ∨ lo'.fb ≤ id := h.2
   rcases yZ hm hc with a1 | a1 | a1 | a1
   ·omega
   ·omega
   ·rw [a1.2.2.2] at hfb; simp at hfb; omega
   ·omega
theorem Le.renF0 (m : List (Nat × Nat)) {R : List (List Bool)} {ts ts' : List (Nat × AV)} {hs lits : List (Nat × Option (List AV))} {n n' : Nat} {lo : Lo} {l0 : Nat} (hF : FamR R R hs hs) (hz : lo = ⟨l0, dJ + R.length⟩) (hm : Ik l0 n' m = true) (hn : l0 ≤ n')
  (h1 : MY (l5 m lo none) ts ts') (h2 : Cy (l5 m lo none) hs lits) : Le ⟨ts, hs, n, lo⟩ ⟨ts', lits ++ rS R, n', ⟨l0, dJ + R.length⟩⟩ := by
 subst hz
 refine Le.renF m none hm hn rfl rfl (fun b h => by cases h) (CN h1) (fun id cs h => ?_)
 rcases y4 h with h | h
 ·exact sO h2 id cs h
 ·obtain ⟨k, hk, rfl, rfl⟩ := uA h
  exact ⟨_, _, oV (by omega) (by show k + dJ < dJ + R.length; omega), hF.get hk, .pur (inferInstance : Pur (flat cB R[k]!)).pf⟩
theorem Le.renF1 (m : List (Nat × Nat)) (b : Nat) {r : List Bool} {R R' : List (List Bool)} {ts ts' : List (Nat × AV)} {hs lits : List (Nat × Option (List AV))} {n n' : Nat} {lo : Lo} {l0 : Nat} (hF : FamR R R hs hs) (hz : lo = ⟨l0, dJ + R.length⟩) (hm : Ik l0 n' m = true) (hn : l0 ≤ n')
  (hlb : l0 ≤ dJ) (hb : l0 ≤ b ∧ b < dJ ∧ (m.all fun p => !Nat.beq p.2 b) = true) (hr : cA hs b = some (flat cB r)) (hR : R' = R ++ [r])
  (h1 : MY (l5 m lo (some b)) ts ts') (h2 : Cy (l5 m lo (some b)) hs lits) : Le ⟨ts, hs, n, lo⟩ ⟨ts', lits ++ rS R', n', ⟨l0, dJ + R'.length⟩⟩ := by
 subst hz hR
 refine Le.renF m (some b) hm hn rfl (by show dJ + (R ++ [r]).length = dJ + R.length + 1; simp [Nat.add_assoc]) (fun b' h => ?_) (CN h1) (fun id cs h => ?_)
 ·cases h
  refine ⟨hb.1, hb.2.1, fun a ha => ?_⟩
  have := zC ha
  have h3 := hb.2.2
  rw [List.all_eq_true] at h3
  have := h3 _ this
  simp at this
 ·rcases y4 h with h | h
  ·exact sO h2 id cs h
  ·obtain ⟨k, hk, rfl, rfl⟩ := uA h
   rw [List.length_append, List.length_singleton] at hk
   rcases Nat.lt_or_ge k R.length with hk2 | hk2
   ·have e : (R ++ [r])[k]! = R[k]! := by rw [cK _ _ (by simp; omega), cK _ _ hk2, List.getElem_append_left hk2]
    exact ⟨_, _, oV (by omega) (by show k + dJ < dJ + R.length; omega), hF.get hk2, by rw [e]; exact .pur (inferInstance : Pur (flat cB R[k]!)).pf⟩
   ·have e : k = R.length := by omega
    subst e
    have e2 : (R ++ [r])[R.length]! = r := by rw [cK _ _ (by simp)]; simp
    refine ⟨b, flat cB r, ?_, hr, ?_⟩
    ·unfold l5
     rw [if_neg (by show ¬ R.length + dJ < l0; omega), if_pos (by omega), if_neg (by show ¬ R.length + dJ < dJ + R.length; omega), if_pos (by show R.length + dJ = dJ + R.length; omega)]
    ·rw [e2]; exact .pur (inferInstance : Pur (flat cB r)).pf
end Go.AL
namespace Go.AL
open Go.RowKit
set_option linter.unusedVariables false
set_option linter.unusedSimpArgs false
section
variable {P : Program} {N : Nat} {Q : Exit → AS → Prop}
theorem Le.litF {ts ts' : List (Nat × AV)} {hs lits : List (Nat × Option (List AV))} {n n' : Nat} {z0 z1 : Lo} {R : List (List Bool)} (h1 : rU ts ts') (h2 : qB hs lits) (h3 : n ≤ n') (hF : FamR R R hs hs) (hz : z0 = z1) :
  Le ⟨ts, hs, n, z0⟩ ⟨ts', lits ++ rS R, n', z1⟩ := by
 refine Le.of (x4 h1) (fun i c h => ?_) h3 hz
 rcases y4 h with h | h
 ·exact sV h2 i c h
 ·obtain ⟨k, hk, rfl, rfl⟩ := uA h
  exact hF.get hk
theorem mK {σ : Type} {c : Code} {ts : List (Nat × AV)} {hs : List (Nat × Option (List AV))} {n : Nat} {z0 : Lo} (l0 : Nat) (Rf : σ → List (List Bool)) (ks : List Nat) (kt : List (Nat × AV)) (js : List Nat) (kh : List (Nat × Option (List AV)))
  (ot : σ → List (Nat × AV)) (oh : σ → List (Nat × Option (List AV))) (p : σ → Prop) (μ : σ → Nat) (i0 : σ) (h0 : p i0) (hk : Bf ks ts = kt) (hj : CW js hs = kh)
  (h1 : rU ts (ot i0)) (h2 : qB hs (oh i0)) (hF : FamR (Rf i0) (Rf i0) hs hs) (hz : z0 = ⟨l0, dJ + (Rf i0).length⟩)
  (round : ∀ i, p i → AW P N c (vD (fun s' => ∃ j, p j ∧ μ j < μ i ∧ Le s' ⟨ot j ++ kt, (oh j ++ kh) ++ rS (Rf j), n, ⟨l0, dJ + (Rf j).length⟩⟩) Q) ⟨ot i ++ kt, (oh i ++ kh) ++ rS (Rf i), n, ⟨l0, dJ + (Rf i).length⟩⟩) :
  AW P N (.loop c) Q ⟨ts, hs, n, z0⟩ := by
 subst hk hj
 exact Dr p (fun i => ⟨ot i ++ Bf ks ts, (oh i ++ CW js hs) ++ rS (Rf i), n, ⟨l0, dJ + (Rf i).length⟩⟩) μ ⟨i0, h0, Le.litF (m9 h1 (mY ks)) (mI h2 (pI js)) (Nat.le_refl _) hF hz⟩ round
end
end Go.AL
namespace Go.AL
open Go.RowKit
attribute [local irreducible] dJ
set_option linter.unusedVariables false
set_option linter.unusedSimpArgs false
theorem Iw {ρ : Nat → Option Nat} {b b' m w : Nat} (h : ∀ k, k < m → ρ (b + k + dJ) = some (b' + k + dJ)) : RnL ρ (flat (Fj b w) (List.range m)) (flat (Fj b' w) (List.range m)) :=
 RnL.flt fun k hk => by rw [List.mem_range] at hk; exact .cons (.own (h k hk)) .nil
theorem gK {m : List (Nat × Nat)} {lo : Lo} {pn : Option Nat} {b k w : Nat} (h : dJ + (b + k) ≤ lo.fb) : RnL (l5 m lo pn) (flat (Fj b w) (List.range k)) (flat (Fj b w) (List.range k)) :=
 Iw fun j hj => oV (by omega) (by omega)
end Go.AL
namespace Go.AL
open Go.RowKit
set_option linter.unusedVariables false
set_option linter.unusedSimpArgs false
theorem Le.virt {ts : List (Nat × AV)} {hs : List (Nat × Option (List AV))} {n : Nat} {z0 : Lo} (hn : n < dJ) : Le ⟨ts, hs, n, z0⟩ ⟨ts, (n, some []) :: hs, n + 1, z0⟩ := by
 rintro C a w ⟨h0, ι, g, gh⟩
 obtain ⟨g1, c1⟩ := gh.virt (id := n) ⟨Nat.le_refl _, .inl hn⟩
 have e : cA ((n, some []) :: hs) = fK (cA hs) n (some []) := BD _ _ _
 refine ⟨h0, fK ι n (some none), ?_, ?_⟩
 ·show TG C _ (lk ts) (cA ((n, some []) :: hs)) a w
  rw [e]; exact g.carry c1
 ·show HG C _ _ (cA ((n, some []) :: hs)) w
  rw [e]
  refine (g1.less (fun _ _ h => h) (fun j hj => ?_)).1
  have h1 : n + 1 ≤ j := hj.1
  exact ⟨⟨by show n ≤ j; omega, hj.2⟩, by omega⟩
theorem Le.cellsN {ts : List (Nat × AV)} {hs : List (Nat × Option (List AV))} {n : Nat} {z0 : Lo} {i q : Nat} {cs cs' cq : List AV} (hi : cA hs i = some cs) (hq : cA hs q = some cq) (hl : cs'.length = cs.length)
  (h : ∀ (w : World) (bad : Nat → Prop) (ι : Pl) (b β : Nat), (∃ p, ι q = some p) → RdC w bad ι cs b β → RdC w bad ι cs' b β) :
  Le ⟨ts, hs, n, z0⟩ ⟨ts, (i, some cs') :: hs, n, z0⟩ := by
 rintro C a w ⟨h0, ι, g, gh⟩
 have hqq : ∃ p, ι q = some p := by
  rcases gh.obj q cq hq with ⟨p1, _⟩ | ⟨_, _, _, _, p1, _⟩ <;> exact ⟨_, p1⟩
 have hk : ∀ id c, cA ((i, some cs') :: hs) id = some c → (id = i ∧ c = cs') ∨ (id ≠ i ∧ cA hs id = some c) := by
  intro id c hc
  rw [eI] at hc
  split at hc
  ·rename_i e; cases hc; exact .inl ⟨e, rfl⟩
  ·rename_i e; exact .inr ⟨fun h => e h, hc⟩
 have hk2 : ∀ id c, cA hs id = some c → ∃ c', cA ((i, some cs') :: hs) id = some c' := by
  intro id c hc
  rw [eI]
  split
  ·exact ⟨_, rfl⟩
  ·exact ⟨_, hc⟩
 have hb : a9 C.X ι (cA ((i, some cs') :: hs)) = a9 C.X ι (cA hs) := by
  funext b
  refine propext ⟨?_, ?_⟩
  ·rintro (h | ⟨id, c, β, h1, h2⟩)
   ·exact .inl h
   ·rcases hk id c h1 with ⟨rfl, _⟩ | ⟨_, h3⟩
    ·exact .inr ⟨_, _, _, hi, h2⟩
    ·exact .inr ⟨_, _, _, h3, h2⟩
  ·rintro (h | ⟨id, c, β, h1, h2⟩)
   ·exact .inl h
   ·obtain ⟨c', h3⟩ := hk2 id c h1
    exact .inr ⟨_, _, _, h3, h2⟩
 refine ⟨h0, ι, ⟨g.df, g.sz, fun t av ht => ?_⟩, ?_, ?_, gh.fr, gh.ex, gh.fresh⟩
 ·show ∃ y, a.tmps[t]? = some y ∧ Rd w (a9 C.X ι (cA ((i, some cs') :: hs))) ι av y
  rw [hb]; exact g.tm t av ht
 ·intro id c hc
  show _ ∨ ∃ b β arr e, ι id = some (some (b, β)) ∧ w.heap[b]? = some (.cells arr e (0, 0)) ∧ β + c.length ≤ arr.size ∧ RdC w (a9 C.X ι (cA ((i, some cs') :: hs))) ι c b β ∧ ¬ C.X b ∧ (C.W0 b ∨ C.w0.heap.size ≤ b)
  rw [hb]
  rcases hk id c hc with ⟨rfl, rfl⟩ | ⟨_, h3⟩
  ·rcases gh.obj _ _ hi with ⟨q1, q2⟩ | ⟨b, β, arr, e, q1, q2, q3, q4, q5⟩
   ·subst q2
    exact .inl ⟨q1, List.eq_nil_of_length_eq_zero hl⟩
   ·exact .inr ⟨b, β, arr, e, q1, q2, by rw [hl]; exact q3, h _ _ _ _ _ hqq q4, q5⟩
  ·exact gh.obj _ _ h3
 ·intro id id' c c' b β β' h1 h2 h3 h4
  obtain ⟨d1, e1⟩ : ∃ d, cA hs id = some d := by
   rcases hk id c h1 with ⟨rfl, _⟩ | ⟨_, h⟩
   ·exact ⟨_, hi⟩
   ·exact ⟨_, h⟩
  obtain ⟨d2, e2⟩ : ∃ d, cA hs id' = some d := by
   rcases hk id' c' h2 with ⟨rfl, _⟩ | ⟨_, h⟩
   ·exact ⟨_, hi⟩
   ·exact ⟨_, h⟩
  exact gh.sep id id' d1 d2 b β β' e1 e2 h3 h4
theorem sK {w : World} {bad : Nat → Prop} {ι : Pl} {c c' : AV} (hc : ∀ y, Rd w bad ι c y → Rd w bad ι c' y) : ∀ (a : List AV) (r : List AV) (b o : Nat), RdC w bad ι (a ++ c :: r) b o → RdC w bad ι (a ++ c' :: r) b o
 | [], r, b, o, h => by
  simp only [List.nil_append, RdC] at h ⊢
  obtain ⟨⟨x, h1, h2, h3⟩, h4⟩ := h
  exact ⟨⟨x, h1, h2, hc _ h3⟩, h4⟩
 | x :: a, r, b, o, h => by
  simp only [List.cons_append, RdC] at h ⊢
  exact ⟨h.1, sK hc a r b (o + 1) h.2⟩
theorem Le.nilCell {ts : List (Nat × AV)} {hs : List (Nat × Option (List AV))} {n : Nat} {z0 : Lo} {i : Nat} (e : Nat) (c1 : List AV) {c2 : List AV} (hi : cA hs i = some (c1 ++ .v (.slice none 0 0) :: c2)) (hin : i ≠ n) (hn : n < dJ) :
  Le ⟨ts, hs, n, z0⟩ ⟨ts, (i, some (c1 ++ .own n 0 0 e :: c2)) :: (n, some []) :: hs, n + 1, z0⟩ :=
 (Le.virt hn).trans (Le.cellsN (q := n) (cs := c1 ++ .v (.slice none 0 0) :: c2) (by rw [eI, if_neg hin]; exact hi) (by rw [eI, if_pos rfl]) (by simp) fun w bad ι b β hp hr =>
  sK (fun y hy => by simp only [Rd] at hy ⊢; exact .inl ⟨hp, trivial, none, hy⟩) c1 c2 b β hr)
theorem Le.frzC {ts : List (Nat × AV)} {hs : List (Nat × Option (List AV))} {n : Nat} {z0 : Lo} {j i m e : Nat} (c1 : List AV) {c2 d : List AV} (hj : cA hs j = some (c1 ++ .own i 0 m e :: c2)) (hi : cA hs i = some d) (hij : j ≠ i) :
  Le ⟨ts, hs, n, z0⟩ ⟨ts, (j, some (c1 ++ .imm m d :: c2)) :: (i, none) :: hs, n, z0⟩ := by
 rintro C a w ⟨h0, ι, g, gh⟩
 have hk : ∀ id c, cA ((j, some (c1 ++ .imm m d :: c2)) :: (i, none) :: hs) id = some c → (id = j ∧ c = c1 ++ .imm m d :: c2) ∨ (id ≠ j ∧ id ≠ i ∧ cA hs id = some c) := by
  intro id c hc
  rw [eI] at hc
  split at hc
  ·rename_i e; cases hc; exact .inl ⟨e, rfl⟩
  ·rename_i e
   rw [eI] at hc
   split at hc
   ·cases hc
   ·rename_i e2; exact .inr ⟨e, e2, hc⟩
 have hk2 : ∀ id c, cA ((j, some (c1 ++ .imm m d :: c2)) :: (i, none) :: hs) id = some c → id ≠ i ∧ ∃ c', cA hs id = some c' := by
  intro id c hc
  rcases hk id c hc with ⟨rfl, _⟩ | ⟨_, h2, h3⟩
  ·exact ⟨hij, _, hj⟩
  ·exact ⟨h2, _, h3⟩
 have hbad : ∀ b, a9 C.X ι (cA ((j, some (c1 ++ .imm m d :: c2)) :: (i, none) :: hs)) b → a9 C.X ι (cA hs) b := by
  rintro b (h | ⟨id, c, β, h1, h2⟩)
  ·exact .inl h
  ·obtain ⟨_, c', h3⟩ := hk2 id c h1
   exact .inr ⟨id, c', β, h3, h2⟩
 have car : Carry w (a9 C.X ι (cA hs)) ι w (a9 C.X ι (cA ((j, some (c1 ++ .imm m d :: c2)) :: (i, none) :: hs))) ι := ⟨fun b o x h1 h2 => ⟨fun q => h1 (hbad b q), h2⟩, fun _ _ h => h, fun _ => Nat.le_refl _⟩
 have hcell : ∀ y, Rd w (a9 C.X ι (cA ((j, some (c1 ++ .imm m d :: c2)) :: (i, none) :: hs))) ι (.own i 0 m e) y → Rd w (a9 C.X ι (cA ((j, some (c1 ++ .imm m d :: c2)) :: (i, none) :: hs))) ι (.imm m d) y := by
  intro y hr
  simp only [Rd] at hr ⊢
  rcases hr with ⟨_, h2, a', h3⟩ | ⟨b, β, c, h1, h2, h3, h4⟩
  ·subst h2; exact ⟨a', 0, h3, .inl rfl⟩
  ·refine ⟨_, c, h2, ?_⟩
   rcases Nat.eq_zero_or_pos m with h5 | h5
   ·exact .inl h5
   ·refine .inr ⟨b, β + 0, h3, rfl, ?_⟩
    rcases gh.obj i d hi with ⟨q1, q2⟩ | ⟨b', β', arr, e', q1, q2, q3, q4, q5, q6⟩
    ·rw [h1] at q1; cases q1
    ·rw [h1] at q1; cases q1
     refine .inr ⟨?_, RdC.carryB car _ _ _ (fun o x hx => hx) q4⟩
     rintro (h | ⟨id', cs', β', r1, r2⟩)
     ·exact q5 h
     ·obtain ⟨r3, c', r4⟩ := hk2 id' cs' r1
      exact r3 (gh.sep _ _ _ _ _ _ _ r4 hi r2 h1)
 refine ⟨h0, ι, g.carry car, ⟨fun id c hc => ?_, fun id id' c c' b β β' h1 h2 h3 h4 => ?_, gh.fr, gh.ex, gh.fresh⟩⟩
 ·rcases hk id c hc with ⟨rfl, rfl⟩ | ⟨_, _, h3⟩
  ·rcases gh.obj _ _ hj with ⟨q1, q2⟩ | ⟨b, β, arr, e, q1, q2, q3, q4, q5⟩
   ·simp at q2
   ·exact .inr ⟨b, β, arr, e, q1, q2, by simpa using q3, sK hcell c1 c2 b β (RdC.carryB car _ _ _ (fun o x hx => hx) q4), q5⟩
  ·rcases gh.obj _ _ h3 with ⟨q1, q2⟩ | ⟨b, β, arr, e, q1, q2, q3, q4, q5⟩
   ·exact .inl ⟨q1, q2⟩
   ·exact .inr ⟨b, β, arr, e, q1, q2, q3, RdC.carryB car _ _ _ (fun o x hx => hx) q4, q5⟩
 ·obtain ⟨_, d1, e1⟩ := hk2 id c h1
  obtain ⟨_, d2, e2⟩ := hk2 id' c' h2
  exact gh.sep id id' d1 d2 b β β' e1 e2 h3 h4
end Go.AL
namespace Go.AL
open Go.RowKit
set_option linter.unusedVariables false
def J0 (op : BinOp) (a b : ByteArray) : Option Value :=
 match op with
 | .add => if a.size + b.size ≤ 9000000000000000000 then some (.string (a ++ b)) else none
 | .eql => some (.bool (a.toList == b.toList))
 | .neq => some (.bool (!(a.toList == b.toList)))
 | _ => none
def FK (s : ByteArray) (l : List Int) : ByteArray := l.foldl (fun r n => r.push (UInt8.ofNat n.toNat)) s
section
variable {P : Program} {C : Ctx} {ι : Pl} {T : Nat → Option AV} {F : Nat → Prop} {H : Nat → Option (List AV)} {a : Act} {w : World} {o : Oper}
theorem Jl (g : TG C ι T H a w) {op : BinOp} {t t' : TypeId} {x y : Operand} {m n : ByteArray} {v : Value} (ho : o.op = .binOp op t x y t')
  (hx : ev T x = some (.v (.string m))) (hy : ev T y = some (.v (.string n))) (h : J0 op m n = some v) : Pu P C ι H a w o (.v v) := by
 have h1 := dA g hx
 have h2 := dA g hy
 simp only [Rd] at h1 h2
 refine ⟨v, ?_, by simp [Rd]⟩
 have hg : (eqGuard op t x y (.string m) (.string n)).run P w = .ok () w := by
  unfold eqGuard
  cases op <;> simp
 have hb : (binOp op t (.string m) (.string n)).run P w = .ok v w := by
  cases op <;> simp only [J0] at h <;> first | (cases h; done) | skip
  ·split at h
   ·rename_i hs
    cases h
    have h9 : ¬ (((m.size + n.size : Nat) : Int) > IntKind.i64.max) := by
     have : IntKind.i64.max = 9223372036854775807 := rfl
     omega
    show ((if ((m.size + n.size : Nat) : Int) > IntKind.i64.max then _ else pure (.string (m ++ n)) : Sem Value)).run P w = _
    rw [if_neg h9]; simp
   ·cases h
  all_goals (cases h; simp [binOp, Op.stringOp])
 simp only [execOp, ho, h1, h2, Sem.run_bind, hg, Result.andThen_ok, hb, Sem.run_pure]
theorem AO {bad : Nat → Prop} {k : IntKind} : ∀ {ns : List Int} {l : List Value}, RdL w bad ι (ns.map fun n => .v (.int k n)) l → l = ns.map (Value.int k)
 | [], l, h => by simp only [List.map_nil, RdL] at h; exact h
 | n :: ns, l, h => by
  simp only [List.map_cons, RdL] at h
  obtain ⟨x, l', rfl, h0, h1, h2⟩ := h
  simp only [Rd] at h1
  rw [h1, AO h2, List.map_cons]
theorem Lc (g : TG C ι T H a w) (gh : HG C ι F H w) {s t el : TypeId} {x : Operand} {av : AV} {m : Nat} {ns : List Int} (ho : o.op = .convert s t x) (hx : ev T x = some av)
  (ht : j7 P s = some el) (hu : BJ P el = some .u8) (hst : P.underlying t = some .string) (hs : sCells H 1 (pY av) = some (m, ns.map fun n => .v (.int .u8 n))) :
  Pu P C ι H a w o (.v (.string (FK .empty ns))) := by
 obtain ⟨ad, c, l, h1, h2, h3, h4, h5⟩ := qR gh (mA (dA g hx)) hs
 have hl := AO h3
 have hll : ns.length = m := by have := h2; rw [hl] at this; simpa using this
 refine ⟨.string (FK .empty ns), ?_, by simp [Rd]⟩
 have hcv : (convert s t (.slice ad m c)).run P w = (Conv.bytesToString (.slice ad m c)).run P w := run_convert_bytes_string w s t el ad m c (gQ ht) (CL hu) hst
 have hrun : (Conv.bytesToString (.slice ad m c)).run P w = .ok (.string (FK .empty ns)) w := by
  cases ad with
  | none =>
   rcases h5 with ⟨b, o', h⟩ | h
   ·cases h
   ·subst h
    have : ns = [] := List.eq_nil_of_length_eq_zero hll
    subst this
    rfl
  | some ad =>
   have hload : (loadCells ad m).run P w = .ok (ns.map (Value.int .u8)).toArray w := by
    rcases h5 with ⟨b, o', h⟩ | h
    ·cases h
     have := run_loadCells_list (P := P) w ⟨b, o', none⟩ l (fun j v hj => by rw [Addr.add_lit]; exact h4 b o' rfl j v hj)
     rw [h2, Nat.mul_one, hl] at this
     exact this
    ·subst h
     have : ns = [] := List.eq_nil_of_length_eq_zero hll
     subst this
     simp [loadCells, loadCellsFrom]
   exact run_bytesToString w ad m c ns hload
 simp only [execOp, ho, h1, Sem.run_bind, hcv, hrun, Result.andThen_ok, Sem.run_pure]
end
section
variable {P : Program} {N : Nat} {Q : Exit → AS → Prop} {all : Array Oper} {rest : List Oper} {ts : List (Nat × AV)} {hs : List (Nat × Option (List AV))} {n : Nat} {z0 : Lo} {md : Md}
variable {d : Nat} {ty : TypeId} {pos : String} {af : Array Edge}
theorem lU {op : BinOp} {t t' : TypeId} {x y : Operand} {m m' : ByteArray} {v : Value} (hx : ev (lk ts) x = some (.v (.string m))) (hy : ev (lk ts) y = some (.v (.string m')))
  (h : J0 op m m' = some v) (hN : Nat.blt d N = true) {md' : Md} [hmd : MdA md (rO x ++ rO y) [.inl d] md'] (kk : RW P N all Q md' rest ⟨(d, .v v) :: ts, hs, n, z0⟩) : RW P N all Q md (⟨some d, .binOp op t x y t', ty, pos, af, none⟩ :: rest) ⟨ts, hs, n, z0⟩ :=
 eJ rfl rfl (eL hN) (fun C ι F T H a w ag g gh => Jl g rfl (ag.l.ev.trans hx) (ag.r.ev.trans hy) h) (by rw [hmd.pf]; exact kk)
theorem FY {s t el : TypeId} {x : Operand} {av : AV} {m : Nat} (ns : List Int) [ht : SlT P s el] [hu : InT P el .u8] [hst : StT P t] (hx : ev (lk ts) x = some av)
  (hs' : sCells (cA hs) 1 (pY av) = some (m, ns.map fun n => .v (.int .u8 n))) (hN : Nat.blt d N = true) {md' : Md} [hmd : MdA md (rO x ++ rA av) [.inl d] md'] (kk : RW P N all Q md' rest ⟨(d, .v (.string (FK .empty ns))) :: ts, hs, n, z0⟩) :
  RW P N all Q md (⟨some d, .convert s t x, ty, pos, af, none⟩ :: rest) ⟨ts, hs, n, z0⟩ :=
 eJ rfl rfl (eL hN) (fun C ι F T H a w ag g gh => Lc g gh rfl (ag.l.ev.trans hx) ht.pf hu.pf hst.pf (ag.r.sCells.trans hs')) (by rw [hmd.pf]; exact kk)
theorem qJ {t : TypeId} {x i : Operand} {s : ByteArray} {k : IntKind} {m : Int} [ht : StT P t] (hx : ev (lk ts) x = some (.v (.string s)))
  (hi : ev (lk ts) i = some (.v (.int k m))) (hm : 0 ≤ m ∧ m < (s.size : Int)) (hN : Nat.blt d N = true) {md' : Md} [hmd : MdA md (rO x ++ rO i) [.inl d] md'] (kk : RW P N all Q md' rest ⟨(d, .v (.int .u8 ((s[m.toNat]!).toNat : Int))) :: ts, hs, n, z0⟩) :
  RW P N all Q md (⟨some d, .index t x i, ty, pos, af, none⟩ :: rest) ⟨ts, hs, n, z0⟩ :=
 Fh (b := s[m.toNat]!) hx hi ht.pf hm.1 (by rw [getElem!_pos s m.toNat (by omega), getElem?_pos s m.toNat (by omega)]) (eL hN) (by rw [hmd.pf]; exact kk)
theorem Fy {t : TypeId} {x : Operand} {lo hi : Option Operand} {s : ByteArray} {l h : Nat} [ht : StT P t] (hx : ev (lk ts) x = some (.v (.string s)))
  (hl : eU (lk ts) lo 0 = some l) (hh : eU (lk ts) hi s.size = some h) (hc : l ≤ h ∧ h ≤ s.size) (hN : Nat.blt d N = true) {md' : Md} [hmd : MdA md (rO x ++ (rB lo ++ rB hi)) [.inl d] md'] (kk : RW P N all Q md' rest ⟨(d, .v (.string (s.extract l h))) :: ts, hs, n, z0⟩) :
  RW P N all Q md (⟨some d, .slice t x lo hi none, ty, pos, af, none⟩ :: rest) ⟨ts, hs, n, z0⟩ := EY hx ht.pf hl hh hc (eL hN) (by rw [hmd.pf]; exact kk)
theorem Gk (m : Int) (h : 0 ≤ m ∧ m ≤ 255) : IntKind.u8.wrap m = m := by
 have : IntKind.u8.wrap m = m % 256 := rfl
 rw [this]; omega
theorem IT {t t' : TypeId} {x y : Operand} {m m' : Int} (hx : ev (lk ts) x = some (.v (.int .u8 m))) (hy : ev (lk ts) y = some (.v (.int .u8 m')))
  (h : 0 ≤ m + m' ∧ m + m' ≤ 255) (hN : Nat.blt d N = true) {md' : Md} [hmd : MdA md (rO x ++ rO y) [.inl d] md'] (kk : RW P N all Q md' rest ⟨(d, .v (.int .u8 (m + m'))) :: ts, hs, n, z0⟩) : RW P N all Q md (⟨some d, .binOp .add t x y t', ty, pos, af, none⟩ :: rest) ⟨ts, hs, n, z0⟩ :=
 fD hx hy (.inl rfl) (v := .int .u8 (m + m')) (by simp only [g0, Gk _ h]) (eL hN) (by rw [hmd.pf]; exact kk)
theorem D8 {t t' : TypeId} {x y : Operand} {m m' : Int} (hx : ev (lk ts) x = some (.v (.int .u8 m))) (hy : ev (lk ts) y = some (.v (.int .u8 m')))
  (h : 0 ≤ m - m' ∧ m - m' ≤ 255) (hN : Nat.blt d N = true) {md' : Md} [hmd : MdA md (rO x ++ rO y) [.inl d] md'] (kk : RW P N all Q md' rest ⟨(d, .v (.int .u8 (m - m'))) :: ts, hs, n, z0⟩) : RW P N all Q md (⟨some d, .binOp .sub t x y t', ty, pos, af, none⟩ :: rest) ⟨ts, hs, n, z0⟩ :=
 fD hx hy (.inl rfl) (v := .int .u8 (m - m')) (by simp only [g0, Gk _ h]) (eL hN) (by rw [hmd.pf]; exact kk)
theorem Bn {s t : TypeId} {x : Operand} {k' : IntKind} {m : Int} [hd : InT P t .u8] [hs' : InT P s k'] (hx : ev (lk ts) x = some (.v (.int k' m))) (h : 0 ≤ m ∧ m ≤ 255) (hN : Nat.blt d N = true) {md' : Md} [hmd : MdA md (rO x) [.inl d] md'] (kk : RW P N all Q md' rest ⟨(d, .v (.int .u8 m)) :: ts, hs, n, z0⟩) :
  RW P N all Q md (⟨some d, .convert s t x, ty, pos, af, none⟩ :: rest) ⟨ts, hs, n, z0⟩ := Ds hx hd.pf hs'.pf (eL hN) (by rw [hmd.pf, Gk _ h]; exact kk)
end
theorem p8 (n : Int) : (FK .empty [n]).size = 1 := rfl
theorem sT {a b : ByteArray} (h : a.size + b.size ≤ 9000000000000000000) : J0 .add a b = some (.string (a ++ b)) := if_pos h
end Go.AL
namespace Go.AL
def GC (l : List Int) : ByteArray := l.foldl (fun r n => r.push (UInt8.ofNat n.toNat)) .empty
def hU (v : Int) : ByteArray := GC [97 + v]
def B9 (n : Int) : ByteArray := GC [48 + n] ++ .empty
theorem pU (l : List UInt8) : ByteArray.size ⟨l.toArray⟩ = l.length := rfl
theorem nC (v : Int) : (hU v).size = 1 := rfl
theorem nM (v : Int) : (B9 v).size = 1 := by simp [B9, GC, ByteArray.size_append]
def rJ (out : ByteArray) (k : Nat) (t : ByteArray) : ByteArray := (if 0 < k then out ++ ⟨#[59]⟩ else out) ++ t
mutual
def lY : Stmt → ByteArray
 | .mk op x y n th el =>
  if op = 1 then (hU x ++ ⟨#[61]⟩) ++ B9 n
  else if op = 2 then (hU x ++ ⟨#[61, 98, 111, 120, 32]⟩) ++ B9 n
  else if op = 3 then (hU x ++ ⟨#[61]⟩) ++ hU y
  else if op = 4 then (hU x ++ ⟨#[61, 38]⟩) ++ hU y
  else if op = 5 then (hU x ++ ⟨#[61, 38, 109, 117, 116, 32]⟩) ++ hU y
  else if op = 6 then (hU x ++ ⟨#[61, 42]⟩) ++ hU y
  else if op = 7 then ((⟨#[42]⟩ ++ hU x) ++ ⟨#[61]⟩) ++ hU y
  else if op = 8 then ⟨#[100, 114, 111, 112, 32]⟩ ++ hU x
  else if op = 10 then (⟨#[108, 111, 111, 112, 123]⟩ ++ lW .empty 0 th) ++ ⟨#[125]⟩
  else (((⟨#[105, 102, 123]⟩ ++ lW .empty 0 th) ++ ⟨#[125, 123]⟩) ++ lW .empty 0 el) ++ ⟨#[125]⟩
def lW (out : ByteArray) (k : Nat) : List Stmt → ByteArray
 | [] => out
 | s :: l => lW (rJ out k (lY s)) (k + 1) l
end
def j1 (l : List Stmt) : ByteArray := lW .empty 0 l
theorem uR : ∀ (l : List Stmt) (out : ByteArray) (k : Nat) (s : Stmt), lW out k (l ++ [s]) = rJ (lW out k l) (k + l.length) (lY s)
 | [], out, k, s => by simp only [List.nil_append, lW, List.length_nil, Nat.add_zero]
 | x :: l, out, k, s => by
  simp only [List.cons_append, lW, uR l, List.length_cons]
  rw [show k + 1 + l.length = k + (l.length + 1) from by omega]
theorem vS (l : List Stmt) (k : Nat) (h : k < l.length) : j1 (l.take (k + 1)) = rJ (j1 (l.take k)) k (lY l[k]!) := by
 rw [dC _ _ h, j1, uR, List.length_take, Nat.min_eq_left (by omega), Nat.zero_add]; rfl
theorem E1 (s : Stmt) : lY s = 
  if s.op = 1 then (hU s.x ++ ⟨#[61]⟩) ++ B9 s.n
  else if s.op = 2 then (hU s.x ++ ⟨#[61, 98, 111, 120, 32]⟩) ++ B9 s.n
  else if s.op = 3 then (hU s.x ++ ⟨#[61]⟩) ++ hU s.y
  else if s.op = 4 then (hU s.x ++ ⟨#[61, 38]⟩) ++ hU s.y
  else if s.op = 5 then (hU s.x ++ ⟨#[61, 38, 109, 117, 116, 32]⟩) ++ hU s.y
  else if s.op = 6 then (hU s.x ++ ⟨#[61, 42]⟩) ++ hU s.y
  else if s.op = 7 then ((⟨#[42]⟩ ++ hU s.x) ++ ⟨#[61]⟩) ++ hU s.y
  else if s.op = 8 then ⟨#[100, 114, 111, 112, 32]⟩ ++ hU s.x
  else if s.op = 10 then (⟨#[108, 111, 111, 112, 123]⟩ ++ j1 s.th) ++ ⟨#[125]⟩
  else (((⟨#[105, 102, 123]⟩ ++ j1 s.th) ++ ⟨#[125, 123]⟩) ++ j1 s.el) ++ ⟨#[125]⟩ := by
 cases s; rw [lY]; rfl
mutual
theorem uL : ∀ s, (lY s).size + 1 ≤ 11 * dO s
 | .mk op x y n th el => by
  have h1 := lT th .empty 0
  have h2 := lT el .empty 0
  have h3 : ByteArray.size .empty = 0 := rfl
  rw [lY]
  simp only [dO]
  repeat' split
  all_goals simp only [ByteArray.size_append, pU, List.length_cons, List.length_nil, nC, nM]
  all_goals omega
theorem lT : ∀ (l : List Stmt) (out : ByteArray) (k : Nat), (lW out k l).size ≤ out.size + 11 * bO l
 | [], out, k => by simp only [lW, bO]; omega
 | s :: l, out, k => by
  have h1 := uL s
  have h2 := lT l (rJ out k (lY s)) (k + 1)
  have h3 : (rJ out k (lY s)).size ≤ out.size + 1 + (lY s).size := by
   unfold rJ; split <;> simp only [ByteArray.size_append, pU, List.length_cons, List.length_nil] <;> omega
  simp only [lW, bO]
  omega
end
theorem lQ (l : List Stmt) : (j1 l).size ≤ 11 * bO l := by
 have := lT l .empty 0
 have h3 : ByteArray.size .empty = 0 := rfl
 unfold j1; omega
theorem Ei {ts : List Int} {s : Stmt} (ht : cZ ts = true) (h : dS ts s = true) : 1 ≤ s.op ∧ s.op ≤ 8 ∧ 0 ≤ s.x ∧ s.x ≤ 5 ∧ 0 ≤ s.y ∧ s.y ≤ 5 ∧ (s.op = 1 ∨ s.op = 2 → 0 ≤ s.n ∧ s.n ≤ 9) := by
 have hl := fV ht
 have hx := j6 ht s.x
 have hy := j6 ht s.y
 unfold dS at h
 dsimp only at h
 repeat' split at h
 all_goals (first | (simp only [decide_eq_true_eq] at h; omega) | (simp at h; done))
end Go.AL
namespace Go.AL
theorem lG {A n : Nat} (hv : ∀ v, A.testBit v = true → v < n) : A < 2 ^ n := Nat.lt_pow_two_of_testBit _ fun v h => by
 cases hq : Nat.testBit _ v with
 | false => rfl
 | true => have := hv v hq; omega
theorem jC {A n : Nat} (hn : n ≤ 62) (hv : A < 2 ^ n) : Sm A := ⟨Nat.lt_of_lt_of_le hv (Nat.pow_le_pow_right (by decide) hn)⟩
structure FB (ts : List Int) (pts : List Pnt) (f : Flows ts pts) : Prop where
 la : f.Aa.length = pts.length
 lm : f.Am.length = pts.length
 ln : f.An.length = pts.length
 ll : f.Al.length = pts.length
 lp : f.Ap.length = pts.length
 bA : ∀ i : Nat, f.Aa[i]! < 2 ^ ts.length
 bM : ∀ i : Nat, f.Am[i]! < 2 ^ ts.length
 bN : ∀ i : Nat, f.An[i]! < 2 ^ ts.length
 bL : ∀ i : Nat, f.Al[i]! < 2 ^ ts.length
 bP : ∀ i : Nat, f.Ap[i]! < 2 ^ pts.length
 sA : ∀ i : Nat, Sm f.Aa[i]!
 sM : ∀ i : Nat, Sm f.Am[i]!
 sN : ∀ i : Nat, Sm f.An[i]!
 sL : ∀ i : Nat, Sm f.Al[i]!
 sP : ∀ i : Nat, Sm f.Ap[i]!
 rl : ∀ i, i < pts.length → (fY f.Af i).length = 6
 rs : ∀ i, i < pts.length → ∀ z : Nat, Sm (fY f.Af i)[z]!
 af : ∀ i, i < pts.length → It pts f.An i = f.Al[i]!
 kp : ∀ i, i < pts.length → zX ts pts[i]! f.Al[i]! (fY f.Af i) < 2 ^ pts.length
 lo : ∀ i, i < pts.length → zX ts pts[i]! f.Al[i]! (fY f.Af i) &&& f.Ap[i]! < 2 ^ pts.length
 cf : ∀ i, i < pts.length → FG ts pts f.Am f.Al f.Af f.Ap i < 2 ^ pts.length
theorem Flows.bnd {ts : List Int} {pts : List Pnt} (f : Flows ts pts) (w : WG ts pts) : FB ts pts f := by
 have hpl := w.pl
 have htl := w.tl
 have off : ∀ {A : List Nat} {n : Nat} {i : Nat}, A.length = pts.length → ¬ i < pts.length → A[i]! < 2 ^ n := fun {A n i} h hi => by
  rw [getElem!_neg A i (by omega)]; exact Nat.pow_pos (by decide)
 have bA : ∀ i : Nat, f.Aa[i]! < 2 ^ ts.length := fun i => by
  by_cases hi : i < pts.length
  ·exact lG fun v hv => ((f.ga.2 i hi v).1 hv).1
  ·exact off f.ga.1 hi
 have bM : ∀ i : Nat, f.Am[i]! < 2 ^ ts.length := fun i => by
  by_cases hi : i < pts.length
  ·exact lG fun v hv => GU w ((f.gm.2 i hi v).1 hv)
  ·exact off f.gm.1 hi
 have bN : ∀ i : Nat, f.An[i]! < 2 ^ ts.length := fun i => by
  by_cases hi : i < pts.length
  ·exact lG fun v hv => tX w ((f.gn.2 i hi v).1 hv)
  ·exact off f.gn.1 hi
 have bL : ∀ i : Nat, f.Al[i]! < 2 ^ ts.length := fun i => by
  by_cases hi : i < pts.length
  ·exact lG fun v hv => by obtain ⟨k, _, h⟩ := (f.gl.2 i hi v).1 hv; exact tX w h
  ·exact off f.gl.1 hi
 have bP : ∀ i : Nat, f.Ap[i]! < 2 ^ pts.length := fun i => by
  by_cases hi : i < pts.length
  ·exact lG fun v hv => (rF ((f.gp.2 i hi v).1 hv)).1
  ·exact off f.gp.1 hi
 have rs : ∀ i, i < pts.length → ∀ z : Nat, (fY f.Af i)[z]! < 2 ^ pts.length := fun i hi z => by
  by_cases hz : z < 6
  ·rw [iE f.gf.1 hi hz]
   exact lG fun v hv => (Ag w ((f.gf.2 i z hi hz v).1 hv)).2.2
  ·rw [getElem!_neg _ z (by rw [gZ f.gf.1 hi]; exact hz)]; exact Nat.pow_pos (by decide)
 have kp : ∀ i, i < pts.length → zX ts pts[i]! f.Al[i]! (fY f.Af i) < 2 ^ pts.length := fun i hi => lG fun v hv => by
  unfold zX at hv
  rw [iM] at hv
  rcases hv with hv | ⟨z, hz, hv⟩
  ·simp at hv
  ·exact eT (rs i hi _) hv
 have lo : ∀ i, i < pts.length → zX ts pts[i]! f.Al[i]! (fY f.Af i) &&& f.Ap[i]! < 2 ^ pts.length := fun i hi => Nat.and_lt_two_pow _ (bP i)
 refine ⟨f.ga.1, f.gm.1, f.gn.1, f.gl.1, f.gp.1, bA, bM, bN, bL, bP, fun i => jC (by omega) (bA i), fun i => jC (by omega) (bM i), fun i => jC (by omega) (bN i), fun i => jC (by omega) (bL i), fun i => jC (by omega) (bP i),
  fun i hi => gZ f.gf.1 hi, fun i hi z => jC (by omega) (rs i hi z), fun i hi => ?_, kp, lo, fun i hi => FN w (bP i)⟩
 rw [wX f.gl (AR w f.gn), tR _ _ _ hi]
end Go.AL
namespace Go.AL
def wY (pts : List Pnt) (l : Nat) (c : Acc) : Bool := decide (c.var = pts[l]!.y) && (c.write || decide (pts[l]!.op = 5))
theorem Bo {ts : List Int} {pts : List Pnt} (w : WG ts pts) (f : Flows ts pts) {i l : Nat} (hi : i < pts.length) (hl : l < pts.length) (hln : dZ pts[l]! = true) :
  (FG ts pts f.Am f.Al f.Af f.Ap i).testBit l = ((oP ts pts[i]! (f.Am[i]!.testBit (bD pts[i]!).toNat)).any (wY pts l) && ((zX ts pts[i]! f.Al[i]! (fY f.Af i)).testBit l && f.Ap[i]!.testBit l)) := by
 have b := f.bnd w
 have hpl := w.pl
 have hy := CI w hl hln
 rw [Bool.eq_iff_iff]
 unfold FG
 rw [kB _ _ _ (jC (by omega) (b.lo i hi)), Bool.and_eq_true, List.any_eq_true, ← Nat.testBit_and]
 simp only [Nat.zero_testBit, Bool.false_eq_true, false_or]
 constructor
 ·rintro ⟨c, hc, h1, h2, h3⟩
  refine ⟨⟨c, hc, ?_⟩, h1⟩
  rw [m3] at h2
  simp only [Bool.and_eq_true, decide_eq_true_eq] at h2
  have e2 := h2.2.2
  rw [Nat.testBit_two_pow, decide_eq_true_eq] at e2
  have hcv := DT _ w hi c hc
  unfold wY
  rw [decide_eq_true (by omega : c.var = pts[l]!.y)]
  rcases h3 with h3 | h3
  ·rw [h3]; rfl
  ·rw [decide_eq_true h3]; simp
 ·rintro ⟨⟨c, hc, h⟩, h1⟩
  unfold wY at h
  simp only [Bool.and_eq_true, Bool.or_eq_true, decide_eq_true_eq] at h
  refine ⟨c, hc, h1, ?_, h.2⟩
  rw [m3, decide_eq_true hl, hln, h.1, Nat.testBit_two_pow_self]; rfl
theorem Ja {ts : List Int} {pts : List Pnt} (w : WG ts pts) (f : Flows ts pts) {i l : Nat} (hi : i < pts.length) (h : (FG ts pts f.Am f.Al f.Af f.Ap i).testBit l = true) : l < pts.length ∧ dZ pts[l]! = true := by
 have b := f.bnd w
 have hpl := w.pl
 unfold FG at h
 rw [kB _ _ _ (jC (by omega) (b.lo i hi))] at h
 rcases h with h | ⟨c, _, h1, _⟩
 ·simp at h
 ·rw [Nat.testBit_and, Bool.and_eq_true] at h1
  exact rF ((f.gp.2 i hi l).1 h1.2)
end Go.AL
namespace Go.AL
open Go.RowKit
set_option linter.unusedVariables false
section
variable {P : Program} {C : Ctx} {ι : Pl} {F : Nat → Prop} {T : Nat → Option AV} {H : Nat → Option (List AV)} {a : Act} {w : World} {o : Oper}
theorem tN (z : Array Value) : ∀ n, (Builtin.zeroCells z n).toList = (List.replicate n z.toList).flatten := fun n => by
 have := qC z n (n * z.size) rfl
 simpa [Builtin.zeroCells, madeCells] using this
end
theorem Le.cut {ts : List (Nat × AV)} {hs : List (Nat × Option (List AV))} {n : Nat} {z0 : Lo} {i : Nat} {cs : List AV} (k : Nat) (hi : cA hs i = some cs) :
  Le ⟨ts, hs, n, z0⟩ ⟨ts, (i, some (cs.take k)) :: hs, n, z0⟩ := by
 rintro C a w ⟨h0, ι, g, gh⟩
 have hσ : ∀ id c, cA ((i, some (cs.take k)) :: hs) id = some c → ∃ c0, cA hs id = some c0 ∧ (c = c0 ∨ c = c0.take k) := by
  intro id c h
  rw [eI] at h
  split at h
  ·rename_i e; subst e; cases h; exact ⟨cs, hi, .inr rfl⟩
  ·exact ⟨c, h, .inl rfl⟩
 have car : Carry w (a9 C.X ι (cA hs)) ι w (a9 C.X ι (cA ((i, some (cs.take k)) :: hs))) ι := by
  refine ⟨fun b o' x h1 h2 => ⟨?_, h2⟩, fun _ _ h => h, fun _ => Nat.le_refl _⟩
  rintro (h | ⟨id, c, β, q1, q2⟩)
  ·exact h1 (.inl h)
  ·obtain ⟨c0, r, _⟩ := hσ id c q1
   exact h1 (.inr ⟨id, c0, β, r, q2⟩)
 refine ⟨h0, ι, ⟨g.df, g.sz, fun t av ht => ?_⟩, ⟨fun id c h => ?_, fun id id' c c' b β β' q1 q2 q3 q4 => ?_, gh.fr, gh.ex, gh.fresh⟩⟩
 ·obtain ⟨y, hy, hr⟩ := g.tm t av ht
  exact ⟨y, hy, Rd.carry car _ _ hr⟩
 ·obtain ⟨c0, r, e⟩ := hσ id c h
  rcases gh.obj id c0 r with ⟨h1, h2⟩ | ⟨b', β', arr', e', h1, h2, h3, h4, h5, h6⟩
  ·refine .inl ⟨h1, ?_⟩
   rcases e with e | e
   ·rw [e, h2]
   ·rw [e, h2]; simp
  ·refine .inr ⟨b', β', arr', e', h1, h2, ?_, ?_, h5, h6⟩
   ·rcases e with e | e
    ·rw [e]; exact h3
    ·rw [e, List.length_take]; omega
   ·have h7 := RdC.carryB car _ _ _ (fun o x hx => hx) h4
    rcases e with e | e
    ·rw [e]; exact h7
    ·rw [e]; exact RdC.take k h7
 ·obtain ⟨_, r1, _⟩ := hσ id c q1
  obtain ⟨_, r2, _⟩ := hσ id' c' q2
  exact gh.sep _ _ _ _ _ _ _ r1 r2 q3 q4
section
variable {P : Program} {N : Nat} {Q : Exit → AS → Prop} {all : Array Oper} {rest : List Oper} {ts : List (Nat × AV)} {hs : List (Nat × Option (List AV))} {n : Nat} {z0 : Lo}
variable {d : Nat} {ty : TypeId} {pos : String} {af : Array Edge}
theorem iU {fn : Go.Fn} {cs : Array Operand} {i : Nat} {cc c : List AV} (t : Nat) (hx : lk ts t = some (.optr i 0)) (hH : cA hs i = some cc) (hc : evL (lk ((t, .iptr cc) :: ts)) cs.toList = some c) (hN : Nat.blt d N = true)
  (kk : RW P N all Q .txt rest ⟨(d, .clos fn [] c) :: (t, .iptr cc) :: ts, (i, none) :: hs, n, z0⟩) : RW P N all Q .txt (⟨some d, .makeFunc fn #[] cs, ty, pos, af, none⟩ :: rest) ⟨ts, hs, n, z0⟩ :=
 kL (kF (f := []) (c := c) rfl hc hN (md' := .txt) kk) (Le.frzP hx hH)
end
end Go.AL
namespace Go.AL
theorem Ct {ts : List Int} {v : Int} (h : 0 < eD ts v) : eD ts v = ts[v.toNat]! := by
 unfold eD at h ⊢
 split at h
 ·rename_i c; rw [if_pos c]
 ·omega
end Go.AL
namespace Go.AL
open Go.RowKit
set_option linter.unusedVariables false
set_option linter.unusedSimpArgs false
section
variable {P : Program} {C : Ctx} {ι : Pl} {T : Nat → Option AV} {F : Nat → Prop} {H : Nat → Option (List AV)} {a : Act} {w : World} {o : Oper}
theorem rG (g : TG C ι T H a w) {lo hi : Option Operand} {mx : Operand} {n cap l h m : Nat} (hl : eU T lo 0 = some l) (hh : eU T hi n = some h) (hm : eU T (some mx) n = some m) (his : hi.isSome = true) (hlh : l ≤ h) (hn : h ≤ m) (hc : m ≤ cap) :
  (Instr.sliceBounds true n cap (lo.map a.eval) (hi.map a.eval) (some (a.eval mx))).run P w = .ok (l, h, m) w := by
 have hl2 : (l : Int) ≤ (h : Int) := by omega
 have hm2 : (m : Int) ≤ (cap : Int) := by omega
 have hh2 : (h : Int) ≤ (m : Int) := by omega
 obtain ⟨x3, k3, e3, hx3⟩ : ∃ x k, some mx = some x ∧ a.eval x = .int k (m : Int) := by
  rcases nY g hm with ⟨e, _⟩ | h
  ·cases e
  ·exact h
 cases e3
 rcases nY g hl with ⟨rfl, rfl⟩ | ⟨x, k, rfl, hx⟩ <;> rcases nY g hh with ⟨rfl, rfl⟩ | ⟨y, k', rfl, hy⟩ <;> first | (cases his; done) | simp [Instr.sliceBounds, Instr.sliceBound, asIntOf, *]
theorem BM (g : TG C ι T H a w) {lo hi : Option Operand} {n cap l h : Nat} (hl : eU T lo 0 = some l) (hh : eU T hi n = some h) (hlh : l ≤ h) (hn : h ≤ cap) (hc : n ≤ cap) :
  (Instr.sliceBounds true n cap (lo.map a.eval) (hi.map a.eval) none).run P w = .ok (l, h, cap) w := by
 have hc2 : (h : Int) ≤ (cap : Int) := by omega
 have hl2 : (l : Int) ≤ (h : Int) := by omega
 rcases nY g hl with ⟨rfl, rfl⟩ | ⟨x, k, rfl, hx⟩ <;> rcases nY g hh with ⟨rfl, rfl⟩ | ⟨y, k', rfl, hy⟩ <;>
  simp [Instr.sliceBounds, Instr.sliceBound, asIntOf, *]
theorem Ej (g : TG C ι T H a w) {t el : TypeId} {x mx : Operand} {lo hi : Option Operand} {id off n e l h m : Nat} (ho : o.op = .slice t x lo hi (some mx)) (hx : ev T x = some (.own id off n e))
  (ht : j7 P t = some el) (he : fU P el = some e) (his : hi.isSome = true) (hl : eU T lo 0 = some l) (hh : eU T hi n = some h) (hm : eU T (some mx) n = some m) (hc : l ≤ h ∧ h ≤ m ∧ m ≤ n) : Pu P C ι H a w o (.own id (off + l * e) (h - l) e) := by
 have h1 := dA g hx
 have hu := gQ ht
 simp only [Rd] at h1
 rcases h1 with ⟨⟨p, h1⟩, rfl, a', h3⟩ | ⟨b, β, c, h1, h3, h4, h5⟩
 ·have hr := rG (P := P) (w := w) (cap := 0) g hl hh hm his hc.1 hc.2.1 hc.2.2
  have e1 : m = 0 := by omega
  have e2 : h = 0 := by omega
  have e3 : l = 0 := by omega
  subst e1 e2 e3
  refine ⟨.slice a' 0 0, ?_, ?_⟩
  ·simp [execOp, ho, h3, Instr.sliceAt, c5 hu, Instr.slice, hr, e8 he]
  ·simp only [Rd]; exact .inl ⟨⟨p, h1⟩, by simp, a', rfl⟩
 ·have hr := rG (P := P) (w := w) (cap := c) g hl hh hm his hc.1 hc.2.1 (by omega)
  by_cases h0 : m = l
  ·have e1 : h = l := by omega
   subst e1 h0
   refine ⟨.slice (some ⟨b, β + off, none⟩) 0 0, ?_, ?_⟩
   ·simp [execOp, ho, h3, Instr.sliceAt, c5 hu, Instr.slice, hr, e8 he]
   ·simp only [Rd]; exact .inl ⟨⟨_, h1⟩, by simp, some ⟨b, β + off, none⟩, by simp⟩
  ·refine ⟨.slice (some ⟨b, β + (off + l * e), none⟩) (h - l) (m - l), ?_, ?_⟩
   ·simp [execOp, ho, h3, Instr.sliceAt, c5 hu, Instr.slice, hr, e8 he, h0, Addr.add_lit, Nat.add_assoc]
   ·simp only [Rd]
    refine .inr ⟨b, β, m - l, h1, rfl, by omega, ?_⟩
    rw [Nat.sub_mul]
    have q1 : l * e ≤ m * e := Nat.mul_le_mul_right _ (by omega)
    have q2 : m * e ≤ c * e := Nat.mul_le_mul_right _ (by omega)
    omega
theorem FC (g : TG C ι T H a w) {t el : TypeId} {x : Operand} {hi : Option Operand} {id off n e h : Nat} (ho : o.op = .slice t x none hi none) (hx : ev T x = some (.own id off n e))
  (ht : j7 P t = some el) (he : fU P el = some e) (hh : eU T hi n = some h) (hc : h ≤ n) (h0 : 0 < n) : Pu P C ι H a w o (.ownc id off h n e) := by
 have h1 := dA g hx
 have hu := gQ ht
 simp only [Rd] at h1
 rcases h1 with ⟨_, rfl, _⟩ | ⟨b, β, c, h1, h3, h4, h5⟩
 ·omega
 ·have hr := iB (P := P) (w := w) (is := true) (cap := c) g (lo := none) rfl hh (Nat.zero_le _) hc h4
  refine ⟨.slice (some ⟨b, β + off, none⟩) h c, ?_, ?_⟩
  ·have hr' : (Instr.sliceBounds true n c none (hi.map a.eval) none).run P w = .ok (0, h, c) w := hr
   simp [execOp, ho, h3, Instr.sliceAt, c5 hu, Instr.slice, hr', e8 he, Addr.add_lit]
  ·simp only [Rd]; exact ⟨b, β, c, h1, rfl, hc, h4, h5⟩
theorem CV (g : TG C ι T H a w) {t el : TypeId} {x : Operand} {lo hi : Option Operand} {id off n k e l h : Nat} (ho : o.op = .slice t x lo hi none) (hx : ev T x = some (.ownc id off n k e))
  (ht : j7 P t = some el) (he : fU P el = some e) (hl : eU T lo 0 = some l) (hh : eU T hi n = some h) (hc : l < h ∧ h ≤ k) : Pu P C ι H a w o (.own id (off + l * e) (h - l) e) := by
 have h1 := dA g hx
 have hu := gQ ht
 simp only [Rd] at h1
 obtain ⟨b, β, c, h1, h3, h4, h4', h5⟩ := h1
 have hr := BM (P := P) (w := w) (cap := c) g hl hh (by omega) (by omega) (by omega)
 refine ⟨.slice (some ⟨b, β + (off + l * e), none⟩) (h - l) (c - l), ?_, ?_⟩
 ·simp [execOp, ho, h3, Instr.sliceAt, c5 hu, Instr.slice, hr, e8 he, show ¬ c = l from by omega, Addr.add_lit, Nat.add_assoc]
 ·simp only [Rd]
  refine .inr ⟨b, β, c - l, h1, rfl, by omega, ?_⟩
  rw [Nat.sub_mul]
  have : l * e ≤ c * e := Nat.mul_le_mul_right _ (by omega)
  omega
theorem I2 (g : TG C ι T H a w) {t : TypeId} {x : Operand} {ts : Array TypeId} {el : TypeId} {id off n k e : Nat} (ho : o.op = .call ⟨.builtin .len, #[x], ts⟩) (hts : ts[0]? = some t) (hx : ev T x = some (.ownc id off n k e))
  (ht : j7 P t = some el) : Pu P C ι H a w o (.v (.int .i64 n)) := by
 have h1 := dA g hx
 have hu := gQ ht
 simp only [Rd] at h1
 obtain ⟨b, β, c, h1, h3, h4, h4', h5⟩ := h1
 refine ⟨.int .i64 n, ?_, by simp only [Rd]⟩
 simp [execOp, ho, resolve, invoke, builtin, Builtin.len_, hts, h3, c5 hu, goInt]
theorem BP (gh : HG C ι F H w) {t el : TypeId} {x y : Operand} {id off n m k e : Nat} {av : AV} {cs new : List AV} {zs : List Value}
  (ho : o.op = .call ⟨.builtin .append, #[x, y], #[t, t]⟩) (hx : Rd w (a9 C.X ι H) ι (.ownc id off n k e) (a.eval x)) (hy : Rd w (a9 C.X ι H) ι av (a.eval y))
  (ht : j7 P t = some el) (he : fU P el = some e) (hz : n6 P el = some zs)
  (hH : H id = some cs) (hs : sCells H e (pY av) = some (m, new)) (hk : n + m ≤ k) (hl : off + n * e + new.length ≤ cs.length) :
  Ef P C ι F H a w o (.ownc id off (n + m) k e) (fK H id (some (hZ cs (off + n * e) new))) := by
 obtain ⟨i, z, h1, h2, h3, h4⟩ := oM hz
 have hu := gQ ht
 have hsz := uP he h1
 obtain ⟨ad, c2, l, hy2, hll, hrl, hcell, had⟩ := qR gh (mA hy) hs
 simp only [Rd] at hx
 obtain ⟨b, β, c, p1, p2, p3, p4, p5⟩ := hx
 have hlenx : (Builtin.lenOf (a.eval y)).run P w = .ok m w := by rw [hy2]; rfl
 have hnew : (Builtin.firstCells i.size m (a.eval y)).run P w = .ok l.toArray w := by
  rw [hy2]
  rcases had with ⟨b, o', rfl⟩ | h0
  ·rw [hsz]; exact oA hll (hcell b o' rfl) w (fun _ => rfl) m
  ·subst h0
   have : l = [] := List.eq_nil_of_length_eq_zero (by simpa using hll)
   subst this
   cases ad with
   | none => rfl
   | some ad => simp [Builtin.firstCells, loadCells, loadCellsFrom]
 obtain ⟨w', q1, q2, q3⟩ := vG (P := P) gh hH p1 hl hrl
 have hroom : n + m ≤ c := by omega
 have hst : (storeCells ⟨b, β + off + n * i.size, none⟩ l).run P w = .ok () w' := by rw [hsz, Nat.add_assoc]; exact q1
 have hr : (Builtin.append_ #[t, t] o.type #[a.eval x, a.eval y]).run P w = .ok (.slice (some ⟨b, β + off, none⟩) (n + m) c) w' := by
  rw [p2]
  simp [Builtin.append_, c5 hu, sizeOf, typeInfo, h1, hlenx, hroom, hnew, Addr.add_lit, hst]
 refine ⟨_, .slice (some ⟨b, β + off, none⟩) (n + m) c, ι, w', ?_, .inl ⟨rfl, ?_⟩, q2, q3⟩
 ·simp [execOp, ho, resolve, invoke, builtin, hr]
 ·simp only [Rd]
  exact ⟨b, β, c, p1, rfl, hk, p4, Nat.le_trans p5 (q3.bs b)⟩
theorem BC {bad : Nat → Prop} {zs : List Value} (h : zs.all (·.oneCell') = true) : ∀ n, RdL w bad ι (List.replicate n (zs.map AV.v)).flatten (List.replicate n zs).flatten
 | 0 => by simp [RdL]
 | n + 1 => by
  rw [List.replicate_succ, List.replicate_succ, List.flatten_cons, List.flatten_cons]
  exact RdL.append (vR h) (BC h n)
theorem GZ (gh : HG C ι F H w) {t el : TypeId} {x : Operand} {id off n e : Nat} {cs : List AV} {zs : List Value}
  (ho : o.op = .call ⟨.builtin .clear, #[x], #[t]⟩) (hx : Rd w (a9 C.X ι H) ι (.own id off n e) (a.eval x)) (hd : o.dst = none)
  (ht : j7 P t = some el) (he : fU P el = some e) (hz : n6 P el = some zs) (hze : zs.length = e)
  (hH : H id = some cs) (h0 : 0 < n) (hl : off + n * e ≤ cs.length) :
  Ef P C ι F H a w o (.tup []) (fK H id (some (hZ cs off (List.replicate n (zs.map AV.v)).flatten))) := by
 obtain ⟨i, z, h1, h2, h3, h4⟩ := oM hz
 have hu := gQ ht
 have hsz := uP he h1
 simp only [Rd] at hx
 rcases hx with ⟨_, rfl, _⟩ | ⟨b, β, c, p1, p2, p3, p4⟩
 ·omega
 have hlen : ((List.replicate n (zs.map AV.v)).flatten).length = n * e := by
  rw [List.length_flatten]; simp [hze]
 obtain ⟨w', q1, q2, q3⟩ := vG (P := P) gh hH p1 (off := off) (new := (List.replicate n (zs.map AV.v)).flatten) (by rw [hlen]; exact hl) (BC h4 n)
 have hr : (Builtin.clear_ #[t] o.type #[a.eval x]).run P w = .ok (.tuple #[]) w' := by
  rw [p2]
  cases n with
  | zero => omega
  | succ n =>
   have hzc : (Builtin.zeroCells z.cells (n + 1)).toList = (List.replicate (n + 1) zs).flatten := by rw [tN, h3]
   simp [Builtin.clear_, c5 hu, zeroValue, typeInfo, h1, h2, hzc, q1]
 refine ⟨.value (.tuple #[]), .tuple #[], ι, w', ?_, .inl ⟨rfl, ?_⟩, q2, q3⟩
 ·simp [execOp, ho, resolve, invoke, builtin, hr]
 ·simp only [Rd]; exact ⟨[], rfl, by simp [RdV]⟩
end
section
variable {P : Program} {N : Nat} {Q : Exit → AS → Prop} {all : Array Oper} {rest : List Oper} {ts : List (Nat × AV)} {hs : List (Nat × Option (List AV))} {n : Nat} {z0 : Lo} {md : Md}
variable {d : Nat} {ty : TypeId} {pos : String} {af : Array Edge}
theorem Fl {t el e : TypeId} {x hi mx : Operand} {lo : Option Operand} {id off m l h k : Nat} [ht : SlT P t el] [he : SzT P el e] (hx : ev (lk ts) x = some (.own id off m e))
  (hl : eU (lk ts) lo 0 = some l) (hh : eU (lk ts) (some hi) m = some h) (hm : eU (lk ts) (some mx) m = some k) (hc : l ≤ h ∧ h ≤ k ∧ k ≤ m) (hN : Nat.blt d N = true) {md' : Md} [hmd : MdA md (rO x ++ (rB lo ++ (rB (some hi) ++ rB (some mx)))) [.inl d] md']
  (kk : RW P N all Q md' rest ⟨(d, .own id (off + l * e) (h - l) e) :: ts, hs, n, z0⟩) : RW P N all Q md (⟨some d, .slice t x lo (some hi) (some mx), ty, pos, af, none⟩ :: rest) ⟨ts, hs, n, z0⟩ :=
 eJ rfl rfl (eL hN) (fun C ι F T H a w ag g gh => Ej g rfl (ag.l.ev.trans hx) ht.pf he.pf rfl (ag.r.l.bnd.trans hl) (ag.r.r.l.bnd.trans hh) (ag.r.r.r.bnd.trans hm) hc) (by rw [hmd.pf]; exact kk)
theorem Fw {t el e : TypeId} {x : Operand} {hi : Option Operand} {id off m h : Nat} [ht : SlT P t el] [he : SzT P el e] (hx : ev (lk ts) x = some (.own id off m e))
  (hh : eU (lk ts) hi m = some h) (hc : h ≤ m) (h0 : 0 < m) (hN : Nat.blt d N = true) {md' : Md} [hmd : MdA md (rO x ++ rB hi) [.inl d] md']
  (kk : RW P N all Q md' rest ⟨(d, .ownc id off h m e) :: ts, hs, n, z0⟩) : RW P N all Q md (⟨some d, .slice t x none hi none, ty, pos, af, none⟩ :: rest) ⟨ts, hs, n, z0⟩ :=
 eJ rfl rfl (eL hN) (fun C ι F T H a w ag g gh => FC g rfl (ag.l.ev.trans hx) ht.pf he.pf (ag.r.bnd.trans hh) hc h0) (by rw [hmd.pf]; exact kk)
theorem Cr {t el e : TypeId} {x : Operand} {lo hi : Option Operand} {id off m k l h : Nat} [ht : SlT P t el] [he : SzT P el e] (hx : ev (lk ts) x = some (.ownc id off m k e))
  (hl : eU (lk ts) lo 0 = some l) (hh : eU (lk ts) hi m = some h) (hc : l < h ∧ h ≤ k) (hN : Nat.blt d N = true) {md' : Md} [hmd : MdA md (rO x ++ (rB lo ++ rB hi)) [.inl d] md']
  (kk : RW P N all Q md' rest ⟨(d, .own id (off + l * e) (h - l) e) :: ts, hs, n, z0⟩) : RW P N all Q md (⟨some d, .slice t x lo hi none, ty, pos, af, none⟩ :: rest) ⟨ts, hs, n, z0⟩ :=
 eJ rfl rfl (eL hN) (fun C ι F T H a w ag g gh => CV g rfl (ag.l.ev.trans hx) ht.pf he.pf (ag.r.l.bnd.trans hl) (ag.r.r.bnd.trans hh) hc) (by rw [hmd.pf]; exact kk)
theorem Kf {t el : TypeId} {x : Operand} {l : List TypeId} {id off m k e : Nat} [ht : SlT P t el] (hx : ev (lk ts) x = some (.ownc id off m k e)) (hN : Nat.blt d N = true) {md' : Md} [hmd : MdA md (rO x) [.inl d] md']
  (kk : RW P N all Q md' rest ⟨(d, .v (.int .i64 (m : Int))) :: ts, hs, n, z0⟩) : RW P N all Q md (⟨some d, .call ⟨.builtin .len, #[x], (t :: l).toArray⟩, ty, pos, af, none⟩ :: rest) ⟨ts, hs, n, z0⟩ :=
 eJ rfl rfl (eL hN) (fun C ι F T H a w ag g gh => I2 g rfl (by simp) (ag.ev.trans hx) ht.pf) (by rw [hmd.pf]; exact kk)
theorem BL {t el id off m m' k e : Nat} {x y : Operand} {av : AV} {cs new cs' : List AV} {zs : List Value} [ht : SlT P t el] [he : SzT P el e] [hz : ZrT P el zs]
  (hx : ev (lk ts) x = some (.ownc id off m k e)) (hy : ev (lk ts) y = some av)
  (hH : cA hs id = some cs) (hs' : sCells (cA hs) e (pY av) = some (m', new)) (hk : m + m' ≤ k) (hl : off + m * e + new.length ≤ cs.length)
  (hcs : hZ cs (off + m * e) new = cs') (hN : Nat.blt d N = true) {md' : Md} [hmd : MdA md (rO x ++ (rO y ++ ([.inr id] ++ rA av))) [.inr id, .inl d] md'] (kk : RW P N all Q md' rest ⟨(d, .ownc id off (m + m') k e) :: ts, (id, some cs') :: hs, n, z0⟩) :
  RW P N all Q md (⟨some d, .call ⟨.builtin .append, #[x, y], #[t, t]⟩, ty, pos, af, none⟩ :: rest) ⟨ts, hs, n, z0⟩ := by
 subst hcs
 exact BF (rs := rO x ++ (rO y ++ ([.inr id] ++ rA av))) (ws := [(id, some (hZ cs (off + m * e) new))]) (n' := n) (out := .ownc id off (m + m') k e) rfl (fun _ h => by cases h; exact eL hN) (Nat.le_refl n) (.inl rfl)
  (fun C ι F T H a w ag hF g gh => xW (BP gh rfl (dA g (ag.l.ev.trans hx)) (dA g (ag.r.l.ev.trans hy)) ht.pf he.pf hz.pf ((ag.r.r.l.h id (by simp)).trans hH) (ag.r.r.r.sCells.trans hs') hk hl)) (by
   show RW P N all Q (md.add (rO x ++ (rO y ++ ([.inr id] ++ rA av))) [.inr id, .inl d]) rest ⟨(d, .ownc id off (m + m') k e) :: ts, (id, some (hZ cs (off + m * e) new)) :: hs, n, z0⟩
   rw [hmd.pf]; exact kk)
theorem Bl {t el id off m e : Nat} {x : Operand} {cs cs' : List AV} {zs : List Value} [ht : SlT P t el] [he : SzT P el e] [hz : ZrT P el zs]
  (hx : ev (lk ts) x = some (.own id off m e)) (hze : zs.length = e) (h0 : 0 < m) (hH : cA hs id = some cs) (hl : off + m * e ≤ cs.length)
  (hcs : hZ cs off (List.replicate m (zs.map AV.v)).flatten = cs') {md' : Md} [hmd : MdA md (rO x ++ [.inr id]) [.inr id] md'] (kk : RW P N all Q md' rest ⟨ts, (id, some cs') :: hs, n, z0⟩) :
  RW P N all Q md (⟨none, .call ⟨.builtin .clear, #[x], #[t]⟩, ty, pos, af, none⟩ :: rest) ⟨ts, hs, n, z0⟩ := by
 subst hcs
 exact BF (rs := rO x ++ [.inr id]) (ws := [(id, some (hZ cs off (List.replicate m (zs.map AV.v)).flatten))]) (n' := n) (out := .tup []) rfl (fun _ h => by cases h) (Nat.le_refl n) (.inl rfl)
  (fun C ι F T H a w ag hF g gh => xW (GZ gh rfl (dA g (ag.l.ev.trans hx)) rfl ht.pf he.pf hz.pf hze ((ag.r.h id (by simp)).trans hH) h0 hl)) (by
   show RW P N all Q (md.add (rO x ++ [.inr id]) [.inr id]) rest ⟨ts, (id, some (hZ cs off (List.replicate m (zs.map AV.v)).flatten)) :: hs, n, z0⟩
   rw [hmd.pf]; exact kk)
theorem Le.noroom {id off m k e : Nat} (h : lk ts d = some (.ownc id off m k e)) : Le ⟨ts, hs, n, z0⟩ ⟨(d, .own id off m e) :: ts, hs, n, z0⟩ := by
 rintro C a w ⟨hlo, ι, g1, g2⟩
 refine ⟨hlo, ι, ⟨g1.df, g1.sz, fun t av ht => ?_⟩, g2⟩
 have ht' : lk ((d, .own id off m e) :: ts) t = some av := ht
 rw [lF] at ht'
 split at ht'
 ·rename_i q; subst q
  cases ht'
  obtain ⟨y, h1, h2⟩ := g1.tm t _ h
  refine ⟨y, h1, ?_⟩
  simp only [Rd] at h2 ⊢
  obtain ⟨b, β, c, p1, p2, p3, p4, p5⟩ := h2
  exact .inr ⟨b, β, c, p1, p2, by omega, p5⟩
 ·exact g1.tm t av ht'
end
end Go.AL
namespace Go.AL
def gL {α : Type} (k : Nat) (xs : List α) : List α := xs.take k ++ xs.drop (k + 1)
def jV (q : Prg) (k : Nat) : Prg := ⟨q.types, gL k q.body⟩
theorem m5 {α : Type} {k : Nat} {xs : List α} (h : k < xs.length) : (gL k xs).length + 1 = xs.length := by
 unfold gL; rw [List.length_append, List.length_take, List.length_drop]; omega
theorem G0 {α : Type} {k : Nat} {xs : List α} {x : α} (h : x ∈ gL k xs) : x ∈ xs := by
 unfold gL at h
 rcases List.mem_append.1 h with h | h
 ·exact List.mem_of_mem_take h
 ·exact List.mem_of_mem_drop h
theorem xO : ∀ (xs : List Stmt) (k : Nat), bO (gL k xs) ≤ bO xs
 | [], k => by simp [gL, bO]
 | x :: xs, 0 => by simp [gL, bO]
 | x :: xs, k + 1 => by
  have := xO xs k
  unfold gL at this ⊢
  simp only [List.take_succ_cons, List.drop_succ_cons, List.cons_append, bO]; omega
theorem AI {q : Prg} {k : Nat} (h : cP q = true) : cP (jV q k) = true := by
 unfold cP at h ⊢
 simp only [Bool.and_eq_true, decide_eq_true_eq] at h ⊢
 obtain ⟨⟨h1, h2⟩, h3⟩ := h
 refine ⟨⟨h1, ?_⟩, Nat.le_trans (xO _ _) h3⟩
 rw [qS, List.all_eq_true] at h2 ⊢
 exact fun x hx => h2 x (G0 hx)
end Go.AL
