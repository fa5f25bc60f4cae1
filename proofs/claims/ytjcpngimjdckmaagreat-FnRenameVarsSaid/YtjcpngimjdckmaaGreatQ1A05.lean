/-
 A part of the proofs over this program: rules and contracts of its functions (the rules).
-/
import Derived.Test.YtjcpngimjdckmaaGreatQ1A04
import Derived.Laws.BytesString
import Derived.Laws.StructEq
set_option linter.unusedVariables false
set_option linter.unusedSimpArgs false
namespace Go.AL
def kF (ts : List Int) (x : Pnt) (m : Bool) : List Acc :=
 (if x.op = 4 ∨ x.op = 6 then [⟨x.y, false⟩] else if x.op = 5 then [⟨x.y, true⟩] else if x.op = 7 ∨ x.op = 8 then [⟨x.x, true⟩] else if x.op = 3 ∧ D0 ts[x.y.toNat]! = true then [⟨x.y, true⟩] else []) ++
 (if 0 ≤ bG x ∧ ts[(bG x).toNat]! = 2 ∧ m = true then [⟨bG x, true⟩] else [])
def Lf (f : List Nat) (L : List Int) (a : Nat) : Nat := L.foldl (fun a v => a ||| f[v.toNat]!) a
def vB (ts : List Int) (x : Pnt) (live : Nat) (f : List Nat) : Nat := Lf f (cO (lU live (wS ts x [2] ||| iF x))) 0
theorem gM (f : List Nat) (l : Nat) : ∀ (L : List Int) (a : Nat), (Lf f L a).testBit l = true ↔ a.testBit l = true ∨ ∃ v ∈ L, f[v.toNat]!.testBit l = true
 | [], a => by simp [Lf]
 | v :: L, a => by
  show (Lf f L (a ||| f[v.toNat]!)).testBit l = true ↔ _
  rw [gM f l L, Nat.testBit_or, Bool.or_eq_true]
  simp only [List.mem_cons, exists_eq_or_imp]
  grind
def It (pts : List Pnt) (wr : Bool) (L : List Int) (a : Nat) : Nat := L.foldl (fun a l => if wr = true ∨ pts[l.toNat]!.op = 5 then a ||| 2 ^ l.toNat else a) a
def G4 (pts : List Pnt) (loans : Nat) (acs : List Acc) (a : Nat) : Nat := acs.foldl (fun a c => It pts c.write (cO (loans &&& qO pts (2 ^ c.var.toNat))) a) a
theorem qD (pts : List Pnt) (wr : Bool) (l : Nat) : ∀ (L : List Int) (a : Nat), (It pts wr L a).testBit l = true ↔ a.testBit l = true ∨ ((∃ z ∈ L, z.toNat = l) ∧ (wr = true ∨ pts[l]!.op = 5))
 | [], a => by simp [It]
 | z :: L, a => by
  show (It pts wr L (if wr = true ∨ pts[z.toNat]!.op = 5 then a ||| 2 ^ z.toNat else a)).testBit l = true ↔ _
  rw [qD pts wr l L]
  have h2 : ∀ b : Nat, (a ||| 2 ^ b).testBit l = true ↔ a.testBit l = true ∨ b = l := by
   intro b
   rw [Nat.testBit_or, Bool.or_eq_true, Nat.testBit_two_pow, decide_eq_true_eq]
  split
  ·rename_i h
   rw [h2]
   simp only [List.mem_cons, exists_eq_or_imp]
   constructor
   ·rintro ((h1 | rfl) | ⟨h1, h3⟩)
    ·exact .inl h1
    ·exact .inr ⟨.inl rfl, h⟩
    ·exact .inr ⟨.inr h1, h3⟩
   ·rintro (h1 | ⟨rfl | h1, h3⟩)
    ·exact .inl (.inl h1)
    ·exact .inl (.inr rfl)
    ·exact .inr ⟨h1, h3⟩
  ·rename_i h
   simp only [List.mem_cons, exists_eq_or_imp]
   constructor
   ·rintro (h1 | ⟨h1, h3⟩)
    ·exact .inl h1
    ·exact .inr ⟨.inr h1, h3⟩
   ·rintro (h1 | ⟨rfl | h1, h3⟩)
    ·exact .inl h1
    ·exact absurd h3 h
    ·exact .inr ⟨h1, h3⟩
theorem iN (pts : List Pnt) (loans l : Nat) (hl : Sm loans) : ∀ (acs : List Acc) (a : Nat), (G4 pts loans acs a).testBit l = true ↔ a.testBit l = true ∨ ∃ c ∈ acs, loans.testBit l = true ∧ (qO pts (2 ^ c.var.toNat)).testBit l = true ∧ (c.write = true ∨ pts[l]!.op = 5)
 | [], a => by simp [G4]
 | c :: acs, a => by
  show (G4 pts loans acs (It pts c.write (cO (loans &&& qO pts (2 ^ c.var.toNat))) a)).testBit l = true ↔ _
  rw [iN pts loans l hl acs, qD]
  have h2 : (∃ z ∈ cO (loans &&& qO pts (2 ^ c.var.toNat)), z.toNat = l) ↔ loans.testBit l = true ∧ (qO pts (2 ^ c.var.toNat)).testBit l = true := by
   constructor
   ·rintro ⟨z, hz, rfl⟩
    obtain ⟨v, h1, h3, rfl⟩ := dQ.1 hz
    rw [Nat.testBit_and, Bool.and_eq_true] at h3; exact h3
   ·intro h
    have : l < 62 := eH hl.pf h.1
    exact ⟨(l : Int), dQ.2 ⟨l, this, by rw [Nat.testBit_and, h.1, h.2]; rfl, rfl⟩, rfl⟩
  rw [h2]
  simp only [List.mem_cons, exists_eq_or_imp]
  grind
end Go.AL
namespace Go.AL
theorem ES (ts : List Int) (x : Pnt) (m : Bool) : (kF ts x m).length ≤ 2 := by
 unfold kF; rw [List.length_append]
 have h1 : ∀ (c : Prop) [Decidable c] (a b : List Acc), a.length ≤ 1 → b.length ≤ 1 → (if c then a else b).length ≤ 1 := by
  intro c _ a b h h2; split <;> assumption
 have a1 := h1 (x.op = 3 ∧ D0 ts[x.y.toNat]! = true) [⟨x.y, true⟩] [] (by simp) (by simp)
 have a2 := h1 (x.op = 7 ∨ x.op = 8) [⟨x.x, true⟩] _ (by simp) a1
 have a3 := h1 (x.op = 5) [⟨x.y, true⟩] _ (by simp) a2
 have a4 := h1 (x.op = 4 ∨ x.op = 6) [⟨x.y, false⟩] _ (by simp) a3
 have a5 := h1 (0 ≤ bG x ∧ ts[(bG x).toNat]! = 2 ∧ m = true) [⟨bG x, true⟩] [] (by simp) (by simp)
 omega
theorem xA {ts : List Int} {pts : List Pnt} (m : Bool) (w : WG ts pts) {i : Nat} (hi : i < pts.length) : ∀ c ∈ kF ts pts[i]! m, 0 ≤ c.var ∧ c.var < ts.length := by
 have hst := w.set i hi
 have hx := w.x i hi
 have hy := w.y i hi
 intro c hc
 unfold kF at hc
 rw [List.mem_append] at hc
 rcases hc with hc | hc
 ·repeat' split at hc
  all_goals first
   | (rw [List.mem_singleton] at hc; subst hc; dsimp only; omega)
   | cases hc
 ·split at hc
  ·rw [List.mem_singleton] at hc; subst hc; dsimp only; omega
  ·cases hc
end Go.AL
namespace Go.AL
def Bu (i : Nat) (L : List Int) : List Iss := L.map fun v => ⟨i, 1, v⟩
def Cd (pts : List Pnt) (i : Nat) (L : List Int) : List Iss := L.map fun l => ⟨i, if pts[l.toNat]!.op = 5 then 3 else 2, l⟩
def BV (ts : List Int) (pts : List Pnt) (Am Al Af Ap : List Nat) (i : Nat) : Nat :=
 G4 pts (vB ts pts[i]! Al[i]! (fN Af i) &&& Ap[i]!) (kF ts pts[i]! (Am[i]!.testBit (bG pts[i]!).toNat)) 0
def B5 (ts : List Int) (pts : List Pnt) (Aa Am Al Af Ap : List Nat) (i : Nat) : List Iss :=
 Bu i (cO (lU (wS ts pts[i]! [1, 2, 3]) Aa[i]!)) ++ Cd pts i (cO (BV ts pts Am Al Af Ap i))
def qJ (ts : List Int) (pts : List Pnt) (Aa Am Al Af Ap : List Nat) (k : Nat) : List Iss := (List.range k).flatMap (B5 ts pts Aa Am Al Af Ap)
theorem mZ (ts : List Int) (pts : List Pnt) (Aa Am Al Af Ap : List Nat) (k : Nat) : qJ ts pts Aa Am Al Af Ap (k + 1) = qJ ts pts Aa Am Al Af Ap k ++ B5 ts pts Aa Am Al Af Ap k := by
 unfold qJ; rw [List.range_succ, List.flatMap_append]; simp
theorem kI {α β : Type} [Inhabited α] (g : α → β) (L : List α) (k : Nat) (h : k < L.length) : (L.take (k + 1)).map g = (L.take k).map g ++ [g L[k]!] := by
 rw [cY _ _ h, List.map_append]; rfl
theorem Dj {xs : List Iss} {m : Nat} {a b c : Int} (hm : m = xs.length) : ((aH qK xs).drop 0).take (m * 3) ++ [iv a, iv b, iv c] = aH qK (xs ++ [⟨a, b, c⟩]) := gS hm rfl
theorem Bq {ts : List Int} {pts : List Pnt} (w : WG ts pts) {Am Al Af Ap : List Nat} {i : Nat} (hp : Ap[i]! < 2 ^ pts.length) : BV ts pts Am Al Af Ap i < 2 ^ pts.length := by
 have hpl := w.pl
 have hl : vB ts pts[i]! Al[i]! (fN Af i) &&& Ap[i]! < 2 ^ pts.length := Nat.and_lt_two_pow _ hp
 apply Nat.lt_pow_two_of_testBit
 intro l hl2
 unfold BV
 cases hq : (G4 pts (vB ts pts[i]! Al[i]! (fN Af i) &&& Ap[i]!) (kF ts pts[i]! (Am[i]!.testBit (bG pts[i]!).toNat)) 0).testBit l with
 | false => rfl
 | true =>
  rw [iN _ _ _ ⟨Nat.lt_of_lt_of_le hl (Nat.pow_le_pow_right (by decide) (by omega))⟩] at hq
  rcases hq with hq | ⟨c, _, h2, _⟩
  ·simp at hq
  ·have := eH hl h2; omega
end Go.AL
namespace Go.AL
theorem E1 {ts : List Int} {pts : List Pnt} (w : WG ts pts) {a : Nat × Nat} (h : Mb ts pts a) : a.2 < ts.length := by
 induction h with
 | base h => obtain ⟨i, e, h2⟩ := h; have := (w.set i e.1).1; omega
 | step _ r ih => rw [r.1]; exact ih
end Go.AL
namespace Go.AL
open Go.RowKit
set_option linter.unusedVariables false
section
variable {P : Program} {N : Nat} {Q : Exit → AS → Prop} {all : Array Oper} {rest : List Oper} {ts : List (Nat × AV)} {hs : List (Nat × Option (List AV))} {n : Nat} {z0 : Lo} {md : Md}
variable {d : Nat} {ty : TypeId} {pos : String} {af : Array Edge}
theorem uK {fn : Go.Fn} {t i : Nat} {cs : List AV} (hx : lk ts t = some (.optr i 0)) (hH : cJ hs i = some cs) (hN : Nat.blt d N = true)
  (kk : RW P N all Q .txt rest ⟨(d, .clos fn [] [.iptr cs]) :: (t, .iptr cs) :: ts, (i, none) :: hs, n, z0⟩) : RW P N all Q .txt (⟨some d, .makeFunc fn #[] #[.tmp t], ty, pos, af, none⟩ :: rest) ⟨ts, hs, n, z0⟩ :=
 iT (j4 (f := []) (c := [.iptr cs]) rfl (by show evL _ [Operand.tmp t] = _; simp [evL, ev, m7]) hN (md' := .txt) kk) (Le.frzP hx hH)
end
end Go.AL
namespace Go.AL
structure Flows (ts : List Int) (pts : List Pnt) where
 Aa : List Nat
 Am : List Nat
 An : List Nat
 Al : List Nat
 Af : List Nat
 Ap : List Nat
 ga : sE ts pts Aa
 gm : tT ts pts Am
 gn : uE ts pts An
 gl : vN ts pts Al
 gf : vR ts pts Af
 gp : wT ts pts Ap
theorem mR (n m : Nat) (T : Nat → Nat → Prop) (h : ∀ i v, i < n → T i v → v < m) : ∃ A : List Nat, A.length = n ∧ ∀ i, i < n → ∀ v, A[i]!.testBit v = true ↔ T i v := by
 have key : ∀ i : Nat, ∃ f : Nat → Bool, ∀ v, f v = true ↔ T i v := fun i => by
  have : ∀ v, ∃ b : Bool, b = true ↔ T i v := fun v => by
   by_cases hT : T i v
   ·exact ⟨true, by simp [hT]⟩
   ·exact ⟨false, by simp [hT]⟩
  exact ⟨fun v => Classical.choose (this v), fun v => Classical.choose_spec (this v)⟩
 refine ⟨(List.range n).map (fun i => fV (Classical.choose (key i)) m), by simp, fun i hi v => ?_⟩
 rw [cK _ _ (by simpa using hi), List.getElem_map, List.getElem_range, fT, Bool.and_eq_true, decide_eq_true_eq, Classical.choose_spec (key i) v]
 exact ⟨fun h2 => h2.2, fun h2 => ⟨h i v hi h2, h2⟩⟩
theorem Flows.ex {ts : List Int} {pts : List Pnt} (w : WG ts pts) : Nonempty (Flows ts pts) := by
 obtain ⟨Aa, a1, a2⟩ := mR pts.length ts.length (fun i v => v < ts.length ∧ ¬ Na ts pts (i, v)) (fun i v _ h => h.1)
 obtain ⟨Am, b1, b2⟩ := mR pts.length ts.length (fun i v => Mb ts pts (i, v)) (fun i v _ h => E1 w h)
 obtain ⟨An, c1, c2⟩ := mR pts.length ts.length (fun i v => Nd ts pts (i, v)) (fun i v _ h => qH w h)
 obtain ⟨Al, d1, d2⟩ := mR pts.length ts.length (fun i v => Lv ts pts i v) (fun i v _ h => by obtain ⟨k, _, h⟩ := h; exact qH w h)
 obtain ⟨Ap, e1, e2⟩ := mR pts.length pts.length (fun i l => Bk ts pts (i, l)) (fun i v _ h => (lQ h).1)
 obtain ⟨Af, f1, f2⟩ := mR (pts.length * 6) pts.length (fun q l => yX ts pts (q / 6, q % 6, l)) (fun q v _ h => (qF w h).2.2)
 refine ⟨⟨Aa, Am, An, Al, Af, Ap, ⟨a1, a2⟩, ⟨b1, b2⟩, ⟨c1, c2⟩, ⟨d1, d2⟩, ⟨f1, fun i v hi hv l => ?_⟩, ⟨e1, e2⟩⟩⟩
 rw [f2 (i * 6 + v) (by omega) l, show (i * 6 + v) / 6 = i by omega, show (i * 6 + v) % 6 = v by omega]
def Flows.iss {ts : List Int} {pts : List Pnt} (f : Flows ts pts) : List Iss := qJ ts pts f.Aa f.Am f.Al f.Af f.Ap pts.length
end Go.AL
namespace Go.AL
open Go.RowKit
set_option linter.unusedVariables false
class BoT (P : Program) (t : Nat) : Prop where pf : P.underlying t = some .bool
theorem Cy {P : Program} {t : TypeId} (h : P.underlying t = some .bool) (a b : Bool) (w : World) : (Op.equal t (.bool a) (.bool b)).run P w = .ok (decide (a = b)) w := by
 have e : ∀ d : Nat, (Op.equalIn (d + 1) t (.bool a) (.bool b)).run P w = .ok (a == b) w := fun d => by
  simp [Op.equalIn, run_underlying h]
 have : (a == b) = decide (a = b) := by cases a <;> cases b <;> rfl
 rw [← this]; exact e 9999
def JH (op : BinOp) (a b : Bool) : Option Value :=
 match op with
 | .eql => some (.bool (decide (a = b)))
 | .neq => some (.bool (!decide (a = b)))
 | _ => none
section
variable {P : Program} {C : Ctx} {ι : Pl} {T : Nat → Option AV} {H : Nat → Option (List AV)} {a : Act} {w : World} {o : Oper}
theorem ID (g : TG C ι T H a w) {op : BinOp} {t t' : TypeId} {x y : Operand} {m n : Bool} {v : Value} (ht : P.underlying t = some .bool) (ho : o.op = .binOp op t x y t')
  (hx : ev T x = some (.v (.bool m))) (hy : ev T y = some (.v (.bool n))) (h : JH op m n = some v) : Pu P C ι H a w o (.v v) := by
 have h1 := dG g hx
 have h2 := dG g hy
 simp only [Rd] at h1 h2
 refine ⟨v, ?_, by simp [Rd]⟩
 have hg : (eqGuard op t x y (.bool m) (.bool n)).run P w = .ok () w := by
  unfold eqGuard
  cases op <;> simp
 have hb : (binOp op t (.bool m) (.bool n)).run P w = .ok v w := by
  cases op <;> simp only [JH] at h <;> cases h
  ·simp [binOp, Cy (P := P) ht]
  ·simp [binOp, Cy (P := P) ht]
 simp only [execOp, ho, h1, h2, Sem.run_bind, hg, Result.andThen_ok, hb, Sem.run_pure]
end
section
variable {P : Program} {N : Nat} {Q : Exit → AS → Prop} {all : Array Oper} {rest : List Oper} {ts : List (Nat × AV)} {hs : List (Nat × Option (List AV))} {n : Nat} {z0 : Lo} {md : Md}
variable {d : Nat} {ty : TypeId} {pos : String} {af : Array Edge}
theorem n8 {op : BinOp} {t t' : TypeId} {x y : Operand} {m m' : Bool} {v : Value} [ht : BoT P t] (hx : ev (lk ts) x = some (.v (.bool m))) (hy : ev (lk ts) y = some (.v (.bool m')))
  (h : JH op m m' = some v) (hN : Nat.blt d N = true) {md' : Md} [hmd : MdA md (rO x ++ rO y) [.inl d] md'] (kk : RW P N all Q md' rest ⟨(d, .v v) :: ts, hs, n, z0⟩) : RW P N all Q md (⟨some d, .binOp op t x y t', ty, pos, af, none⟩ :: rest) ⟨ts, hs, n, z0⟩ :=
 fB rfl rfl (eO hN) (fun C ι F T H a w ag g gh => ID g ht.pf rfl (ag.l.ev.trans hx) (ag.r.ev.trans hy) h) (by rw [hmd.pf]; exact kk)
end
theorem sC {α : Type} {f : α → List AV} {e m : Nat} [h : FlT f e] {ys : List α} {H : Nat → Option (List AV)} (hm : m = ys.length) : sCells H e (qC (.imm m (aH f ys))) = some (m, aH f ys) := by
 subst hm
 have hl : (aH f ys).length = ys.length * e := aT f ys
 show (if ys.length * e ≤ (aH f ys).length then some (ys.length, (aH f ys).take (ys.length * e)) else none) = _
 rw [if_pos (by omega), List.take_of_length_le (by omega)]
theorem mH {α : Type} {f : α → List AV} {ys : List α} {e m : Nat} {L : List AV} (h : m = 0) : (((List.replicate 0 L).flatten).drop 0).take (m * e) ++ aH f ys = aH f ys := by subst h; simp
theorem Le.cells {ts : List (Nat × AV)} {hs : List (Nat × Option (List AV))} {n : Nat} {z0 : Lo} {i : Nat} {cs cs' : List AV} (hi : cJ hs i = some cs) (hl : cs'.length = cs.length)
  (h : ∀ (w : World) (bad : Nat → Prop) (ι : Pl) (b β : Nat), RdC w bad ι cs b β → RdC w bad ι cs' b β) :
  Le ⟨ts, hs, n, z0⟩ ⟨ts, (i, some cs') :: hs, n, z0⟩ := by
 rintro C a w ⟨h0, ι, g, gh⟩
 have hk : ∀ id c, cJ ((i, some cs') :: hs) id = some c → (id = i ∧ c = cs') ∨ (id ≠ i ∧ cJ hs id = some c) := by
  intro id c hc
  rw [gE] at hc
  split at hc
  ·rename_i e; cases hc; exact .inl ⟨e, rfl⟩
  ·rename_i e; exact .inr ⟨fun h => e h, hc⟩
 have hk2 : ∀ id c, cJ hs id = some c → ∃ c', cJ ((i, some cs') :: hs) id = some c' := by
  intro id c hc
  rw [gE]
  split
  ·exact ⟨_, rfl⟩
  ·exact ⟨_, hc⟩
 have hb : a9 C.X ι (cJ ((i, some cs') :: hs)) = a9 C.X ι (cJ hs) := by
  funext b
  refine propext ⟨?_, ?_⟩
  ·rintro (h | ⟨id, c, β, h1, h2⟩)
   ·exact .inl h
   ·rcases hk id c h1 with ⟨rfl, _⟩ | ⟨_, h3⟩
    ·exact .inr ⟨_, _, _, hi, h2⟩
    ·exact .inr ⟨_, _, _, h3, h2⟩
  ·rintro (h | ⟨id, c, β, h1, h2⟩)
   ·exact .inl h
   ·obtain ⟨c', h3⟩ := hk2 id c h1
    exact .inr ⟨_, _, _, h3, h2⟩
 refine ⟨h0, ι, ⟨g.df, g.sz, fun t av ht => ?_⟩, ?_, ?_, gh.fr, gh.ex, gh.fresh⟩
 ·show ∃ y, a.tmps[t]? = some y ∧ Rd w (a9 C.X ι (cJ ((i, some cs') :: hs))) ι av y
  rw [hb]; exact g.tm t av ht
 ·intro id c hc
  show _ ∨ ∃ b β arr e, ι id = some (some (b, β)) ∧ w.heap[b]? = some (.cells arr e (0, 0)) ∧ β + c.length ≤ arr.size ∧ RdC w (a9 C.X ι (cJ ((i, some cs') :: hs))) ι c b β ∧ ¬ C.X b ∧ (C.W0 b ∨ C.w0.heap.size ≤ b)
  rw [hb]
  rcases hk id c hc with ⟨rfl, rfl⟩ | ⟨_, h3⟩
  ·rcases gh.obj _ _ hi with ⟨q1, q2⟩ | ⟨b, β, arr, e, q1, q2, q3, q4, q5⟩
   ·subst q2
    exact .inl ⟨q1, List.eq_nil_of_length_eq_zero hl⟩
   ·exact .inr ⟨b, β, arr, e, q1, q2, by rw [hl]; exact q3, h _ _ _ _ _ q4, q5⟩
  ·exact gh.obj _ _ h3
 ·intro id id' c c' b β β' h1 h2 h3 h4
  obtain ⟨d1, e1⟩ : ∃ d, cJ hs id = some d := by
   rcases hk id c h1 with ⟨rfl, _⟩ | ⟨_, h⟩
   ·exact ⟨_, hi⟩
   ·exact ⟨_, h⟩
  obtain ⟨d2, e2⟩ : ∃ d, cJ hs id' = some d := by
   rcases hk id' c' h2 with ⟨rfl, _⟩ | ⟨_, h⟩
   ·exact ⟨_, hi⟩
   ·exact ⟨_, h⟩
  exact gh.sep id id' d1 d2 b β β' e1 e2 h3 h4
end Go.AL
namespace Go.AL
theorem E2 {α : Type} [Inhabited α] (xs : List α) (i : Nat) : xs[i]! = if h : i < xs.length then xs[i] else default := by
 split
 ·rw [cK _ _ ‹_›]
 ·rw [getElem!_neg xs i ‹_›]
theorem dS {α : Type} [Inhabited α] (xs : List α) (i j : Nat) (x : α) : (xs.set i x)[j]! = if i = j ∧ j < xs.length then x else xs[j]! := by
 by_cases hj : j < xs.length
 ·rw [cK _ _ (by simpa using hj), List.getElem_set, cK _ _ hj]; grind
 ·rw [getElem!_neg (xs.set i x) j (by simpa using hj), getElem!_neg xs j hj, if_neg (by omega)]
theorem fM {α : Type} [Inhabited α] (f : Nat → α) (n i : Nat) (h : i < n) : (((List.range n).map f : List α))[i]! = f i := by
 rw [cK _ i (by simpa using h)]; simp
end Go.AL
namespace Go.AL
theorem CR {α : Type} [Inhabited α] (xs ys : List α) (i : Nat) : (xs ++ ys)[i]! = if i < xs.length then xs[i]! else ys[i - xs.length]! := by
 by_cases h : i < xs.length
 ·rw [if_pos h, cK _ i (by simp; omega), cK _ i h, List.getElem_append_left h]
 ·rw [if_neg h]
  by_cases h2 : i - xs.length < ys.length
  ·rw [cK (xs ++ ys) i (by simp; omega), cK _ _ h2, List.getElem_append_right (by omega)]
  ·rw [getElem!_neg (xs ++ ys) i (by simp; omega), getElem!_neg ys _ h2]
end Go.AL
namespace Go.AL
def vX (nv N : Nat) (A : List Nat) : List (List Bool) := (List.range N).map fun (i : Nat) => (List.range nv).map fun (v : Nat) => A[i]!.testBit v
theorem vE (nv N : Nat) (A : List Nat) (i : Nat) (h : i < N) : (vX nv N A)[i]! = (List.range nv).map fun (v : Nat) => A[i]!.testBit v := fM _ _ _ h
theorem Ee (nv N : Nat) (A : List Nat) (i v : Nat) (h : i < N) (hv : v < nv) : (vX nv N A)[i]![v]! = A[i]!.testBit v := by rw [vE _ _ _ _ h, fM _ _ _ hv]
end Go.AL
namespace Go.AL
open Go.RowKit
set_option linter.unusedVariables false
set_option linter.unusedSimpArgs false
section
variable {P : Program} {N : Nat} {Q : Exit → AS → Prop} {all : Array Oper} {rest : List Oper} {ts : List (Nat × AV)} {hs : List (Nat × Option (List AV))} {n : Nat} {z0 : Lo} {md : Md}
variable {d : Nat} {ty : TypeId} {pos : String} {af : Array Edge}
def Stop (p : Prop) : Prop := p
theorem dE {op : Op} {g : Option (Nat × Bool)} (h : Stop (RW P N all Q md (⟨some d, op, ty, pos, af, g⟩ :: rest) ⟨ts, hs, n, z0⟩)) : RW P N all Q md (⟨some d, op, ty, pos, af, g⟩ :: rest) ⟨ts, hs, n, z0⟩ := h
theorem eR {l : List Oper} {s : AS} (h : RW P N all Q md l s) : Stop (RW P N all Q md l s) := h
theorem Bf {t el : TypeId} {x : Operand} {lo : Option Operand} {i o m e l : Nat} [ht : SlT P t el] [he : SzT P el e] (hx : ev (lk ts) x = some (.own i o m e))
  (hl : g9 (lk ts) lo 0 = some l) (hb : l ≤ m) (hN : Nat.blt d N = true) {md' : Md} [hmd : MdA md (rO x ++ (rB lo ++ rB none)) [.inl d] md'] (kk : RW P N all Q md' rest ⟨(d, .own i (o + l * e) (m - l) e) :: ts, hs, n, z0⟩) :
  RW P N all Q md (⟨some d, .slice t x lo none none, ty, pos, af, none⟩ :: rest) ⟨ts, hs, n, z0⟩ :=
 iP (m := m) (h := m) hx rfl hl rfl (by simp [Jl, hb]) hN (md' := md') (hmd := hmd) kk
end
end Go.AL
namespace Go.AL
def Ms (pts : List Pnt) (pl lv : List Bool) (l : Nat) (c : Acc) : Bool := lv[l]! && pl[l]! && decide (pts[l]!.y = c.var) && (c.write || decide (pts[l]!.op = 5))
def ME (pts : List Pnt) (acs : List Acc) (pl lv : List Bool) : List Bool := (List.range pts.length).map fun (l : Nat) => acs.any (Ms pts pl lv l)
theorem Hx (pts : List Pnt) (acs : List Acc) (pl lv : List Bool) (l : Nat) (h : l < pts.length) : (ME pts acs pl lv)[l]! = acs.any (Ms pts pl lv l) := fM _ _ _ h
end Go.AL
namespace Go.AL
def Jt (nv N : Nat) (Af Ap : List Nat) (n : Nat) : List (List Bool) × List Bool := ((List.range nv).map fun (v : Nat) => (List.range N).map fun (l : Nat) => Af[n * 6 + v]!.testBit l, (List.range N).map fun (l : Nat) => Ap[n]!.testBit l)
end Go.AL
namespace Go.AL
def MD (ts : List Int) (x : Pnt) (fr : List (List Bool)) (lv : List Bool) (l v : Nat) : Bool := lv[v]! && (!decide (bG x = (v : Int)) && (!decide (bX ts x (v : Int) = 2) && fr[v]![l]!))
def Mz (ts : List Int) (x : Pnt) (fr : List (List Bool)) (lv : List Bool) (N : Nat) : List Bool := (List.range N).map fun (l : Nat) => (List.range lv.length).any (MD ts x fr lv l)
theorem BO {p q : Nat → Bool} {n : Nat} (h : ∀ v, v < n → p v = q v) : (List.range n).filter p = (List.range n).filter q :=
 List.filter_congr fun v hv => h v (List.mem_range.1 hv)
theorem tJ {A n : Nat} {p : Nat → Bool} (hA : Sm A) (hn : n ≤ 62) (h : ∀ v, A.testBit v = (decide (v < n) && p v)) : cO A = ((List.range n).filter p).map (fun v : Nat => (v : Int)) := by
 rw [pS (k := n) (fun v hv => by rw [h v, decide_eq_false (by omega)]; rfl) (by omega) hA]
 congr 1
 exact BO fun v hv => by rw [h v, decide_eq_true hv]; rfl
def Mu (ts : List Int) (pts : List Pnt) (Aa : List Nat) (i v : Nat) : Bool := !decide (bX ts pts[i]! v = 0) && !Aa[i]!.testBit v
def MK (pts : List Pnt) (l : Nat) : Int := if pts[l]!.op = 5 then 3 else 2
def Mh (ts : List Int) (pts : List Pnt) (Aa : List Nat) (cf : List Bool) (i : Nat) : List Iss :=
 ((List.range ts.length).filter (Mu ts pts Aa i)).map (fun (v : Nat) => ⟨i, 1, v⟩) ++ ((List.range pts.length).filter (fun (l : Nat) => cf[l]!)).map (fun (l : Nat) => ⟨i, MK pts l, l⟩)
def LH (ts : List Int) (pts : List Pnt) (Am Al Af Ap : List Nat) (i : Nat) : List Bool :=
 ME pts (kF ts pts[i]! (vX ts.length pts.length Am)[i]![(bG pts[i]!).toNat]!) (Jt ts.length pts.length Af Ap i).2 (Mz ts pts[i]! (Jt ts.length pts.length Af Ap i).1 (vX ts.length pts.length Al)[i]! pts.length)
theorem JX {ts : List Int} {x : Pnt} {m m' : Bool} (h : 0 ≤ bG x → m = m') : kF ts x m = kF ts x m' := by
 unfold kF
 by_cases h0 : 0 ≤ bG x
 ·rw [h h0]
 ·simp only [h0, false_and, if_false]
theorem Ij {ts : List Int} {pts : List Pnt} (w : WG ts pts) (f : Flows ts pts) {Af : List Nat} (hlf : Af.length = pts.length * 6) {i : Nat} (hi : i < pts.length) : Mh ts pts f.Aa (LH ts pts f.Am f.Al Af f.Ap i) i = B5 ts pts f.Aa f.Am f.Al Af f.Ap i := by
 have htl := w.tl
 have hpl := w.pl
 have hset := w.set i hi
 unfold Mh B5
 congr 1
 ·unfold Bu
  have hsm : Sm (lU (wS ts pts[i]! [1, 2, 3]) f.Aa[i]!) := by
   have : Sm (wS ts pts[i]! [1, 2, 3]) := dK (by omega)
   infer_instance
  rw [tJ (n := ts.length) (p := Mu ts pts f.Aa i) hsm (by omega) fun v => ?_, List.map_map]
  ·rfl
  ·rw [dO, dN, Bool.and_assoc]
   congr 1
   unfold Mu
   congr 1
   have hu := oW ts pts[i]! v
   by_cases e : bX ts pts[i]! v = 0
   ·rw [e]; rfl
   ·rw [decide_eq_false e]
    have : bX ts pts[i]! v ∈ ([1, 2, 3] : List Int) := by
     simp only [List.mem_cons, List.not_mem_nil, or_false]; omega
    rw [decide_eq_true this]; rfl
 ·unfold Cd
  have hap : f.Ap[i]! < 2 ^ pts.length := by
   apply Nat.lt_pow_two_of_testBit
   intro l hl
   rw [Bool.eq_false_iff]; intro hq
   have := (lQ ((f.gp.2 i hi l).1 hq)).1
   dsimp only at this; omega
  have hcn := Bq w (Am := f.Am) (Al := f.Al) (Af := Af) hap
  have hsm : Sm (BV ts pts f.Am f.Al Af f.Ap i) := ⟨Nat.lt_of_lt_of_le hcn (Nat.pow_le_pow_right (by decide) (by omega))⟩
  rw [tJ (n := pts.length) (p := fun l => (LH ts pts f.Am f.Al Af f.Ap i)[l]!) hsm (by omega) fun l => ?_, List.map_map]
  ·rfl
  ·by_cases hl : l < pts.length
   ·rw [decide_eq_true hl, Bool.true_and, Bool.eq_iff_iff]
    have hloans : Sm (vB ts pts[i]! f.Al[i]! (fN Af i) &&& f.Ap[i]!) := ⟨Nat.lt_of_lt_of_le (Nat.and_lt_two_pow _ hap) (Nat.pow_le_pow_right (by decide) (by omega))⟩
    have hal : f.Al[i]! < 2 ^ ts.length := by
     apply Nat.lt_pow_two_of_testBit
     intro v hv
     rw [Bool.eq_false_iff]; intro hq
     obtain ⟨k, e, hk⟩ := (f.gl.2 i hi v).1 hq
     have := qH w hk
     dsimp only at this; omega
    have hacc : kF ts pts[i]! (vX ts.length pts.length f.Am)[i]![(bG pts[i]!).toNat]! = kF ts pts[i]! (f.Am[i]!.testBit (bG pts[i]!).toNat) := JX fun h0 => Ee _ _ _ _ _ hi (by omega)
    have hkp : (vB ts pts[i]! f.Al[i]! (fN Af i)).testBit l = true ↔ (Mz ts pts[i]! (Jt ts.length pts.length Af f.Ap i).1 (vX ts.length pts.length f.Al)[i]! pts.length)[l]! = true := by
     unfold Mz
     rw [fM _ _ _ hl]
     unfold vB
     rw [gM, List.any_eq_true, vE _ _ _ _ hi]
     simp only [Nat.zero_testBit, Bool.false_eq_true, false_or, List.length_map, List.length_range, List.mem_range]
     constructor
     ·rintro ⟨z, hz, h2⟩
      obtain ⟨v, h3, h4, rfl⟩ := dQ.1 hz
      rw [dO, Nat.testBit_or, dN, gZ (by omega)] at h4
      simp only [Bool.and_eq_true, Bool.not_eq_true', Bool.or_eq_false_iff, Bool.and_eq_false_iff, decide_eq_false_iff_not] at h4
      have hv := eH hal h4.1
      refine ⟨v, hv, ?_⟩
      unfold MD
      rw [fM _ _ _ hv, h4.1, decide_eq_false h4.2.2]
      have hu : ¬ bX ts pts[i]! v = 2 := by
       rcases h4.2.1 with h5 | h5
       ·exact absurd hv h5
       ·simpa using h5
      rw [decide_eq_false hu]
      unfold Jt
      dsimp only
      rw [fM _ _ _ hv, fM _ _ _ hl]
      have h6 : (fN Af i)[v]! = Af[i * 6 + v]! := gF hlf hi (by omega)
      rw [Int.toNat_natCast, h6] at h2
      rw [h2]; rfl
     ·rintro ⟨v, hv, h2⟩
      unfold MD at h2
      rw [fM _ _ _ hv] at h2
      unfold Jt at h2
      dsimp only at h2
      rw [fM _ _ _ hv, fM _ _ _ hl] at h2
      simp only [Bool.and_eq_true, Bool.not_eq_true', decide_eq_false_iff_not] at h2
      refine ⟨(v : Int), dQ.2 ⟨v, by omega, ?_, rfl⟩, ?_⟩
      ·rw [dO, Nat.testBit_or, dN, gZ (by omega), h2.1, decide_eq_false h2.2.1]
       have : decide (bX ts pts[i]! (v : Int) ∈ ([2] : List Int)) = false := by simpa using h2.2.2.1
       rw [this]; simp
      ·rw [Int.toNat_natCast, gF hlf hi (by omega)]; exact h2.2.2.2
    have hplc : (Jt ts.length pts.length Af f.Ap i).2[l]! = f.Ap[i]!.testBit l := by unfold Jt; dsimp only; rw [fM _ _ _ hl]
    unfold BV LH
    rw [iN _ _ _ hloans, Hx _ _ _ _ _ hl, hacc, List.any_eq_true]
    simp only [Nat.zero_testBit, Bool.false_eq_true, false_or]
    constructor
    ·rintro ⟨c, hc, h1, h2, h3⟩
     rw [Nat.testBit_and, Bool.and_eq_true] at h1
     rw [iO] at h2
     simp only [Bool.and_eq_true, decide_eq_true_eq] at h2
     have hy := xQ w hl h2.2.1
     have hcv := xA _ w hi c hc
     refine ⟨c, hc, ?_⟩
     unfold Ms
     have e2 := h2.2.2
     rw [Nat.testBit_two_pow, decide_eq_true_eq] at e2
     rw [hkp.1 h1.1, hplc, h1.2, decide_eq_true (by omega : pts[l]!.y = c.var)]
     rcases h3 with h3 | h3
     ·rw [h3]; rfl
     ·rw [decide_eq_true h3]; simp
    ·rintro ⟨c, hc, h1⟩
     unfold Ms at h1
     rw [hplc] at h1
     simp only [Bool.and_eq_true, Bool.or_eq_true, decide_eq_true_eq] at h1
     obtain ⟨⟨⟨h1, h2⟩, h3⟩, h4⟩ := h1
     have hln := (lQ ((f.gp.2 i hi l).1 h2)).2
     dsimp only at hln
     refine ⟨c, hc, ?_, ?_, h4⟩
     ·rw [Nat.testBit_and, hkp.2 h1, h2]; rfl
     ·rw [iO, decide_eq_true hl, hln, ← h3, Nat.testBit_two_pow_self]; rfl
   ·rw [decide_eq_false hl, Bool.false_and]
    exact Nat.testBit_lt_two_pow (Nat.lt_of_lt_of_le hcn (Nat.pow_le_pow_right (by decide) (by omega)))
theorem K5 {ts : List Int} {pts : List Pnt} (w : WG ts pts) (f : Flows ts pts) {i : Nat} (hi : i < pts.length) : Mh ts pts f.Aa (LH ts pts f.Am f.Al f.Af f.Ap i) i = B5 ts pts f.Aa f.Am f.Al f.Af f.Ap i := Ij w f f.gf.1 hi
end Go.AL
namespace Go.AL
open Go.RowKit
set_option linter.unusedVariables false
set_option linter.unusedSimpArgs false
mutual
inductive Ld (D : List Nat) (H : Nat → Option (List AV)) : AV → AV → Prop
 | pur {v : AV} : v.pur = true → Ld D H v v
 | own {id m e : Nat} {cs cs' : List AV} : id ∈ D → H id = some cs → LdL D H cs cs' → Ld D H (.own id 0 m e) (.imm m cs')
 | optr {id : Nat} {cs cs' : List AV} : id ∈ D → H id = some cs → LdL D H cs cs' → Ld D H (.optr id 0) (.iptr cs')
 | imm {m : Nat} {cs cs' : List AV} : LdL D H cs cs' → Ld D H (.imm m cs) (.imm m cs')
 | agg {cs cs' : List AV} : LdL D H cs cs' → Ld D H (.agg cs) (.agg cs')
inductive LdL (D : List Nat) (H : Nat → Option (List AV)) : List AV → List AV → Prop
 | pur {v : List AV} : dC v = true → LdL D H v v
 | nil : LdL D H [] []
 | cons {c c' : AV} {cs cs' : List AV} : Ld D H c c' → LdL D H cs cs' → LdL D H (c :: cs) (c' :: cs')
end
mutual
theorem Ld.agr {D : List Nat} {H H' : Nat → Option (List AV)} (h : ∀ id ∈ D, H id = H' id) : ∀ {v v' : AV}, Ld D H v v' → Ld D H' v v'
 | _, _, .pur hp => .pur hp
 | _, _, .own h1 h2 h3 => .own h1 (by rw [← h _ h1]; exact h2) (LdL.agr h h3)
 | _, _, .optr h1 h2 h3 => .optr h1 (by rw [← h _ h1]; exact h2) (LdL.agr h h3)
 | _, _, .imm h3 => .imm (LdL.agr h h3)
 | _, _, .agg h3 => .agg (LdL.agr h h3)
theorem LdL.agr {D : List Nat} {H H' : Nat → Option (List AV)} (h : ∀ id ∈ D, H id = H' id) : ∀ {v v' : List AV}, LdL D H v v' → LdL D H' v v'
 | _, _, .pur hp => .pur hp
 | _, _, .nil => .nil
 | _, _, .cons h1 h2 => .cons (Ld.agr h h1) (LdL.agr h h2)
end
theorem LdL.len {D : List Nat} {H : Nat → Option (List AV)} : ∀ {v v' : List AV}, LdL D H v v' → v.length = v'.length
 | _, _, .pur hp => rfl
 | _, _, .nil => rfl
 | _, _, .cons h1 h2 => by simp [LdL.len h2]
mutual
theorem Ld.ok {C : Ctx} {ι : Pl} {F : Nat → Prop} {D : List Nat} {H : Nat → Option (List AV)} {w : World} (g : HG C ι F H w) : ∀ {v v' : AV}, Ld D H v v' → ∀ {y : Value}, Rd w (a9 C.X ι H) ι v y → Rd w C.X (fun _ => none) v' y
 | _, _, .pur hp, y, k => Rd.pur _ y hp (Rd.carry (⟨fun b o x h1 h2 => ⟨fun q => h1 (.inl q), h2⟩, fun _ _ h => h, fun _ => Nat.le_refl _⟩ : Carry w (a9 C.X ι H) ι w C.X ι) _ _ k)
 | _, _, .own (id := id) (m := m) h1 h2 h3, y, k => by
  have hlen := LdL.len h3
  simp only [Rd] at k ⊢
  rcases k with ⟨_, rfl, a, rfl⟩ | ⟨b, β, c, q1, rfl, q2, q3⟩
  ·exact ⟨a, 0, rfl, .inl rfl⟩
  ·rcases g.obj id _ h2 with ⟨p1, _⟩ | ⟨b', β', arr, e', p1, p2, p3, p4, p5, p6⟩
   ·rw [p1] at q1; cases q1
   ·rw [p1] at q1; cases q1
    exact ⟨_, c, rfl, .inr ⟨b, β + 0, q2, rfl, .inr ⟨p5, LdL.okC g h3 p4⟩⟩⟩
 | _, _, .optr (id := id) h1 h2 h3, y, k => by
  simp only [Rd] at k ⊢
  obtain ⟨b, β, q1, rfl⟩ := k
  rcases g.obj id _ h2 with ⟨p1, _⟩ | ⟨b', β', arr, e', p1, p2, p3, p4, p5, p6⟩
  ·rw [p1] at q1; cases q1
  ·rw [p1] at q1; cases q1
   exact ⟨b, β + 0, rfl, .inr ⟨p5, LdL.okC g h3 p4⟩⟩
 | _, _, .imm (cs := cs) (cs' := cs') h3, y, k => by
  have hlen := LdL.len h3
  simp only [Rd] at k ⊢
  obtain ⟨a, c, rfl, k⟩ := k
  refine ⟨a, c, rfl, ?_⟩
  rcases k with k | ⟨b, o, hn, rfl, k⟩
  ·exact .inl k
  ·refine .inr ⟨b, o, hn, rfl, ?_⟩
   rcases k with k | ⟨hb, k⟩
   ·subst k; exact .inl (List.eq_nil_of_length_eq_zero (by rw [← hlen]; rfl))
   ·exact .inr ⟨fun q => hb (.inl q), LdL.okC g h3 k⟩
 | _, _, .agg h3, y, k => by
  simp only [Rd] at k ⊢
  obtain ⟨l, h1, h2⟩ := k
  exact ⟨l, h1, LdL.okL g h3 h2⟩
theorem LdL.okC {C : Ctx} {ι : Pl} {F : Nat → Prop} {D : List Nat} {H : Nat → Option (List AV)} {w : World} (g : HG C ι F H w) : ∀ {v v' : List AV}, LdL D H v v' → ∀ {b o : Nat}, RdC w (a9 C.X ι H) ι v b o → RdC w C.X (fun _ => none) v' b o
 | _, _, .pur hp, b, o, k => RdC.pur _ b o hp (RdC.carryB (⟨fun b o x h1 h2 => ⟨fun q => h1 (.inl q), h2⟩, fun _ _ h => h, fun _ => Nat.le_refl _⟩ : Carry w (a9 C.X ι H) ι w C.X ι) _ _ _ (fun o x hx => hx) k)
 | _, _, .nil, b, o, k => by simp only [RdC]
 | _, _, .cons h1 h2, b, o, k => by
  simp only [RdC] at k ⊢
  obtain ⟨⟨x, q1, q2, q3⟩, q4⟩ := k
  exact ⟨⟨x, q1, q2, Ld.ok g h1 q3⟩, LdL.okC g h2 q4⟩
theorem LdL.okL {C : Ctx} {ι : Pl} {F : Nat → Prop} {D : List Nat} {H : Nat → Option (List AV)} {w : World} (g : HG C ι F H w) : ∀ {v v' : List AV}, LdL D H v v' → ∀ {y : List Value}, RdL w (a9 C.X ι H) ι v y → RdL w C.X (fun _ => none) v' y
 | _, _, .pur hp, y, k => RdL.pur _ y hp (RdL.carry (⟨fun b o x h1 h2 => ⟨fun q => h1 (.inl q), h2⟩, fun _ _ h => h, fun _ => Nat.le_refl _⟩ : Carry w (a9 C.X ι H) ι w C.X ι) _ _ k)
 | _, _, .nil, y, k => by simpa only [RdL] using k
 | _, _, .cons h1 h2, y, k => by
  simp only [RdL] at k ⊢
  obtain ⟨x, l', q0, q1, q2, q3⟩ := k
  exact ⟨x, l', q0, q1, Ld.ok g h1 q2, LdL.okL g h2 q3⟩
end
theorem LdL.okV {C : Ctx} {ι : Pl} {F : Nat → Prop} {D : List Nat} {H : Nat → Option (List AV)} {w : World} (g : HG C ι F H w) : ∀ {v v' : List AV}, LdL D H v v' → ∀ {y : List Value}, RdV w (a9 C.X ι H) ι v y → RdV w C.X (fun _ => none) v' y
 | _, _, .pur hp, y, k => RdV.pur _ y hp (RdV.carry (⟨fun b o x h1 h2 => ⟨fun q => h1 (.inl q), h2⟩, fun _ _ h => h, fun _ => Nat.le_refl _⟩ : Carry w (a9 C.X ι H) ι w C.X ι) _ _ k)
 | _, _, .nil, y, k => by simpa only [RdV] using k
 | _, _, .cons h1 h2, y, k => by
  simp only [RdV] at k ⊢
  obtain ⟨x, l', q0, q2, q3⟩ := k
  exact ⟨x, l', q0, Ld.ok g h1 q2, LdL.okV g h2 q3⟩
section
variable {P : Program} {N : Nat} {Q : Exit → AS → Prop} {all : Array Oper} {rest : List Oper} {ts : List (Nat × AV)} {hs : List (Nat × Option (List AV))} {n : Nat} {z0 : Lo} {md : Md}
variable {d : Nat} {ty : TypeId} {pos : String} {af : Array Edge}
theorem o4 {k : FuncId} {args : Array Operand} {tys : Array TypeId} {avs avs2 : List AV} {r : AV} (D : List Nat) [hc : CaT P k] (ha : evL (lk ts) args.toList = some avs) (hl : LdL D (cJ hs) avs avs2) (h : PC P k avs2 (fun x => x = r)) (hfr : r.free = true) (hN : Nat.blt d N = true)
  {md' : Md} [hmd : MdA md (hG args.toList ++ D.map .inr) [.inl d] md'] (kk : RW P N all Q md' rest ⟨(d, r) :: ts, hs, n, z0⟩) : RW P N all Q md (⟨some d, .call ⟨.value (.func k), args, tys⟩, ty, pos, af, none⟩ :: rest) ⟨ts, hs, n, z0⟩ := by
 refine lC (rs := hG args.toList ++ D.map .inr) (ws := []) (n' := n) (out := r) rfl (Nat.le_refl _) (.inl rfl) (fun C ι F T H a w K Q' hCN ag hF g gh hK => ?_) (fun x hx => by cases hx; exact eO hN) (by rw [← hmd.pf] at kk; exact kk)
 simp only [Oper.wp, jI hc.pf, Oper.upon]
 have hl' : LdL D H avs avs2 := hl.agr fun id hid => (ag.r.h id (List.mem_map_of_mem hid)).symm
 have hv := hl'.okV gh (kE g (ag.l.evL.trans ha))
 let C' : Ctx := { N := 0, w0 := w, W0 := fun _ => False, X := C.X, ι0 := fun _ => none, xlt := fun b hb => Nat.lt_of_lt_of_le (C.xlt b hb) gh.fr.size }
 have hbad : ∀ b, a9 C'.X (fun _ => none) (cJ []) b ↔ C.X b := fun b => ⟨fun h => (by rcases h with h | ⟨id, cs, β, h1, h2⟩ <;> first | exact h | cases h2), fun h => Or.inl h⟩
 have g' : HG C' (fun _ => none) (fun j => 0 ≤ j) (cJ []) w :=
  ⟨fun id cs h => by simp [cJ] at h, fun id id' cs cs' b β β' h => by simp [cJ] at h, Fr.refl _ _, fun _ _ h => h, fun _ _ => rfl⟩
 have hcar : Carry w C.X (fun _ => none) w (a9 C'.X (fun _ => none) (cJ [])) (fun _ => none) := ⟨fun b o x h1 h2 => ⟨fun h => h1 ((hbad b).1 h), h2⟩, fun _ _ h => h, fun _ => Nat.le_refl _⟩
 refine (h C' _ w _ rfl rfl g' (RdV.carry hcar _ _ hv)).mono ?_
 rintro e w' ⟨v, r', H', ι', rfl, ⟨rfl, _⟩, h4, h5⟩
 obtain ⟨g2, c2⟩ := gh.ext h5.fr
 exact hK ι w' v (g.carry c2) (g2.less (fun _ _ h => h) (fun j hj => hj.1)).1 (Rd.free _ _ hfr h4)
end
end Go.AL
namespace Go.AL
open Go.RowKit
set_option linter.unusedVariables false
set_option linter.unusedSimpArgs false
theorem RnL.app {ρ : Nat → Option Nat} : ∀ {a a' b b' : List AV}, RnL ρ a a' → RnL ρ b b' → RnL ρ (a ++ b) (a' ++ b')
 | [], a', b, b', ha, hb => by
  have := ha.len
  cases a' with
  | nil => exact hb
  | cons _ _ => simp at this
 | c :: cs, _, b, b', .pur hp, hb => by
  simp only [dC, Bool.and_eq_true] at hp
  exact .cons (.pur hp.1) (RnL.app (.pur hp.2) hb)
 | c :: cs, _, b, b', .cons h1 h2, hb => .cons h1 (RnL.app h2 hb)
end Go.AL
namespace Go.AL
open Go.RowKit
attribute [local irreducible] fG
set_option linter.unusedVariables false
set_option linter.unusedSimpArgs false
end Go.AL
namespace Go.AL
open Go.RowKit
set_option linter.unusedVariables false
set_option linter.unusedSimpArgs false
theorem Le.virt {ts : List (Nat × AV)} {hs : List (Nat × Option (List AV))} {n : Nat} {z0 : Lo} (hn : n < fG) : Le ⟨ts, hs, n, z0⟩ ⟨ts, (n, some []) :: hs, n + 1, z0⟩ := by
 rintro C a w ⟨h0, ι, g, gh⟩
 obtain ⟨g1, c1⟩ := gh.virt (id := n) ⟨Nat.le_refl _, .inl hn⟩
 have e : cJ ((n, some []) :: hs) = fL (cJ hs) n (some []) := zH _ _ _
 refine ⟨h0, fL ι n (some none), ?_, ?_⟩
 ·show TG C _ (lk ts) (cJ ((n, some []) :: hs)) a w
  rw [e]; exact g.carry c1
 ·show HG C _ _ (cJ ((n, some []) :: hs)) w
  rw [e]
  refine (g1.less (fun _ _ h => h) (fun j hj => ?_)).1
  have h1 : n + 1 ≤ j := hj.1
  exact ⟨⟨by show n ≤ j; omega, hj.2⟩, by omega⟩
theorem Le.cellsN {ts : List (Nat × AV)} {hs : List (Nat × Option (List AV))} {n : Nat} {z0 : Lo} {i q : Nat} {cs cs' cq : List AV} (hi : cJ hs i = some cs) (hq : cJ hs q = some cq) (hl : cs'.length = cs.length)
  (h : ∀ (w : World) (bad : Nat → Prop) (ι : Pl) (b β : Nat), (∃ p, ι q = some p) → RdC w bad ι cs b β → RdC w bad ι cs' b β) :
  Le ⟨ts, hs, n, z0⟩ ⟨ts, (i, some cs') :: hs, n, z0⟩ := by
 rintro C a w ⟨h0, ι, g, gh⟩
 have hqq : ∃ p, ι q = some p := by
  rcases gh.obj q cq hq with ⟨p1, _⟩ | ⟨_, _, _, _, p1, _⟩ <;> exact ⟨_, p1⟩
 have hk : ∀ id c, cJ ((i, some cs') :: hs) id = some c → (id = i ∧ c = cs') ∨ (id ≠ i ∧ cJ hs id = some c) := by
  intro id c hc
  rw [gE] at hc
  split at hc
  ·rename_i e; cases hc; exact .inl ⟨e, rfl⟩
  ·rename_i e; exact .inr ⟨fun h => e h, hc⟩
 have hk2 : ∀ id c, cJ hs id = some c → ∃ c', cJ ((i, some cs') :: hs) id = some c' := by
  intro id c hc
  rw [gE]
  split
  ·exact ⟨_, rfl⟩
  ·exact ⟨_, hc⟩
 have hb : a9 C.X ι (cJ ((i, some cs') :: hs)) = a9 C.X ι (cJ hs) := by
  funext b
  refine propext ⟨?_, ?_⟩
  ·rintro (h | ⟨id, c, β, h1, h2⟩)
   ·exact .inl h
   ·rcases hk id c h1 with ⟨rfl, _⟩ | ⟨_, h3⟩
    ·exact .inr ⟨_, _, _, hi, h2⟩
    ·exact .inr ⟨_, _, _, h3, h2⟩
  ·rintro (h | ⟨id, c, β, h1, h2⟩)
   ·exact .inl h
   ·obtain ⟨c', h3⟩ := hk2 id c h1
    exact .inr ⟨_, _, _, h3, h2⟩
 refine ⟨h0, ι, ⟨g.df, g.sz, fun t av ht => ?_⟩, ?_, ?_, gh.fr, gh.ex, gh.fresh⟩
 ·show ∃ y, a.tmps[t]? = some y ∧ Rd w (a9 C.X ι (cJ ((i, some cs') :: hs))) ι av y
  rw [hb]; exact g.tm t av ht
 ·intro id c hc
  show _ ∨ ∃ b β arr e, ι id = some (some (b, β)) ∧ w.heap[b]? = some (.cells arr e (0, 0)) ∧ β + c.length ≤ arr.size ∧ RdC w (a9 C.X ι (cJ ((i, some cs') :: hs))) ι c b β ∧ ¬ C.X b ∧ (C.W0 b ∨ C.w0.heap.size ≤ b)
  rw [hb]
  rcases hk id c hc with ⟨rfl, rfl⟩ | ⟨_, h3⟩
  ·rcases gh.obj _ _ hi with ⟨q1, q2⟩ | ⟨b, β, arr, e, q1, q2, q3, q4, q5⟩
   ·subst q2
    exact .inl ⟨q1, List.eq_nil_of_length_eq_zero hl⟩
   ·exact .inr ⟨b, β, arr, e, q1, q2, by rw [hl]; exact q3, h _ _ _ _ _ hqq q4, q5⟩
  ·exact gh.obj _ _ h3
 ·intro id id' c c' b β β' h1 h2 h3 h4
  obtain ⟨d1, e1⟩ : ∃ d, cJ hs id = some d := by
   rcases hk id c h1 with ⟨rfl, _⟩ | ⟨_, h⟩
   ·exact ⟨_, hi⟩
   ·exact ⟨_, h⟩
  obtain ⟨d2, e2⟩ : ∃ d, cJ hs id' = some d := by
   rcases hk id' c' h2 with ⟨rfl, _⟩ | ⟨_, h⟩
   ·exact ⟨_, hi⟩
   ·exact ⟨_, h⟩
  exact gh.sep id id' d1 d2 b β β' e1 e2 h3 h4
theorem qU {w : World} {bad : Nat → Prop} {ι : Pl} {c c' : AV} (hc : ∀ y, Rd w bad ι c y → Rd w bad ι c' y) : ∀ (a : List AV) (r : List AV) (b o : Nat), RdC w bad ι (a ++ c :: r) b o → RdC w bad ι (a ++ c' :: r) b o
 | [], r, b, o, h => by
  simp only [List.nil_append, RdC] at h ⊢
  obtain ⟨⟨x, h1, h2, h3⟩, h4⟩ := h
  exact ⟨⟨x, h1, h2, hc _ h3⟩, h4⟩
 | x :: a, r, b, o, h => by
  simp only [List.cons_append, RdC] at h ⊢
  exact ⟨h.1, qU hc a r b (o + 1) h.2⟩
theorem Le.nilCell {ts : List (Nat × AV)} {hs : List (Nat × Option (List AV))} {n : Nat} {z0 : Lo} {i : Nat} (e : Nat) (c1 : List AV) {c2 : List AV} (hi : cJ hs i = some (c1 ++ .v (.slice none 0 0) :: c2)) (hin : i ≠ n) (hn : n < fG) :
  Le ⟨ts, hs, n, z0⟩ ⟨ts, (i, some (c1 ++ .own n 0 0 e :: c2)) :: (n, some []) :: hs, n + 1, z0⟩ :=
 (Le.virt hn).trans (Le.cellsN (q := n) (cs := c1 ++ .v (.slice none 0 0) :: c2) (by rw [gE, if_neg hin]; exact hi) (by rw [gE, if_pos rfl]) (by simp) fun w bad ι b β hp hr =>
  qU (fun y hy => by simp only [Rd] at hy ⊢; exact .inl ⟨hp, trivial, none, hy⟩) c1 c2 b β hr)
theorem Le.frzC {ts : List (Nat × AV)} {hs : List (Nat × Option (List AV))} {n : Nat} {z0 : Lo} {j i m e : Nat} (c1 : List AV) {c2 d : List AV} (hj : cJ hs j = some (c1 ++ .own i 0 m e :: c2)) (hi : cJ hs i = some d) (hij : j ≠ i) :
  Le ⟨ts, hs, n, z0⟩ ⟨ts, (j, some (c1 ++ .imm m d :: c2)) :: (i, none) :: hs, n, z0⟩ := by
 rintro C a w ⟨h0, ι, g, gh⟩
 have hk : ∀ id c, cJ ((j, some (c1 ++ .imm m d :: c2)) :: (i, none) :: hs) id = some c → (id = j ∧ c = c1 ++ .imm m d :: c2) ∨ (id ≠ j ∧ id ≠ i ∧ cJ hs id = some c) := by
  intro id c hc
  rw [gE] at hc
  split at hc
  ·rename_i e; cases hc; exact .inl ⟨e, rfl⟩
  ·rename_i e
   rw [gE] at hc
   split at hc
   ·cases hc
   ·rename_i e2; exact .inr ⟨e, e2, hc⟩
 have hk2 : ∀ id c, cJ ((j, some (c1 ++ .imm m d :: c2)) :: (i, none) :: hs) id = some c → id ≠ i ∧ ∃ c', cJ hs id = some c' := by
  intro id c hc
  rcases hk id c hc with ⟨rfl, _⟩ | ⟨_, h2, h3⟩
  ·exact ⟨hij, _, hj⟩
  ·exact ⟨h2, _, h3⟩
 have hbad : ∀ b, a9 C.X ι (cJ ((j, some (c1 ++ .imm m d :: c2)) :: (i, none) :: hs)) b → a9 C.X ι (cJ hs) b := by
  rintro b (h | ⟨id, c, β, h1, h2⟩)
  ·exact .inl h
  ·obtain ⟨_, c', h3⟩ := hk2 id c h1
   exact .inr ⟨id, c', β, h3, h2⟩
 have car : Carry w (a9 C.X ι (cJ hs)) ι w (a9 C.X ι (cJ ((j, some (c1 ++ .imm m d :: c2)) :: (i, none) :: hs))) ι := ⟨fun b o x h1 h2 => ⟨fun q => h1 (hbad b q), h2⟩, fun _ _ h => h, fun _ => Nat.le_refl _⟩
 have hcell : ∀ y, Rd w (a9 C.X ι (cJ ((j, some (c1 ++ .imm m d :: c2)) :: (i, none) :: hs))) ι (.own i 0 m e) y → Rd w (a9 C.X ι (cJ ((j, some (c1 ++ .imm m d :: c2)) :: (i, none) :: hs))) ι (.imm m d) y := by
  intro y hr
  simp only [Rd] at hr ⊢
  rcases hr with ⟨_, h2, a', h3⟩ | ⟨b, β, c, h1, h2, h3, h4⟩
  ·subst h2; exact ⟨a', 0, h3, .inl rfl⟩
  ·refine ⟨_, c, h2, ?_⟩
   rcases Nat.eq_zero_or_pos m with h5 | h5
   ·exact .inl h5
   ·refine .inr ⟨b, β + 0, h3, rfl, ?_⟩
    rcases gh.obj i d hi with ⟨q1, q2⟩ | ⟨b', β', arr, e', q1, q2, q3, q4, q5, q6⟩
    ·rw [h1] at q1; cases q1
    ·rw [h1] at q1; cases q1
     refine .inr ⟨?_, RdC.carryB car _ _ _ (fun o x hx => hx) q4⟩
     rintro (h | ⟨id', cs', β', r1, r2⟩)
     ·exact q5 h
     ·obtain ⟨r3, c', r4⟩ := hk2 id' cs' r1
      exact r3 (gh.sep _ _ _ _ _ _ _ r4 hi r2 h1)
 refine ⟨h0, ι, g.carry car, ⟨fun id c hc => ?_, fun id id' c c' b β β' h1 h2 h3 h4 => ?_, gh.fr, gh.ex, gh.fresh⟩⟩
 ·rcases hk id c hc with ⟨rfl, rfl⟩ | ⟨_, _, h3⟩
  ·rcases gh.obj _ _ hj with ⟨q1, q2⟩ | ⟨b, β, arr, e, q1, q2, q3, q4, q5⟩
   ·simp at q2
   ·exact .inr ⟨b, β, arr, e, q1, q2, by simpa using q3, qU hcell c1 c2 b β (RdC.carryB car _ _ _ (fun o x hx => hx) q4), q5⟩
  ·rcases gh.obj _ _ h3 with ⟨q1, q2⟩ | ⟨b, β, arr, e, q1, q2, q3, q4, q5⟩
   ·exact .inl ⟨q1, q2⟩
   ·exact .inr ⟨b, β, arr, e, q1, q2, q3, RdC.carryB car _ _ _ (fun o x hx => hx) q4, q5⟩
 ·obtain ⟨_, d1, e1⟩ := hk2 id c h1
  obtain ⟨_, d2, e2⟩ := hk2 id' c' h2
  exact gh.sep id id' d1 d2 b β β' e1 e2 h3 h4
end Go.AL
namespace Go.AL
open Go.RowKit
set_option linter.unusedVariables false
def Hp (op : BinOp) (a b : ByteArray) : Option Value :=
 match op with
 | .add => if a.size + b.size ≤ 9000000000000000000 then some (.string (a ++ b)) else none
 | .eql => some (.bool (a.toList == b.toList))
 | .neq => some (.bool (!(a.toList == b.toList)))
 | _ => none
def GP (s : ByteArray) (l : List Int) : ByteArray := l.foldl (fun r n => r.push (UInt8.ofNat n.toNat)) s
section
variable {P : Program} {C : Ctx} {ι : Pl} {T : Nat → Option AV} {F : Nat → Prop} {H : Nat → Option (List AV)} {a : Act} {w : World} {o : Oper}
theorem Hz (g : TG C ι T H a w) {op : BinOp} {t t' : TypeId} {x y : Operand} {m n : ByteArray} {v : Value} (ho : o.op = .binOp op t x y t')
  (hx : ev T x = some (.v (.string m))) (hy : ev T y = some (.v (.string n))) (h : Hp op m n = some v) : Pu P C ι H a w o (.v v) := by
 have h1 := dG g hx
 have h2 := dG g hy
 simp only [Rd] at h1 h2
 refine ⟨v, ?_, by simp [Rd]⟩
 have hg : (eqGuard op t x y (.string m) (.string n)).run P w = .ok () w := by
  unfold eqGuard
  cases op <;> simp
 have hb : (binOp op t (.string m) (.string n)).run P w = .ok v w := by
  cases op <;> simp only [Hp] at h <;> first | (cases h; done) | skip
  ·split at h
   ·rename_i hs
    cases h
    have h9 : ¬ (((m.size + n.size : Nat) : Int) > IntKind.i64.max) := by
     have : IntKind.i64.max = 9223372036854775807 := rfl
     omega
    show ((if ((m.size + n.size : Nat) : Int) > IntKind.i64.max then _ else pure (.string (m ++ n)) : Sem Value)).run P w = _
    rw [if_neg h9]; simp
   ·cases h
  all_goals (cases h; simp [binOp, Op.stringOp])
 simp only [execOp, ho, h1, h2, Sem.run_bind, hg, Result.andThen_ok, hb, Sem.run_pure]
theorem AG {bad : Nat → Prop} {k : IntKind} : ∀ {ns : List Int} {l : List Value}, RdL w bad ι (ns.map fun n => .v (.int k n)) l → l = ns.map (Value.int k)
 | [], l, h => by simp only [List.map_nil, RdL] at h; exact h
 | n :: ns, l, h => by
  simp only [List.map_cons, RdL] at h
  obtain ⟨x, l', rfl, h0, h1, h2⟩ := h
  simp only [Rd] at h1
  rw [h1, AG h2, List.map_cons]
theorem JK (g : TG C ι T H a w) (gh : HG C ι F H w) {s t el : TypeId} {x : Operand} {av : AV} {m : Nat} {ns : List Int} (ho : o.op = .convert s t x) (hx : ev T x = some av)
  (ht : mF P s = some el) (hu : yZ P el = some .u8) (hst : P.underlying t = some .string) (hs : sCells H 1 (qC av) = some (m, ns.map fun n => .v (.int .u8 n))) :
  Pu P C ι H a w o (.v (.string (GP .empty ns))) := by
 obtain ⟨ad, c, l, h1, h2, h3, h4, h5⟩ := wH gh (nU (dG g hx)) hs
 have hl := AG h3
 have hll : ns.length = m := by have := h2; rw [hl] at this; simpa using this
 refine ⟨.string (GP .empty ns), ?_, by simp [Rd]⟩
 have hcv : (convert s t (.slice ad m c)).run P w = (Conv.bytesToString (.slice ad m c)).run P w := run_convert_bytes_string w s t el ad m c (kH ht) (BS hu) hst
 have hrun : (Conv.bytesToString (.slice ad m c)).run P w = .ok (.string (GP .empty ns)) w := by
  cases ad with
  | none =>
   rcases h5 with ⟨b, o', h⟩ | h
   ·cases h
   ·subst h
    have : ns = [] := List.eq_nil_of_length_eq_zero hll
    subst this
    rfl
  | some ad =>
   have hload : (loadCells ad m).run P w = .ok (ns.map (Value.int .u8)).toArray w := by
    rcases h5 with ⟨b, o', h⟩ | h
    ·cases h
     have := run_loadCells_list (P := P) w ⟨b, o', none⟩ l (fun j v hj => by rw [Addr.add_lit]; exact h4 b o' rfl j v hj)
     rw [h2, Nat.mul_one, hl] at this
     exact this
    ·subst h
     have : ns = [] := List.eq_nil_of_length_eq_zero hll
     subst this
     simp [loadCells, loadCellsFrom]
   exact run_bytesToString w ad m c ns hload
 simp only [execOp, ho, h1, Sem.run_bind, hcv, hrun, Result.andThen_ok, Sem.run_pure]
end
section
variable {P : Program} {N : Nat} {Q : Exit → AS → Prop} {all : Array Oper} {rest : List Oper} {ts : List (Nat × AV)} {hs : List (Nat × Option (List AV))} {n : Nat} {z0 : Lo} {md : Md}
variable {d : Nat} {ty : TypeId} {pos : String} {af : Array Edge}
theorem lL {op : BinOp} {t t' : TypeId} {x y : Operand} {m m' : ByteArray} {v : Value} (hx : ev (lk ts) x = some (.v (.string m))) (hy : ev (lk ts) y = some (.v (.string m')))
  (h : Hp op m m' = some v) (hN : Nat.blt d N = true) {md' : Md} [hmd : MdA md (rO x ++ rO y) [.inl d] md'] (kk : RW P N all Q md' rest ⟨(d, .v v) :: ts, hs, n, z0⟩) : RW P N all Q md (⟨some d, .binOp op t x y t', ty, pos, af, none⟩ :: rest) ⟨ts, hs, n, z0⟩ :=
 fB rfl rfl (eO hN) (fun C ι F T H a w ag g gh => Hz g rfl (ag.l.ev.trans hx) (ag.r.ev.trans hy) h) (by rw [hmd.pf]; exact kk)
theorem FL {s t el : TypeId} {x : Operand} {av : AV} {m : Nat} (ns : List Int) [ht : SlT P s el] [hu : InT P el .u8] [hst : StT P t] (hx : ev (lk ts) x = some av)
  (hs' : sCells (cJ hs) 1 (qC av) = some (m, ns.map fun n => .v (.int .u8 n))) (hN : Nat.blt d N = true) {md' : Md} [hmd : MdA md (rO x ++ rA av) [.inl d] md'] (kk : RW P N all Q md' rest ⟨(d, .v (.string (GP .empty ns))) :: ts, hs, n, z0⟩) :
  RW P N all Q md (⟨some d, .convert s t x, ty, pos, af, none⟩ :: rest) ⟨ts, hs, n, z0⟩ :=
 fB rfl rfl (eO hN) (fun C ι F T H a w ag g gh => JK g gh rfl (ag.l.ev.trans hx) ht.pf hu.pf hst.pf (ag.r.sCells.trans hs')) (by rw [hmd.pf]; exact kk)
theorem pH {t : TypeId} {x i : Operand} {s : ByteArray} {k : IntKind} {m : Int} [ht : StT P t] (hx : ev (lk ts) x = some (.v (.string s)))
  (hi : ev (lk ts) i = some (.v (.int k m))) (hm : 0 ≤ m ∧ m < (s.size : Int)) (hN : Nat.blt d N = true) {md' : Md} [hmd : MdA md (rO x ++ rO i) [.inl d] md'] (kk : RW P N all Q md' rest ⟨(d, .v (.int .u8 ((s[m.toNat]!).toNat : Int))) :: ts, hs, n, z0⟩) :
  RW P N all Q md (⟨some d, .index t x i, ty, pos, af, none⟩ :: rest) ⟨ts, hs, n, z0⟩ :=
 En (b := s[m.toNat]!) hx hi ht.pf hm.1 (by rw [getElem!_pos s m.toNat (by omega), getElem?_pos s m.toNat (by omega)]) (eO hN) (by rw [hmd.pf]; exact kk)
theorem EH {t : TypeId} {x : Operand} {lo hi : Option Operand} {s : ByteArray} {l h : Nat} [ht : StT P t] (hx : ev (lk ts) x = some (.v (.string s)))
  (hl : g9 (lk ts) lo 0 = some l) (hh : g9 (lk ts) hi s.size = some h) (hc : l ≤ h ∧ h ≤ s.size) (hN : Nat.blt d N = true) {md' : Md} [hmd : MdA md (rO x ++ (rB lo ++ rB hi)) [.inl d] md'] (kk : RW P N all Q md' rest ⟨(d, .v (.string (s.extract l h))) :: ts, hs, n, z0⟩) :
  RW P N all Q md (⟨some d, .slice t x lo hi none, ty, pos, af, none⟩ :: rest) ⟨ts, hs, n, z0⟩ := DR hx ht.pf hl hh hc (eO hN) (by rw [hmd.pf]; exact kk)
theorem Gc (m : Int) (h : 0 ≤ m ∧ m ≤ 255) : IntKind.u8.wrap m = m := by
 have : IntKind.u8.wrap m = m % 256 := rfl
 rw [this]; omega
theorem HR {t t' : TypeId} {x y : Operand} {m m' : Int} (hx : ev (lk ts) x = some (.v (.int .u8 m))) (hy : ev (lk ts) y = some (.v (.int .u8 m')))
  (h : 0 ≤ m + m' ∧ m + m' ≤ 255) (hN : Nat.blt d N = true) {md' : Md} [hmd : MdA md (rO x ++ rO y) [.inl d] md'] (kk : RW P N all Q md' rest ⟨(d, .v (.int .u8 (m + m'))) :: ts, hs, n, z0⟩) : RW P N all Q md (⟨some d, .binOp .add t x y t', ty, pos, af, none⟩ :: rest) ⟨ts, hs, n, z0⟩ :=
 e7 hx hy (.inl rfl) (v := .int .u8 (m + m')) (by simp only [gU, Gc _ h]) (eO hN) (by rw [hmd.pf]; exact kk)
theorem Dy {t t' : TypeId} {x y : Operand} {m m' : Int} (hx : ev (lk ts) x = some (.v (.int .u8 m))) (hy : ev (lk ts) y = some (.v (.int .u8 m')))
  (h : 0 ≤ m - m' ∧ m - m' ≤ 255) (hN : Nat.blt d N = true) {md' : Md} [hmd : MdA md (rO x ++ rO y) [.inl d] md'] (kk : RW P N all Q md' rest ⟨(d, .v (.int .u8 (m - m'))) :: ts, hs, n, z0⟩) : RW P N all Q md (⟨some d, .binOp .sub t x y t', ty, pos, af, none⟩ :: rest) ⟨ts, hs, n, z0⟩ :=
 e7 hx hy (.inl rfl) (v := .int .u8 (m - m')) (by simp only [gU, Gc _ h]) (eO hN) (by rw [hmd.pf]; exact kk)
theorem AA {s t : TypeId} {x : Operand} {k' : IntKind} {m : Int} [hd : InT P t .u8] [hs' : InT P s k'] (hx : ev (lk ts) x = some (.v (.int k' m))) (h : 0 ≤ m ∧ m ≤ 255) (hN : Nat.blt d N = true) {md' : Md} [hmd : MdA md (rO x) [.inl d] md'] (kk : RW P N all Q md' rest ⟨(d, .v (.int .u8 m)) :: ts, hs, n, z0⟩) :
  RW P N all Q md (⟨some d, .convert s t x, ty, pos, af, none⟩ :: rest) ⟨ts, hs, n, z0⟩ := Df hx hd.pf hs'.pf (eO hN) (by rw [hmd.pf, Gc _ h]; exact kk)
end
theorem pJ (n : Int) : (GP .empty [n]).size = 1 := rfl
theorem qT {a b : ByteArray} (h : a.size + b.size ≤ 9000000000000000000) : Hp .add a b = some (.string (a ++ b)) := if_pos h
end Go.AL
namespace Go.AL
def E0 (l : List Int) : ByteArray := l.foldl (fun r n => r.push (UInt8.ofNat n.toNat)) .empty
def g8 (v : Int) : ByteArray := E0 [97 + v]
def A9 (n : Int) : ByteArray := E0 [48 + n] ++ .empty
theorem oM (l : List UInt8) : ByteArray.size ⟨l.toArray⟩ = l.length := rfl
theorem mS (v : Int) : (g8 v).size = 1 := rfl
theorem mQ (v : Int) : (A9 v).size = 1 := by simp [A9, E0, ByteArray.size_append]
def p8 (out : ByteArray) (k : Nat) (t : ByteArray) : ByteArray := (if 0 < k then out ++ ⟨#[59]⟩ else out) ++ t
mutual
def lR : Stmt → ByteArray
 | .mk op x y n th el =>
  if op = 1 then (g8 x ++ ⟨#[61]⟩) ++ A9 n
  else if op = 2 then (g8 x ++ ⟨#[61, 98, 111, 120, 32]⟩) ++ A9 n
  else if op = 3 then (g8 x ++ ⟨#[61]⟩) ++ g8 y
  else if op = 4 then (g8 x ++ ⟨#[61, 38]⟩) ++ g8 y
  else if op = 5 then (g8 x ++ ⟨#[61, 38, 109, 117, 116, 32]⟩) ++ g8 y
  else if op = 6 then (g8 x ++ ⟨#[61, 42]⟩) ++ g8 y
  else if op = 7 then ((⟨#[42]⟩ ++ g8 x) ++ ⟨#[61]⟩) ++ g8 y
  else if op = 8 then ⟨#[100, 114, 111, 112, 32]⟩ ++ g8 x
  else if op = 10 then (⟨#[108, 111, 111, 112, 123]⟩ ++ lO .empty 0 th) ++ ⟨#[125]⟩
  else (((⟨#[105, 102, 123]⟩ ++ lO .empty 0 th) ++ ⟨#[125, 123]⟩) ++ lO .empty 0 el) ++ ⟨#[125]⟩
def lO (out : ByteArray) (k : Nat) : List Stmt → ByteArray
 | [] => out
 | s :: l => lO (p8 out k (lR s)) (k + 1) l
end
def jQ (l : List Stmt) : ByteArray := lO .empty 0 l
theorem sV : ∀ (l : List Stmt) (out : ByteArray) (k : Nat) (s : Stmt), lO out k (l ++ [s]) = p8 (lO out k l) (k + l.length) (lR s)
 | [], out, k, s => by simp only [List.nil_append, lO, List.length_nil, Nat.add_zero]
 | x :: l, out, k, s => by
  simp only [List.cons_append, lO, sV l, List.length_cons]
  rw [show k + 1 + l.length = k + (l.length + 1) from by omega]
theorem s7 (l : List Stmt) (k : Nat) (h : k < l.length) : jQ (l.take (k + 1)) = p8 (jQ (l.take k)) k (lR l[k]!) := by
 rw [cY _ _ h, jQ, sV, List.length_take, Nat.min_eq_left (by omega), Nat.zero_add]; rfl
theorem Ep (s : Stmt) : lR s = 
  if s.op = 1 then (g8 s.x ++ ⟨#[61]⟩) ++ A9 s.n
  else if s.op = 2 then (g8 s.x ++ ⟨#[61, 98, 111, 120, 32]⟩) ++ A9 s.n
  else if s.op = 3 then (g8 s.x ++ ⟨#[61]⟩) ++ g8 s.y
  else if s.op = 4 then (g8 s.x ++ ⟨#[61, 38]⟩) ++ g8 s.y
  else if s.op = 5 then (g8 s.x ++ ⟨#[61, 38, 109, 117, 116, 32]⟩) ++ g8 s.y
  else if s.op = 6 then (g8 s.x ++ ⟨#[61, 42]⟩) ++ g8 s.y
  else if s.op = 7 then ((⟨#[42]⟩ ++ g8 s.x) ++ ⟨#[61]⟩) ++ g8 s.y
  else if s.op = 8 then ⟨#[100, 114, 111, 112, 32]⟩ ++ g8 s.x
  else if s.op = 10 then (⟨#[108, 111, 111, 112, 123]⟩ ++ jQ s.th) ++ ⟨#[125]⟩
  else (((⟨#[105, 102, 123]⟩ ++ jQ s.th) ++ ⟨#[125, 123]⟩) ++ jQ s.el) ++ ⟨#[125]⟩ := by
 cases s; rw [lR]; rfl
mutual
theorem tH : ∀ s, (lR s).size + 1 ≤ 11 * dM s
 | .mk op x y n th el => by
  have h1 := lB th .empty 0
  have h2 := lB el .empty 0
  have h3 : ByteArray.size .empty = 0 := rfl
  rw [lR]
  simp only [dM]
  repeat' split
  all_goals simp only [ByteArray.size_append, oM, List.length_cons, List.length_nil, mS, mQ]
  all_goals omega
theorem lB : ∀ (l : List Stmt) (out : ByteArray) (k : Nat), (lO out k l).size ≤ out.size + 11 * bQ l
 | [], out, k => by simp only [lO, bQ]; omega
 | s :: l, out, k => by
  have h1 := tH s
  have h2 := lB l (p8 out k (lR s)) (k + 1)
  have h3 : (p8 out k (lR s)).size ≤ out.size + 1 + (lR s).size := by
   unfold p8; split <;> simp only [ByteArray.size_append, oM, List.length_cons, List.length_nil] <;> omega
  simp only [lO, bQ]
  omega
end
theorem lF (l : List Stmt) : (jQ l).size ≤ 11 * bQ l := by
 have := lB l .empty 0
 have h3 : ByteArray.size .empty = 0 := rfl
 unfold jQ; omega
theorem D2 {ts : List Int} {s : Stmt} (ht : cR ts = true) (h : dX ts s = true) : 1 ≤ s.op ∧ s.op ≤ 8 ∧ 0 ≤ s.x ∧ s.x ≤ 5 ∧ 0 ≤ s.y ∧ s.y ≤ 5 ∧ (s.op = 1 ∨ s.op = 2 → 0 ≤ s.n ∧ s.n ≤ 9) := by
 have hl := fF ht
 have hx := lI ht s.x
 have hy := lI ht s.y
 unfold dX at h
 dsimp only at h
 repeat' split at h
 all_goals (first | (simp only [decide_eq_true_eq] at h; omega) | (simp at h; done))
end Go.AL
namespace Go.AL
theorem HB (ts : List Int) (pts : List Pnt) (Aa : List Nat) (cf : List Bool) (i : Nat) : (Mh ts pts Aa cf i).length ≤ ts.length + pts.length := by
 unfold Mh
 rw [List.length_append, List.length_map, List.length_map]
 have h1 := List.length_filter_le (Mu ts pts Aa i) (List.range ts.length)
 have h2 := List.length_filter_le (fun (l : Nat) => cf[l]!) (List.range pts.length)
 rw [List.length_range] at h1 h2
 omega
theorem CS {ts : List Int} {pts : List Pnt} (w : WG ts pts) (f : Flows ts pts) : ∀ n, n ≤ pts.length → (qJ ts pts f.Aa f.Am f.Al f.Af f.Ap n).length ≤ n * (ts.length + pts.length)
 | 0, _ => by simp [qJ]
 | n + 1, h => by
  have h1 := CS w f n (by omega)
  have h2 := HB ts pts f.Aa (LH ts pts f.Am f.Al f.Af f.Ap n) n
  rw [K5 w f (by omega)] at h2
  rw [mZ, List.length_append, Nat.succ_mul]
  omega
theorem AM {ts : List Int} {pts : List Pnt} (w : WG ts pts) (f : Flows ts pts) : f.iss.length ≤ 100000 := by
 have h := CS w f pts.length (Nat.le_refl _)
 have h1 := w.tl
 have h2 := w.pl
 have h3 : pts.length * (ts.length + pts.length) ≤ 61 * 67 := Nat.mul_le_mul (by omega) (by omega)
 exact Nat.le_trans h (Nat.le_trans h3 (by decide))
end Go.AL
namespace Go.AL
theorem lH {A n : Nat} (hv : ∀ v, A.testBit v = true → v < n) : A < 2 ^ n := Nat.lt_pow_two_of_testBit _ fun v h => by
 cases hq : Nat.testBit _ v with
 | false => rfl
 | true => have := hv v hq; omega
theorem iW {A n : Nat} (hn : n ≤ 62) (hv : A < 2 ^ n) : Sm A := ⟨Nat.lt_of_lt_of_le hv (Nat.pow_le_pow_right (by decide) hn)⟩
structure FB (ts : List Int) (pts : List Pnt) (f : Flows ts pts) : Prop where
 la : f.Aa.length = pts.length
 lm : f.Am.length = pts.length
 ln : f.An.length = pts.length
 ll : f.Al.length = pts.length
 lp : f.Ap.length = pts.length
 bA : ∀ i : Nat, f.Aa[i]! < 2 ^ ts.length
 bM : ∀ i : Nat, f.Am[i]! < 2 ^ ts.length
 bN : ∀ i : Nat, f.An[i]! < 2 ^ ts.length
 bL : ∀ i : Nat, f.Al[i]! < 2 ^ ts.length
 bP : ∀ i : Nat, f.Ap[i]! < 2 ^ pts.length
 sA : ∀ i : Nat, Sm f.Aa[i]!
 sM : ∀ i : Nat, Sm f.Am[i]!
 sN : ∀ i : Nat, Sm f.An[i]!
 sL : ∀ i : Nat, Sm f.Al[i]!
 sP : ∀ i : Nat, Sm f.Ap[i]!
 rl : ∀ i, i < pts.length → (fN f.Af i).length = 6
 rs : ∀ i, i < pts.length → ∀ z : Nat, Sm (fN f.Af i)[z]!
 af : ∀ i, i < pts.length → HD pts f.An i = f.Al[i]!
 kp : ∀ i, i < pts.length → vB ts pts[i]! f.Al[i]! (fN f.Af i) < 2 ^ pts.length
 lo : ∀ i, i < pts.length → vB ts pts[i]! f.Al[i]! (fN f.Af i) &&& f.Ap[i]! < 2 ^ pts.length
 cf : ∀ i, i < pts.length → BV ts pts f.Am f.Al f.Af f.Ap i < 2 ^ pts.length
theorem Flows.bnd {ts : List Int} {pts : List Pnt} (f : Flows ts pts) (w : WG ts pts) : FB ts pts f := by
 have hpl := w.pl
 have htl := w.tl
 have off : ∀ {A : List Nat} {n : Nat} {i : Nat}, A.length = pts.length → ¬ i < pts.length → A[i]! < 2 ^ n := fun {A n i} h hi => by
  rw [getElem!_neg A i (by omega)]; exact Nat.pow_pos (by decide)
 have bA : ∀ i : Nat, f.Aa[i]! < 2 ^ ts.length := fun i => by
  by_cases hi : i < pts.length
  ·exact lH fun v hv => ((f.ga.2 i hi v).1 hv).1
  ·exact off f.ga.1 hi
 have bM : ∀ i : Nat, f.Am[i]! < 2 ^ ts.length := fun i => by
  by_cases hi : i < pts.length
  ·exact lH fun v hv => E1 w ((f.gm.2 i hi v).1 hv)
  ·exact off f.gm.1 hi
 have bN : ∀ i : Nat, f.An[i]! < 2 ^ ts.length := fun i => by
  by_cases hi : i < pts.length
  ·exact lH fun v hv => qH w ((f.gn.2 i hi v).1 hv)
  ·exact off f.gn.1 hi
 have bL : ∀ i : Nat, f.Al[i]! < 2 ^ ts.length := fun i => by
  by_cases hi : i < pts.length
  ·exact lH fun v hv => by obtain ⟨k, _, h⟩ := (f.gl.2 i hi v).1 hv; exact qH w h
  ·exact off f.gl.1 hi
 have bP : ∀ i : Nat, f.Ap[i]! < 2 ^ pts.length := fun i => by
  by_cases hi : i < pts.length
  ·exact lH fun v hv => (lQ ((f.gp.2 i hi v).1 hv)).1
  ·exact off f.gp.1 hi
 have rs : ∀ i, i < pts.length → ∀ z : Nat, (fN f.Af i)[z]! < 2 ^ pts.length := fun i hi z => by
  by_cases hz : z < 6
  ·rw [gF f.gf.1 hi hz]
   exact lH fun v hv => (qF w ((f.gf.2 i z hi hz v).1 hv)).2.2
  ·rw [getElem!_neg _ z (by rw [gT f.gf.1 hi]; exact hz)]; exact Nat.pow_pos (by decide)
 have kp : ∀ i, i < pts.length → vB ts pts[i]! f.Al[i]! (fN f.Af i) < 2 ^ pts.length := fun i hi => lH fun v hv => by
  unfold vB at hv
  rw [gM] at hv
  rcases hv with hv | ⟨z, hz, hv⟩
  ·simp at hv
  ·exact eH (rs i hi _) hv
 have lo : ∀ i, i < pts.length → vB ts pts[i]! f.Al[i]! (fN f.Af i) &&& f.Ap[i]! < 2 ^ pts.length := fun i hi => Nat.and_lt_two_pow _ (bP i)
 refine ⟨f.ga.1, f.gm.1, f.gn.1, f.gl.1, f.gp.1, bA, bM, bN, bL, bP, fun i => iW (by omega) (bA i), fun i => iW (by omega) (bM i), fun i => iW (by omega) (bN i), fun i => iW (by omega) (bL i), fun i => iW (by omega) (bP i),
  fun i hi => gT f.gf.1 hi, fun i hi z => iW (by omega) (rs i hi z), fun i hi => ?_, kp, lo, fun i hi => Bq w (bP i)⟩
 rw [wF f.gl (AQ w f.gn), fM _ _ _ hi]
end Go.AL
namespace Go.AL
def wN (pts : List Pnt) (l : Nat) (c : Acc) : Bool := decide (c.var = pts[l]!.y) && (c.write || decide (pts[l]!.op = 5))
theorem z9 {ts : List Int} {pts : List Pnt} (w : WG ts pts) (f : Flows ts pts) {i l : Nat} (hi : i < pts.length) (hl : l < pts.length) (hln : eE pts[l]! = true) :
  (BV ts pts f.Am f.Al f.Af f.Ap i).testBit l = ((kF ts pts[i]! (f.Am[i]!.testBit (bG pts[i]!).toNat)).any (wN pts l) && ((vB ts pts[i]! f.Al[i]! (fN f.Af i)).testBit l && f.Ap[i]!.testBit l)) := by
 have b := f.bnd w
 have hpl := w.pl
 have hy := xQ w hl hln
 rw [Bool.eq_iff_iff]
 unfold BV
 rw [iN _ _ _ (iW (by omega) (b.lo i hi)), Bool.and_eq_true, List.any_eq_true, ← Nat.testBit_and]
 simp only [Nat.zero_testBit, Bool.false_eq_true, false_or]
 constructor
 ·rintro ⟨c, hc, h1, h2, h3⟩
  refine ⟨⟨c, hc, ?_⟩, h1⟩
  rw [iO] at h2
  simp only [Bool.and_eq_true, decide_eq_true_eq] at h2
  have e2 := h2.2.2
  rw [Nat.testBit_two_pow, decide_eq_true_eq] at e2
  have hcv := xA _ w hi c hc
  unfold wN
  rw [decide_eq_true (by omega : c.var = pts[l]!.y)]
  rcases h3 with h3 | h3
  ·rw [h3]; rfl
  ·rw [decide_eq_true h3]; simp
 ·rintro ⟨⟨c, hc, h⟩, h1⟩
  unfold wN at h
  simp only [Bool.and_eq_true, Bool.or_eq_true, decide_eq_true_eq] at h
  refine ⟨c, hc, h1, ?_, h.2⟩
  rw [iO, decide_eq_true hl, hln, h.1, Nat.testBit_two_pow_self]; rfl
theorem IA {ts : List Int} {pts : List Pnt} (w : WG ts pts) (f : Flows ts pts) {i l : Nat} (hi : i < pts.length) (h : (BV ts pts f.Am f.Al f.Af f.Ap i).testBit l = true) : l < pts.length ∧ eE pts[l]! = true := by
 have b := f.bnd w
 have hpl := w.pl
 unfold BV at h
 rw [iN _ _ _ (iW (by omega) (b.lo i hi))] at h
 rcases h with h | ⟨c, _, h1, _⟩
 ·simp at h
 ·rw [Nat.testBit_and, Bool.and_eq_true] at h1
  exact lQ ((f.gp.2 i hi l).1 h1.2)
theorem wM {A n : Nat} (hA : A < 2 ^ n) (hn : n ≤ 62) : (cO A).length = (List.range n).countP (fun v => A.testBit v) := by
 rw [tJ (n := n) (p := fun v => A.testBit v) (iW hn hA) hn fun v => ?_, List.length_map, List.countP_eq_length_filter]
 by_cases hv : v < n
 ·rw [decide_eq_true hv]; rfl
 ·rw [decide_eq_false hv, Nat.testBit_lt_two_pow (Nat.lt_of_lt_of_le hA (Nat.pow_le_pow_right (by decide) (by omega)))]; rfl
end Go.AL
namespace Go.AL
open Go.RowKit
set_option linter.unusedVariables false
section
variable {P : Program} {C : Ctx} {ι : Pl} {F : Nat → Prop} {T : Nat → Option AV} {H : Nat → Option (List AV)} {a : Act} {w : World} {o : Oper}
theorem sU (z : Array Value) : ∀ n, (Builtin.zeroCells z n).toList = (List.replicate n z.toList).flatten := fun n => by
 have := pO z n (n * z.size) rfl
 simpa [Builtin.zeroCells, madeCells] using this
end
theorem Le.cut {ts : List (Nat × AV)} {hs : List (Nat × Option (List AV))} {n : Nat} {z0 : Lo} {i : Nat} {cs : List AV} (k : Nat) (hi : cJ hs i = some cs) :
  Le ⟨ts, hs, n, z0⟩ ⟨ts, (i, some (cs.take k)) :: hs, n, z0⟩ := by
 rintro C a w ⟨h0, ι, g, gh⟩
 have hσ : ∀ id c, cJ ((i, some (cs.take k)) :: hs) id = some c → ∃ c0, cJ hs id = some c0 ∧ (c = c0 ∨ c = c0.take k) := by
  intro id c h
  rw [gE] at h
  split at h
  ·rename_i e; subst e; cases h; exact ⟨cs, hi, .inr rfl⟩
  ·exact ⟨c, h, .inl rfl⟩
 have car : Carry w (a9 C.X ι (cJ hs)) ι w (a9 C.X ι (cJ ((i, some (cs.take k)) :: hs))) ι := by
  refine ⟨fun b o' x h1 h2 => ⟨?_, h2⟩, fun _ _ h => h, fun _ => Nat.le_refl _⟩
  rintro (h | ⟨id, c, β, q1, q2⟩)
  ·exact h1 (.inl h)
  ·obtain ⟨c0, r, _⟩ := hσ id c q1
   exact h1 (.inr ⟨id, c0, β, r, q2⟩)
 refine ⟨h0, ι, ⟨g.df, g.sz, fun t av ht => ?_⟩, ⟨fun id c h => ?_, fun id id' c c' b β β' q1 q2 q3 q4 => ?_, gh.fr, gh.ex, gh.fresh⟩⟩
 ·obtain ⟨y, hy, hr⟩ := g.tm t av ht
  exact ⟨y, hy, Rd.carry car _ _ hr⟩
 ·obtain ⟨c0, r, e⟩ := hσ id c h
  rcases gh.obj id c0 r with ⟨h1, h2⟩ | ⟨b', β', arr', e', h1, h2, h3, h4, h5, h6⟩
  ·refine .inl ⟨h1, ?_⟩
   rcases e with e | e
   ·rw [e, h2]
   ·rw [e, h2]; simp
  ·refine .inr ⟨b', β', arr', e', h1, h2, ?_, ?_, h5, h6⟩
   ·rcases e with e | e
    ·rw [e]; exact h3
    ·rw [e, List.length_take]; omega
   ·have h7 := RdC.carryB car _ _ _ (fun o x hx => hx) h4
    rcases e with e | e
    ·rw [e]; exact h7
    ·rw [e]; exact RdC.take k h7
 ·obtain ⟨_, r1, _⟩ := hσ id c q1
  obtain ⟨_, r2, _⟩ := hσ id' c' q2
  exact gh.sep _ _ _ _ _ _ _ r1 r2 q3 q4
section
variable {P : Program} {N : Nat} {Q : Exit → AS → Prop} {all : Array Oper} {rest : List Oper} {ts : List (Nat × AV)} {hs : List (Nat × Option (List AV))} {n : Nat} {z0 : Lo}
variable {d : Nat} {ty : TypeId} {pos : String} {af : Array Edge}
theorem iS {fn : Go.Fn} {cs : Array Operand} {i : Nat} {cc c : List AV} (t : Nat) (hx : lk ts t = some (.optr i 0)) (hH : cJ hs i = some cc) (hc : evL (lk ((t, .iptr cc) :: ts)) cs.toList = some c) (hN : Nat.blt d N = true)
  (kk : RW P N all Q .txt rest ⟨(d, .clos fn [] c) :: (t, .iptr cc) :: ts, (i, none) :: hs, n, z0⟩) : RW P N all Q .txt (⟨some d, .makeFunc fn #[] cs, ty, pos, af, none⟩ :: rest) ⟨ts, hs, n, z0⟩ :=
 iT (j4 (f := []) (c := c) rfl hc hN (md' := .txt) kk) (Le.frzP hx hH)
end
end Go.AL
namespace Go.AL
theorem B0 {ts : List Int} {v : Int} (h : 0 < dF ts v) : dF ts v = ts[v.toNat]! := by
 unfold dF at h ⊢
 split at h
 ·rename_i c; rw [if_pos c]
 ·omega
end Go.AL
namespace Go.AL
section
variable {ts : List Int} {pts : List Pnt}
theorem bitsI_mono {A B : Nat} (h : ∀ l, A.testBit l = true → B.testBit l = true) : (cO A).length ≤ (cO B).length := by
 unfold cO
 rw [List.length_map, List.length_map, ← List.countP_eq_length_filter, ← List.countP_eq_length_filter]
 exact List.countP_mono_left fun l _ h2 => h l h2
end
end Go.AL
namespace Go.AL
open Go.RowKit
set_option linter.unusedVariables false
set_option linter.unusedSimpArgs false
section
variable {P : Program} {C : Ctx} {ι : Pl} {T : Nat → Option AV} {F : Nat → Prop} {H : Nat → Option (List AV)} {a : Act} {w : World} {o : Oper}
theorem zN {bad : Nat → Prop} {zs : List Value} (h : zs.all (·.oneCell') = true) : ∀ n, RdL w bad ι (List.replicate n (zs.map AV.v)).flatten (List.replicate n zs).flatten
 | 0 => by simp [RdL]
 | n + 1 => by
  rw [List.replicate_succ, List.replicate_succ, List.flatten_cons, List.flatten_cons]
  exact RdL.append (tE h) (zN h n)
theorem FT (gh : HG C ι F H w) {t el : TypeId} {x : Operand} {id off n e : Nat} {cs : List AV} {zs : List Value}
  (ho : o.op = .call ⟨.builtin .clear, #[x], #[t]⟩) (hx : Rd w (a9 C.X ι H) ι (.own id off n e) (a.eval x)) (hd : o.dst = none)
  (ht : mF P t = some el) (he : gH P el = some e) (hz : oU P el = some zs) (hze : zs.length = e)
  (hH : H id = some cs) (h0 : 0 < n) (hl : off + n * e ≤ cs.length) :
  Ef P C ι F H a w o (.tup []) (fL H id (some (iJ cs off (List.replicate n (zs.map AV.v)).flatten))) := by
 obtain ⟨i, z, h1, h2, h3, h4⟩ := pE hz
 have hu := kH ht
 have hsz := xS he h1
 simp only [Rd] at hx
 rcases hx with ⟨_, rfl, _⟩ | ⟨b, β, c, p1, p2, p3, p4⟩
 ·omega
 have hlen : ((List.replicate n (zs.map AV.v)).flatten).length = n * e := by
  rw [List.length_flatten]; simp [hze]
 obtain ⟨w', q1, q2, q3⟩ := AJ (P := P) gh hH p1 (off := off) (new := (List.replicate n (zs.map AV.v)).flatten) (by rw [hlen]; exact hl) (zN h4 n)
 have hr : (Builtin.clear_ #[t] o.type #[a.eval x]).run P w = .ok (.tuple #[]) w' := by
  rw [p2]
  cases n with
  | zero => omega
  | succ n =>
   have hzc : (Builtin.zeroCells z.cells (n + 1)).toList = (List.replicate (n + 1) zs).flatten := by rw [sU, h3]
   simp [Builtin.clear_, dL hu, zeroValue, typeInfo, h1, h2, hzc, q1]
 refine ⟨.value (.tuple #[]), .tuple #[], ι, w', ?_, .inl ⟨rfl, ?_⟩, q2, q3⟩
 ·simp [execOp, ho, resolve, invoke, builtin, hr]
 ·simp only [Rd]; exact ⟨[], rfl, by simp [RdV]⟩
end
section
variable {P : Program} {N : Nat} {Q : Exit → AS → Prop} {all : Array Oper} {rest : List Oper} {ts : List (Nat × AV)} {hs : List (Nat × Option (List AV))} {n : Nat} {z0 : Lo} {md : Md}
variable {d : Nat} {ty : TypeId} {pos : String} {af : Array Edge}
theorem E6 {t el id off m e : Nat} {x : Operand} {cs cs' : List AV} {zs : List Value} [ht : SlT P t el] [he : SzT P el e] [hz : ZrT P el zs]
  (hx : ev (lk ts) x = some (.own id off m e)) (hze : zs.length = e) (h0 : 0 < m) (hH : cJ hs id = some cs) (hl : off + m * e ≤ cs.length)
  (hcs : iJ cs off (List.replicate m (zs.map AV.v)).flatten = cs') {md' : Md} [hmd : MdA md (rO x ++ [.inr id]) [.inr id] md'] (kk : RW P N all Q md' rest ⟨ts, (id, some cs') :: hs, n, z0⟩) :
  RW P N all Q md (⟨none, .call ⟨.builtin .clear, #[x], #[t]⟩, ty, pos, af, none⟩ :: rest) ⟨ts, hs, n, z0⟩ := by
 subst hcs
 exact Du (rs := rO x ++ [.inr id]) (ws := [(id, some (iJ cs off (List.replicate m (zs.map AV.v)).flatten))]) (n' := n) (out := .tup []) rfl (fun _ h => by cases h) (Nat.le_refl n) (.inl rfl)
  (fun C ι F T H a w ag hF g gh => CO (FT gh rfl (dG g (ag.l.ev.trans hx)) rfl ht.pf he.pf hz.pf hze ((ag.r.h id (by simp)).trans hH) h0 hl)) (by
   show RW P N all Q (md.add (rO x ++ [.inr id]) [.inr id]) rest ⟨ts, (id, some (iJ cs off (List.replicate m (zs.map AV.v)).flatten)) :: hs, n, z0⟩
   rw [hmd.pf]; exact kk)
end
end Go.AL
namespace Go.AL
open Go.RowKit
set_option linter.unusedVariables false
set_option linter.unusedSimpArgs false
section
variable {P : Program} {N : Nat} {Q : Exit → AS → Prop} {all : Array Oper} {rest : List Oper} {ts : List (Nat × AV)} {hs : List (Nat × Option (List AV))} {n : Nat} {z0 : Lo} {md : Md}
variable {d : Nat} {ty : TypeId} {pos : String} {af : Array Edge}
theorem wU (w : World) (t el : TypeId) (hu : P.underlying t = some (.slice el)) (a : Option Addr) (m c : Nat) : (binOp .eql t (.slice a m c) (.slice none 0 0)).run P w = .ok (.bool a.isNone) w := by
 have h0 : ∀ d : Nat, (Op.equalIn (d + 1) t (.slice a m c) (.slice none 0 0)).run P w = .ok a.isNone w := fun d => by
  cases a <;> simp [Op.equalIn, dL hu]
 have h := h0 9999
 simp only [binOp]
 simp [Op.equal, Op.maxDepth, h]
theorem tS {t t' el : TypeId} {x : Operand} {m : Nat} {cs : List AV} [ht : SlT P t el] (hx : ev (lk ts) x = some (.imm m cs)) (hN : Nat.blt d N = true)
  (kk : ∀ b : Bool, (b = true → m = 0) → RW P N all Q .txt rest ⟨(d, .v (.bool b)) :: ts, hs, n, z0⟩) : RW P N all Q .txt (⟨some d, .binOp .eql t x (.const (.slice none 0 0)) t', ty, pos, af, none⟩ :: rest) ⟨ts, hs, n, z0⟩ := by
 rintro C a w hCN ⟨h0, ι, g, gh⟩
 refine wpList_plain rfl (fun K hK => ?_)
 have h1 := dG g hx
 simp only [Rd] at h1
 obtain ⟨a', c, h2, h3⟩ := h1
 have hu := kH ht.pf
 have hb : a'.isNone = true → m = 0 := fun hn => by
  rcases h3 with h3 | ⟨b, o, _, rfl, _⟩
  ·exact h3
  ·cases hn
 have hg : (eqGuard .eql t x (.const (.slice none 0 0)) (.slice a' m c) (.slice none 0 0)).run P w = .ok () w := by simp [eqGuard]
 have hr : (execOp a.eval ⟨some d, .binOp .eql t x (.const (.slice none 0 0)) t', ty, pos, af, none⟩).run P w = .ok (.value (.bool a'.isNone)) w := by
  have e2 : a.eval (.const (.slice none 0 0)) = .slice none 0 0 := rfl
  simp only [execOp, h2, e2, Sem.run_bind, hg, Result.andThen_ok, wU w t el hu, Sem.run_pure]
 simp only [Oper.wp, hr, Oper.upon]
 refine hK _ _ (kk a'.isNone hb C _ _ hCN ⟨h0, ι, ?_, gh⟩)
 show TG C ι (lk ((d, AV.v (.bool a'.isNone)) :: ts)) _ _ _
 rw [jA]
 exact g.put (by have := eO hN; omega) (by simp [Rd])
end
theorem C5 {α : Type} {f : α → List AV} {e : Nat} [h : FlT f e] {hs : List (Nat × Option (List AV))} {xs : List α} {i k n : Nat} (hH : cJ hs i = some (aH f xs)) (hn : n = xs.length - k) : sCells (cJ hs) e (qC (.own i (0 + k * e) n e)) = some (n, aH f (xs.drop k)) := by
 show ((cJ hs i).bind fun cs => if n * e ≤ (cs.drop (0 + k * e)).length then some (n, (cs.drop (0 + k * e)).take (n * e)) else none) = _
 rw [hH, Option.bind_some, Nat.zero_add]
 have h1 : (aH f xs).length = xs.length * e := aT f xs
 have h3 : (aH f xs).drop (k * e) = aH f (xs.drop k) := by
  have h4 : aH f xs = aH f (xs.take k) ++ aH f (xs.drop k) := by rw [dZ, List.take_append_drop]
  have h5 : (aH f (xs.take k)).length = (xs.take k).length * e := aT f _
  by_cases hk : k ≤ xs.length
  ·rw [h4, ← show (aH f (xs.take k)).length = k * e from by rw [h5, List.length_take]; congr 1; omega, List.drop_left]
  ·rw [List.drop_of_length_le (by rw [h1]; exact Nat.mul_le_mul_right _ (by omega)), List.drop_of_length_le (by omega)]; rfl
 rw [h3]
 have h2 : (aH f (xs.drop k)).length = (xs.length - k) * e := by rw [aT f (e := e), List.length_drop]
 rw [h2, hn, if_pos (Nat.le_refl _), List.take_of_length_le (by rw [h2]; exact Nat.le_refl _)]
theorem pP {T : Nat → Option AV} {x : Operand} {dd : Nat} {k : IntKind} {m : Int} {h : Nat} (hx : ev T x = some (.v (.int k m))) (e : m = (h : Int)) : g9 T (some x) dd = some h := by
 simp only [g9, hx]; rw [if_pos (by omega)]; congr 1; omega
end Go.AL
namespace Go.AL
structure Tg where
 id : Int
 uq : Bool
 deriving Inhabited, DecidableEq
structure Cl where
 val : Int
 alive : Bool
 next : Int
 stk : List Tg
 deriving Inhabited, DecidableEq
structure Pt where
 cell : Int
 tag : Int
 deriving Inhabited, DecidableEq
structure Sl where
 set : Bool
 num : Int
 ptr : Pt
 deriving Inhabited, DecidableEq
def eJ (t : Tg) : List AV := [iv t.id, bv t.uq]
def eG (c : Cl) : List AV := [iv c.val, bv c.alive, iv c.next, sl eJ c.stk]
def fD (s : Sl) : List AV := [bv s.set, iv s.num, iv s.ptr.cell, iv s.ptr.tag]
instance : FlT eJ 2 := ⟨fun _ => rfl⟩
instance : FlT eG 4 := ⟨fun _ => rfl⟩
instance : FlT fD 4 := ⟨fun _ => rfl⟩
instance : FE eJ (fun t => [iv t.id, bv t.uq]) := ⟨fun _ => rfl⟩
instance : FE eG (fun c => [iv c.val, bv c.alive, iv c.next, sl eJ c.stk]) := ⟨fun _ => rfl⟩
instance : FE fD (fun s => [bv s.set, iv s.num, iv s.ptr.cell, iv s.ptr.tag]) := ⟨fun _ => rfl⟩
instance (t : Tg) : Pur (eJ t) := ⟨rfl⟩
instance (c : Cl) : Pur (eG c) := ⟨by show (true && (true && (true && ((sl eJ c.stk).pur && true)))) = true; rw [aZ]; rfl⟩
instance (s : Sl) : Pur (fD s) := ⟨rfl⟩
abbrev MH (t : Tg) : AV := .agg [iv t.id, bv t.uq]
abbrev FZ (p : Pt) : AV := .agg [iv p.cell, iv p.tag]
abbrev Ml (s : Sl) : AV := .agg [bv s.set, iv s.num, iv s.ptr.cell, iv s.ptr.tag]
structure OkC (c : Cl) : Prop where
 v : 0 ≤ c.val ∧ c.val ≤ 9
 n : 1 ≤ c.next ∧ c.next ≤ 1000
 l : 1 ≤ c.stk.length ∧ c.stk.length ≤ 200
 u : c.stk[0]!.uq = true
 i : ∀ t ∈ c.stk, 0 ≤ t.id ∧ t.id < c.next
 d : (c.stk.map (·.id)).Nodup
structure OkM (m : List Cl) : Prop where
 l : m.length ≤ 200
 c : ∀ c ∈ m, OkC c
def dP (stk : List Tg) (id : Int) : Int := match stk.findIdx? (fun t => decide (t.id = id)) with | some k => k | none => -1
theorem g0 (stk : List Tg) (id : Int) : -1 ≤ dP stk id ∧ dP stk id < stk.length := by
 unfold dP
 split
 ·rename_i k h
  obtain ⟨h1, _⟩ := List.findIdx?_eq_some_iff_getElem.1 h
  omega
 ·omega
theorem Ds {stk : List Tg} {id : Int} (h : 0 ≤ dP stk id) : stk[(dP stk id).toNat]!.id = id := by
 unfold dP at h ⊢
 split
 ·rename_i k hk
  obtain ⟨h1, h2, _⟩ := List.findIdx?_eq_some_iff_getElem.1 hk
  rw [Int.toNat_natCast, cK _ _ h1]
  simpa using h2
 ·rename_i hk; rw [hk] at h; dsimp only at h; omega
theorem pR {stk : List Tg} {id : Int} : dP stk id < 0 ↔ ∀ t ∈ stk, t.id ≠ id := by
 unfold dP
 split
 ·rename_i k hk
  obtain ⟨h1, h2, _⟩ := List.findIdx?_eq_some_iff_getElem.1 hk
  refine ⟨fun h => by omega, fun h => ?_⟩
  exact absurd (by simpa using h2) (h _ (List.getElem_mem h1))
 ·rename_i hk
  rw [List.findIdx?_eq_none_iff] at hk
  exact ⟨fun _ t ht => by simpa using hk t ht, fun _ => by omega⟩
def gW (stk : List Tg) (k : Nat) (wr : Bool) : List Tg := if wr = true then stk.take (k + 1) else stk.take (k + 1) ++ (stk.drop (k + 1)).filter (fun t => !t.uq)
def dB (m : List Cl) (x : Pt) (wr : Bool) : Int :=
 if ¬ (0 ≤ x.cell ∧ x.cell < m.length) then 4
 else if m[x.cell.toNat]!.alive = false then 1
 else if dP m[x.cell.toNat]!.stk x.tag < 0 then 2
 else if wr = true ∧ m[x.cell.toNat]!.stk[(dP m[x.cell.toNat]!.stk x.tag).toNat]!.uq = false then 3
 else 0
def iQ (c : Cl) (x : Pt) (wr : Bool) : Cl := { c with stk := gW c.stk (dP c.stk x.tag).toNat wr }
def gQ (m : List Cl) (x : Pt) (wr : Bool) : List Cl := if dB m x wr = 0 then m.set x.cell.toNat (iQ m[x.cell.toNat]! x wr) else m
def A6 (m : List Cl) (x : Pt) : Int := if dB m x false = 0 then m[x.cell.toNat]!.val else 0
def vY (m : List Cl) (x : Pt) (v : Int) : Int := if 0 ≤ v ∧ v ≤ 9 then dB m x true else 4
def qR (m : List Cl) (x : Pt) (v : Int) : List Cl := if vY m x v = 0 then m.set x.cell.toNat { iQ m[x.cell.toNat]! x true with val := v } else m
def jW (m : List Cl) (x : Pt) : List Cl := if dB m x true = 0 then m.set x.cell.toNat { iQ m[x.cell.toNat]! x true with alive := false } else m
def Eo (c : Cl) : Prop := c.stk.length = 200 ∨ c.next = 1000
instance (c : Cl) : Decidable (Eo c) := by unfold Eo; infer_instance
def uP (m : List Cl) (x : Pt) (u : Bool) : Int := if dB m x u = 0 then (if Eo (iQ m[x.cell.toNat]! x u) then 4 else 0) else dB m x u
def psh (c : Cl) (u : Bool) : Cl := { c with stk := c.stk ++ [⟨c.next, u⟩], next := c.next + 1 }
def o7 (m : List Cl) (x : Pt) (u : Bool) : List Cl := if uP m x u = 0 then m.set x.cell.toNat (psh (iQ m[x.cell.toNat]! x u) u) else m
def CL (m : List Cl) (x : Pt) (u : Bool) : Pt := if uP m x u = 0 then ⟨x.cell, m[x.cell.toNat]!.next⟩ else ⟨0, 0⟩
def tZ (v : Int) : Cl := ⟨v, true, 1, [⟨0, true⟩]⟩
theorem tchS_sub {stk : List Tg} {k : Nat} {wr : Bool} : (gW stk k wr).Sublist stk := by
 unfold gW
 split
 ·exact List.take_sublist _ _
 ·have h := List.Sublist.append (List.Sublist.refl (stk.take (k + 1))) (List.filter_sublist (l := stk.drop (k + 1)) (p := fun t => !t.uq))
  rwa [List.take_append_drop] at h
theorem vQ {stk : List Tg} {k : Nat} {wr : Bool} (h : 0 < stk.length) : (gW stk k wr)[0]! = stk[0]! ∧ 0 < (gW stk k wr).length := by
 cases stk with
 | nil => simp at h
 | cons a l =>
  unfold gW
  split <;> simp
theorem OkC.tch {c : Cl} (h : OkC c) (x : Pt) (wr : Bool) : OkC (iQ c x wr) := by
 have hs := tchS_sub (stk := c.stk) (k := (dP c.stk x.tag).toNat) (wr := wr)
 have hh := vQ (k := (dP c.stk x.tag).toNat) (wr := wr) (stk := c.stk) (by have := h.l; omega)
 refine ⟨h.v, h.n, ⟨hh.2, Nat.le_trans hs.length_le h.l.2⟩, ?_, fun t ht => h.i t (hs.subset ht), (hs.map _).nodup h.d⟩
 show (gW c.stk (dP c.stk x.tag).toNat wr)[0]!.uq = true
 rw [hh.1]; exact h.u
theorem OkC.psh {c : Cl} (h : OkC c) (u : Bool) (hf : ¬ Eo c) : OkC (psh c u) := by
 have hl := h.l
 have hn := h.n
 unfold Eo at hf
 refine ⟨h.v, by show 1 ≤ c.next + 1 ∧ c.next + 1 ≤ 1000; omega, by show 1 ≤ (c.stk ++ [_]).length ∧ (c.stk ++ [_]).length ≤ 200; rw [List.length_append, List.length_singleton]; omega, ?_, fun t ht => ?_, ?_⟩
 ·show (c.stk ++ [_])[0]!.uq = true
  have h1 := h.u
  rw [cK _ _ (by omega)] at h1
  rw [cK _ _ (by rw [List.length_append]; omega), List.getElem_append_left (by omega)]; exact h1
 ·rcases List.mem_append.1 ht with ht | ht
  ·have := h.i t ht; show 0 ≤ t.id ∧ t.id < c.next + 1; omega
  ·rw [List.mem_singleton] at ht; subst ht; show 0 ≤ c.next ∧ c.next < c.next + 1; omega
 ·show ((c.stk ++ [_]).map _).Nodup
  rw [List.map_append, List.nodup_append]
  refine ⟨h.d, by simp, fun a ha b hb => ?_⟩
  simp only [List.map_cons, List.map_nil, List.mem_singleton] at hb
  obtain ⟨t, ht, rfl⟩ := List.mem_map.1 ha
  have := h.i t ht
  omega
theorem OkC.nw {v : Int} (h : 0 ≤ v ∧ v ≤ 9) : OkC (tZ v) := ⟨h, ⟨by show (1 : Int) ≤ 1; decide, by show (1 : Int) ≤ 1000; decide⟩, ⟨by show 1 ≤ 1; decide, by show 1 ≤ 200; decide⟩, rfl, by simp [tZ], by simp [tZ]⟩
theorem OkM.set {m : List Cl} (h : OkM m) {k : Nat} {c : Cl} (hc : OkC c) : OkM (m.set k c) :=
 ⟨by rw [List.length_set]; exact h.l, fun x hx => (List.mem_or_eq_of_mem_set hx).elim (h.c x) (fun e => e ▸ hc)⟩
theorem OkM.at {m : List Cl} (h : OkM m) {k : Nat} (hk : k < m.length) : OkC m[k]! := h.c _ (cA _ _ hk)
theorem iV {m : List Cl} {x : Pt} {wr : Bool} (h : dB m x wr ≠ 4) : 0 ≤ x.cell ∧ x.cell < m.length ∧ x.cell.toNat < m.length := by
 unfold dB at h
 split at h
 ·exact absurd rfl h
 ·omega
theorem eW {m : List Cl} {x : Pt} {wr : Bool} (h : dB m x wr = 0) : 0 ≤ x.cell ∧ x.cell < m.length ∧ x.cell.toNat < m.length := iV (by rw [h]; decide)
theorem OkM.tch {m : List Cl} (h : OkM m) (x : Pt) (wr : Bool) : OkM (gQ m x wr) := by
 unfold gQ; split
 ·rename_i hk; exact h.set ((h.at (eW hk).2.2).tch x wr)
 ·exact h
theorem OkM.wr {m : List Cl} (h : OkM m) (x : Pt) (v : Int) : OkM (qR m x v) := by
 unfold qR
 by_cases hk : vY m x v = 0
 ·rw [if_pos hk]
  unfold vY at hk
  by_cases hv : 0 ≤ v ∧ v ≤ 9
  ·rw [if_pos hv] at hk
   have h1 := (h.at (eW hk).2.2).tch x true
   exact h.set ⟨hv, h1.n, h1.l, h1.u, h1.i, h1.d⟩
  ·rw [if_neg hv] at hk; cases hk
 ·rw [if_neg hk]; exact h
theorem OkM.fr {m : List Cl} (h : OkM m) (x : Pt) : OkM (jW m x) := by
 unfold jW; split
 ·rename_i hk
  have h1 := (h.at (eW hk).2.2).tch x true
  exact h.set ⟨h1.v, h1.n, h1.l, h1.u, h1.i, h1.d⟩
 ·exact h
theorem OkM.ln {m : List Cl} (h : OkM m) (x : Pt) (u : Bool) : OkM (o7 m x u) := by
 unfold o7
 by_cases hk : uP m x u = 0
 ·rw [if_pos hk]
  unfold uP at hk
  by_cases h0 : dB m x u = 0
  ·rw [if_pos h0] at hk
   by_cases hf : Eo (iQ m[x.cell.toNat]! x u)
   ·rw [if_pos hf] at hk; cases hk
   ·exact h.set (((h.at (eW h0).2.2).tch x u).psh u hf)
  ·rw [if_neg h0] at hk; exact absurd hk h0
 ·rw [if_neg hk]; exact h
theorem OkM.nw {m : List Cl} (h : OkM m) {v : Int} (hv : 0 ≤ v ∧ v ≤ 9) (hl : m.length < 200) : OkM (m ++ [tZ v]) :=
 ⟨by rw [List.length_append, List.length_singleton]; omega, fun c hc => (List.mem_append.1 hc).elim (h.c c) (fun h => by rw [List.mem_singleton.1 h]; exact OkC.nw hv)⟩
end Go.AL
namespace Go.AL
def fP (pts : List Pnt) (a : Nat) (cs : List Int) : Nat × List Int :=
 if pts[a]!.next.length = 2 then
  match cs with
  | [] => ((pts[a]!.next[1]!).toNat, [])
  | c :: cs => ((pts[a]!.next[(c % 2).toNat]!).toNat, cs)
 else ((pts[a]!.next[0]!).toNat, cs)
def eX (pts : List Pnt) : Nat → Nat → List Int → List Nat × Bool
 | 0, a, _ => if pts[a]!.op = 11 then ([a], true) else ([], false)
 | n + 1, a, cs => if pts[a]!.op = 11 then ([a], true) else (a :: (eX pts n (fP pts a cs).1 (fP pts a cs).2).1, (eX pts n (fP pts a cs).1 (fP pts a cs).2).2)
structure Mc where
 slots : List Sl
 cells : List Cl
 read : List Int
 deriving Inhabited
def jX : Sl := ⟨false, 0, ⟨0, 0⟩⟩
def lM (k : Int) : Int := if k = 1 then 3 else 4
def qW (k : Int) : Int := if k = 0 then -1 else lM k
def dY (ts : List Int) (s : Mc) (v : Nat) (x : Sl) : Mc × Int :=
 if ts[v]! = 2 ∧ s.slots[v]!.set = true then (⟨s.slots.set v x, jW s.cells s.slots[v]!.ptr, s.read⟩, qW (dB s.cells s.slots[v]!.ptr true))
 else (⟨s.slots.set v x, s.cells, s.read⟩, -1)
def dH (ts : List Int) (s : Mc) (x : Pnt) : Bool := (List.range ts.length).any fun v => decide (bX ts x v ≠ 0) && !s.slots[v]!.set
def eI (ts : List Int) : Nat → Nat → Mc → Mc × Int
 | 0, _, s => (s, 0)
 | n + 1, v, s => if ts[v]! = 2 ∧ s.slots[v]!.set = true then
   (if dB s.cells s.slots[v]!.ptr true = 0 then eI ts n (v + 1) ⟨s.slots.set v jX, jW s.cells s.slots[v]!.ptr, s.read⟩ else (⟨s.slots, jW s.cells s.slots[v]!.ptr, s.read⟩, lM (dB s.cells s.slots[v]!.ptr true)))
  else eI ts n (v + 1) s
def dR (ts : List Int) (s : Mc) (x : Pnt) : Mc × Int :=
 if x.op = 1 then dY ts s x.x.toNat ⟨true, x.n, ⟨0, 0⟩⟩
 else if x.op = 2 then (if s.cells.length = 200 then (s, 1) else dY ts ⟨s.slots, s.cells ++ [tZ x.n], s.read⟩ x.x.toNat ⟨true, 0, ⟨s.cells.length, 0⟩⟩)
 else if x.op = 3 then dY ts (if D0 ts[x.y.toNat]! = true then ⟨s.slots.set x.y.toNat jX, s.cells, s.read⟩ else s) x.x.toNat s.slots[x.y.toNat]!
 else if x.op = 4 ∨ x.op = 5 then
  (if uP s.cells s.slots[x.y.toNat]!.ptr (decide (x.op = 5)) = 0 then dY ts ⟨s.slots, o7 s.cells s.slots[x.y.toNat]!.ptr (decide (x.op = 5)), s.read⟩ x.x.toNat ⟨true, 0, CL s.cells s.slots[x.y.toNat]!.ptr (decide (x.op = 5))⟩
   else (s, lM (uP s.cells s.slots[x.y.toNat]!.ptr (decide (x.op = 5)))))
 else if x.op = 6 then
  (if dB s.cells s.slots[x.y.toNat]!.ptr false = 0 then dY ts ⟨s.slots, gQ s.cells s.slots[x.y.toNat]!.ptr false, s.read ++ [A6 s.cells s.slots[x.y.toNat]!.ptr]⟩ x.x.toNat ⟨true, A6 s.cells s.slots[x.y.toNat]!.ptr, ⟨0, 0⟩⟩
   else (s, lM (dB s.cells s.slots[x.y.toNat]!.ptr false)))
 else if x.op = 7 then (⟨s.slots, qR s.cells s.slots[x.x.toNat]!.ptr s.slots[x.y.toNat]!.num, s.read⟩, qW (vY s.cells s.slots[x.x.toNat]!.ptr s.slots[x.y.toNat]!.num))
 else if x.op = 8 then (⟨s.slots.set x.x.toNat jX, jW s.cells s.slots[x.x.toNat]!.ptr, s.read⟩, qW (dB s.cells s.slots[x.x.toNat]!.ptr true))
 else if x.op = 11 then eI ts ts.length 0 s
 else (s, -1)
def gK (ts : List Int) (pts : List Pnt) : List Nat → Mc → Nat → Mc × Int × Nat
 | [], s, last => (s, 1, last)
 | a :: l, s, _ => if dH ts s pts[a]! = true then (s, 2, a)
  else if (dR ts s pts[a]!).2 = -1 then gK ts pts l (dR ts s pts[a]!).1 a
  else ((dR ts s pts[a]!).1, (dR ts s pts[a]!).2, a)
def mc0 (nt : Nat) : Mc := ⟨List.replicate nt jX, [], []⟩
def runP (ts : List Int) (pts : List Pnt) (cs : List Int) (most : Nat) : Mc × Int × Nat := gK ts pts (eX pts most 0 cs).1 (mc0 ts.length) 0
structure OkS (nt : Nat) (s : Mc) : Prop where
 m : OkM s.cells
 l : s.slots.length = nt
theorem OkS.put {ts : List Int} {nt : Nat} {s : Mc} (h : OkS nt s) (v : Nat) (x : Sl) : OkS nt (dY ts s v x).1 := by
 unfold dY; split
 ·exact ⟨h.m.fr _, by show (s.slots.set v x).length = nt; rw [List.length_set]; exact h.l⟩
 ·exact ⟨h.m, by show (s.slots.set v x).length = nt; rw [List.length_set]; exact h.l⟩
theorem OkS.fin {ts : List Int} {nt : Nat} : ∀ n v (s : Mc), OkS nt s → OkS nt (eI ts n v s).1
 | 0, _, _, h => h
 | n + 1, v, s, h => by
  unfold eI; split
  ·split
   ·exact OkS.fin n _ _ ⟨h.m.fr _, by show (s.slots.set v jX).length = nt; rw [List.length_set]; exact h.l⟩
   ·exact ⟨h.m.fr _, h.l⟩
  ·exact OkS.fin n _ _ h
structure PtN (x : Pnt) : Prop where
 n : x.op = 2 → 0 ≤ x.n ∧ x.n ≤ 9
theorem OkS.do {ts : List Int} {nt : Nat} {s : Mc} (h : OkS nt s) {x : Pnt} (hx : PtN x) : OkS nt (dR ts s x).1 := by
 have hl : ∀ (v : Nat) (y : Sl), (s.slots.set v y).length = nt := fun v y => by rw [List.length_set]; exact h.l
 unfold dR
 split
 ·exact h.put _ _
 split
 ·rename_i h2
  split
  ·exact h
  ·rename_i h3
   refine OkS.put ?_ _ _
   exact ⟨h.m.nw (hx.n h2) (by have := h.m.l; omega), h.l⟩
 split
 ·split
  ·refine OkS.put ?_ _ _
   exact ⟨h.m, hl _ _⟩
  ·exact h.put _ _
 split
 ·split
  ·refine OkS.put ?_ _ _
   exact ⟨h.m.ln _ _, h.l⟩
  ·exact h
 split
 ·split
  ·refine OkS.put ?_ _ _
   exact ⟨h.m.tch _ _, h.l⟩
  ·exact h
 split
 ·exact ⟨h.m.wr _ _, h.l⟩
 split
 ·exact ⟨h.m.fr _, hl _ _⟩
 split
 ·exact OkS.fin _ _ _ h
 ·exact h
theorem OkS.mc0 (nt : Nat) : OkS nt (mc0 nt) := ⟨⟨by simp [Go.AL.mc0], by simp [Go.AL.mc0]⟩, by simp [Go.AL.mc0]⟩
theorem OkS.run {ts : List Int} {pts : List Pnt} {nt : Nat} (hp : ∀ a : Nat, PtN pts[a]!) : ∀ (l : List Nat) (s : Mc) (last : Nat), OkS nt s → OkS nt (gK ts pts l s last).1
 | [], _, _, h => h
 | a :: l, s, _, h => by
  unfold gK; split
  ·exact h
  ·split
   ·exact OkS.run hp l _ _ (h.do (hp a))
   ·exact h.do (hp a)
end Go.AL
namespace Go.AL
theorem rG (k : Int) : lM k = 3 ∨ lM k = 4 := by unfold lM; split; exact .inl rfl; exact .inr rfl
theorem oK (ts : List Int) : ∀ n v (s : Mc), (eI ts n v s).2 = 0 ∨ (eI ts n v s).2 = 3 ∨ (eI ts n v s).2 = 4
 | 0, _, _ => .inl rfl
 | n + 1, v, s => by
  unfold eI; split
  ·split
   ·exact oK ts n _ _
   ·exact .inr (rG _)
  ·exact oK ts n _ _
theorem v7 {ts : List Int} {s : Mc} {x : Pnt} (h : x.op = 11) : dR ts s x = eI ts ts.length 0 s := by
 unfold dR; simp [h]
theorem HL (m : List Cl) (x : Pt) : (jW m x).length = m.length := by unfold jW; split <;> simp
theorem y4 (m : List Cl) (x : Pt) (b : Bool) : (gQ m x b).length = m.length := by unfold gQ; split <;> simp
theorem HF (m : List Cl) (x : Pt) (b : Bool) : (o7 m x b).length = m.length := by unfold o7; split <;> simp
theorem Hs (m : List Cl) (x : Pt) (v : Int) : (qR m x v).length = m.length := by unfold qR; split <;> simp
end Go.AL
namespace Go.AL
structure PtA (ts : List Int) (x : Pnt) : Prop where
 n : x.op = 1 ∨ x.op = 2 → 0 ≤ x.n ∧ x.n ≤ 9
 t1 : x.op = 1 → ts[x.x.toNat]! = 1
 t2 : x.op = 2 ∨ x.op = 8 → ts[x.x.toNat]! = 2
 t3 : x.op = 3 → ts[x.x.toNat]! = ts[x.y.toNat]! ∧ x.x ≠ x.y
 t4 : x.op = 4 → ts[x.x.toNat]! = 3 ∧ x.x ≠ x.y ∧ 2 ≤ ts[x.y.toNat]!
 t5 : x.op = 5 → ts[x.x.toNat]! = 4 ∧ x.x ≠ x.y ∧ (ts[x.y.toNat]! = 2 ∨ ts[x.y.toNat]! = 4)
 t6 : x.op = 6 → ts[x.x.toNat]! = 1 ∧ 2 ≤ ts[x.y.toNat]!
 t7 : x.op = 7 → (ts[x.x.toNat]! = 2 ∨ ts[x.x.toNat]! = 4) ∧ ts[x.y.toNat]! = 1
theorem PtA.no {ts : List Int} {x : Pnt} (h : 9 ≤ x.op) : PtA ts x := ⟨fun e => by omega, fun e => by omega, fun e => by omega, fun e => by omega, fun e => by omega, fun e => by omega, fun e => by omega, fun e => by omega⟩
theorem Bt {ts : List Int} {s : Stmt} (h : dX ts s = true) : s.op ≤ 8 := by
 unfold dX at h
 dsimp only at h
 apply Classical.byContradiction
 intro e
 rw [if_neg (by omega), if_neg (by omega)] at h
 split at h
 ·cases h
 ·rw [if_neg (by omega), if_neg (by omega), if_neg (by omega), if_neg (by omega), if_neg (by omega), if_neg (by omega)] at h; cases h
theorem ET {ts : List Int} (s : Stmt) (h : dX ts s = true) : PtA ts ⟨s.op, s.x, s.y, s.n, []⟩ := by
 have g : ∀ v, 0 < dF ts v → dF ts v = ts[v.toNat]! := fun v => B0
 have gx := g s.x
 have gy := g s.y
 unfold dX at h
 dsimp only at h
 constructor <;> dsimp only <;> intro e
 case n => rcases e with e | e <;> simp [e] at h <;> omega
 case t1 => simp [e] at h; rw [← gx (by omega)]; omega
 case t2 => rcases e with e | e <;> simp [e] at h <;> (rw [← gx (by omega)]; omega)
 case t3 => simp [e] at h; rw [← gx (by omega), ← gy (by omega)]; exact ⟨h.2.1, h.2.2.2⟩
 case t4 => simp [e] at h; rw [← gx (by omega), ← gy (by omega)]; exact ⟨h.2.1, h.2.2.2, h.2.2.1⟩
 case t5 => simp [e] at h; rw [← gx (by omega), ← gy (by omega)]; exact ⟨h.2.1, h.2.2.2, h.2.2.1⟩
 case t6 => simp [e] at h; rw [← gx (by omega), ← gy (by omega)]; exact ⟨h.2.1, h.2.2⟩
 case t7 => simp [e] at h; rw [← gx (by omega), ← gy (by omega)]; exact ⟨h.2.1, h.2.2⟩
mutual
theorem Lz {ts : List Int} : ∀ (s : Stmt) (d b : Nat), o8 ts d s = true → ∀ x ∈ qL b s, PtA ts x ∧ x.op ≠ 11 ∧ 0 < x.next.length
 | .mk op x y n th el, d, b, h => by
  simp only [o8] at h
  split at h
  ·rename_i hop
   simp only [Bool.and_eq_true] at h
   have hs := ET _ h.2
   have ho := Bt h.2
   simp only [Stmt.op, Stmt.x, Stmt.y, Stmt.n] at hs ho
   simp only [qL, hop.1, hop.2, if_false, List.mem_singleton]
   rintro z rfl
   exact ⟨⟨hs.n, hs.t1, hs.t2, hs.t3, hs.t4, hs.t5, hs.t6, hs.t7⟩, by dsimp only; omega, by simp⟩
  ·rename_i hop
   cases d with
   | zero => cases h
   | succ d =>
    simp only [Bool.and_eq_true, decide_eq_true_eq] at h
    obtain ⟨⟨⟨_, _⟩, h1⟩, h2⟩ := h
    by_cases h9 : op = 9
    ·subst h9
     simp only [qL, if_true, List.mem_append, List.mem_singleton]
     rintro z (((rfl | hz) | rfl) | hz)
     ·exact ⟨PtA.no (by simp), by simp, by simp⟩
     ·exact rZ th d (b + 1) h1 z hz
     ·exact ⟨PtA.no (by simp), by simp, by simp⟩
     ·exact rZ el d (b + 2 + eF th) h2 z hz
    ·have h10 : op = 10 := by omega
     subst h10
     simp only [qL, if_true, show ((10 : Int) = 9) = False by simp, if_false, List.mem_append, List.mem_singleton]
     rintro z ((rfl | hz) | rfl)
     ·exact ⟨PtA.no (by simp), by simp, by simp⟩
     ·exact rZ th d (b + 1) h1 z hz
     ·exact ⟨PtA.no (by simp), by simp, by simp⟩
theorem rZ {ts : List Int} : ∀ (l : List Stmt) (d b : Nat), okL ts d l = true → ∀ x ∈ fY b l, PtA ts x ∧ x.op ≠ 11 ∧ 0 < x.next.length
 | [], d, b, h => by simp [fY]
 | s :: l, d, b, h => by
  simp only [okL, Bool.and_eq_true] at h
  simp only [fY, List.mem_append]
  rintro x (hx | hx)
  ·exact Lz s d b h.1 x hx
  ·exact rZ l d (b + m9 s) h.2 x hx
end
structure WA (ts : List Int) (pts : List Pnt) : Prop where
 a : ∀ i, i < pts.length → PtA ts pts[i]!
 e : ∀ i, i < pts.length → (pts[i]!.op = 11 ↔ i + 1 = pts.length)
 n : ∀ i, i < pts.length → pts[i]!.op ≠ 11 → 0 < pts[i]!.next.length
theorem WA.of_valid {p : Prg} (h : cQ p = true) : WA p.types (c9 p) := by
 unfold cQ at h
 simp only [Bool.and_eq_true, decide_eq_true_eq] at h
 obtain ⟨⟨_, hl⟩, _⟩ := h
 have hlen := uF p
 have hpl := dU p.body 0
 have lo : ∀ i, i + 1 < (c9 p).length → (c9 p)[i]! ∈ fY 0 p.body := fun i hi => by
  have h1 : i < (fY 0 p.body).length := by omega
  unfold c9
  rw [cK _ _ (by rw [List.length_append]; omega), List.getElem_append_left h1]
  exact List.getElem_mem h1
 have hi : ∀ i, i + 1 = (c9 p).length → (c9 p)[i]! = ⟨11, 0, 0, 0, []⟩ := fun i hi => by
  have h1 : i = (fY 0 p.body).length := by omega
  unfold c9
  rw [cK _ _ (by rw [List.length_append, List.length_singleton]; omega)]
  simp [h1]
 refine ⟨fun i h => ?_, fun i h => ⟨fun e => ?_, fun e => by rw [hi i e]⟩, fun i h ne => ?_⟩
 ·by_cases q : i + 1 < (c9 p).length
  ·exact (rZ p.body 4 0 hl _ (lo i q)).1
  ·rw [hi i (by omega)]; exact PtA.no (by simp)
 ·by_cases q : i + 1 < (c9 p).length
  ·exact absurd e (rZ p.body 4 0 hl _ (lo i q)).2.1
  ·omega
 ·by_cases q : i + 1 < (c9 p).length
  ·exact (rZ p.body 4 0 hl _ (lo i q)).2.2
  ·exact absurd (by rw [hi i (by omega)]) ne
end Go.AL
namespace Go.AL
theorem j9 {xs : List Sl} {X : Int} (y : Sl) {v : Nat} (hX : 0 ≤ X ∧ X < xs.length) (hv : v < xs.length) : (xs.set X.toNat y)[v]! = if X = (v : Int) then y else xs[v]! := by
 rw [dS]
 by_cases h : X = (v : Int)
 ·rw [if_pos h, if_pos ⟨by omega, hv⟩]
 ·rw [if_neg h, if_neg (by omega)]
theorem fC (ts : List Int) (s : Mc) (v : Nat) (x : Sl) : (dY ts s v x).1.slots = s.slots.set v x := by
 unfold dY; split <;> rfl
theorem lG {ts : List Int} {s : Mc} {x : Pnt} (h : dH ts s x = false) {v : Nat} (hv : v < ts.length) (hu : bX ts x v ≠ 0) : s.slots[v]!.set = true := by
 unfold dH at h
 rw [List.any_eq_false] at h
 have h1 := h v (List.mem_range.2 hv)
 rw [decide_eq_true hu, Bool.true_and] at h1
 simpa using h1
theorem xH {t : Int} : D0 t = true ↔ t = 2 ∨ t = 4 := by unfold D0; simp
theorem Fc {ts : List Int} {s : Mc} {x : Pnt} (hl : s.slots.length = ts.length) (hu : dH ts s x = false) (A : PtA ts x) (hop : 1 ≤ x.op ∧ x.op ≠ 11) (hx : x.op ≤ 8 → 0 ≤ x.x ∧ x.x < ts.length) (hy : 3 ≤ x.op → x.op ≤ 7 → 0 ≤ x.y ∧ x.y < ts.length) (hgo : (dR ts s x).2 = -1) :
  ∃ y : Sl, y.set = true ∧ ∀ v, v < ts.length → (dR ts s x).1.slots[v]! = if bG x = (v : Int) then y else if bX ts x v = 2 then jX else s.slots[v]! := by
 have hk : ∀ k, lM k ≠ -1 := fun k => by rcases rG k with h | h <;> rw [h] <;> decide
 unfold dR at hgo ⊢
 by_cases h1 : x.op = 1
 ·rw [if_pos h1]
  have hxb := hx (by omega)
  refine ⟨⟨true, x.n, ⟨0, 0⟩⟩, rfl, fun v hv => ?_⟩
  rw [fC, j9 _ (by omega) (by omega)]
  have e1 : bG x = x.x := by unfold bG; rw [if_pos (by omega)]
  have e2 : bX ts x v = 0 := by unfold bX; rw [if_neg (by omega), if_neg (by omega), if_neg (by omega), if_neg (by omega)]
  rw [e1, e2]; simp
 rw [if_neg h1] at hgo ⊢
 by_cases h2 : x.op = 2
 ·rw [if_pos h2] at hgo ⊢
  have hxb := hx (by omega)
  by_cases h200 : s.cells.length = 200
  ·rw [if_pos h200] at hgo; cases hgo
  ·rw [if_neg h200]
   refine ⟨⟨true, 0, ⟨s.cells.length, 0⟩⟩, rfl, fun v hv => ?_⟩
   rw [fC]
   dsimp only
   rw [j9 _ (by omega) (by omega)]
   have e1 : bG x = x.x := by unfold bG; rw [if_pos (by omega)]
   have e2 : bX ts x v = 0 := by unfold bX; rw [if_neg (by omega), if_neg (by omega), if_neg (by omega), if_neg (by omega)]
   rw [e1, e2]; simp
 rw [if_neg h2] at hgo ⊢
 by_cases h3 : x.op = 3
 ·rw [if_pos h3]
  have hxb := hx (by omega)
  have hyb := hy (by omega) (by omega)
  have hne := (A.t3 h3).2
  have e1 : bG x = x.x := by unfold bG; rw [if_pos (by omega)]
  have hyn : ((x.y.toNat : Nat) : Int) = x.y := by omega
  have hys : s.slots[x.y.toNat]!.set = true := lG hu (v := x.y.toNat) (by omega) (by
   unfold bX; rw [if_pos h3, if_pos hyn]; split <;> decide)
  refine ⟨s.slots[x.y.toNat]!, hys, fun v hv => ?_⟩
  rw [fC]
  have e2 : bX ts x v = if (v : Int) = x.y then (if ts[x.y.toNat]! = 2 ∨ ts[x.y.toNat]! = 4 then 2 else 1) else 0 := by
   unfold bX; rw [if_pos h3]
   by_cases q : (v : Int) = x.y
   ·rw [if_pos q, if_pos q, q]
   ·rw [if_neg q, if_neg q]
  rw [e1, e2]
  by_cases ht : D0 ts[x.y.toNat]! = true
  ·rw [if_pos ht]
   dsimp only
   rw [j9 _ (by rw [List.length_set]; omega) (by rw [List.length_set]; omega), j9 _ (by omega) (by omega), if_pos (xH.1 ht)]
   by_cases q : x.x = (v : Int)
   ·rw [if_pos q, if_pos q]
   ·rw [if_neg q, if_neg q]
    by_cases q2 : x.y = (v : Int)
    ·rw [if_pos q2, if_pos q2.symm, if_pos rfl]
    ·have q3 : ¬ ((v : Int) = x.y) := fun h => q2 h.symm
     rw [if_neg q2, if_neg q3, if_neg (by decide : ¬ (0 : Int) = 2)]
  ·rw [if_neg ht, j9 _ (by omega) (by omega), if_neg (fun h => ht (xH.2 h))]
   by_cases q : x.x = (v : Int)
   ·rw [if_pos q, if_pos q]
   ·rw [if_neg q, if_neg q]
    by_cases q2 : (v : Int) = x.y
    ·rw [if_pos q2, if_neg (by decide)]
    ·rw [if_neg q2, if_neg (by decide)]
 rw [if_neg h3] at hgo ⊢
 by_cases h4 : x.op = 4 ∨ x.op = 5
 ·rw [if_pos h4] at hgo ⊢
  have hxb := hx (by omega)
  split at hgo
  ·rename_i hz
   rw [if_pos hz]
   refine ⟨⟨true, 0, CL s.cells s.slots[x.y.toNat]!.ptr (decide (x.op = 5))⟩, rfl, fun v hv => ?_⟩
   rw [fC]
   dsimp only
   rw [j9 _ (by omega) (by omega)]
   have e1 : bG x = x.x := by unfold bG; rw [if_pos (by omega)]
   have e2 : bX ts x v ≠ 2 := by unfold bX; rw [if_neg (by omega), if_pos (by omega)]; split <;> decide
   rw [e1, if_neg e2]
  ·exact absurd hgo (hk _)
 rw [if_neg h4] at hgo ⊢
 by_cases h6 : x.op = 6
 ·rw [if_pos h6] at hgo ⊢
  have hxb := hx (by omega)
  split at hgo
  ·rename_i hz
   rw [if_pos hz]
   refine ⟨⟨true, A6 s.cells s.slots[x.y.toNat]!.ptr, ⟨0, 0⟩⟩, rfl, fun v hv => ?_⟩
   rw [fC]
   dsimp only
   rw [j9 _ (by omega) (by omega)]
   have e1 : bG x = x.x := by unfold bG; rw [if_pos (by omega)]
   have e2 : bX ts x v ≠ 2 := by unfold bX; rw [if_neg (by omega), if_pos (by omega)]; split <;> decide
   rw [e1, if_neg e2]
  ·exact absurd hgo (hk _)
 rw [if_neg h6] at hgo ⊢
 have e1 : bG x = -1 := by unfold bG; rw [if_neg (by omega)]
 have e3 : ∀ v : Nat, bG x ≠ (v : Int) := fun v => by rw [e1]; omega
 by_cases h7 : x.op = 7
 ·rw [if_pos h7]
  refine ⟨⟨true, 0, ⟨0, 0⟩⟩, rfl, fun v hv => ?_⟩
  have e2 : bX ts x v ≠ 2 := by unfold bX; rw [if_neg (by omega), if_neg (by omega), if_pos h7]; split; decide; split <;> decide
  rw [if_neg (e3 v), if_neg e2]
 rw [if_neg h7]
 by_cases h8 : x.op = 8
 ·rw [if_pos h8]
  have hxb := hx (by omega)
  refine ⟨⟨true, 0, ⟨0, 0⟩⟩, rfl, fun v hv => ?_⟩
  dsimp only
  rw [if_neg (e3 v), j9 _ (by omega) (by omega)]
  have e2 : bX ts x v = if (v : Int) = x.x then 2 else 0 := by unfold bX; rw [if_neg (by omega), if_neg (by omega), if_neg (by omega), if_pos h8]
  rw [e2]
  by_cases q : x.x = (v : Int)
  ·rw [if_pos q, if_pos q.symm, if_pos rfl]
  ·have q3 : ¬ ((v : Int) = x.x) := fun h => q h.symm
   rw [if_neg q, if_neg q3, if_neg (by decide : ¬ (0 : Int) = 2)]
 ·rw [if_neg h8, if_neg hop.2]
  refine ⟨⟨true, 0, ⟨0, 0⟩⟩, rfl, fun v hv => ?_⟩
  have e2 : bX ts x v ≠ 2 := by unfold bX; rw [if_neg (by omega), if_neg (by omega), if_neg (by omega), if_neg (by omega)]; decide
  rw [if_neg (e3 v), if_neg e2]
section
variable {ts : List Int} {pts : List Pnt}
theorem WG.doS (w : WG ts pts) (A : WA ts pts) {a : Nat} (ha : a < pts.length) {s : Mc} (hl : s.slots.length = ts.length) (hu : dH ts s pts[a]! = false) (h11 : pts[a]!.op ≠ 11) (hgo : (dR ts s pts[a]!).2 = -1) :
  ∃ y : Sl, y.set = true ∧ ∀ v, v < ts.length → (dR ts s pts[a]!).1.slots[v]! = if bG pts[a]! = (v : Int) then y else if bX ts pts[a]! v = 2 then jX else s.slots[v]! :=
 Fc hl hu (A.a a ha) ⟨(w.op a ha).1, h11⟩ (fun h => ⟨(w.x a ha).1, (w.x a ha).2 h⟩) (fun h1 h2 => ⟨(w.y a ha).1, (w.y a ha).2 h1 h2⟩) hgo
theorem A3 (w : WG ts pts) (A : WA ts pts) {a : Nat} (ha : a < pts.length) (h11 : pts[a]!.op ≠ 11) (cs : List Int) : eB pts a (fP pts a cs).1 := by
 have key : ∀ j : Nat, j < pts[a]!.next.length → eB pts a (pts[a]!.next[j]!).toNat := fun j hj => by
  have hm := cA pts[a]!.next j hj
  refine ⟨ha, ?_⟩
  rw [show (((pts[a]!.next[j]!).toNat : Nat) : Int) = pts[a]!.next[j]! by have := (w.nx a ha _ hm).1; omega]
  exact hm
 have h0 := A.n a ha h11
 unfold fP
 split
 ·rename_i h2
  split
  ·exact key 1 (by omega)
  ·rename_i c cs
   exact key _ (by omega)
 ·exact key 0 h0
def LX (ts : List Int) (pts : List Pnt) (I : Nat → Mc → Prop) (r : Mc × Int × Nat) : Prop := r.2.1 = 1 ∨ ∃ s', r.2.2 < pts.length ∧ I r.2.2 s' ∧
 ((r.2.1 = 2 ∧ dH ts s' pts[r.2.2]! = true ∧ r.1 = s') ∨
  (dH ts s' pts[r.2.2]! = false ∧ (dR ts s' pts[r.2.2]!).2 ≠ -1 ∧ r.1 = (dR ts s' pts[r.2.2]!).1 ∧ r.2.1 = (dR ts s' pts[r.2.2]!).2))
theorem CQ {I : Nat → Mc → Prop} {a : Nat} {l : List Nat} {s : Mc} {last : Nat} (ha : a < pts.length) (hs : I a s)
  (hrec : dH ts s pts[a]! = false → (dR ts s pts[a]!).2 = -1 → LX ts pts I (gK ts pts l (dR ts s pts[a]!).1 a)) : LX ts pts I (gK ts pts (a :: l) s last) := by
 by_cases h1 : dH ts s pts[a]! = true
 ·have e : gK ts pts (a :: l) s last = (s, 2, a) := by unfold gK; rw [if_pos h1]
  rw [e]; exact .inr ⟨s, ha, hs, .inl ⟨rfl, h1, rfl⟩⟩
 ·have h1' : dH ts s pts[a]! = false := by simpa using h1
  by_cases h2 : (dR ts s pts[a]!).2 = -1
  ·have e : gK ts pts (a :: l) s last = gK ts pts l (dR ts s pts[a]!).1 a := by
    conv => lhs; unfold gK
    rw [if_neg h1, if_pos h2]
   rw [e]; exact hrec h1' h2
  ·have e : gK ts pts (a :: l) s last = ((dR ts s pts[a]!).1, (dR ts s pts[a]!).2, a) := by
    unfold gK; rw [if_neg h1, if_neg h2]
   rw [e]; exact .inr ⟨s, ha, hs, .inr ⟨h1', h2, rfl, rfl⟩⟩
theorem Aw {I : Nat → Mc → Prop} {a : Nat} {s : Mc} {last : Nat} (ha : a < pts.length) (hs : I a s) (h11 : pts[a]!.op = 11) : LX ts pts I (gK ts pts [a] s last) :=
 CQ ha hs fun h1 h2 => by
  rw [v7 h11] at h2
  rcases oK ts ts.length 0 s with q | q | q <;> (rw [q] at h2; cases h2)
end
end Go.AL
namespace Go.AL
section
variable {ts : List Int} {pts : List Pnt}
structure Vs (ts : List Int) (pts : List Pnt) (a : Nat) (s : Mc) : Prop where
 l : s.slots.length = ts.length
 u : ∀ v, v < ts.length → s.slots[v]!.set = false → Na ts pts (a, v)
 m : ∀ v, v < ts.length → s.slots[v]!.set = true → Mb ts pts (a, v)
theorem n6 (ts : List Int) (s : Mc) (v : Nat) (x : Sl) : (dY ts s v x).1.slots.length = s.slots.length := by rw [fC, List.length_set]
theorem wZ (ts : List Int) : ∀ n v (s : Mc), (eI ts n v s).1.slots.length = s.slots.length
 | 0, _, _ => rfl
 | n + 1, v, s => by
  unfold eI; split
  ·split
   ·rw [wZ ts n]; exact List.length_set
   ·rfl
  ·exact wZ ts n _ _
theorem KV (ts : List Int) (s : Mc) (x : Pnt) : (dR ts s x).1.slots.length = s.slots.length := by
 unfold dR
 split
 ·exact n6 _ _ _ _
 split
 ·split
  ·rfl
  ·exact n6 _ _ _ _
 split
 ·rw [n6]; split
  ·exact List.length_set
  ·rfl
 split
 ·split
  ·exact n6 _ _ _ _
  ·rfl
 split
 ·split
  ·exact n6 _ _ _ _
  ·rfl
 split
 ·rfl
 split
 ·exact List.length_set
 split
 ·exact wZ _ _ _ _
 ·rfl
theorem Vs.start : Vs ts pts 0 (mc0 ts.length) := by
 refine ⟨by simp [mc0], fun v hv _ => .base ⟨hv, .inl rfl⟩, fun v hv h => ?_⟩
 have e : (mc0 ts.length).slots[v]! = jX := by
  show (List.replicate ts.length jX)[v]! = jX
  rw [cK _ _ (by simpa using hv)]; simp
 rw [e] at h; cases h
theorem Vs.step (w : WG ts pts) (A : WA ts pts) (a : Nat) (s : Mc) (k : Nat) (ha : a < pts.length) (h11 : pts[a]!.op ≠ 11) (he : eB pts a k) (h : Vs ts pts a s) (hu : dH ts s pts[a]! = false) (hgo : (dR ts s pts[a]!).2 = -1) : Vs ts pts k (dR ts s pts[a]!).1 := by
 obtain ⟨y, hy, hs⟩ := w.doS A ha h.l hu h11 hgo
 refine ⟨by rw [KV]; exact h.l, fun v hv hf => ?_, fun v hv ht => ?_⟩
 ·rw [hs v hv] at hf
  by_cases h1 : bG pts[a]! = (v : Int)
  ·rw [if_pos h1, hy] at hf; cases hf
  ·rw [if_neg h1] at hf
   by_cases h2 : bX ts pts[a]! v = 2
   ·exact .base ⟨hv, .inr ⟨a, he, h2, h1⟩⟩
   ·rw [if_neg h2] at hf
    exact .step (a := (a, v)) (h.u v hv hf) ⟨rfl, he, h1⟩
 ·rw [hs v hv] at ht
  by_cases h1 : bG pts[a]! = (v : Int)
  ·exact .base ⟨a, he, h1⟩
  ·rw [if_neg h1] at ht
   by_cases h2 : bX ts pts[a]! v = 2
   ·rw [if_pos h2] at ht; cases ht
   ·rw [if_neg h2] at ht
    exact .step (a := (a, v)) (h.m v hv ht) ⟨rfl, he, h2⟩
theorem EO {s : Mc} {x : Pnt} (h : dH ts s x = true) : ∃ v, v < ts.length ∧ bX ts x v ≠ 0 ∧ s.slots[v]!.set = false := by
 unfold dH at h
 obtain ⟨v, hv, h2⟩ := List.any_eq_true.1 h
 rw [Bool.and_eq_true, decide_eq_true_eq] at h2
 exact ⟨v, List.mem_range.1 hv, h2.1, by simpa using h2.2⟩
end
end Go.AL
