/-
 A part of the proofs over this program: rules and contracts of its functions (the rules).
-/
import Derived.Test.YtjcpngimjdckmaaGreatQ3A04
import Derived.Laws.BytesString
import Derived.Laws.StructEq
set_option linter.unusedVariables false
set_option linter.unusedSimpArgs false
namespace Go.AL
def nL (ts : List Int) (x : Pnt) (m : Bool) : List Acc :=
 (if x.op = 4 ∨ x.op = 6 then [⟨x.y, false⟩] else if x.op = 5 then [⟨x.y, true⟩] else if x.op = 7 ∨ x.op = 8 then [⟨x.x, true⟩] else if x.op = 3 ∧ Cq ts[x.y.toNat]! = true then [⟨x.y, true⟩] else []) ++
 (if 0 ≤ bD x ∧ ts[(bD x).toNat]! = 2 ∧ m = true then [⟨bD x, true⟩] else [])
def KW (f : List Nat) (L : List Int) (a : Nat) : Nat := L.foldl (fun a v => a ||| f[v.toNat]!) a
def yR (ts : List Int) (x : Pnt) (live : Nat) (f : List Nat) : Nat := KW f (cS (nO live (wS ts x [2] ||| iF x))) 0
theorem iG (f : List Nat) (l : Nat) : ∀ (L : List Int) (a : Nat), (KW f L a).testBit l = true ↔ a.testBit l = true ∨ ∃ v ∈ L, f[v.toNat]!.testBit l = true
 | [], a => by simp [KW]
 | v :: L, a => by
  show (KW f L (a ||| f[v.toNat]!)).testBit l = true ↔ _
  rw [iG f l L, Nat.testBit_or, Bool.or_eq_true]
  simp only [List.mem_cons, exists_eq_or_imp]
  grind
def H4 (pts : List Pnt) (wr : Bool) (L : List Int) (a : Nat) : Nat := L.foldl (fun a l => if wr = true ∨ pts[l.toNat]!.op = 5 then a ||| 2 ^ l.toNat else a) a
def Hi (pts : List Pnt) (loans : Nat) (acs : List Acc) (a : Nat) : Nat := acs.foldl (fun a c => H4 pts c.write (cS (loans &&& qH pts (2 ^ c.var.toNat))) a) a
theorem qD (pts : List Pnt) (wr : Bool) (l : Nat) : ∀ (L : List Int) (a : Nat), (H4 pts wr L a).testBit l = true ↔ a.testBit l = true ∨ ((∃ z ∈ L, z.toNat = l) ∧ (wr = true ∨ pts[l]!.op = 5))
 | [], a => by simp [H4]
 | z :: L, a => by
  show (H4 pts wr L (if wr = true ∨ pts[z.toNat]!.op = 5 then a ||| 2 ^ z.toNat else a)).testBit l = true ↔ _
  rw [qD pts wr l L]
  have h2 : ∀ b : Nat, (a ||| 2 ^ b).testBit l = true ↔ a.testBit l = true ∨ b = l := by
   intro b
   rw [Nat.testBit_or, Bool.or_eq_true, Nat.testBit_two_pow, decide_eq_true_eq]
  split
  ·rename_i h
   rw [h2]
   simp only [List.mem_cons, exists_eq_or_imp]
   constructor
   ·rintro ((h1 | rfl) | ⟨h1, h3⟩)
    ·exact .inl h1
    ·exact .inr ⟨.inl rfl, h⟩
    ·exact .inr ⟨.inr h1, h3⟩
   ·rintro (h1 | ⟨rfl | h1, h3⟩)
    ·exact .inl (.inl h1)
    ·exact .inl (.inr rfl)
    ·exact .inr ⟨h1, h3⟩
  ·rename_i h
   simp only [List.mem_cons, exists_eq_or_imp]
   constructor
   ·rintro (h1 | ⟨h1, h3⟩)
    ·exact .inl h1
    ·exact .inr ⟨.inr h1, h3⟩
   ·rintro (h1 | ⟨rfl | h1, h3⟩)
    ·exact .inl h1
    ·exact absurd h3 h
    ·exact .inr ⟨h1, h3⟩
theorem kA (pts : List Pnt) (loans l : Nat) (hl : Sm loans) : ∀ (acs : List Acc) (a : Nat), (Hi pts loans acs a).testBit l = true ↔ a.testBit l = true ∨ ∃ c ∈ acs, loans.testBit l = true ∧ (qH pts (2 ^ c.var.toNat)).testBit l = true ∧ (c.write = true ∨ pts[l]!.op = 5)
 | [], a => by simp [Hi]
 | c :: acs, a => by
  show (Hi pts loans acs (H4 pts c.write (cS (loans &&& qH pts (2 ^ c.var.toNat))) a)).testBit l = true ↔ _
  rw [kA pts loans l hl acs, qD]
  have h2 : (∃ z ∈ cS (loans &&& qH pts (2 ^ c.var.toNat)), z.toNat = l) ↔ loans.testBit l = true ∧ (qH pts (2 ^ c.var.toNat)).testBit l = true := by
   constructor
   ·rintro ⟨z, hz, rfl⟩
    obtain ⟨v, h1, h3, rfl⟩ := dU.1 hz
    rw [Nat.testBit_and, Bool.and_eq_true] at h3; exact h3
   ·intro h
    have : l < 62 := eJ hl.pf h.1
    exact ⟨(l : Int), dU.2 ⟨l, this, by rw [Nat.testBit_and, h.1, h.2]; rfl, rfl⟩, rfl⟩
  rw [h2]
  simp only [List.mem_cons, exists_eq_or_imp]
  grind
end Go.AL
namespace Go.AL
theorem FC (ts : List Int) (x : Pnt) (m : Bool) : (nL ts x m).length ≤ 2 := by
 unfold nL; rw [List.length_append]
 have h1 : ∀ (c : Prop) [Decidable c] (a b : List Acc), a.length ≤ 1 → b.length ≤ 1 → (if c then a else b).length ≤ 1 := by
  intro c _ a b h h2; split <;> assumption
 have a1 := h1 (x.op = 3 ∧ Cq ts[x.y.toNat]! = true) [⟨x.y, true⟩] [] (by simp) (by simp)
 have a2 := h1 (x.op = 7 ∨ x.op = 8) [⟨x.x, true⟩] _ (by simp) a1
 have a3 := h1 (x.op = 5) [⟨x.y, true⟩] _ (by simp) a2
 have a4 := h1 (x.op = 4 ∨ x.op = 6) [⟨x.y, false⟩] _ (by simp) a3
 have a5 := h1 (0 ≤ bD x ∧ ts[(bD x).toNat]! = 2 ∧ m = true) [⟨bD x, true⟩] [] (by simp) (by simp)
 omega
theorem CW {ts : List Int} {pts : List Pnt} (m : Bool) (w : WG ts pts) {i : Nat} (hi : i < pts.length) : ∀ c ∈ nL ts pts[i]! m, 0 ≤ c.var ∧ c.var < ts.length := by
 have hst := w.set i hi
 have hx := w.x i hi
 have hy := w.y i hi
 intro c hc
 unfold nL at hc
 rw [List.mem_append] at hc
 rcases hc with hc | hc
 ·repeat' split at hc
  all_goals first
   | (rw [List.mem_singleton] at hc; subst hc; dsimp only; omega)
   | cases hc
 ·split at hc
  ·rw [List.mem_singleton] at hc; subst hc; dsimp only; omega
  ·cases hc
end Go.AL
namespace Go.AL
def Fb (i : Nat) (L : List Int) : List Iss := L.map fun v => ⟨i, 1, v⟩
def FZ (pts : List Pnt) (i : Nat) (L : List Int) : List Iss := L.map fun l => ⟨i, if pts[l.toNat]!.op = 5 then 3 else 2, l⟩
def EJ (ts : List Int) (pts : List Pnt) (Am Al Af Ap : List Nat) (i : Nat) : Nat :=
 Hi pts (yR ts pts[i]! Al[i]! (fS Af i) &&& Ap[i]!) (nL ts pts[i]! (Am[i]!.testBit (bD pts[i]!).toNat)) 0
def J0 (ts : List Int) (pts : List Pnt) (Aa Am Al Af Ap : List Nat) (i : Nat) : List Iss :=
 Fb i (cS (nO (wS ts pts[i]! [1, 2, 3]) Aa[i]!)) ++ FZ pts i (cS (EJ ts pts Am Al Af Ap i))
def DY (ts : List Int) (pts : List Pnt) (Aa Am Al Af Ap : List Nat) (k : Nat) : List Iss := (List.range k).flatMap (J0 ts pts Aa Am Al Af Ap)
theorem Ek (ts : List Int) (pts : List Pnt) (Aa Am Al Af Ap : List Nat) (k : Nat) : DY ts pts Aa Am Al Af Ap (k + 1) = DY ts pts Aa Am Al Af Ap k ++ J0 ts pts Aa Am Al Af Ap k := by
 unfold DY; rw [List.range_succ, List.flatMap_append]; simp
theorem kG {α β : Type} [Inhabited α] (g : α → β) (L : List α) (k : Nat) (h : k < L.length) : (L.take (k + 1)).map g = (L.take k).map g ++ [g L[k]!] := by
 rw [c9 _ _ h, List.map_append]; rfl
theorem CA {xs : List Iss} {m : Nat} {a b c : Int} (hm : m = xs.length) : ((aI qJ xs).drop 0).take (m * 3) ++ [iv a, iv b, iv c] = aI qJ (xs ++ [⟨a, b, c⟩]) := iC hm rfl
theorem E3 {ts : List Int} {pts : List Pnt} (w : WG ts pts) {Am Al Af Ap : List Nat} {i : Nat} (hp : Ap[i]! < 2 ^ pts.length) : EJ ts pts Am Al Af Ap i < 2 ^ pts.length := by
 have hpl := w.pl
 have hl : yR ts pts[i]! Al[i]! (fS Af i) &&& Ap[i]! < 2 ^ pts.length := Nat.and_lt_two_pow _ hp
 apply Nat.lt_pow_two_of_testBit
 intro l hl2
 unfold EJ
 cases hq : (Hi pts (yR ts pts[i]! Al[i]! (fS Af i) &&& Ap[i]!) (nL ts pts[i]! (Am[i]!.testBit (bD pts[i]!).toNat)) 0).testBit l with
 | false => rfl
 | true =>
  rw [kA _ _ _ ⟨Nat.lt_of_lt_of_le hl (Nat.pow_le_pow_right (by decide) (by omega))⟩] at hq
  rcases hq with hq | ⟨c, _, h2, _⟩
  ·simp at hq
  ·have := eJ hl h2; omega
end Go.AL
namespace Go.AL
theorem Fo {ts : List Int} {pts : List Pnt} (w : WG ts pts) {a : Nat × Nat} (h : Mb ts pts a) : a.2 < ts.length := by
 induction h with
 | base h => obtain ⟨i, e, h2⟩ := h; have := (w.set i e.1).1; omega
 | step _ r ih => rw [r.1]; exact ih
end Go.AL
namespace Go.AL
open Go.RowKit
set_option linter.unusedVariables false
section
variable {P : Program} {N : Nat} {Q : Exit → AS → Prop} {all : Array Oper} {rest : List Oper} {ts : List (Nat × AV)} {hs : List (Nat × Option (List AV))} {n : Nat} {z0 : Lo} {md : Md}
variable {d : Nat} {ty : TypeId} {pos : String} {af : Array Edge}
theorem lO {fn : Go.Fn} {t i : Nat} {cs : List AV} (hx : lk ts t = some (.optr i 0)) (hH : cE hs i = some cs) (hN : Nat.blt d N = true)
  (kk : RW P N all Q .txt rest ⟨(d, .clos fn [] [.iptr cs]) :: (t, .iptr cs) :: ts, (i, none) :: hs, n, z0⟩) : RW P N all Q .txt (⟨some d, .makeFunc fn #[] #[.tmp t], ty, pos, af, none⟩ :: rest) ⟨ts, hs, n, z0⟩ :=
 kI (gN (f := []) (c := [.iptr cs]) rfl (by show evL _ [Operand.tmp t] = _; simp [evL, ev, m3]) hN (md' := .txt) kk) (Le.frzP hx hH)
end
end Go.AL
namespace Go.AL
structure Flows (ts : List Int) (pts : List Pnt) where
 Aa : List Nat
 Am : List Nat
 An : List Nat
 Al : List Nat
 Af : List Nat
 Ap : List Nat
 ga : sD ts pts Aa
 gm : sU ts pts Am
 gn : sF ts pts An
 gl : wE ts pts Al
 gf : vM ts pts Af
 gp : vD ts pts Ap
theorem mW (n m : Nat) (T : Nat → Nat → Prop) (h : ∀ i v, i < n → T i v → v < m) : ∃ A : List Nat, A.length = n ∧ ∀ i, i < n → ∀ v, A[i]!.testBit v = true ↔ T i v := by
 have key : ∀ i : Nat, ∃ f : Nat → Bool, ∀ v, f v = true ↔ T i v := fun i => by
  have : ∀ v, ∃ b : Bool, b = true ↔ T i v := fun v => by
   by_cases hT : T i v
   ·exact ⟨true, by simp [hT]⟩
   ·exact ⟨false, by simp [hT]⟩
  exact ⟨fun v => Classical.choose (this v), fun v => Classical.choose_spec (this v)⟩
 refine ⟨(List.range n).map (fun i => fN (Classical.choose (key i)) m), by simp, fun i hi v => ?_⟩
 rw [cL _ _ (by simpa using hi), List.getElem_map, List.getElem_range, fQ, Bool.and_eq_true, decide_eq_true_eq, Classical.choose_spec (key i) v]
 exact ⟨fun h2 => h2.2, fun h2 => ⟨h i v hi h2, h2⟩⟩
theorem Flows.ex {ts : List Int} {pts : List Pnt} (w : WG ts pts) : Nonempty (Flows ts pts) := by
 obtain ⟨Aa, a1, a2⟩ := mW pts.length ts.length (fun i v => v < ts.length ∧ ¬ Na ts pts (i, v)) (fun i v _ h => h.1)
 obtain ⟨Am, b1, b2⟩ := mW pts.length ts.length (fun i v => Mb ts pts (i, v)) (fun i v _ h => Fo w h)
 obtain ⟨An, c1, c2⟩ := mW pts.length ts.length (fun i v => Nd ts pts (i, v)) (fun i v _ h => rS w h)
 obtain ⟨Al, d1, d2⟩ := mW pts.length ts.length (fun i v => Lv ts pts i v) (fun i v _ h => by obtain ⟨k, _, h⟩ := h; exact rS w h)
 obtain ⟨Ap, e1, e2⟩ := mW pts.length pts.length (fun i l => JQ ts pts (i, l)) (fun i v _ h => (vJ h).1)
 obtain ⟨Af, f1, f2⟩ := mW (pts.length * 6) pts.length (fun q l => Ja ts pts (q / 6, q % 6, l)) (fun q v _ h => (AX w h).2.2)
 refine ⟨⟨Aa, Am, An, Al, Af, Ap, ⟨a1, a2⟩, ⟨b1, b2⟩, ⟨c1, c2⟩, ⟨d1, d2⟩, ⟨f1, fun i v hi hv l => ?_⟩, ⟨e1, e2⟩⟩⟩
 rw [f2 (i * 6 + v) (by omega) l, show (i * 6 + v) / 6 = i by omega, show (i * 6 + v) % 6 = v by omega]
def Flows.iss {ts : List Int} {pts : List Pnt} (f : Flows ts pts) : List Iss := DY ts pts f.Aa f.Am f.Al f.Af f.Ap pts.length
end Go.AL
namespace Go.AL
open Go.RowKit
set_option linter.unusedVariables false
class BoT (P : Program) (t : Nat) : Prop where pf : P.underlying t = some .bool
theorem CS {P : Program} {t : TypeId} (h : P.underlying t = some .bool) (a b : Bool) (w : World) : (Op.equal t (.bool a) (.bool b)).run P w = .ok (decide (a = b)) w := by
 have e : ∀ d : Nat, (Op.equalIn (d + 1) t (.bool a) (.bool b)).run P w = .ok (a == b) w := fun d => by
  simp [Op.equalIn, run_underlying h]
 have : (a == b) = decide (a = b) := by cases a <;> cases b <;> rfl
 rw [← this]; exact e 9999
def KQ (op : BinOp) (a b : Bool) : Option Value :=
 match op with
 | .eql => some (.bool (decide (a = b)))
 | .neq => some (.bool (!decide (a = b)))
 | _ => none
section
variable {P : Program} {C : Ctx} {ι : Pl} {T : Nat → Option AV} {H : Nat → Option (List AV)} {a : Act} {w : World} {o : Oper}
theorem Hr (g : TG C ι T H a w) {op : BinOp} {t t' : TypeId} {x y : Operand} {m n : Bool} {v : Value} (ht : P.underlying t = some .bool) (ho : o.op = .binOp op t x y t')
  (hx : ev T x = some (.v (.bool m))) (hy : ev T y = some (.v (.bool n))) (h : KQ op m n = some v) : Pu P C ι H a w o (.v v) := by
 have h1 := dE g hx
 have h2 := dE g hy
 simp only [Rd] at h1 h2
 refine ⟨v, ?_, by simp [Rd]⟩
 have hg : (eqGuard op t x y (.bool m) (.bool n)).run P w = .ok () w := by
  unfold eqGuard
  cases op <;> simp
 have hb : (binOp op t (.bool m) (.bool n)).run P w = .ok v w := by
  cases op <;> simp only [KQ] at h <;> cases h
  ·simp [binOp, CS (P := P) ht]
  ·simp [binOp, CS (P := P) ht]
 simp only [execOp, ho, h1, h2, Sem.run_bind, hg, Result.andThen_ok, hb, Sem.run_pure]
end
section
variable {P : Program} {N : Nat} {Q : Exit → AS → Prop} {all : Array Oper} {rest : List Oper} {ts : List (Nat × AV)} {hs : List (Nat × Option (List AV))} {n : Nat} {z0 : Lo} {md : Md}
variable {d : Nat} {ty : TypeId} {pos : String} {af : Array Edge}
theorem qW {op : BinOp} {t t' : TypeId} {x y : Operand} {m m' : Bool} {v : Value} [ht : BoT P t] (hx : ev (lk ts) x = some (.v (.bool m))) (hy : ev (lk ts) y = some (.v (.bool m')))
  (h : KQ op m m' = some v) (hN : Nat.blt d N = true) {md' : Md} [hmd : MdA md (rO x ++ rO y) [.inl d] md'] (kk : RW P N all Q md' rest ⟨(d, .v v) :: ts, hs, n, z0⟩) : RW P N all Q md (⟨some d, .binOp op t x y t', ty, pos, af, none⟩ :: rest) ⟨ts, hs, n, z0⟩ :=
 eY rfl rfl (eG hN) (fun C ι F T H a w ag g gh => Hr g ht.pf rfl (ag.l.ev.trans hx) (ag.r.ev.trans hy) h) (by rw [hmd.pf]; exact kk)
end
theorem sC {α : Type} {f : α → List AV} {e m : Nat} [h : FlT f e] {ys : List α} {H : Nat → Option (List AV)} (hm : m = ys.length) : sCells H e (pU (.imm m (aI f ys))) = some (m, aI f ys) := by
 subst hm
 have hl : (aI f ys).length = ys.length * e := aU f ys
 show (if ys.length * e ≤ (aI f ys).length then some (ys.length, (aI f ys).take (ys.length * e)) else none) = _
 rw [if_pos (by omega), List.take_of_length_le (by omega)]
theorem kH {α : Type} {f : α → List AV} {ys : List α} {e m : Nat} {L : List AV} (h : m = 0) : (((List.replicate 0 L).flatten).drop 0).take (m * e) ++ aI f ys = aI f ys := by subst h; simp
theorem Le.cells {ts : List (Nat × AV)} {hs : List (Nat × Option (List AV))} {n : Nat} {z0 : Lo} {i : Nat} {cs cs' : List AV} (hi : cE hs i = some cs) (hl : cs'.length = cs.length)
  (h : ∀ (w : World) (bad : Nat → Prop) (ι : Pl) (b β : Nat), RdC w bad ι cs b β → RdC w bad ι cs' b β) :
  Le ⟨ts, hs, n, z0⟩ ⟨ts, (i, some cs') :: hs, n, z0⟩ := by
 rintro C a w ⟨h0, ι, g, gh⟩
 have hk : ∀ id c, cE ((i, some cs') :: hs) id = some c → (id = i ∧ c = cs') ∨ (id ≠ i ∧ cE hs id = some c) := by
  intro id c hc
  rw [gG] at hc
  split at hc
  ·rename_i e; cases hc; exact .inl ⟨e, rfl⟩
  ·rename_i e; exact .inr ⟨fun h => e h, hc⟩
 have hk2 : ∀ id c, cE hs id = some c → ∃ c', cE ((i, some cs') :: hs) id = some c' := by
  intro id c hc
  rw [gG]
  split
  ·exact ⟨_, rfl⟩
  ·exact ⟨_, hc⟩
 have hb : a8 C.X ι (cE ((i, some cs') :: hs)) = a8 C.X ι (cE hs) := by
  funext b
  refine propext ⟨?_, ?_⟩
  ·rintro (h | ⟨id, c, β, h1, h2⟩)
   ·exact .inl h
   ·rcases hk id c h1 with ⟨rfl, _⟩ | ⟨_, h3⟩
    ·exact .inr ⟨_, _, _, hi, h2⟩
    ·exact .inr ⟨_, _, _, h3, h2⟩
  ·rintro (h | ⟨id, c, β, h1, h2⟩)
   ·exact .inl h
   ·obtain ⟨c', h3⟩ := hk2 id c h1
    exact .inr ⟨_, _, _, h3, h2⟩
 refine ⟨h0, ι, ⟨g.df, g.sz, fun t av ht => ?_⟩, ?_, ?_, gh.fr, gh.ex, gh.fresh⟩
 ·show ∃ y, a.tmps[t]? = some y ∧ Rd w (a8 C.X ι (cE ((i, some cs') :: hs))) ι av y
  rw [hb]; exact g.tm t av ht
 ·intro id c hc
  show _ ∨ ∃ b β arr e, ι id = some (some (b, β)) ∧ w.heap[b]? = some (.cells arr e (0, 0)) ∧ β + c.length ≤ arr.size ∧ RdC w (a8 C.X ι (cE ((i, some cs') :: hs))) ι c b β ∧ ¬ C.X b ∧ (C.W0 b ∨ C.w0.heap.size ≤ b)
  rw [hb]
  rcases hk id c hc with ⟨rfl, rfl⟩ | ⟨_, h3⟩
  ·rcases gh.obj _ _ hi with ⟨q1, q2⟩ | ⟨b, β, arr, e, q1, q2, q3, q4, q5⟩
   ·subst q2
    exact .inl ⟨q1, List.eq_nil_of_length_eq_zero hl⟩
   ·exact .inr ⟨b, β, arr, e, q1, q2, by rw [hl]; exact q3, h _ _ _ _ _ q4, q5⟩
  ·exact gh.obj _ _ h3
 ·intro id id' c c' b β β' h1 h2 h3 h4
  obtain ⟨d1, e1⟩ : ∃ d, cE hs id = some d := by
   rcases hk id c h1 with ⟨rfl, _⟩ | ⟨_, h⟩
   ·exact ⟨_, hi⟩
   ·exact ⟨_, h⟩
  obtain ⟨d2, e2⟩ : ∃ d, cE hs id' = some d := by
   rcases hk id' c' h2 with ⟨rfl, _⟩ | ⟨_, h⟩
   ·exact ⟨_, hi⟩
   ·exact ⟨_, h⟩
  exact gh.sep id id' d1 d2 b β β' e1 e2 h3 h4
end Go.AL
namespace Go.AL
theorem G2 {α : Type} [Inhabited α] (xs : List α) (i : Nat) : xs[i]! = if h : i < xs.length then xs[i] else default := by
 split
 ·rw [cL _ _ ‹_›]
 ·rw [getElem!_neg xs i ‹_›]
theorem c8 {α : Type} [Inhabited α] (xs : List α) (i j : Nat) (x : α) : (xs.set i x)[j]! = if i = j ∧ j < xs.length then x else xs[j]! := by
 by_cases hj : j < xs.length
 ·rw [cL _ _ (by simpa using hj), List.getElem_set, cL _ _ hj]; grind
 ·rw [getElem!_neg (xs.set i x) j (by simpa using hj), getElem!_neg xs j hj, if_neg (by omega)]
theorem GH {α : Type} [Inhabited α] (f : Nat → α) (n i : Nat) (h : i < n) : (((List.range n).map f : List α))[i]! = f i := by
 rw [cL _ i (by simpa using h)]; simp
end Go.AL
namespace Go.AL
theorem HO {α : Type} [Inhabited α] (xs ys : List α) (i : Nat) : (xs ++ ys)[i]! = if i < xs.length then xs[i]! else ys[i - xs.length]! := by
 by_cases h : i < xs.length
 ·rw [if_pos h, cL _ i (by simp; omega), cL _ i h, List.getElem_append_left h]
 ·rw [if_neg h]
  by_cases h2 : i - xs.length < ys.length
  ·rw [cL (xs ++ ys) i (by simp; omega), cL _ _ h2, List.getElem_append_right (by omega)]
  ·rw [getElem!_neg (xs ++ ys) i (by simp; omega), getElem!_neg ys _ h2]
end Go.AL
namespace Go.AL
open Go.RowKit
set_option linter.unusedVariables false
set_option linter.unusedSimpArgs false
section
variable {P : Program} {N : Nat} {Q : Exit → AS → Prop} {all : Array Oper} {rest : List Oper} {ts : List (Nat × AV)} {hs : List (Nat × Option (List AV))} {n : Nat} {z0 : Lo} {md : Md}
variable {d : Nat} {ty : TypeId} {pos : String} {af : Array Edge}
def Stop (p : Prop) : Prop := p
theorem dG {op : Op} {g : Option (Nat × Bool)} (h : Stop (RW P N all Q md (⟨some d, op, ty, pos, af, g⟩ :: rest) ⟨ts, hs, n, z0⟩)) : RW P N all Q md (⟨some d, op, ty, pos, af, g⟩ :: rest) ⟨ts, hs, n, z0⟩ := h
theorem fA {l : List Oper} {s : AS} (h : RW P N all Q md l s) : Stop (RW P N all Q md l s) := h
theorem B4 {t el : TypeId} {x : Operand} {lo : Option Operand} {i o m e l : Nat} [ht : SlT P t el] [he : SzT P el e] (hx : ev (lk ts) x = some (.own i o m e))
  (hl : g6 (lk ts) lo 0 = some l) (hb : l ≤ m) (hN : Nat.blt d N = true) {md' : Md} [hmd : MdA md (rO x ++ (rB lo ++ rB none)) [.inl d] md'] (kk : RW P N all Q md' rest ⟨(d, .own i (o + l * e) (m - l) e) :: ts, hs, n, z0⟩) :
  RW P N all Q md (⟨some d, .slice t x lo none none, ty, pos, af, none⟩ :: rest) ⟨ts, hs, n, z0⟩ :=
 iH (m := m) (h := m) hx rfl hl rfl (by simp [J2, hb]) hN (md' := md') (hmd := hmd) kk
end
end Go.AL
namespace Go.AL
def Mm (pts : List Pnt) (v : Int) (pl : List Bool) : List Bool := (List.range pl.length).map fun (l : Nat) => pl[l]! && !(eD pts[l]! && decide (pts[l]!.y = v))
end Go.AL
namespace Go.AL
open Go.RowKit
set_option linter.unusedVariables false
set_option linter.unusedSimpArgs false
section
variable {P : Program} {N : Nat} {Q : Exit → AS → Prop} {all : Array Oper} {rest : List Oper} {ts : List (Nat × AV)} {hs : List (Nat × Option (List AV))} {n : Nat} {z0 : Lo} {md : Md}
variable {d : Nat} {ty : TypeId} {pos : String} {af : Array Edge}
theorem F1 {xs : List Bool} {q : Nat} (h : q < xs.length) : (aI cB xs).drop q = .v (.bool xs[q]!) :: aI cB (xs.drop (q + 1)) := by
 have := fV cB (e := 1) xs q h
 rw [Nat.mul_one] at this; rw [this]; rfl
end
mutual
inductive Ld (D : List Nat) (H : Nat → Option (List AV)) : AV → AV → Prop
 | pur {v : AV} : v.pur = true → Ld D H v v
 | own {id m e : Nat} {cs cs' : List AV} : id ∈ D → H id = some cs → LdL D H cs cs' → Ld D H (.own id 0 m e) (.imm m cs')
 | optr {id : Nat} {cs cs' : List AV} : id ∈ D → H id = some cs → LdL D H cs cs' → Ld D H (.optr id 0) (.iptr cs')
 | imm {m : Nat} {cs cs' : List AV} : LdL D H cs cs' → Ld D H (.imm m cs) (.imm m cs')
 | agg {cs cs' : List AV} : LdL D H cs cs' → Ld D H (.agg cs) (.agg cs')
inductive LdL (D : List Nat) (H : Nat → Option (List AV)) : List AV → List AV → Prop
 | pur {v : List AV} : dD v = true → LdL D H v v
 | nil : LdL D H [] []
 | cons {c c' : AV} {cs cs' : List AV} : Ld D H c c' → LdL D H cs cs' → LdL D H (c :: cs) (c' :: cs')
end
mutual
theorem Ld.agr {D : List Nat} {H H' : Nat → Option (List AV)} (h : ∀ id ∈ D, H id = H' id) : ∀ {v v' : AV}, Ld D H v v' → Ld D H' v v'
 | _, _, .pur hp => .pur hp
 | _, _, .own h1 h2 h3 => .own h1 (by rw [← h _ h1]; exact h2) (LdL.agr h h3)
 | _, _, .optr h1 h2 h3 => .optr h1 (by rw [← h _ h1]; exact h2) (LdL.agr h h3)
 | _, _, .imm h3 => .imm (LdL.agr h h3)
 | _, _, .agg h3 => .agg (LdL.agr h h3)
theorem LdL.agr {D : List Nat} {H H' : Nat → Option (List AV)} (h : ∀ id ∈ D, H id = H' id) : ∀ {v v' : List AV}, LdL D H v v' → LdL D H' v v'
 | _, _, .pur hp => .pur hp
 | _, _, .nil => .nil
 | _, _, .cons h1 h2 => .cons (Ld.agr h h1) (LdL.agr h h2)
end
theorem LdL.len {D : List Nat} {H : Nat → Option (List AV)} : ∀ {v v' : List AV}, LdL D H v v' → v.length = v'.length
 | _, _, .pur hp => rfl
 | _, _, .nil => rfl
 | _, _, .cons h1 h2 => by simp [LdL.len h2]
mutual
theorem Ld.ok {C : Ctx} {ι : Pl} {F : Nat → Prop} {D : List Nat} {H : Nat → Option (List AV)} {w : World} (g : HG C ι F H w) : ∀ {v v' : AV}, Ld D H v v' → ∀ {y : Value}, Rd w (a8 C.X ι H) ι v y → Rd w C.X (fun _ => none) v' y
 | _, _, .pur hp, y, k => Rd.pur _ y hp (Rd.carry (⟨fun b o x h1 h2 => ⟨fun q => h1 (.inl q), h2⟩, fun _ _ h => h, fun _ => Nat.le_refl _⟩ : Carry w (a8 C.X ι H) ι w C.X ι) _ _ k)
 | _, _, .own (id := id) (m := m) h1 h2 h3, y, k => by
  have hlen := LdL.len h3
  simp only [Rd] at k ⊢
  rcases k with ⟨_, rfl, a, rfl⟩ | ⟨b, β, c, q1, rfl, q2, q3⟩
  ·exact ⟨a, 0, rfl, .inl rfl⟩
  ·rcases g.obj id _ h2 with ⟨p1, _⟩ | ⟨b', β', arr, e', p1, p2, p3, p4, p5, p6⟩
   ·rw [p1] at q1; cases q1
   ·rw [p1] at q1; cases q1
    exact ⟨_, c, rfl, .inr ⟨b, β + 0, q2, rfl, .inr ⟨p5, LdL.okC g h3 p4⟩⟩⟩
 | _, _, .optr (id := id) h1 h2 h3, y, k => by
  simp only [Rd] at k ⊢
  obtain ⟨b, β, q1, rfl⟩ := k
  rcases g.obj id _ h2 with ⟨p1, _⟩ | ⟨b', β', arr, e', p1, p2, p3, p4, p5, p6⟩
  ·rw [p1] at q1; cases q1
  ·rw [p1] at q1; cases q1
   exact ⟨b, β + 0, rfl, .inr ⟨p5, LdL.okC g h3 p4⟩⟩
 | _, _, .imm (cs := cs) (cs' := cs') h3, y, k => by
  have hlen := LdL.len h3
  simp only [Rd] at k ⊢
  obtain ⟨a, c, rfl, k⟩ := k
  refine ⟨a, c, rfl, ?_⟩
  rcases k with k | ⟨b, o, hn, rfl, k⟩
  ·exact .inl k
  ·refine .inr ⟨b, o, hn, rfl, ?_⟩
   rcases k with k | ⟨hb, k⟩
   ·subst k; exact .inl (List.eq_nil_of_length_eq_zero (by rw [← hlen]; rfl))
   ·exact .inr ⟨fun q => hb (.inl q), LdL.okC g h3 k⟩
 | _, _, .agg h3, y, k => by
  simp only [Rd] at k ⊢
  obtain ⟨l, h1, h2⟩ := k
  exact ⟨l, h1, LdL.okL g h3 h2⟩
theorem LdL.okC {C : Ctx} {ι : Pl} {F : Nat → Prop} {D : List Nat} {H : Nat → Option (List AV)} {w : World} (g : HG C ι F H w) : ∀ {v v' : List AV}, LdL D H v v' → ∀ {b o : Nat}, RdC w (a8 C.X ι H) ι v b o → RdC w C.X (fun _ => none) v' b o
 | _, _, .pur hp, b, o, k => RdC.pur _ b o hp (RdC.carryB (⟨fun b o x h1 h2 => ⟨fun q => h1 (.inl q), h2⟩, fun _ _ h => h, fun _ => Nat.le_refl _⟩ : Carry w (a8 C.X ι H) ι w C.X ι) _ _ _ (fun o x hx => hx) k)
 | _, _, .nil, b, o, k => by simp only [RdC]
 | _, _, .cons h1 h2, b, o, k => by
  simp only [RdC] at k ⊢
  obtain ⟨⟨x, q1, q2, q3⟩, q4⟩ := k
  exact ⟨⟨x, q1, q2, Ld.ok g h1 q3⟩, LdL.okC g h2 q4⟩
theorem LdL.okL {C : Ctx} {ι : Pl} {F : Nat → Prop} {D : List Nat} {H : Nat → Option (List AV)} {w : World} (g : HG C ι F H w) : ∀ {v v' : List AV}, LdL D H v v' → ∀ {y : List Value}, RdL w (a8 C.X ι H) ι v y → RdL w C.X (fun _ => none) v' y
 | _, _, .pur hp, y, k => RdL.pur _ y hp (RdL.carry (⟨fun b o x h1 h2 => ⟨fun q => h1 (.inl q), h2⟩, fun _ _ h => h, fun _ => Nat.le_refl _⟩ : Carry w (a8 C.X ι H) ι w C.X ι) _ _ k)
 | _, _, .nil, y, k => by simpa only [RdL] using k
 | _, _, .cons h1 h2, y, k => by
  simp only [RdL] at k ⊢
  obtain ⟨x, l', q0, q1, q2, q3⟩ := k
  exact ⟨x, l', q0, q1, Ld.ok g h1 q2, LdL.okL g h2 q3⟩
end
theorem LdL.okV {C : Ctx} {ι : Pl} {F : Nat → Prop} {D : List Nat} {H : Nat → Option (List AV)} {w : World} (g : HG C ι F H w) : ∀ {v v' : List AV}, LdL D H v v' → ∀ {y : List Value}, RdV w (a8 C.X ι H) ι v y → RdV w C.X (fun _ => none) v' y
 | _, _, .pur hp, y, k => RdV.pur _ y hp (RdV.carry (⟨fun b o x h1 h2 => ⟨fun q => h1 (.inl q), h2⟩, fun _ _ h => h, fun _ => Nat.le_refl _⟩ : Carry w (a8 C.X ι H) ι w C.X ι) _ _ k)
 | _, _, .nil, y, k => by simpa only [RdV] using k
 | _, _, .cons h1 h2, y, k => by
  simp only [RdV] at k ⊢
  obtain ⟨x, l', q0, q2, q3⟩ := k
  exact ⟨x, l', q0, Ld.ok g h1 q2, LdL.okV g h2 q3⟩
section
variable {P : Program} {N : Nat} {Q : Exit → AS → Prop} {all : Array Oper} {rest : List Oper} {ts : List (Nat × AV)} {hs : List (Nat × Option (List AV))} {n : Nat} {z0 : Lo} {md : Md}
variable {d : Nat} {ty : TypeId} {pos : String} {af : Array Edge}
theorem oH {k : FuncId} {args : Array Operand} {tys : Array TypeId} {avs avs2 : List AV} {r : AV} (D : List Nat) [hc : CaT P k] (ha : evL (lk ts) args.toList = some avs) (hl : LdL D (cE hs) avs avs2) (h : PC P k avs2 (fun x => x = r)) (hfr : r.free = true) (hN : Nat.blt d N = true)
  {md' : Md} [hmd : MdA md (gS args.toList ++ D.map .inr) [.inl d] md'] (kk : RW P N all Q md' rest ⟨(d, r) :: ts, hs, n, z0⟩) : RW P N all Q md (⟨some d, .call ⟨.value (.func k), args, tys⟩, ty, pos, af, none⟩ :: rest) ⟨ts, hs, n, z0⟩ := by
 refine j4 (rs := gS args.toList ++ D.map .inr) (ws := []) (n' := n) (out := r) rfl (Nat.le_refl _) (.inl rfl) (fun C ι F T H a w K Q' hCN ag hF g gh hK => ?_) (fun x hx => by cases hx; exact eG hN) (by rw [← hmd.pf] at kk; exact kk)
 simp only [Oper.wp, jF hc.pf, Oper.upon]
 have hl' : LdL D H avs avs2 := hl.agr fun id hid => (ag.r.h id (List.mem_map_of_mem hid)).symm
 have hv := hl'.okV gh (jK g (ag.l.evL.trans ha))
 let C' : Ctx := { N := 0, w0 := w, W0 := fun _ => False, X := C.X, ι0 := fun _ => none, xlt := fun b hb => Nat.lt_of_lt_of_le (C.xlt b hb) gh.fr.size }
 have hbad : ∀ b, a8 C'.X (fun _ => none) (cE []) b ↔ C.X b := fun b => ⟨fun h => (by rcases h with h | ⟨id, cs, β, h1, h2⟩ <;> first | exact h | cases h2), fun h => Or.inl h⟩
 have g' : HG C' (fun _ => none) (fun j => 0 ≤ j) (cE []) w :=
  ⟨fun id cs h => by simp [cE] at h, fun id id' cs cs' b β β' h => by simp [cE] at h, Fr.refl _ _, fun _ _ h => h, fun _ _ => rfl⟩
 have hcar : Carry w C.X (fun _ => none) w (a8 C'.X (fun _ => none) (cE [])) (fun _ => none) := ⟨fun b o x h1 h2 => ⟨fun h => h1 ((hbad b).1 h), h2⟩, fun _ _ h => h, fun _ => Nat.le_refl _⟩
 refine (h C' _ w _ rfl rfl g' (RdV.carry hcar _ _ hv)).mono ?_
 rintro e w' ⟨v, r', H', ι', rfl, ⟨rfl, _⟩, h4, h5⟩
 obtain ⟨g2, c2⟩ := gh.ext h5.fr
 exact hK ι w' v (g.carry c2) (g2.less (fun _ _ h => h) (fun j hj => hj.1)).1 (Rd.free _ _ hfr h4)
end
end Go.AL
namespace Go.AL
open Go.RowKit
set_option linter.unusedVariables false
set_option linter.unusedSimpArgs false
theorem RnL.app {ρ : Nat → Option Nat} : ∀ {a a' b b' : List AV}, RnL ρ a a' → RnL ρ b b' → RnL ρ (a ++ b) (a' ++ b')
 | [], a', b, b', ha, hb => by
  have := ha.len
  cases a' with
  | nil => exact hb
  | cons _ _ => simp at this
 | c :: cs, _, b, b', .pur hp, hb => by
  simp only [dD, Bool.and_eq_true] at hp
  exact .cons (.pur hp.1) (RnL.app (.pur hp.2) hb)
 | c :: cs, _, b, b', .cons h1 h2, hb => .cons h1 (RnL.app h2 hb)
end Go.AL
namespace Go.AL
open Go.RowKit
attribute [local irreducible] fD
set_option linter.unusedVariables false
set_option linter.unusedSimpArgs false
end Go.AL
namespace Go.AL
open Go.RowKit
set_option linter.unusedVariables false
set_option linter.unusedSimpArgs false
theorem Le.virt {ts : List (Nat × AV)} {hs : List (Nat × Option (List AV))} {n : Nat} {z0 : Lo} (hn : n < fD) : Le ⟨ts, hs, n, z0⟩ ⟨ts, (n, some []) :: hs, n + 1, z0⟩ := by
 rintro C a w ⟨h0, ι, g, gh⟩
 obtain ⟨g1, c1⟩ := gh.virt (id := n) ⟨Nat.le_refl _, .inl hn⟩
 have e : cE ((n, some []) :: hs) = fI (cE hs) n (some []) := A5 _ _ _
 refine ⟨h0, fI ι n (some none), ?_, ?_⟩
 ·show TG C _ (lk ts) (cE ((n, some []) :: hs)) a w
  rw [e]; exact g.carry c1
 ·show HG C _ _ (cE ((n, some []) :: hs)) w
  rw [e]
  refine (g1.less (fun _ _ h => h) (fun j hj => ?_)).1
  have h1 : n + 1 ≤ j := hj.1
  exact ⟨⟨by show n ≤ j; omega, hj.2⟩, by omega⟩
theorem Le.cellsN {ts : List (Nat × AV)} {hs : List (Nat × Option (List AV))} {n : Nat} {z0 : Lo} {i q : Nat} {cs cs' cq : List AV} (hi : cE hs i = some cs) (hq : cE hs q = some cq) (hl : cs'.length = cs.length)
  (h : ∀ (w : World) (bad : Nat → Prop) (ι : Pl) (b β : Nat), (∃ p, ι q = some p) → RdC w bad ι cs b β → RdC w bad ι cs' b β) :
  Le ⟨ts, hs, n, z0⟩ ⟨ts, (i, some cs') :: hs, n, z0⟩ := by
 rintro C a w ⟨h0, ι, g, gh⟩
 have hqq : ∃ p, ι q = some p := by
  rcases gh.obj q cq hq with ⟨p1, _⟩ | ⟨_, _, _, _, p1, _⟩ <;> exact ⟨_, p1⟩
 have hk : ∀ id c, cE ((i, some cs') :: hs) id = some c → (id = i ∧ c = cs') ∨ (id ≠ i ∧ cE hs id = some c) := by
  intro id c hc
  rw [gG] at hc
  split at hc
  ·rename_i e; cases hc; exact .inl ⟨e, rfl⟩
  ·rename_i e; exact .inr ⟨fun h => e h, hc⟩
 have hk2 : ∀ id c, cE hs id = some c → ∃ c', cE ((i, some cs') :: hs) id = some c' := by
  intro id c hc
  rw [gG]
  split
  ·exact ⟨_, rfl⟩
  ·exact ⟨_, hc⟩
 have hb : a8 C.X ι (cE ((i, some cs') :: hs)) = a8 C.X ι (cE hs) := by
  funext b
  refine propext ⟨?_, ?_⟩
  ·rintro (h | ⟨id, c, β, h1, h2⟩)
   ·exact .inl h
   ·rcases hk id c h1 with ⟨rfl, _⟩ | ⟨_, h3⟩
    ·exact .inr ⟨_, _, _, hi, h2⟩
    ·exact .inr ⟨_, _, _, h3, h2⟩
  ·rintro (h | ⟨id, c, β, h1, h2⟩)
   ·exact .inl h
   ·obtain ⟨c', h3⟩ := hk2 id c h1
    exact .inr ⟨_, _, _, h3, h2⟩
 refine ⟨h0, ι, ⟨g.df, g.sz, fun t av ht => ?_⟩, ?_, ?_, gh.fr, gh.ex, gh.fresh⟩
 ·show ∃ y, a.tmps[t]? = some y ∧ Rd w (a8 C.X ι (cE ((i, some cs') :: hs))) ι av y
  rw [hb]; exact g.tm t av ht
 ·intro id c hc
  show _ ∨ ∃ b β arr e, ι id = some (some (b, β)) ∧ w.heap[b]? = some (.cells arr e (0, 0)) ∧ β + c.length ≤ arr.size ∧ RdC w (a8 C.X ι (cE ((i, some cs') :: hs))) ι c b β ∧ ¬ C.X b ∧ (C.W0 b ∨ C.w0.heap.size ≤ b)
  rw [hb]
  rcases hk id c hc with ⟨rfl, rfl⟩ | ⟨_, h3⟩
  ·rcases gh.obj _ _ hi with ⟨q1, q2⟩ | ⟨b, β, arr, e, q1, q2, q3, q4, q5⟩
   ·subst q2
    exact .inl ⟨q1, List.eq_nil_of_length_eq_zero hl⟩
   ·exact .inr ⟨b, β, arr, e, q1, q2, by rw [hl]; exact q3, h _ _ _ _ _ hqq q4, q5⟩
  ·exact gh.obj _ _ h3
 ·intro id id' c c' b β β' h1 h2 h3 h4
  obtain ⟨d1, e1⟩ : ∃ d, cE hs id = some d := by
   rcases hk id c h1 with ⟨rfl, _⟩ | ⟨_, h⟩
   ·exact ⟨_, hi⟩
   ·exact ⟨_, h⟩
  obtain ⟨d2, e2⟩ : ∃ d, cE hs id' = some d := by
   rcases hk id' c' h2 with ⟨rfl, _⟩ | ⟨_, h⟩
   ·exact ⟨_, hi⟩
   ·exact ⟨_, h⟩
  exact gh.sep id id' d1 d2 b β β' e1 e2 h3 h4
theorem qR {w : World} {bad : Nat → Prop} {ι : Pl} {c c' : AV} (hc : ∀ y, Rd w bad ι c y → Rd w bad ι c' y) : ∀ (a : List AV) (r : List AV) (b o : Nat), RdC w bad ι (a ++ c :: r) b o → RdC w bad ι (a ++ c' :: r) b o
 | [], r, b, o, h => by
  simp only [List.nil_append, RdC] at h ⊢
  obtain ⟨⟨x, h1, h2, h3⟩, h4⟩ := h
  exact ⟨⟨x, h1, h2, hc _ h3⟩, h4⟩
 | x :: a, r, b, o, h => by
  simp only [List.cons_append, RdC] at h ⊢
  exact ⟨h.1, qR hc a r b (o + 1) h.2⟩
theorem Le.nilCell {ts : List (Nat × AV)} {hs : List (Nat × Option (List AV))} {n : Nat} {z0 : Lo} {i : Nat} (e : Nat) (c1 : List AV) {c2 : List AV} (hi : cE hs i = some (c1 ++ .v (.slice none 0 0) :: c2)) (hin : i ≠ n) (hn : n < fD) :
  Le ⟨ts, hs, n, z0⟩ ⟨ts, (i, some (c1 ++ .own n 0 0 e :: c2)) :: (n, some []) :: hs, n + 1, z0⟩ :=
 (Le.virt hn).trans (Le.cellsN (q := n) (cs := c1 ++ .v (.slice none 0 0) :: c2) (by rw [gG, if_neg hin]; exact hi) (by rw [gG, if_pos rfl]) (by simp) fun w bad ι b β hp hr =>
  qR (fun y hy => by simp only [Rd] at hy ⊢; exact .inl ⟨hp, trivial, none, hy⟩) c1 c2 b β hr)
theorem Le.frzC {ts : List (Nat × AV)} {hs : List (Nat × Option (List AV))} {n : Nat} {z0 : Lo} {j i m e : Nat} (c1 : List AV) {c2 d : List AV} (hj : cE hs j = some (c1 ++ .own i 0 m e :: c2)) (hi : cE hs i = some d) (hij : j ≠ i) :
  Le ⟨ts, hs, n, z0⟩ ⟨ts, (j, some (c1 ++ .imm m d :: c2)) :: (i, none) :: hs, n, z0⟩ := by
 rintro C a w ⟨h0, ι, g, gh⟩
 have hk : ∀ id c, cE ((j, some (c1 ++ .imm m d :: c2)) :: (i, none) :: hs) id = some c → (id = j ∧ c = c1 ++ .imm m d :: c2) ∨ (id ≠ j ∧ id ≠ i ∧ cE hs id = some c) := by
  intro id c hc
  rw [gG] at hc
  split at hc
  ·rename_i e; cases hc; exact .inl ⟨e, rfl⟩
  ·rename_i e
   rw [gG] at hc
   split at hc
   ·cases hc
   ·rename_i e2; exact .inr ⟨e, e2, hc⟩
 have hk2 : ∀ id c, cE ((j, some (c1 ++ .imm m d :: c2)) :: (i, none) :: hs) id = some c → id ≠ i ∧ ∃ c', cE hs id = some c' := by
  intro id c hc
  rcases hk id c hc with ⟨rfl, _⟩ | ⟨_, h2, h3⟩
  ·exact ⟨hij, _, hj⟩
  ·exact ⟨h2, _, h3⟩
 have hbad : ∀ b, a8 C.X ι (cE ((j, some (c1 ++ .imm m d :: c2)) :: (i, none) :: hs)) b → a8 C.X ι (cE hs) b := by
  rintro b (h | ⟨id, c, β, h1, h2⟩)
  ·exact .inl h
  ·obtain ⟨_, c', h3⟩ := hk2 id c h1
   exact .inr ⟨id, c', β, h3, h2⟩
 have car : Carry w (a8 C.X ι (cE hs)) ι w (a8 C.X ι (cE ((j, some (c1 ++ .imm m d :: c2)) :: (i, none) :: hs))) ι := ⟨fun b o x h1 h2 => ⟨fun q => h1 (hbad b q), h2⟩, fun _ _ h => h, fun _ => Nat.le_refl _⟩
 have hcell : ∀ y, Rd w (a8 C.X ι (cE ((j, some (c1 ++ .imm m d :: c2)) :: (i, none) :: hs))) ι (.own i 0 m e) y → Rd w (a8 C.X ι (cE ((j, some (c1 ++ .imm m d :: c2)) :: (i, none) :: hs))) ι (.imm m d) y := by
  intro y hr
  simp only [Rd] at hr ⊢
  rcases hr with ⟨_, h2, a', h3⟩ | ⟨b, β, c, h1, h2, h3, h4⟩
  ·subst h2; exact ⟨a', 0, h3, .inl rfl⟩
  ·refine ⟨_, c, h2, ?_⟩
   rcases Nat.eq_zero_or_pos m with h5 | h5
   ·exact .inl h5
   ·refine .inr ⟨b, β + 0, h3, rfl, ?_⟩
    rcases gh.obj i d hi with ⟨q1, q2⟩ | ⟨b', β', arr, e', q1, q2, q3, q4, q5, q6⟩
    ·rw [h1] at q1; cases q1
    ·rw [h1] at q1; cases q1
     refine .inr ⟨?_, RdC.carryB car _ _ _ (fun o x hx => hx) q4⟩
     rintro (h | ⟨id', cs', β', r1, r2⟩)
     ·exact q5 h
     ·obtain ⟨r3, c', r4⟩ := hk2 id' cs' r1
      exact r3 (gh.sep _ _ _ _ _ _ _ r4 hi r2 h1)
 refine ⟨h0, ι, g.carry car, ⟨fun id c hc => ?_, fun id id' c c' b β β' h1 h2 h3 h4 => ?_, gh.fr, gh.ex, gh.fresh⟩⟩
 ·rcases hk id c hc with ⟨rfl, rfl⟩ | ⟨_, _, h3⟩
  ·rcases gh.obj _ _ hj with ⟨q1, q2⟩ | ⟨b, β, arr, e, q1, q2, q3, q4, q5⟩
   ·simp at q2
   ·exact .inr ⟨b, β, arr, e, q1, q2, by simpa using q3, qR hcell c1 c2 b β (RdC.carryB car _ _ _ (fun o x hx => hx) q4), q5⟩
  ·rcases gh.obj _ _ h3 with ⟨q1, q2⟩ | ⟨b, β, arr, e, q1, q2, q3, q4, q5⟩
   ·exact .inl ⟨q1, q2⟩
   ·exact .inr ⟨b, β, arr, e, q1, q2, q3, RdC.carryB car _ _ _ (fun o x hx => hx) q4, q5⟩
 ·obtain ⟨_, d1, e1⟩ := hk2 id c h1
  obtain ⟨_, d2, e2⟩ := hk2 id' c' h2
  exact gh.sep id id' d1 d2 b β β' e1 e2 h3 h4
end Go.AL
namespace Go.AL
open Go.RowKit
set_option linter.unusedVariables false
def Hq (op : BinOp) (a b : ByteArray) : Option Value :=
 match op with
 | .add => if a.size + b.size ≤ 9000000000000000000 then some (.string (a ++ b)) else none
 | .eql => some (.bool (a.toList == b.toList))
 | .neq => some (.bool (!(a.toList == b.toList)))
 | _ => none
def FU (s : ByteArray) (l : List Int) : ByteArray := l.foldl (fun r n => r.push (UInt8.ofNat n.toNat)) s
section
variable {P : Program} {C : Ctx} {ι : Pl} {T : Nat → Option AV} {F : Nat → Prop} {H : Nat → Option (List AV)} {a : Act} {w : World} {o : Oper}
theorem IP (g : TG C ι T H a w) {op : BinOp} {t t' : TypeId} {x y : Operand} {m n : ByteArray} {v : Value} (ho : o.op = .binOp op t x y t')
  (hx : ev T x = some (.v (.string m))) (hy : ev T y = some (.v (.string n))) (h : Hq op m n = some v) : Pu P C ι H a w o (.v v) := by
 have h1 := dE g hx
 have h2 := dE g hy
 simp only [Rd] at h1 h2
 refine ⟨v, ?_, by simp [Rd]⟩
 have hg : (eqGuard op t x y (.string m) (.string n)).run P w = .ok () w := by
  unfold eqGuard
  cases op <;> simp
 have hb : (binOp op t (.string m) (.string n)).run P w = .ok v w := by
  cases op <;> simp only [Hq] at h <;> first | (cases h; done) | skip
  ·split at h
   ·rename_i hs
    cases h
    have h9 : ¬ (((m.size + n.size : Nat) : Int) > IntKind.i64.max) := by
     have : IntKind.i64.max = 9223372036854775807 := rfl
     omega
    show ((if ((m.size + n.size : Nat) : Int) > IntKind.i64.max then _ else pure (.string (m ++ n)) : Sem Value)).run P w = _
    rw [if_neg h9]; simp
   ·cases h
  all_goals (cases h; simp [binOp, Op.stringOp])
 simp only [execOp, ho, h1, h2, Sem.run_bind, hg, Result.andThen_ok, hb, Sem.run_pure]
theorem zD {bad : Nat → Prop} {k : IntKind} : ∀ {ns : List Int} {l : List Value}, RdL w bad ι (ns.map fun n => .v (.int k n)) l → l = ns.map (Value.int k)
 | [], l, h => by simp only [List.map_nil, RdL] at h; exact h
 | n :: ns, l, h => by
  simp only [List.map_cons, RdL] at h
  obtain ⟨x, l', rfl, h0, h1, h2⟩ := h
  simp only [Rd] at h1
  rw [h1, zD h2, List.map_cons]
theorem KP (g : TG C ι T H a w) (gh : HG C ι F H w) {s t el : TypeId} {x : Operand} {av : AV} {m : Nat} {ns : List Int} (ho : o.op = .convert s t x) (hx : ev T x = some av)
  (ht : l7 P s = some el) (hu : A2 P el = some .u8) (hst : P.underlying t = some .string) (hs : sCells H 1 (pU av) = some (m, ns.map fun n => .v (.int .u8 n))) :
  Pu P C ι H a w o (.v (.string (FU .empty ns))) := by
 obtain ⟨ad, c, l, h1, h2, h3, h4, h5⟩ := wA gh (nD (dE g hx)) hs
 have hl := zD h3
 have hll : ns.length = m := by have := h2; rw [hl] at this; simpa using this
 refine ⟨.string (FU .empty ns), ?_, by simp [Rd]⟩
 have hcv : (convert s t (.slice ad m c)).run P w = (Conv.bytesToString (.slice ad m c)).run P w := run_convert_bytes_string w s t el ad m c (kD ht) (Ca hu) hst
 have hrun : (Conv.bytesToString (.slice ad m c)).run P w = .ok (.string (FU .empty ns)) w := by
  cases ad with
  | none =>
   rcases h5 with ⟨b, o', h⟩ | h
   ·cases h
   ·subst h
    have : ns = [] := List.eq_nil_of_length_eq_zero hll
    subst this
    rfl
  | some ad =>
   have hload : (loadCells ad m).run P w = .ok (ns.map (Value.int .u8)).toArray w := by
    rcases h5 with ⟨b, o', h⟩ | h
    ·cases h
     have := run_loadCells_list (P := P) w ⟨b, o', none⟩ l (fun j v hj => by rw [Addr.add_lit]; exact h4 b o' rfl j v hj)
     rw [h2, Nat.mul_one, hl] at this
     exact this
    ·subst h
     have : ns = [] := List.eq_nil_of_length_eq_zero hll
     subst this
     simp [loadCells, loadCellsFrom]
   exact run_bytesToString w ad m c ns hload
 simp only [execOp, ho, h1, Sem.run_bind, hcv, hrun, Result.andThen_ok, Sem.run_pure]
end
section
variable {P : Program} {N : Nat} {Q : Exit → AS → Prop} {all : Array Oper} {rest : List Oper} {ts : List (Nat × AV)} {hs : List (Nat × Option (List AV))} {n : Nat} {z0 : Lo} {md : Md}
variable {d : Nat} {ty : TypeId} {pos : String} {af : Array Edge}
theorem lB {op : BinOp} {t t' : TypeId} {x y : Operand} {m m' : ByteArray} {v : Value} (hx : ev (lk ts) x = some (.v (.string m))) (hy : ev (lk ts) y = some (.v (.string m')))
  (h : Hq op m m' = some v) (hN : Nat.blt d N = true) {md' : Md} [hmd : MdA md (rO x ++ rO y) [.inl d] md'] (kk : RW P N all Q md' rest ⟨(d, .v v) :: ts, hs, n, z0⟩) : RW P N all Q md (⟨some d, .binOp op t x y t', ty, pos, af, none⟩ :: rest) ⟨ts, hs, n, z0⟩ :=
 eY rfl rfl (eG hN) (fun C ι F T H a w ag g gh => IP g rfl (ag.l.ev.trans hx) (ag.r.ev.trans hy) h) (by rw [hmd.pf]; exact kk)
theorem Gx {s t el : TypeId} {x : Operand} {av : AV} {m : Nat} (ns : List Int) [ht : SlT P s el] [hu : InT P el .u8] [hst : StT P t] (hx : ev (lk ts) x = some av)
  (hs' : sCells (cE hs) 1 (pU av) = some (m, ns.map fun n => .v (.int .u8 n))) (hN : Nat.blt d N = true) {md' : Md} [hmd : MdA md (rO x ++ rA av) [.inl d] md'] (kk : RW P N all Q md' rest ⟨(d, .v (.string (FU .empty ns))) :: ts, hs, n, z0⟩) :
  RW P N all Q md (⟨some d, .convert s t x, ty, pos, af, none⟩ :: rest) ⟨ts, hs, n, z0⟩ :=
 eY rfl rfl (eG hN) (fun C ι F T H a w ag g gh => KP g gh rfl (ag.l.ev.trans hx) ht.pf hu.pf hst.pf (ag.r.sCells.trans hs')) (by rw [hmd.pf]; exact kk)
theorem pB {t : TypeId} {x i : Operand} {s : ByteArray} {k : IntKind} {m : Int} [ht : StT P t] (hx : ev (lk ts) x = some (.v (.string s)))
  (hi : ev (lk ts) i = some (.v (.int k m))) (hm : 0 ≤ m ∧ m < (s.size : Int)) (hN : Nat.blt d N = true) {md' : Md} [hmd : MdA md (rO x ++ rO i) [.inl d] md'] (kk : RW P N all Q md' rest ⟨(d, .v (.int .u8 ((s[m.toNat]!).toNat : Int))) :: ts, hs, n, z0⟩) :
  RW P N all Q md (⟨some d, .index t x i, ty, pos, af, none⟩ :: rest) ⟨ts, hs, n, z0⟩ :=
 DM (b := s[m.toNat]!) hx hi ht.pf hm.1 (by rw [getElem!_pos s m.toNat (by omega), getElem?_pos s m.toNat (by omega)]) (eG hN) (by rw [hmd.pf]; exact kk)
theorem Eg {t : TypeId} {x : Operand} {lo hi : Option Operand} {s : ByteArray} {l h : Nat} [ht : StT P t] (hx : ev (lk ts) x = some (.v (.string s)))
  (hl : g6 (lk ts) lo 0 = some l) (hh : g6 (lk ts) hi s.size = some h) (hc : l ≤ h ∧ h ≤ s.size) (hN : Nat.blt d N = true) {md' : Md} [hmd : MdA md (rO x ++ (rB lo ++ rB hi)) [.inl d] md'] (kk : RW P N all Q md' rest ⟨(d, .v (.string (s.extract l h))) :: ts, hs, n, z0⟩) :
  RW P N all Q md (⟨some d, .slice t x lo hi none, ty, pos, af, none⟩ :: rest) ⟨ts, hs, n, z0⟩ := Dy hx ht.pf hl hh hc (eG hN) (by rw [hmd.pf]; exact kk)
theorem Hf (m : Int) (h : 0 ≤ m ∧ m ≤ 255) : IntKind.u8.wrap m = m := by
 have : IntKind.u8.wrap m = m % 256 := rfl
 rw [this]; omega
theorem ID {t t' : TypeId} {x y : Operand} {m m' : Int} (hx : ev (lk ts) x = some (.v (.int .u8 m))) (hy : ev (lk ts) y = some (.v (.int .u8 m')))
  (h : 0 ≤ m + m' ∧ m + m' ≤ 255) (hN : Nat.blt d N = true) {md' : Md} [hmd : MdA md (rO x ++ rO y) [.inl d] md'] (kk : RW P N all Q md' rest ⟨(d, .v (.int .u8 (m + m'))) :: ts, hs, n, z0⟩) : RW P N all Q md (⟨some d, .binOp .add t x y t', ty, pos, af, none⟩ :: rest) ⟨ts, hs, n, z0⟩ :=
 e6 hx hy (.inl rfl) (v := .int .u8 (m + m')) (by simp only [gU, Hf _ h]) (eG hN) (by rw [hmd.pf]; exact kk)
theorem Cg {t t' : TypeId} {x y : Operand} {m m' : Int} (hx : ev (lk ts) x = some (.v (.int .u8 m))) (hy : ev (lk ts) y = some (.v (.int .u8 m')))
  (h : 0 ≤ m - m' ∧ m - m' ≤ 255) (hN : Nat.blt d N = true) {md' : Md} [hmd : MdA md (rO x ++ rO y) [.inl d] md'] (kk : RW P N all Q md' rest ⟨(d, .v (.int .u8 (m - m'))) :: ts, hs, n, z0⟩) : RW P N all Q md (⟨some d, .binOp .sub t x y t', ty, pos, af, none⟩ :: rest) ⟨ts, hs, n, z0⟩ :=
 e6 hx hy (.inl rfl) (v := .int .u8 (m - m')) (by simp only [gU, Hf _ h]) (eG hN) (by rw [hmd.pf]; exact kk)
theorem Bb {s t : TypeId} {x : Operand} {k' : IntKind} {m : Int} [hd : InT P t .u8] [hs' : InT P s k'] (hx : ev (lk ts) x = some (.v (.int k' m))) (h : 0 ≤ m ∧ m ≤ 255) (hN : Nat.blt d N = true) {md' : Md} [hmd : MdA md (rO x) [.inl d] md'] (kk : RW P N all Q md' rest ⟨(d, .v (.int .u8 m)) :: ts, hs, n, z0⟩) :
  RW P N all Q md (⟨some d, .convert s t x, ty, pos, af, none⟩ :: rest) ⟨ts, hs, n, z0⟩ := CT hx hd.pf hs'.pf (eG hN) (by rw [hmd.pf, Hf _ h]; exact kk)
end
theorem pQ (n : Int) : (FU .empty [n]).size = 1 := rfl
theorem rI {a b : ByteArray} (h : a.size + b.size ≤ 9000000000000000000) : Hq .add a b = some (.string (a ++ b)) := if_pos h
end Go.AL
namespace Go.AL
def E0 (l : List Int) : ByteArray := l.foldl (fun r n => r.push (UInt8.ofNat n.toNat)) .empty
def g7 (v : Int) : ByteArray := E0 [97 + v]
def BD (n : Int) : ByteArray := E0 [48 + n] ++ .empty
theorem oK (l : List UInt8) : ByteArray.size ⟨l.toArray⟩ = l.length := rfl
theorem mL (v : Int) : (g7 v).size = 1 := rfl
theorem mE (v : Int) : (BD v).size = 1 := by simp [BD, E0, ByteArray.size_append]
def p9 (out : ByteArray) (k : Nat) (t : ByteArray) : ByteArray := (if 0 < k then out ++ ⟨#[59]⟩ else out) ++ t
mutual
def lJ : Stmt → ByteArray
 | .mk op x y n th el =>
  if op = 1 then (g7 x ++ ⟨#[61]⟩) ++ BD n
  else if op = 2 then (g7 x ++ ⟨#[61, 98, 111, 120, 32]⟩) ++ BD n
  else if op = 3 then (g7 x ++ ⟨#[61]⟩) ++ g7 y
  else if op = 4 then (g7 x ++ ⟨#[61, 38]⟩) ++ g7 y
  else if op = 5 then (g7 x ++ ⟨#[61, 38, 109, 117, 116, 32]⟩) ++ g7 y
  else if op = 6 then (g7 x ++ ⟨#[61, 42]⟩) ++ g7 y
  else if op = 7 then ((⟨#[42]⟩ ++ g7 x) ++ ⟨#[61]⟩) ++ g7 y
  else if op = 8 then ⟨#[100, 114, 111, 112, 32]⟩ ++ g7 x
  else if op = 10 then (⟨#[108, 111, 111, 112, 123]⟩ ++ lH .empty 0 th) ++ ⟨#[125]⟩
  else (((⟨#[105, 102, 123]⟩ ++ lH .empty 0 th) ++ ⟨#[125, 123]⟩) ++ lH .empty 0 el) ++ ⟨#[125]⟩
def lH (out : ByteArray) (k : Nat) : List Stmt → ByteArray
 | [] => out
 | s :: l => lH (p9 out k (lJ s)) (k + 1) l
end
def jQ (l : List Stmt) : ByteArray := lH .empty 0 l
theorem sQ : ∀ (l : List Stmt) (out : ByteArray) (k : Nat) (s : Stmt), lH out k (l ++ [s]) = p9 (lH out k l) (k + l.length) (lJ s)
 | [], out, k, s => by simp only [List.nil_append, lH, List.length_nil, Nat.add_zero]
 | x :: l, out, k, s => by
  simp only [List.cons_append, lH, sQ l, List.length_cons]
  rw [show k + 1 + l.length = k + (l.length + 1) from by omega]
theorem tP (l : List Stmt) (k : Nat) (h : k < l.length) : jQ (l.take (k + 1)) = p9 (jQ (l.take k)) k (lJ l[k]!) := by
 rw [c9 _ _ h, jQ, sQ, List.length_take, Nat.min_eq_left (by omega), Nat.zero_add]; rfl
theorem EF (s : Stmt) : lJ s = 
  if s.op = 1 then (g7 s.x ++ ⟨#[61]⟩) ++ BD s.n
  else if s.op = 2 then (g7 s.x ++ ⟨#[61, 98, 111, 120, 32]⟩) ++ BD s.n
  else if s.op = 3 then (g7 s.x ++ ⟨#[61]⟩) ++ g7 s.y
  else if s.op = 4 then (g7 s.x ++ ⟨#[61, 38]⟩) ++ g7 s.y
  else if s.op = 5 then (g7 s.x ++ ⟨#[61, 38, 109, 117, 116, 32]⟩) ++ g7 s.y
  else if s.op = 6 then (g7 s.x ++ ⟨#[61, 42]⟩) ++ g7 s.y
  else if s.op = 7 then ((⟨#[42]⟩ ++ g7 s.x) ++ ⟨#[61]⟩) ++ g7 s.y
  else if s.op = 8 then ⟨#[100, 114, 111, 112, 32]⟩ ++ g7 s.x
  else if s.op = 10 then (⟨#[108, 111, 111, 112, 123]⟩ ++ jQ s.th) ++ ⟨#[125]⟩
  else (((⟨#[105, 102, 123]⟩ ++ jQ s.th) ++ ⟨#[125, 123]⟩) ++ jQ s.el) ++ ⟨#[125]⟩ := by
 cases s; rw [lJ]; rfl
mutual
theorem uA : ∀ s, (lJ s).size + 1 ≤ 11 * dK s
 | .mk op x y n th el => by
  have h1 := k4 th .empty 0
  have h2 := k4 el .empty 0
  have h3 : ByteArray.size .empty = 0 := rfl
  rw [lJ]
  simp only [dK]
  repeat' split
  all_goals simp only [ByteArray.size_append, oK, List.length_cons, List.length_nil, mL, mE]
  all_goals omega
theorem k4 : ∀ (l : List Stmt) (out : ByteArray) (k : Nat), (lH out k l).size ≤ out.size + 11 * bT l
 | [], out, k => by simp only [lH, bT]; omega
 | s :: l, out, k => by
  have h1 := uA s
  have h2 := k4 l (p9 out k (lJ s)) (k + 1)
  have h3 : (p9 out k (lJ s)).size ≤ out.size + 1 + (lJ s).size := by
   unfold p9; split <;> simp only [ByteArray.size_append, oK, List.length_cons, List.length_nil] <;> omega
  simp only [lH, bT]
  omega
end
theorem kV (l : List Stmt) : (jQ l).size ≤ 11 * bT l := by
 have := k4 l .empty 0
 have h3 : ByteArray.size .empty = 0 := rfl
 unfold jQ; omega
theorem DT {ts : List Int} {s : Stmt} (ht : dB ts = true) (h : eO ts s = true) : 1 ≤ s.op ∧ s.op ≤ 8 ∧ 0 ≤ s.x ∧ s.x ≤ 5 ∧ 0 ≤ s.y ∧ s.y ≤ 5 ∧ (s.op = 1 ∨ s.op = 2 → 0 ≤ s.n ∧ s.n ≤ 9) := by
 have hl := gM ht
 have hx := kW ht s.x
 have hy := kW ht s.y
 unfold eO at h
 dsimp only at h
 repeat' split at h
 all_goals (first | (simp only [decide_eq_true_eq] at h; omega) | (simp at h; done))
end Go.AL
namespace Go.AL
theorem kZ {A n : Nat} (hv : ∀ v, A.testBit v = true → v < n) : A < 2 ^ n := Nat.lt_pow_two_of_testBit _ fun v h => by
 cases hq : Nat.testBit _ v with
 | false => rfl
 | true => have := hv v hq; omega
theorem jV {A n : Nat} (hn : n ≤ 62) (hv : A < 2 ^ n) : Sm A := ⟨Nat.lt_of_lt_of_le hv (Nat.pow_le_pow_right (by decide) hn)⟩
structure FB (ts : List Int) (pts : List Pnt) (f : Flows ts pts) : Prop where
 la : f.Aa.length = pts.length
 lm : f.Am.length = pts.length
 ln : f.An.length = pts.length
 ll : f.Al.length = pts.length
 lp : f.Ap.length = pts.length
 bA : ∀ i : Nat, f.Aa[i]! < 2 ^ ts.length
 bM : ∀ i : Nat, f.Am[i]! < 2 ^ ts.length
 bN : ∀ i : Nat, f.An[i]! < 2 ^ ts.length
 bL : ∀ i : Nat, f.Al[i]! < 2 ^ ts.length
 bP : ∀ i : Nat, f.Ap[i]! < 2 ^ pts.length
 sA : ∀ i : Nat, Sm f.Aa[i]!
 sM : ∀ i : Nat, Sm f.Am[i]!
 sN : ∀ i : Nat, Sm f.An[i]!
 sL : ∀ i : Nat, Sm f.Al[i]!
 sP : ∀ i : Nat, Sm f.Ap[i]!
 rl : ∀ i, i < pts.length → (fS f.Af i).length = 6
 rs : ∀ i, i < pts.length → ∀ z : Nat, Sm (fS f.Af i)[z]!
 af : ∀ i, i < pts.length → H9 pts f.An i = f.Al[i]!
 kp : ∀ i, i < pts.length → yR ts pts[i]! f.Al[i]! (fS f.Af i) < 2 ^ pts.length
 lo : ∀ i, i < pts.length → yR ts pts[i]! f.Al[i]! (fS f.Af i) &&& f.Ap[i]! < 2 ^ pts.length
 cf : ∀ i, i < pts.length → EJ ts pts f.Am f.Al f.Af f.Ap i < 2 ^ pts.length
theorem Flows.bnd {ts : List Int} {pts : List Pnt} (f : Flows ts pts) (w : WG ts pts) : FB ts pts f := by
 have hpl := w.pl
 have htl := w.tl
 have off : ∀ {A : List Nat} {n : Nat} {i : Nat}, A.length = pts.length → ¬ i < pts.length → A[i]! < 2 ^ n := fun {A n i} h hi => by
  rw [getElem!_neg A i (by omega)]; exact Nat.pow_pos (by decide)
 have bA : ∀ i : Nat, f.Aa[i]! < 2 ^ ts.length := fun i => by
  by_cases hi : i < pts.length
  ·exact kZ fun v hv => ((f.ga.2 i hi v).1 hv).1
  ·exact off f.ga.1 hi
 have bM : ∀ i : Nat, f.Am[i]! < 2 ^ ts.length := fun i => by
  by_cases hi : i < pts.length
  ·exact kZ fun v hv => Fo w ((f.gm.2 i hi v).1 hv)
  ·exact off f.gm.1 hi
 have bN : ∀ i : Nat, f.An[i]! < 2 ^ ts.length := fun i => by
  by_cases hi : i < pts.length
  ·exact kZ fun v hv => rS w ((f.gn.2 i hi v).1 hv)
  ·exact off f.gn.1 hi
 have bL : ∀ i : Nat, f.Al[i]! < 2 ^ ts.length := fun i => by
  by_cases hi : i < pts.length
  ·exact kZ fun v hv => by obtain ⟨k, _, h⟩ := (f.gl.2 i hi v).1 hv; exact rS w h
  ·exact off f.gl.1 hi
 have bP : ∀ i : Nat, f.Ap[i]! < 2 ^ pts.length := fun i => by
  by_cases hi : i < pts.length
  ·exact kZ fun v hv => (vJ ((f.gp.2 i hi v).1 hv)).1
  ·exact off f.gp.1 hi
 have rs : ∀ i, i < pts.length → ∀ z : Nat, (fS f.Af i)[z]! < 2 ^ pts.length := fun i hi z => by
  by_cases hz : z < 6
  ·rw [hG f.gf.1 hi hz]
   exact kZ fun v hv => (AX w ((f.gf.2 i z hi hz v).1 hv)).2.2
  ·rw [getElem!_neg _ z (by rw [gW f.gf.1 hi]; exact hz)]; exact Nat.pow_pos (by decide)
 have kp : ∀ i, i < pts.length → yR ts pts[i]! f.Al[i]! (fS f.Af i) < 2 ^ pts.length := fun i hi => kZ fun v hv => by
  unfold yR at hv
  rw [iG] at hv
  rcases hv with hv | ⟨z, hz, hv⟩
  ·simp at hv
  ·exact eJ (rs i hi _) hv
 have lo : ∀ i, i < pts.length → yR ts pts[i]! f.Al[i]! (fS f.Af i) &&& f.Ap[i]! < 2 ^ pts.length := fun i hi => Nat.and_lt_two_pow _ (bP i)
 refine ⟨f.ga.1, f.gm.1, f.gn.1, f.gl.1, f.gp.1, bA, bM, bN, bL, bP, fun i => jV (by omega) (bA i), fun i => jV (by omega) (bM i), fun i => jV (by omega) (bN i), fun i => jV (by omega) (bL i), fun i => jV (by omega) (bP i),
  fun i hi => gW f.gf.1 hi, fun i hi z => jV (by omega) (rs i hi z), fun i hi => ?_, kp, lo, fun i hi => E3 w (bP i)⟩
 rw [u9 f.gl (Av w f.gn), GH _ _ _ hi]
end Go.AL
namespace Go.AL
def uW (pts : List Pnt) (l : Nat) (c : Acc) : Bool := decide (c.var = pts[l]!.y) && (c.write || decide (pts[l]!.op = 5))
theorem AZ {ts : List Int} {pts : List Pnt} (w : WG ts pts) (f : Flows ts pts) {i l : Nat} (hi : i < pts.length) (hl : l < pts.length) (hln : eD pts[l]! = true) :
  (EJ ts pts f.Am f.Al f.Af f.Ap i).testBit l = ((nL ts pts[i]! (f.Am[i]!.testBit (bD pts[i]!).toNat)).any (uW pts l) && ((yR ts pts[i]! f.Al[i]! (fS f.Af i)).testBit l && f.Ap[i]!.testBit l)) := by
 have b := f.bnd w
 have hpl := w.pl
 have hy := Bt w hl hln
 rw [Bool.eq_iff_iff]
 unfold EJ
 rw [kA _ _ _ (jV (by omega) (b.lo i hi)), Bool.and_eq_true, List.any_eq_true, ← Nat.testBit_and]
 simp only [Nat.zero_testBit, Bool.false_eq_true, false_or]
 constructor
 ·rintro ⟨c, hc, h1, h2, h3⟩
  refine ⟨⟨c, hc, ?_⟩, h1⟩
  rw [lY] at h2
  simp only [Bool.and_eq_true, decide_eq_true_eq] at h2
  have e2 := h2.2.2
  rw [Nat.testBit_two_pow, decide_eq_true_eq] at e2
  have hcv := CW _ w hi c hc
  unfold uW
  rw [decide_eq_true (by omega : c.var = pts[l]!.y)]
  rcases h3 with h3 | h3
  ·rw [h3]; rfl
  ·rw [decide_eq_true h3]; simp
 ·rintro ⟨⟨c, hc, h⟩, h1⟩
  unfold uW at h
  simp only [Bool.and_eq_true, Bool.or_eq_true, decide_eq_true_eq] at h
  refine ⟨c, hc, h1, ?_, h.2⟩
  rw [lY, decide_eq_true hl, hln, h.1, Nat.testBit_two_pow_self]; rfl
theorem HF {ts : List Int} {pts : List Pnt} (w : WG ts pts) (f : Flows ts pts) {i l : Nat} (hi : i < pts.length) (h : (EJ ts pts f.Am f.Al f.Af f.Ap i).testBit l = true) : l < pts.length ∧ eD pts[l]! = true := by
 have b := f.bnd w
 have hpl := w.pl
 unfold EJ at h
 rw [kA _ _ _ (jV (by omega) (b.lo i hi))] at h
 rcases h with h | ⟨c, _, h1, _⟩
 ·simp at h
 ·rw [Nat.testBit_and, Bool.and_eq_true] at h1
  exact vJ ((f.gp.2 i hi l).1 h1.2)
end Go.AL
namespace Go.AL
open Go.RowKit
set_option linter.unusedVariables false
section
variable {P : Program} {C : Ctx} {ι : Pl} {F : Nat → Prop} {T : Nat → Option AV} {H : Nat → Option (List AV)} {a : Act} {w : World} {o : Oper}
theorem sZ (z : Array Value) : ∀ n, (Builtin.zeroCells z n).toList = (List.replicate n z.toList).flatten := fun n => by
 have := pM z n (n * z.size) rfl
 simpa [Builtin.zeroCells, madeCells] using this
end
theorem Le.cut {ts : List (Nat × AV)} {hs : List (Nat × Option (List AV))} {n : Nat} {z0 : Lo} {i : Nat} {cs : List AV} (k : Nat) (hi : cE hs i = some cs) :
  Le ⟨ts, hs, n, z0⟩ ⟨ts, (i, some (cs.take k)) :: hs, n, z0⟩ := by
 rintro C a w ⟨h0, ι, g, gh⟩
 have hσ : ∀ id c, cE ((i, some (cs.take k)) :: hs) id = some c → ∃ c0, cE hs id = some c0 ∧ (c = c0 ∨ c = c0.take k) := by
  intro id c h
  rw [gG] at h
  split at h
  ·rename_i e; subst e; cases h; exact ⟨cs, hi, .inr rfl⟩
  ·exact ⟨c, h, .inl rfl⟩
 have car : Carry w (a8 C.X ι (cE hs)) ι w (a8 C.X ι (cE ((i, some (cs.take k)) :: hs))) ι := by
  refine ⟨fun b o' x h1 h2 => ⟨?_, h2⟩, fun _ _ h => h, fun _ => Nat.le_refl _⟩
  rintro (h | ⟨id, c, β, q1, q2⟩)
  ·exact h1 (.inl h)
  ·obtain ⟨c0, r, _⟩ := hσ id c q1
   exact h1 (.inr ⟨id, c0, β, r, q2⟩)
 refine ⟨h0, ι, ⟨g.df, g.sz, fun t av ht => ?_⟩, ⟨fun id c h => ?_, fun id id' c c' b β β' q1 q2 q3 q4 => ?_, gh.fr, gh.ex, gh.fresh⟩⟩
 ·obtain ⟨y, hy, hr⟩ := g.tm t av ht
  exact ⟨y, hy, Rd.carry car _ _ hr⟩
 ·obtain ⟨c0, r, e⟩ := hσ id c h
  rcases gh.obj id c0 r with ⟨h1, h2⟩ | ⟨b', β', arr', e', h1, h2, h3, h4, h5, h6⟩
  ·refine .inl ⟨h1, ?_⟩
   rcases e with e | e
   ·rw [e, h2]
   ·rw [e, h2]; simp
  ·refine .inr ⟨b', β', arr', e', h1, h2, ?_, ?_, h5, h6⟩
   ·rcases e with e | e
    ·rw [e]; exact h3
    ·rw [e, List.length_take]; omega
   ·have h7 := RdC.carryB car _ _ _ (fun o x hx => hx) h4
    rcases e with e | e
    ·rw [e]; exact h7
    ·rw [e]; exact RdC.take k h7
 ·obtain ⟨_, r1, _⟩ := hσ id c q1
  obtain ⟨_, r2, _⟩ := hσ id' c' q2
  exact gh.sep _ _ _ _ _ _ _ r1 r2 q3 q4
section
variable {P : Program} {N : Nat} {Q : Exit → AS → Prop} {all : Array Oper} {rest : List Oper} {ts : List (Nat × AV)} {hs : List (Nat × Option (List AV))} {n : Nat} {z0 : Lo}
variable {d : Nat} {ty : TypeId} {pos : String} {af : Array Edge}
theorem iN {fn : Go.Fn} {cs : Array Operand} {i : Nat} {cc c : List AV} (t : Nat) (hx : lk ts t = some (.optr i 0)) (hH : cE hs i = some cc) (hc : evL (lk ((t, .iptr cc) :: ts)) cs.toList = some c) (hN : Nat.blt d N = true)
  (kk : RW P N all Q .txt rest ⟨(d, .clos fn [] c) :: (t, .iptr cc) :: ts, (i, none) :: hs, n, z0⟩) : RW P N all Q .txt (⟨some d, .makeFunc fn #[] cs, ty, pos, af, none⟩ :: rest) ⟨ts, hs, n, z0⟩ :=
 kI (gN (f := []) (c := c) rfl hc hN (md' := .txt) kk) (Le.frzP hx hH)
end
end Go.AL
namespace Go.AL
theorem By {ts : List Int} {v : Int} (h : 0 < fZ ts v) : fZ ts v = ts[v.toNat]! := by
 unfold fZ at h ⊢
 split at h
 ·rename_i c; rw [if_pos c]
 ·omega
end Go.AL
namespace Go.AL
open Go.RowKit
set_option linter.unusedVariables false
set_option linter.unusedSimpArgs false
section
variable {P : Program} {C : Ctx} {ι : Pl} {T : Nat → Option AV} {F : Nat → Prop} {H : Nat → Option (List AV)} {a : Act} {w : World} {o : Oper}
theorem zB {bad : Nat → Prop} {zs : List Value} (h : zs.all (·.oneCell') = true) : ∀ n, RdL w bad ι (List.replicate n (zs.map AV.v)).flatten (List.replicate n zs).flatten
 | 0 => by simp [RdL]
 | n + 1 => by
  rw [List.replicate_succ, List.replicate_succ, List.flatten_cons, List.flatten_cons]
  exact RdL.append (tF h) (zB h n)
theorem EO (gh : HG C ι F H w) {t el : TypeId} {x : Operand} {id off n e : Nat} {cs : List AV} {zs : List Value}
  (ho : o.op = .call ⟨.builtin .clear, #[x], #[t]⟩) (hx : Rd w (a8 C.X ι H) ι (.own id off n e) (a.eval x)) (hd : o.dst = none)
  (ht : l7 P t = some el) (he : gK P el = some e) (hz : oF P el = some zs) (hze : zs.length = e)
  (hH : H id = some cs) (h0 : 0 < n) (hl : off + n * e ≤ cs.length) :
  Ef P C ι F H a w o (.tup []) (fI H id (some (iR cs off (List.replicate n (zs.map AV.v)).flatten))) := by
 obtain ⟨i, z, h1, h2, h3, h4⟩ := pJ hz
 have hu := kD ht
 have hsz := xV he h1
 simp only [Rd] at hx
 rcases hx with ⟨_, rfl, _⟩ | ⟨b, β, c, p1, p2, p3, p4⟩
 ·omega
 have hlen : ((List.replicate n (zs.map AV.v)).flatten).length = n * e := by
  rw [List.length_flatten]; simp [hze]
 obtain ⟨w', q1, q2, q3⟩ := AP (P := P) gh hH p1 (off := off) (new := (List.replicate n (zs.map AV.v)).flatten) (by rw [hlen]; exact hl) (zB h4 n)
 have hr : (Builtin.clear_ #[t] o.type #[a.eval x]).run P w = .ok (.tuple #[]) w' := by
  rw [p2]
  cases n with
  | zero => omega
  | succ n =>
   have hzc : (Builtin.zeroCells z.cells (n + 1)).toList = (List.replicate (n + 1) zs).flatten := by rw [sZ, h3]
   simp [Builtin.clear_, dI hu, zeroValue, typeInfo, h1, h2, hzc, q1]
 refine ⟨.value (.tuple #[]), .tuple #[], ι, w', ?_, .inl ⟨rfl, ?_⟩, q2, q3⟩
 ·simp [execOp, ho, resolve, invoke, builtin, hr]
 ·simp only [Rd]; exact ⟨[], rfl, by simp [RdV]⟩
end
section
variable {P : Program} {N : Nat} {Q : Exit → AS → Prop} {all : Array Oper} {rest : List Oper} {ts : List (Nat × AV)} {hs : List (Nat × Option (List AV))} {n : Nat} {z0 : Lo} {md : Md}
variable {d : Nat} {ty : TypeId} {pos : String} {af : Array Edge}
theorem Fe {t el id off m e : Nat} {x : Operand} {cs cs' : List AV} {zs : List Value} [ht : SlT P t el] [he : SzT P el e] [hz : ZrT P el zs]
  (hx : ev (lk ts) x = some (.own id off m e)) (hze : zs.length = e) (h0 : 0 < m) (hH : cE hs id = some cs) (hl : off + m * e ≤ cs.length)
  (hcs : iR cs off (List.replicate m (zs.map AV.v)).flatten = cs') {md' : Md} [hmd : MdA md (rO x ++ [.inr id]) [.inr id] md'] (kk : RW P N all Q md' rest ⟨ts, (id, some cs') :: hs, n, z0⟩) :
  RW P N all Q md (⟨none, .call ⟨.builtin .clear, #[x], #[t]⟩, ty, pos, af, none⟩ :: rest) ⟨ts, hs, n, z0⟩ := by
 subst hcs
 exact CC (rs := rO x ++ [.inr id]) (ws := [(id, some (iR cs off (List.replicate m (zs.map AV.v)).flatten))]) (n' := n) (out := .tup []) rfl (fun _ h => by cases h) (Nat.le_refl n) (.inl rfl)
  (fun C ι F T H a w ag hF g gh => CL (EO gh rfl (dE g (ag.l.ev.trans hx)) rfl ht.pf he.pf hz.pf hze ((ag.r.h id (by simp)).trans hH) h0 hl)) (by
   show RW P N all Q (md.add (rO x ++ [.inr id]) [.inr id]) rest ⟨ts, (id, some (iR cs off (List.replicate m (zs.map AV.v)).flatten)) :: hs, n, z0⟩
   rw [hmd.pf]; exact kk)
end
end Go.AL
namespace Go.AL
open Go.RowKit
set_option linter.unusedVariables false
set_option linter.unusedSimpArgs false
section
variable {P : Program} {N : Nat} {Q : Exit → AS → Prop} {all : Array Oper} {rest : List Oper} {ts : List (Nat × AV)} {hs : List (Nat × Option (List AV))} {n : Nat} {z0 : Lo} {md : Md}
variable {d : Nat} {ty : TypeId} {pos : String} {af : Array Edge}
theorem vO (w : World) (t el : TypeId) (hu : P.underlying t = some (.slice el)) (a : Option Addr) (m c : Nat) : (binOp .eql t (.slice a m c) (.slice none 0 0)).run P w = .ok (.bool a.isNone) w := by
 have h0 : ∀ d : Nat, (Op.equalIn (d + 1) t (.slice a m c) (.slice none 0 0)).run P w = .ok a.isNone w := fun d => by
  cases a <;> simp [Op.equalIn, dI hu]
 have h := h0 9999
 simp only [binOp]
 simp [Op.equal, Op.maxDepth, h]
theorem tY {t t' el : TypeId} {x : Operand} {m : Nat} {cs : List AV} [ht : SlT P t el] (hx : ev (lk ts) x = some (.imm m cs)) (hN : Nat.blt d N = true)
  (kk : ∀ b : Bool, (b = true → m = 0) → RW P N all Q .txt rest ⟨(d, .v (.bool b)) :: ts, hs, n, z0⟩) : RW P N all Q .txt (⟨some d, .binOp .eql t x (.const (.slice none 0 0)) t', ty, pos, af, none⟩ :: rest) ⟨ts, hs, n, z0⟩ := by
 rintro C a w hCN ⟨h0, ι, g, gh⟩
 refine wpList_plain rfl (fun K hK => ?_)
 have h1 := dE g hx
 simp only [Rd] at h1
 obtain ⟨a', c, h2, h3⟩ := h1
 have hu := kD ht.pf
 have hb : a'.isNone = true → m = 0 := fun hn => by
  rcases h3 with h3 | ⟨b, o, _, rfl, _⟩
  ·exact h3
  ·cases hn
 have hg : (eqGuard .eql t x (.const (.slice none 0 0)) (.slice a' m c) (.slice none 0 0)).run P w = .ok () w := by simp [eqGuard]
 have hr : (execOp a.eval ⟨some d, .binOp .eql t x (.const (.slice none 0 0)) t', ty, pos, af, none⟩).run P w = .ok (.value (.bool a'.isNone)) w := by
  have e2 : a.eval (.const (.slice none 0 0)) = .slice none 0 0 := rfl
  simp only [execOp, h2, e2, Sem.run_bind, hg, Result.andThen_ok, vO w t el hu, Sem.run_pure]
 simp only [Oper.wp, hr, Oper.upon]
 refine hK _ _ (kk a'.isNone hb C _ _ hCN ⟨h0, ι, ?_, gh⟩)
 show TG C ι (lk ((d, AV.v (.bool a'.isNone)) :: ts)) _ _ _
 rw [iW]
 exact g.put (by have := eG hN; omega) (by simp [Rd])
end
theorem Ck {α : Type} {f : α → List AV} {e : Nat} [h : FlT f e] {hs : List (Nat × Option (List AV))} {xs : List α} {i k n : Nat} (hH : cE hs i = some (aI f xs)) (hn : n = xs.length - k) : sCells (cE hs) e (pU (.own i (0 + k * e) n e)) = some (n, aI f (xs.drop k)) := by
 show ((cE hs i).bind fun cs => if n * e ≤ (cs.drop (0 + k * e)).length then some (n, (cs.drop (0 + k * e)).take (n * e)) else none) = _
 rw [hH, Option.bind_some, Nat.zero_add]
 have h1 : (aI f xs).length = xs.length * e := aU f xs
 have h3 : (aI f xs).drop (k * e) = aI f (xs.drop k) := by
  have h4 : aI f xs = aI f (xs.take k) ++ aI f (xs.drop k) := by rw [eE, List.take_append_drop]
  have h5 : (aI f (xs.take k)).length = (xs.take k).length * e := aU f _
  by_cases hk : k ≤ xs.length
  ·rw [h4, ← show (aI f (xs.take k)).length = k * e from by rw [h5, List.length_take]; congr 1; omega, List.drop_left]
  ·rw [List.drop_of_length_le (by rw [h1]; exact Nat.mul_le_mul_right _ (by omega)), List.drop_of_length_le (by omega)]; rfl
 rw [h3]
 have h2 : (aI f (xs.drop k)).length = (xs.length - k) * e := by rw [aU f (e := e), List.length_drop]
 rw [h2, hn, if_pos (Nat.le_refl _), List.take_of_length_le (by rw [h2]; exact Nat.le_refl _)]
theorem o9 {T : Nat → Option AV} {x : Operand} {dd : Nat} {k : IntKind} {m : Int} {h : Nat} (hx : ev T x = some (.v (.int k m))) (e : m = (h : Int)) : g6 T (some x) dd = some h := by
 simp only [g6, hx]; rw [if_pos (by omega)]; congr 1; omega
end Go.AL
namespace Go.AL
structure Tg where
 id : Int
 uq : Bool
 deriving Inhabited, DecidableEq
structure Cl where
 val : Int
 alive : Bool
 next : Int
 stk : List Tg
 deriving Inhabited, DecidableEq
structure Pt where
 cell : Int
 tag : Int
 deriving Inhabited, DecidableEq
structure Sl where
 set : Bool
 num : Int
 ptr : Pt
 deriving Inhabited, DecidableEq
def eF (t : Tg) : List AV := [iv t.id, bv t.uq]
def eC (c : Cl) : List AV := [iv c.val, bv c.alive, iv c.next, sl eF c.stk]
def eV (s : Sl) : List AV := [bv s.set, iv s.num, iv s.ptr.cell, iv s.ptr.tag]
instance : FlT eF 2 := ⟨fun _ => rfl⟩
instance : FlT eC 4 := ⟨fun _ => rfl⟩
instance : FlT eV 4 := ⟨fun _ => rfl⟩
instance : FE eF (fun t => [iv t.id, bv t.uq]) := ⟨fun _ => rfl⟩
instance : FE eC (fun c => [iv c.val, bv c.alive, iv c.next, sl eF c.stk]) := ⟨fun _ => rfl⟩
instance : FE eV (fun s => [bv s.set, iv s.num, iv s.ptr.cell, iv s.ptr.tag]) := ⟨fun _ => rfl⟩
instance (t : Tg) : Pur (eF t) := ⟨rfl⟩
instance (c : Cl) : Pur (eC c) := ⟨by show (true && (true && (true && ((sl eF c.stk).pur && true)))) = true; rw [aZ]; rfl⟩
instance (s : Sl) : Pur (eV s) := ⟨rfl⟩
abbrev Ml (t : Tg) : AV := .agg [iv t.id, bv t.uq]
abbrev Gc (p : Pt) : AV := .agg [iv p.cell, iv p.tag]
abbrev L6 (s : Sl) : AV := .agg [bv s.set, iv s.num, iv s.ptr.cell, iv s.ptr.tag]
structure OkC (c : Cl) : Prop where
 v : 0 ≤ c.val ∧ c.val ≤ 9
 n : 1 ≤ c.next ∧ c.next ≤ 1000
 l : 1 ≤ c.stk.length ∧ c.stk.length ≤ 200
 u : c.stk[0]!.uq = true
 i : ∀ t ∈ c.stk, 0 ≤ t.id ∧ t.id < c.next
 d : (c.stk.map (·.id)).Nodup
structure OkM (m : List Cl) : Prop where
 l : m.length ≤ 200
 c : ∀ c ∈ m, OkC c
def cP (stk : List Tg) (id : Int) : Int := match stk.findIdx? (fun t => decide (t.id = id)) with | some k => k | none => -1
theorem e7 (stk : List Tg) (id : Int) : -1 ≤ cP stk id ∧ cP stk id < stk.length := by
 unfold cP
 split
 ·rename_i k h
  obtain ⟨h1, _⟩ := List.findIdx?_eq_some_iff_getElem.1 h
  omega
 ·omega
theorem kX {stk : List Tg} {id : Int} (h : 0 ≤ cP stk id) : stk[(cP stk id).toNat]!.id = id := by
 unfold cP at h ⊢
 split
 ·rename_i k hk
  obtain ⟨h1, h2, _⟩ := List.findIdx?_eq_some_iff_getElem.1 hk
  rw [Int.toNat_natCast, cL _ _ h1]
  simpa using h2
 ·rename_i hk; rw [hk] at h; dsimp only at h; omega
theorem mM {stk : List Tg} {id : Int} : cP stk id < 0 ↔ ∀ t ∈ stk, t.id ≠ id := by
 unfold cP
 split
 ·rename_i k hk
  obtain ⟨h1, h2, _⟩ := List.findIdx?_eq_some_iff_getElem.1 hk
  refine ⟨fun h => by omega, fun h => ?_⟩
  exact absurd (by simpa using h2) (h _ (List.getElem_mem h1))
 ·rename_i hk
  rw [List.findIdx?_eq_none_iff] at hk
  exact ⟨fun _ t ht => by simpa using hk t ht, fun _ => by omega⟩
def eQ (stk : List Tg) (k : Nat) (wr : Bool) : List Tg := if wr = true then stk.take (k + 1) else stk.take (k + 1) ++ (stk.drop (k + 1)).filter (fun t => !t.uq)
def cR (m : List Cl) (x : Pt) (wr : Bool) : Int :=
 if ¬ (0 ≤ x.cell ∧ x.cell < m.length) then 4
 else if m[x.cell.toNat]!.alive = false then 1
 else if cP m[x.cell.toNat]!.stk x.tag < 0 then 2
 else if wr = true ∧ m[x.cell.toNat]!.stk[(cP m[x.cell.toNat]!.stk x.tag).toNat]!.uq = false then 3
 else 0
def iO (c : Cl) (x : Pt) (wr : Bool) : Cl := { c with stk := eQ c.stk (cP c.stk x.tag).toNat wr }
def fL (m : List Cl) (x : Pt) (wr : Bool) : List Cl := if cR m x wr = 0 then m.set x.cell.toNat (iO m[x.cell.toNat]! x wr) else m
def uK (m : List Cl) (x : Pt) : Int := if cR m x false = 0 then m[x.cell.toNat]!.val else 0
def qP (m : List Cl) (x : Pt) (v : Int) : Int := if 0 ≤ v ∧ v ≤ 9 then cR m x true else 4
def oZ (m : List Cl) (x : Pt) (v : Int) : List Cl := if qP m x v = 0 then m.set x.cell.toNat { iO m[x.cell.toNat]! x true with val := v } else m
def jB (m : List Cl) (x : Pt) : List Cl := if cR m x true = 0 then m.set x.cell.toNat { iO m[x.cell.toNat]! x true with alive := false } else m
def BY (c : Cl) : Prop := c.stk.length = 200 ∨ c.next = 1000
instance (c : Cl) : Decidable (BY c) := by unfold BY; infer_instance
def qI (m : List Cl) (x : Pt) (u : Bool) : Int := if cR m x u = 0 then (if BY (iO m[x.cell.toNat]! x u) then 4 else 0) else cR m x u
def psh (c : Cl) (u : Bool) : Cl := { c with stk := c.stk ++ [⟨c.next, u⟩], next := c.next + 1 }
def m8 (m : List Cl) (x : Pt) (u : Bool) : List Cl := if qI m x u = 0 then m.set x.cell.toNat (psh (iO m[x.cell.toNat]! x u) u) else m
def zW (m : List Cl) (x : Pt) (u : Bool) : Pt := if qI m x u = 0 then ⟨x.cell, m[x.cell.toNat]!.next⟩ else ⟨0, 0⟩
def oY (v : Int) : Cl := ⟨v, true, 1, [⟨0, true⟩]⟩
theorem tchS_sub {stk : List Tg} {k : Nat} {wr : Bool} : (eQ stk k wr).Sublist stk := by
 unfold eQ
 split
 ·exact List.take_sublist _ _
 ·have h := List.Sublist.append (List.Sublist.refl (stk.take (k + 1))) (List.filter_sublist (l := stk.drop (k + 1)) (p := fun t => !t.uq))
  rwa [List.take_append_drop] at h
theorem wL {stk : List Tg} {k : Nat} {wr : Bool} (h : 0 < stk.length) : (eQ stk k wr)[0]! = stk[0]! ∧ 0 < (eQ stk k wr).length := by
 cases stk with
 | nil => simp at h
 | cons a l =>
  unfold eQ
  split <;> simp
theorem OkC.tch {c : Cl} (h : OkC c) (x : Pt) (wr : Bool) : OkC (iO c x wr) := by
 have hs := tchS_sub (stk := c.stk) (k := (cP c.stk x.tag).toNat) (wr := wr)
 have hh := wL (k := (cP c.stk x.tag).toNat) (wr := wr) (stk := c.stk) (by have := h.l; omega)
 refine ⟨h.v, h.n, ⟨hh.2, Nat.le_trans hs.length_le h.l.2⟩, ?_, fun t ht => h.i t (hs.subset ht), (hs.map _).nodup h.d⟩
 show (eQ c.stk (cP c.stk x.tag).toNat wr)[0]!.uq = true
 rw [hh.1]; exact h.u
theorem OkC.psh {c : Cl} (h : OkC c) (u : Bool) (hf : ¬ BY c) : OkC (psh c u) := by
 have hl := h.l
 have hn := h.n
 unfold BY at hf
 refine ⟨h.v, by show 1 ≤ c.next + 1 ∧ c.next + 1 ≤ 1000; omega, by show 1 ≤ (c.stk ++ [_]).length ∧ (c.stk ++ [_]).length ≤ 200; rw [List.length_append, List.length_singleton]; omega, ?_, fun t ht => ?_, ?_⟩
 ·show (c.stk ++ [_])[0]!.uq = true
  have h1 := h.u
  rw [cL _ _ (by omega)] at h1
  rw [cL _ _ (by rw [List.length_append]; omega), List.getElem_append_left (by omega)]; exact h1
 ·rcases List.mem_append.1 ht with ht | ht
  ·have := h.i t ht; show 0 ≤ t.id ∧ t.id < c.next + 1; omega
  ·rw [List.mem_singleton] at ht; subst ht; show 0 ≤ c.next ∧ c.next < c.next + 1; omega
 ·show ((c.stk ++ [_]).map _).Nodup
  rw [List.map_append, List.nodup_append]
  refine ⟨h.d, by simp, fun a ha b hb => ?_⟩
  simp only [List.map_cons, List.map_nil, List.mem_singleton] at hb
  obtain ⟨t, ht, rfl⟩ := List.mem_map.1 ha
  have := h.i t ht
  omega
theorem OkC.nw {v : Int} (h : 0 ≤ v ∧ v ≤ 9) : OkC (oY v) := ⟨h, ⟨by show (1 : Int) ≤ 1; decide, by show (1 : Int) ≤ 1000; decide⟩, ⟨by show 1 ≤ 1; decide, by show 1 ≤ 200; decide⟩, rfl, by simp [oY], by simp [oY]⟩
theorem OkM.set {m : List Cl} (h : OkM m) {k : Nat} {c : Cl} (hc : OkC c) : OkM (m.set k c) :=
 ⟨by rw [List.length_set]; exact h.l, fun x hx => (List.mem_or_eq_of_mem_set hx).elim (h.c x) (fun e => e ▸ hc)⟩
theorem OkM.at {m : List Cl} (h : OkM m) {k : Nat} (hk : k < m.length) : OkC m[k]! := h.c _ (bY _ _ hk)
theorem iZ {m : List Cl} {x : Pt} {wr : Bool} (h : cR m x wr ≠ 4) : 0 ≤ x.cell ∧ x.cell < m.length ∧ x.cell.toNat < m.length := by
 unfold cR at h
 split at h
 ·exact absurd rfl h
 ·omega
theorem dN {m : List Cl} {x : Pt} {wr : Bool} (h : cR m x wr = 0) : 0 ≤ x.cell ∧ x.cell < m.length ∧ x.cell.toNat < m.length := iZ (by rw [h]; decide)
theorem OkM.tch {m : List Cl} (h : OkM m) (x : Pt) (wr : Bool) : OkM (fL m x wr) := by
 unfold fL; split
 ·rename_i hk; exact h.set ((h.at (dN hk).2.2).tch x wr)
 ·exact h
theorem OkM.wr {m : List Cl} (h : OkM m) (x : Pt) (v : Int) : OkM (oZ m x v) := by
 unfold oZ
 by_cases hk : qP m x v = 0
 ·rw [if_pos hk]
  unfold qP at hk
  by_cases hv : 0 ≤ v ∧ v ≤ 9
  ·rw [if_pos hv] at hk
   have h1 := (h.at (dN hk).2.2).tch x true
   exact h.set ⟨hv, h1.n, h1.l, h1.u, h1.i, h1.d⟩
  ·rw [if_neg hv] at hk; cases hk
 ·rw [if_neg hk]; exact h
theorem OkM.fr {m : List Cl} (h : OkM m) (x : Pt) : OkM (jB m x) := by
 unfold jB; split
 ·rename_i hk
  have h1 := (h.at (dN hk).2.2).tch x true
  exact h.set ⟨h1.v, h1.n, h1.l, h1.u, h1.i, h1.d⟩
 ·exact h
theorem OkM.ln {m : List Cl} (h : OkM m) (x : Pt) (u : Bool) : OkM (m8 m x u) := by
 unfold m8
 by_cases hk : qI m x u = 0
 ·rw [if_pos hk]
  unfold qI at hk
  by_cases h0 : cR m x u = 0
  ·rw [if_pos h0] at hk
   by_cases hf : BY (iO m[x.cell.toNat]! x u)
   ·rw [if_pos hf] at hk; cases hk
   ·exact h.set (((h.at (dN h0).2.2).tch x u).psh u hf)
  ·rw [if_neg h0] at hk; exact absurd hk h0
 ·rw [if_neg hk]; exact h
theorem OkM.nw {m : List Cl} (h : OkM m) {v : Int} (hv : 0 ≤ v ∧ v ≤ 9) (hl : m.length < 200) : OkM (m ++ [oY v]) :=
 ⟨by rw [List.length_append, List.length_singleton]; omega, fun c hc => (List.mem_append.1 hc).elim (h.c c) (fun h => by rw [List.mem_singleton.1 h]; exact OkC.nw hv)⟩
end Go.AL
namespace Go.AL
def eS (pts : List Pnt) (a : Nat) (cs : List Int) : Nat × List Int :=
 if pts[a]!.next.length = 2 then
  match cs with
  | [] => ((pts[a]!.next[1]!).toNat, [])
  | c :: cs => ((pts[a]!.next[(c % 2).toNat]!).toNat, cs)
 else ((pts[a]!.next[0]!).toNat, cs)
def eH (pts : List Pnt) : Nat → Nat → List Int → List Nat × Bool
 | 0, a, _ => if pts[a]!.op = 11 then ([a], true) else ([], false)
 | n + 1, a, cs => if pts[a]!.op = 11 then ([a], true) else (a :: (eH pts n (eS pts a cs).1 (eS pts a cs).2).1, (eH pts n (eS pts a cs).1 (eS pts a cs).2).2)
structure Mc where
 slots : List Sl
 cells : List Cl
 read : List Int
 deriving Inhabited
def iT : Sl := ⟨false, 0, ⟨0, 0⟩⟩
def iX (k : Int) : Int := if k = 1 then 3 else 4
def lL (k : Int) : Int := if k = 0 then -1 else iX k
def dM (ts : List Int) (s : Mc) (v : Nat) (x : Sl) : Mc × Int :=
 if ts[v]! = 2 ∧ s.slots[v]!.set = true then (⟨s.slots.set v x, jB s.cells s.slots[v]!.ptr, s.read⟩, lL (cR s.cells s.slots[v]!.ptr true))
 else (⟨s.slots.set v x, s.cells, s.read⟩, -1)
def cX (ts : List Int) (s : Mc) (x : Pnt) : Bool := (List.range ts.length).any fun v => decide (bO ts x v ≠ 0) && !s.slots[v]!.set
def dT (ts : List Int) : Nat → Nat → Mc → Mc × Int
 | 0, _, s => (s, 0)
 | n + 1, v, s => if ts[v]! = 2 ∧ s.slots[v]!.set = true then
   (if cR s.cells s.slots[v]!.ptr true = 0 then dT ts n (v + 1) ⟨s.slots.set v iT, jB s.cells s.slots[v]!.ptr, s.read⟩ else (⟨s.slots, jB s.cells s.slots[v]!.ptr, s.read⟩, iX (cR s.cells s.slots[v]!.ptr true)))
  else dT ts n (v + 1) s
def cO (ts : List Int) (s : Mc) (x : Pnt) : Mc × Int :=
 if x.op = 1 then dM ts s x.x.toNat ⟨true, x.n, ⟨0, 0⟩⟩
 else if x.op = 2 then (if s.cells.length = 200 then (s, 1) else dM ts ⟨s.slots, s.cells ++ [oY x.n], s.read⟩ x.x.toNat ⟨true, 0, ⟨s.cells.length, 0⟩⟩)
 else if x.op = 3 then dM ts (if Cq ts[x.y.toNat]! = true then ⟨s.slots.set x.y.toNat iT, s.cells, s.read⟩ else s) x.x.toNat s.slots[x.y.toNat]!
 else if x.op = 4 ∨ x.op = 5 then
  (if qI s.cells s.slots[x.y.toNat]!.ptr (decide (x.op = 5)) = 0 then dM ts ⟨s.slots, m8 s.cells s.slots[x.y.toNat]!.ptr (decide (x.op = 5)), s.read⟩ x.x.toNat ⟨true, 0, zW s.cells s.slots[x.y.toNat]!.ptr (decide (x.op = 5))⟩
   else (s, iX (qI s.cells s.slots[x.y.toNat]!.ptr (decide (x.op = 5)))))
 else if x.op = 6 then
  (if cR s.cells s.slots[x.y.toNat]!.ptr false = 0 then dM ts ⟨s.slots, fL s.cells s.slots[x.y.toNat]!.ptr false, s.read ++ [uK s.cells s.slots[x.y.toNat]!.ptr]⟩ x.x.toNat ⟨true, uK s.cells s.slots[x.y.toNat]!.ptr, ⟨0, 0⟩⟩
   else (s, iX (cR s.cells s.slots[x.y.toNat]!.ptr false)))
 else if x.op = 7 then (⟨s.slots, oZ s.cells s.slots[x.x.toNat]!.ptr s.slots[x.y.toNat]!.num, s.read⟩, lL (qP s.cells s.slots[x.x.toNat]!.ptr s.slots[x.y.toNat]!.num))
 else if x.op = 8 then (⟨s.slots.set x.x.toNat iT, jB s.cells s.slots[x.x.toNat]!.ptr, s.read⟩, lL (cR s.cells s.slots[x.x.toNat]!.ptr true))
 else if x.op = 11 then dT ts ts.length 0 s
 else (s, -1)
def gD (ts : List Int) (pts : List Pnt) : List Nat → Mc → Nat → Mc × Int × Nat
 | [], s, last => (s, 1, last)
 | a :: l, s, _ => if cX ts s pts[a]! = true then (s, 2, a)
  else if (cO ts s pts[a]!).2 = -1 then gD ts pts l (cO ts s pts[a]!).1 a
  else ((cO ts s pts[a]!).1, (cO ts s pts[a]!).2, a)
def mc0 (nt : Nat) : Mc := ⟨List.replicate nt iT, [], []⟩
def dZ (ts : List Int) (pts : List Pnt) (cs : List Int) (most : Nat) : Mc × Int × Nat := gD ts pts (eH pts most 0 cs).1 (mc0 ts.length) 0
structure OkS (nt : Nat) (s : Mc) : Prop where
 m : OkM s.cells
 l : s.slots.length = nt
theorem OkS.put {ts : List Int} {nt : Nat} {s : Mc} (h : OkS nt s) (v : Nat) (x : Sl) : OkS nt (dM ts s v x).1 := by
 unfold dM; split
 ·exact ⟨h.m.fr _, by show (s.slots.set v x).length = nt; rw [List.length_set]; exact h.l⟩
 ·exact ⟨h.m, by show (s.slots.set v x).length = nt; rw [List.length_set]; exact h.l⟩
theorem OkS.fin {ts : List Int} {nt : Nat} : ∀ n v (s : Mc), OkS nt s → OkS nt (dT ts n v s).1
 | 0, _, _, h => h
 | n + 1, v, s, h => by
  unfold dT; split
  ·split
   ·exact OkS.fin n _ _ ⟨h.m.fr _, by show (s.slots.set v iT).length = nt; rw [List.length_set]; exact h.l⟩
   ·exact ⟨h.m.fr _, h.l⟩
  ·exact OkS.fin n _ _ h
structure PtN (x : Pnt) : Prop where
 n : x.op = 2 → 0 ≤ x.n ∧ x.n ≤ 9
theorem OkS.do {ts : List Int} {nt : Nat} {s : Mc} (h : OkS nt s) {x : Pnt} (hx : PtN x) : OkS nt (cO ts s x).1 := by
 have hl : ∀ (v : Nat) (y : Sl), (s.slots.set v y).length = nt := fun v y => by rw [List.length_set]; exact h.l
 unfold cO
 split
 ·exact h.put _ _
 split
 ·rename_i h2
  split
  ·exact h
  ·rename_i h3
   refine OkS.put ?_ _ _
   exact ⟨h.m.nw (hx.n h2) (by have := h.m.l; omega), h.l⟩
 split
 ·split
  ·refine OkS.put ?_ _ _
   exact ⟨h.m, hl _ _⟩
  ·exact h.put _ _
 split
 ·split
  ·refine OkS.put ?_ _ _
   exact ⟨h.m.ln _ _, h.l⟩
  ·exact h
 split
 ·split
  ·refine OkS.put ?_ _ _
   exact ⟨h.m.tch _ _, h.l⟩
  ·exact h
 split
 ·exact ⟨h.m.wr _ _, h.l⟩
 split
 ·exact ⟨h.m.fr _, hl _ _⟩
 split
 ·exact OkS.fin _ _ _ h
 ·exact h
theorem OkS.mc0 (nt : Nat) : OkS nt (mc0 nt) := ⟨⟨by simp [Go.AL.mc0], by simp [Go.AL.mc0]⟩, by simp [Go.AL.mc0]⟩
theorem OkS.run {ts : List Int} {pts : List Pnt} {nt : Nat} (hp : ∀ a : Nat, PtN pts[a]!) : ∀ (l : List Nat) (s : Mc) (last : Nat), OkS nt s → OkS nt (gD ts pts l s last).1
 | [], _, _, h => h
 | a :: l, s, _, h => by
  unfold gD; split
  ·exact h
  ·split
   ·exact OkS.run hp l _ _ (h.do (hp a))
   ·exact h.do (hp a)
end Go.AL
namespace Go.AL
theorem yO (k : Int) : lL k = -1 ∨ lL k = 3 ∨ lL k = 4 := by unfold lL iX; split; exact .inl rfl; split; exact .inr (.inl rfl); exact .inr (.inr rfl)
theorem lA (k : Int) : iX k = 3 ∨ iX k = 4 := by unfold iX; split; exact .inl rfl; exact .inr rfl
theorem mV (ts : List Int) (s : Mc) (v : Nat) (x : Sl) : (dM ts s v x).2 = -1 ∨ (dM ts s v x).2 = 3 ∨ (dM ts s v x).2 = 4 := by
 unfold dM; split
 ·exact yO _
 ·exact .inl rfl
theorem xD {ts : List Int} {s : Mc} {x : Pnt} (h : x.op ≠ 11) : (cO ts s x).2 = -1 ∨ (cO ts s x).2 = 1 ∨ (cO ts s x).2 = 3 ∨ (cO ts s x).2 = 4 := by
 have p := fun s v y => mV ts s v y
 have p' : ∀ s v y, (dM ts s v y).2 = -1 ∨ (dM ts s v y).2 = 1 ∨ (dM ts s v y).2 = 3 ∨ (dM ts s v y).2 = 4 := fun s v y => by
  rcases p s v y with h | h | h
  ·exact .inl h
  ·exact .inr (.inr (.inl h))
  ·exact .inr (.inr (.inr h))
 have g : ∀ k, lL k = -1 ∨ lL k = 1 ∨ lL k = 3 ∨ lL k = 4 := fun k => by
  rcases yO k with h | h | h
  ·exact .inl h
  ·exact .inr (.inr (.inl h))
  ·exact .inr (.inr (.inr h))
 have e : ∀ k, iX k = -1 ∨ iX k = 1 ∨ iX k = 3 ∨ iX k = 4 := fun k => .inr (.inr (lA k))
 unfold cO
 rw [if_neg h]
 split
 ·exact p' _ _ _
 split
 ·split
  ·exact .inr (.inl rfl)
  ·exact p' _ _ _
 split
 ·exact p' _ _ _
 split
 ·split
  ·exact p' _ _ _
  ·exact e _
 split
 ·split
  ·exact p' _ _ _
  ·exact e _
 split
 ·exact g _
 split
 ·exact g _
 exact .inl rfl
theorem mJ (ts : List Int) : ∀ n v (s : Mc), (dT ts n v s).2 = 0 ∨ (dT ts n v s).2 = 3 ∨ (dT ts n v s).2 = 4
 | 0, _, _ => .inl rfl
 | n + 1, v, s => by
  unfold dT; split
  ·split
   ·exact mJ ts n _ _
   ·exact .inr (lA _)
  ·exact mJ ts n _ _
theorem qG {ts : List Int} {s : Mc} {x : Pnt} (h : x.op = 11) : cO ts s x = dT ts ts.length 0 s := by
 unfold cO; simp [h]
theorem j1 (m : List Cl) (x : Pt) : (jB m x).length = m.length := by unfold jB; split <;> simp
theorem l0 (m : List Cl) (x : Pt) (b : Bool) : (fL m x b).length = m.length := by unfold fL; split <;> simp
theorem qS (m : List Cl) (x : Pt) (b : Bool) : (m8 m x b).length = m.length := by unfold m8; split <;> simp
theorem yC (m : List Cl) (x : Pt) (v : Int) : (oZ m x v).length = m.length := by unfold oZ; split <;> simp
theorem DE (ts : List Int) (s : Mc) (v : Nat) (x : Sl) : (dM ts s v x).1.cells.length = s.cells.length := by
 unfold dM; split
 ·exact j1 _ _
 ·rfl
theorem pK (ts : List Int) : ∀ n v (s : Mc), (dT ts n v s).1.cells.length = s.cells.length
 | 0, _, _ => rfl
 | n + 1, v, s => by
  unfold dT; split
  ·split
   ·rw [pK ts n]; exact j1 _ _
   ·exact j1 _ _
  ·exact pK ts n _ _
theorem zE (ts : List Int) (s : Mc) (x : Pnt) : (cO ts s x).1.cells.length ≤ s.cells.length + 1 := by
 have p : ∀ s' v y, s'.cells.length ≤ s.cells.length + 1 → (dM ts s' v y).1.cells.length ≤ s.cells.length + 1 := fun s' v y h => by rw [DE]; exact h
 unfold cO
 split
 ·exact p _ _ _ (Nat.le_succ _)
 split
 ·split
  ·exact Nat.le_succ _
  ·refine p _ _ _ ?_; show (s.cells ++ [_]).length ≤ _; simp
 split
 ·split
  ·exact p _ _ _ (Nat.le_succ _)
  ·exact p _ _ _ (Nat.le_succ _)
 split
 ·split
  ·refine p _ _ _ ?_; show (m8 _ _ _).length ≤ _; rw [qS]; exact Nat.le_succ _
  ·exact Nat.le_succ _
 split
 ·split
  ·refine p _ _ _ ?_; show (fL _ _ _).length ≤ _; rw [l0]; exact Nat.le_succ _
  ·exact Nat.le_succ _
 split
 ·show (oZ _ _ _).length ≤ _; rw [yC]; exact Nat.le_succ _
 split
 ·show (jB _ _).length ≤ _; rw [j1]; exact Nat.le_succ _
 split
 ·rw [pK]; exact Nat.le_succ _
 ·exact Nat.le_succ _
end Go.AL
namespace Go.AL
structure PtA (ts : List Int) (x : Pnt) : Prop where
 n : x.op = 1 ∨ x.op = 2 → 0 ≤ x.n ∧ x.n ≤ 9
 t1 : x.op = 1 → ts[x.x.toNat]! = 1
 t2 : x.op = 2 ∨ x.op = 8 → ts[x.x.toNat]! = 2
 t3 : x.op = 3 → ts[x.x.toNat]! = ts[x.y.toNat]! ∧ x.x ≠ x.y
 t4 : x.op = 4 → ts[x.x.toNat]! = 3 ∧ x.x ≠ x.y ∧ 2 ≤ ts[x.y.toNat]!
 t5 : x.op = 5 → ts[x.x.toNat]! = 4 ∧ x.x ≠ x.y ∧ (ts[x.y.toNat]! = 2 ∨ ts[x.y.toNat]! = 4)
 t6 : x.op = 6 → ts[x.x.toNat]! = 1 ∧ 2 ≤ ts[x.y.toNat]!
 t7 : x.op = 7 → (ts[x.x.toNat]! = 2 ∨ ts[x.x.toNat]! = 4) ∧ ts[x.y.toNat]! = 1
theorem PtA.no {ts : List Int} {x : Pnt} (h : 9 ≤ x.op) : PtA ts x := ⟨fun e => by omega, fun e => by omega, fun e => by omega, fun e => by omega, fun e => by omega, fun e => by omega, fun e => by omega, fun e => by omega⟩
theorem BC {ts : List Int} {s : Stmt} (h : eO ts s = true) : s.op ≤ 8 := by
 unfold eO at h
 dsimp only at h
 apply Classical.byContradiction
 intro e
 rw [if_neg (by omega), if_neg (by omega)] at h
 split at h
 ·cases h
 ·rw [if_neg (by omega), if_neg (by omega), if_neg (by omega), if_neg (by omega), if_neg (by omega), if_neg (by omega)] at h; cases h
theorem EP {ts : List Int} (s : Stmt) (h : eO ts s = true) : PtA ts ⟨s.op, s.x, s.y, s.n, []⟩ := by
 have g : ∀ v, 0 < fZ ts v → fZ ts v = ts[v.toNat]! := fun v => By
 have gx := g s.x
 have gy := g s.y
 unfold eO at h
 dsimp only at h
 constructor <;> dsimp only <;> intro e
 case n => rcases e with e | e <;> simp [e] at h <;> omega
 case t1 => simp [e] at h; rw [← gx (by omega)]; omega
 case t2 => rcases e with e | e <;> simp [e] at h <;> (rw [← gx (by omega)]; omega)
 case t3 => simp [e] at h; rw [← gx (by omega), ← gy (by omega)]; exact ⟨h.2.1, h.2.2.2⟩
 case t4 => simp [e] at h; rw [← gx (by omega), ← gy (by omega)]; exact ⟨h.2.1, h.2.2.2, h.2.2.1⟩
 case t5 => simp [e] at h; rw [← gx (by omega), ← gy (by omega)]; exact ⟨h.2.1, h.2.2.2, h.2.2.1⟩
 case t6 => simp [e] at h; rw [← gx (by omega), ← gy (by omega)]; exact ⟨h.2.1, h.2.2⟩
 case t7 => simp [e] at h; rw [← gx (by omega), ← gy (by omega)]; exact ⟨h.2.1, h.2.2⟩
mutual
theorem LB {ts : List Int} : ∀ (s : Stmt) (d b : Nat), oP ts d s = true → ∀ x ∈ yH b s, PtA ts x ∧ x.op ≠ 11 ∧ 0 < x.next.length
 | .mk op x y n th el, d, b, h => by
  simp only [oP] at h
  split at h
  ·rename_i hop
   simp only [Bool.and_eq_true] at h
   have hs := EP _ h.2
   have ho := BC h.2
   simp only [Stmt.op, Stmt.x, Stmt.y, Stmt.n] at hs ho
   simp only [yH, hop.1, hop.2, if_false, List.mem_singleton]
   rintro z rfl
   exact ⟨⟨hs.n, hs.t1, hs.t2, hs.t3, hs.t4, hs.t5, hs.t6, hs.t7⟩, by dsimp only; omega, by simp⟩
  ·rename_i hop
   cases d with
   | zero => cases h
   | succ d =>
    simp only [Bool.and_eq_true, decide_eq_true_eq] at h
    obtain ⟨⟨⟨_, _⟩, h1⟩, h2⟩ := h
    by_cases h9 : op = 9
    ·subst h9
     simp only [yH, if_true, List.mem_append, List.mem_singleton]
     rintro z (((rfl | hz) | rfl) | hz)
     ·exact ⟨PtA.no (by simp), by simp, by simp⟩
     ·exact tA th d (b + 1) h1 z hz
     ·exact ⟨PtA.no (by simp), by simp, by simp⟩
     ·exact tA el d (b + 2 + eA th) h2 z hz
    ·have h10 : op = 10 := by omega
     subst h10
     simp only [yH, if_true, show ((10 : Int) = 9) = False by simp, if_false, List.mem_append, List.mem_singleton]
     rintro z ((rfl | hz) | rfl)
     ·exact ⟨PtA.no (by simp), by simp, by simp⟩
     ·exact tA th d (b + 1) h1 z hz
     ·exact ⟨PtA.no (by simp), by simp, by simp⟩
theorem tA {ts : List Int} : ∀ (l : List Stmt) (d b : Nat), okL ts d l = true → ∀ x ∈ gA b l, PtA ts x ∧ x.op ≠ 11 ∧ 0 < x.next.length
 | [], d, b, h => by simp [gA]
 | s :: l, d, b, h => by
  simp only [okL, Bool.and_eq_true] at h
  simp only [gA, List.mem_append]
  rintro x (hx | hx)
  ·exact LB s d b h.1 x hx
  ·exact tA l d (b + pS s) h.2 x hx
end
structure WA (ts : List Int) (pts : List Pnt) : Prop where
 a : ∀ i, i < pts.length → PtA ts pts[i]!
 e : ∀ i, i < pts.length → (pts[i]!.op = 11 ↔ i + 1 = pts.length)
 n : ∀ i, i < pts.length → pts[i]!.op ≠ 11 → 0 < pts[i]!.next.length
theorem WA.of_valid {p : Prg} (h : dC p = true) : WA p.types (dF p) := by
 unfold dC at h
 simp only [Bool.and_eq_true, decide_eq_true_eq] at h
 obtain ⟨⟨_, hl⟩, _⟩ := h
 have hlen := sJ p
 have hpl := dR p.body 0
 have lo : ∀ i, i + 1 < (dF p).length → (dF p)[i]! ∈ gA 0 p.body := fun i hi => by
  have h1 : i < (gA 0 p.body).length := by omega
  unfold dF
  rw [cL _ _ (by rw [List.length_append]; omega), List.getElem_append_left h1]
  exact List.getElem_mem h1
 have hi : ∀ i, i + 1 = (dF p).length → (dF p)[i]! = ⟨11, 0, 0, 0, []⟩ := fun i hi => by
  have h1 : i = (gA 0 p.body).length := by omega
  unfold dF
  rw [cL _ _ (by rw [List.length_append, List.length_singleton]; omega)]
  simp [h1]
 refine ⟨fun i h => ?_, fun i h => ⟨fun e => ?_, fun e => by rw [hi i e]⟩, fun i h ne => ?_⟩
 ·by_cases q : i + 1 < (dF p).length
  ·exact (tA p.body 4 0 hl _ (lo i q)).1
  ·rw [hi i (by omega)]; exact PtA.no (by simp)
 ·by_cases q : i + 1 < (dF p).length
  ·exact absurd e (tA p.body 4 0 hl _ (lo i q)).2.1
  ·omega
 ·by_cases q : i + 1 < (dF p).length
  ·exact (tA p.body 4 0 hl _ (lo i q)).2.2
  ·exact absurd (by rw [hi i (by omega)]) ne
end Go.AL
namespace Go.AL
theorem j7 {xs : List Sl} {X : Int} (y : Sl) {v : Nat} (hX : 0 ≤ X ∧ X < xs.length) (hv : v < xs.length) : (xs.set X.toNat y)[v]! = if X = (v : Int) then y else xs[v]! := by
 rw [c8]
 by_cases h : X = (v : Int)
 ·rw [if_pos h, if_pos ⟨by omega, hv⟩]
 ·rw [if_neg h, if_neg (by omega)]
theorem e8 (ts : List Int) (s : Mc) (v : Nat) (x : Sl) : (dM ts s v x).1.slots = s.slots.set v x := by
 unfold dM; split <;> rfl
theorem eL {ts : List Int} {s : Mc} {x : Pnt} (h : cX ts s x = false) {v : Nat} (hv : v < ts.length) (hu : bO ts x v ≠ 0) : s.slots[v]!.set = true := by
 unfold cX at h
 rw [List.any_eq_false] at h
 have h1 := h v (List.mem_range.2 hv)
 rw [decide_eq_true hu, Bool.true_and] at h1
 simpa using h1
theorem tD {t : Int} : Cq t = true ↔ t = 2 ∨ t = 4 := by unfold Cq; simp
theorem Fk {ts : List Int} {s : Mc} {x : Pnt} (hl : s.slots.length = ts.length) (hu : cX ts s x = false) (A : PtA ts x) (hop : 1 ≤ x.op ∧ x.op ≠ 11) (hx : x.op ≤ 8 → 0 ≤ x.x ∧ x.x < ts.length) (hy : 3 ≤ x.op → x.op ≤ 7 → 0 ≤ x.y ∧ x.y < ts.length) (hgo : (cO ts s x).2 = -1) :
  ∃ y : Sl, y.set = true ∧ ∀ v, v < ts.length → (cO ts s x).1.slots[v]! = if bD x = (v : Int) then y else if bO ts x v = 2 then iT else s.slots[v]! := by
 have hk : ∀ k, iX k ≠ -1 := fun k => by rcases lA k with h | h <;> rw [h] <;> decide
 unfold cO at hgo ⊢
 by_cases h1 : x.op = 1
 ·rw [if_pos h1]
  have hxb := hx (by omega)
  refine ⟨⟨true, x.n, ⟨0, 0⟩⟩, rfl, fun v hv => ?_⟩
  rw [e8, j7 _ (by omega) (by omega)]
  have e1 : bD x = x.x := by unfold bD; rw [if_pos (by omega)]
  have e2 : bO ts x v = 0 := by unfold bO; rw [if_neg (by omega), if_neg (by omega), if_neg (by omega), if_neg (by omega)]
  rw [e1, e2]; simp
 rw [if_neg h1] at hgo ⊢
 by_cases h2 : x.op = 2
 ·rw [if_pos h2] at hgo ⊢
  have hxb := hx (by omega)
  by_cases h200 : s.cells.length = 200
  ·rw [if_pos h200] at hgo; cases hgo
  ·rw [if_neg h200]
   refine ⟨⟨true, 0, ⟨s.cells.length, 0⟩⟩, rfl, fun v hv => ?_⟩
   rw [e8]
   dsimp only
   rw [j7 _ (by omega) (by omega)]
   have e1 : bD x = x.x := by unfold bD; rw [if_pos (by omega)]
   have e2 : bO ts x v = 0 := by unfold bO; rw [if_neg (by omega), if_neg (by omega), if_neg (by omega), if_neg (by omega)]
   rw [e1, e2]; simp
 rw [if_neg h2] at hgo ⊢
 by_cases h3 : x.op = 3
 ·rw [if_pos h3]
  have hxb := hx (by omega)
  have hyb := hy (by omega) (by omega)
  have hne := (A.t3 h3).2
  have e1 : bD x = x.x := by unfold bD; rw [if_pos (by omega)]
  have hyn : ((x.y.toNat : Nat) : Int) = x.y := by omega
  have hys : s.slots[x.y.toNat]!.set = true := eL hu (v := x.y.toNat) (by omega) (by
   unfold bO; rw [if_pos h3, if_pos hyn]; split <;> decide)
  refine ⟨s.slots[x.y.toNat]!, hys, fun v hv => ?_⟩
  rw [e8]
  have e2 : bO ts x v = if (v : Int) = x.y then (if ts[x.y.toNat]! = 2 ∨ ts[x.y.toNat]! = 4 then 2 else 1) else 0 := by
   unfold bO; rw [if_pos h3]
   by_cases q : (v : Int) = x.y
   ·rw [if_pos q, if_pos q, q]
   ·rw [if_neg q, if_neg q]
  rw [e1, e2]
  by_cases ht : Cq ts[x.y.toNat]! = true
  ·rw [if_pos ht]
   dsimp only
   rw [j7 _ (by rw [List.length_set]; omega) (by rw [List.length_set]; omega), j7 _ (by omega) (by omega), if_pos (tD.1 ht)]
   by_cases q : x.x = (v : Int)
   ·rw [if_pos q, if_pos q]
   ·rw [if_neg q, if_neg q]
    by_cases q2 : x.y = (v : Int)
    ·rw [if_pos q2, if_pos q2.symm, if_pos rfl]
    ·have q3 : ¬ ((v : Int) = x.y) := fun h => q2 h.symm
     rw [if_neg q2, if_neg q3, if_neg (by decide : ¬ (0 : Int) = 2)]
  ·rw [if_neg ht, j7 _ (by omega) (by omega), if_neg (fun h => ht (tD.2 h))]
   by_cases q : x.x = (v : Int)
   ·rw [if_pos q, if_pos q]
   ·rw [if_neg q, if_neg q]
    by_cases q2 : (v : Int) = x.y
    ·rw [if_pos q2, if_neg (by decide)]
    ·rw [if_neg q2, if_neg (by decide)]
 rw [if_neg h3] at hgo ⊢
 by_cases h4 : x.op = 4 ∨ x.op = 5
 ·rw [if_pos h4] at hgo ⊢
  have hxb := hx (by omega)
  split at hgo
  ·rename_i hz
   rw [if_pos hz]
   refine ⟨⟨true, 0, zW s.cells s.slots[x.y.toNat]!.ptr (decide (x.op = 5))⟩, rfl, fun v hv => ?_⟩
   rw [e8]
   dsimp only
   rw [j7 _ (by omega) (by omega)]
   have e1 : bD x = x.x := by unfold bD; rw [if_pos (by omega)]
   have e2 : bO ts x v ≠ 2 := by unfold bO; rw [if_neg (by omega), if_pos (by omega)]; split <;> decide
   rw [e1, if_neg e2]
  ·exact absurd hgo (hk _)
 rw [if_neg h4] at hgo ⊢
 by_cases h6 : x.op = 6
 ·rw [if_pos h6] at hgo ⊢
  have hxb := hx (by omega)
  split at hgo
  ·rename_i hz
   rw [if_pos hz]
   refine ⟨⟨true, uK s.cells s.slots[x.y.toNat]!.ptr, ⟨0, 0⟩⟩, rfl, fun v hv => ?_⟩
   rw [e8]
   dsimp only
   rw [j7 _ (by omega) (by omega)]
   have e1 : bD x = x.x := by unfold bD; rw [if_pos (by omega)]
   have e2 : bO ts x v ≠ 2 := by unfold bO; rw [if_neg (by omega), if_pos (by omega)]; split <;> decide
   rw [e1, if_neg e2]
  ·exact absurd hgo (hk _)
 rw [if_neg h6] at hgo ⊢
 have e1 : bD x = -1 := by unfold bD; rw [if_neg (by omega)]
 have e3 : ∀ v : Nat, bD x ≠ (v : Int) := fun v => by rw [e1]; omega
 by_cases h7 : x.op = 7
 ·rw [if_pos h7]
  refine ⟨⟨true, 0, ⟨0, 0⟩⟩, rfl, fun v hv => ?_⟩
  have e2 : bO ts x v ≠ 2 := by unfold bO; rw [if_neg (by omega), if_neg (by omega), if_pos h7]; split; decide; split <;> decide
  rw [if_neg (e3 v), if_neg e2]
 rw [if_neg h7]
 by_cases h8 : x.op = 8
 ·rw [if_pos h8]
  have hxb := hx (by omega)
  refine ⟨⟨true, 0, ⟨0, 0⟩⟩, rfl, fun v hv => ?_⟩
  dsimp only
  rw [if_neg (e3 v), j7 _ (by omega) (by omega)]
  have e2 : bO ts x v = if (v : Int) = x.x then 2 else 0 := by unfold bO; rw [if_neg (by omega), if_neg (by omega), if_neg (by omega), if_pos h8]
  rw [e2]
  by_cases q : x.x = (v : Int)
  ·rw [if_pos q, if_pos q.symm, if_pos rfl]
  ·have q3 : ¬ ((v : Int) = x.x) := fun h => q h.symm
   rw [if_neg q, if_neg q3, if_neg (by decide : ¬ (0 : Int) = 2)]
 ·rw [if_neg h8, if_neg hop.2]
  refine ⟨⟨true, 0, ⟨0, 0⟩⟩, rfl, fun v hv => ?_⟩
  have e2 : bO ts x v ≠ 2 := by unfold bO; rw [if_neg (by omega), if_neg (by omega), if_neg (by omega), if_neg (by omega)]; decide
  rw [if_neg (e3 v), if_neg e2]
section
variable {ts : List Int} {pts : List Pnt}
theorem WG.doS (w : WG ts pts) (A : WA ts pts) {a : Nat} (ha : a < pts.length) {s : Mc} (hl : s.slots.length = ts.length) (hu : cX ts s pts[a]! = false) (h11 : pts[a]!.op ≠ 11) (hgo : (cO ts s pts[a]!).2 = -1) :
  ∃ y : Sl, y.set = true ∧ ∀ v, v < ts.length → (cO ts s pts[a]!).1.slots[v]! = if bD pts[a]! = (v : Int) then y else if bO ts pts[a]! v = 2 then iT else s.slots[v]! :=
 Fk hl hu (A.a a ha) ⟨(w.op a ha).1, h11⟩ (fun h => ⟨(w.x a ha).1, (w.x a ha).2 h⟩) (fun h1 h2 => ⟨(w.y a ha).1, (w.y a ha).2 h1 h2⟩) hgo
theorem oO (w : WG ts pts) (A : WA ts pts) {a : Nat} (ha : a < pts.length) (h11 : pts[a]!.op ≠ 11) (cs : List Int) : edge pts a (eS pts a cs).1 := by
 have key : ∀ j : Nat, j < pts[a]!.next.length → edge pts a (pts[a]!.next[j]!).toNat := fun j hj => by
  have hm := bY pts[a]!.next j hj
  refine ⟨ha, ?_⟩
  rw [show (((pts[a]!.next[j]!).toNat : Nat) : Int) = pts[a]!.next[j]! by have := (w.nx a ha _ hm).1; omega]
  exact hm
 have h0 := A.n a ha h11
 unfold eS
 split
 ·rename_i h2
  split
  ·exact key 1 (by omega)
  ·rename_i c cs
   exact key _ (by omega)
 ·exact key 0 h0
def Jo (ts : List Int) (pts : List Pnt) (I : Nat → Mc → Prop) (r : Mc × Int × Nat) : Prop := r.2.1 = 1 ∨ ∃ s', r.2.2 < pts.length ∧ I r.2.2 s' ∧
 ((r.2.1 = 2 ∧ cX ts s' pts[r.2.2]! = true ∧ r.1 = s') ∨
  (cX ts s' pts[r.2.2]! = false ∧ (cO ts s' pts[r.2.2]!).2 ≠ -1 ∧ r.1 = (cO ts s' pts[r.2.2]!).1 ∧ r.2.1 = (cO ts s' pts[r.2.2]!).2))
theorem w5 {I : Nat → Mc → Prop} {a : Nat} {l : List Nat} {s : Mc} {last : Nat} (ha : a < pts.length) (hs : I a s)
  (hrec : cX ts s pts[a]! = false → (cO ts s pts[a]!).2 = -1 → Jo ts pts I (gD ts pts l (cO ts s pts[a]!).1 a)) : Jo ts pts I (gD ts pts (a :: l) s last) := by
 by_cases h1 : cX ts s pts[a]! = true
 ·have e : gD ts pts (a :: l) s last = (s, 2, a) := by unfold gD; rw [if_pos h1]
  rw [e]; exact .inr ⟨s, ha, hs, .inl ⟨rfl, h1, rfl⟩⟩
 ·have h1' : cX ts s pts[a]! = false := by simpa using h1
  by_cases h2 : (cO ts s pts[a]!).2 = -1
  ·have e : gD ts pts (a :: l) s last = gD ts pts l (cO ts s pts[a]!).1 a := by
    conv => lhs; unfold gD
    rw [if_neg h1, if_pos h2]
   rw [e]; exact hrec h1' h2
  ·have e : gD ts pts (a :: l) s last = ((cO ts s pts[a]!).1, (cO ts s pts[a]!).2, a) := by
    unfold gD; rw [if_neg h1, if_neg h2]
   rw [e]; exact .inr ⟨s, ha, hs, .inr ⟨h1', h2, rfl, rfl⟩⟩
theorem oR {I : Nat → Mc → Prop} {a : Nat} {s : Mc} {last : Nat} (ha : a < pts.length) (hs : I a s) (h11 : pts[a]!.op = 11) : Jo ts pts I (gD ts pts [a] s last) :=
 w5 ha hs fun h1 h2 => by
  rw [qG h11] at h2
  rcases mJ ts ts.length 0 s with q | q | q <;> (rw [q] at h2; cases h2)
theorem CM (w : WG ts pts) (A : WA ts pts) (I : Nat → Mc → Prop)
  (hI : ∀ a s k, a < pts.length → pts[a]!.op ≠ 11 → edge pts a k → I a s → cX ts s pts[a]! = false → (cO ts s pts[a]!).2 = -1 → I k (cO ts s pts[a]!).1) :
  ∀ n a cs s last, a < pts.length → I a s → Jo ts pts I (gD ts pts (eH pts n a cs).1 s last) := by
 intro n
 induction n with
 | zero =>
  intro a cs s last ha hs
  by_cases h11 : pts[a]!.op = 11
  ·have e : (eH pts 0 a cs).1 = [a] := by unfold eH; rw [if_pos h11]
   rw [e]; exact oR ha hs h11
  ·have e : (eH pts 0 a cs).1 = [] := by rw [eH, if_neg h11]
   rw [e]; exact .inl rfl
 | succ n ih =>
  intro a cs s last ha hs
  by_cases h11 : pts[a]!.op = 11
  ·have e : (eH pts (n + 1) a cs).1 = [a] := by unfold eH; rw [if_pos h11]
   rw [e]; exact oR ha hs h11
  ·have e : (eH pts (n + 1) a cs).1 = a :: (eH pts n (eS pts a cs).1 (eS pts a cs).2).1 := by rw [eH, if_neg h11]
   have he := oO w A ha h11 cs
   rw [e]
   exact w5 ha hs fun h1 h2 => ih _ _ _ _ (fK w he) (hI a s _ ha h11 he hs h1 h2)
end
end Go.AL
namespace Go.AL
section
variable {ts : List Int} {pts : List Pnt}
structure Vs (ts : List Int) (pts : List Pnt) (a : Nat) (s : Mc) : Prop where
 l : s.slots.length = ts.length
 u : ∀ v, v < ts.length → s.slots[v]!.set = false → Na ts pts (a, v)
 m : ∀ v, v < ts.length → s.slots[v]!.set = true → Mb ts pts (a, v)
theorem oL (ts : List Int) (s : Mc) (v : Nat) (x : Sl) : (dM ts s v x).1.slots.length = s.slots.length := by rw [e8, List.length_set]
theorem xH (ts : List Int) : ∀ n v (s : Mc), (dT ts n v s).1.slots.length = s.slots.length
 | 0, _, _ => rfl
 | n + 1, v, s => by
  unfold dT; split
  ·split
   ·rw [xH ts n]; exact List.length_set
   ·rfl
  ·exact xH ts n _ _
theorem iM (ts : List Int) (s : Mc) (x : Pnt) : (cO ts s x).1.slots.length = s.slots.length := by
 unfold cO
 split
 ·exact oL _ _ _ _
 split
 ·split
  ·rfl
  ·exact oL _ _ _ _
 split
 ·rw [oL]; split
  ·exact List.length_set
  ·rfl
 split
 ·split
  ·exact oL _ _ _ _
  ·rfl
 split
 ·split
  ·exact oL _ _ _ _
  ·rfl
 split
 ·rfl
 split
 ·exact List.length_set
 split
 ·exact xH _ _ _ _
 ·rfl
theorem Vs.start : Vs ts pts 0 (mc0 ts.length) := by
 refine ⟨by simp [mc0], fun v hv _ => .base ⟨hv, .inl rfl⟩, fun v hv h => ?_⟩
 have e : (mc0 ts.length).slots[v]! = iT := by
  show (List.replicate ts.length iT)[v]! = iT
  rw [cL _ _ (by simpa using hv)]; simp
 rw [e] at h; cases h
theorem Vs.step (w : WG ts pts) (A : WA ts pts) (a : Nat) (s : Mc) (k : Nat) (ha : a < pts.length) (h11 : pts[a]!.op ≠ 11) (he : edge pts a k) (h : Vs ts pts a s) (hu : cX ts s pts[a]! = false) (hgo : (cO ts s pts[a]!).2 = -1) : Vs ts pts k (cO ts s pts[a]!).1 := by
 obtain ⟨y, hy, hs⟩ := w.doS A ha h.l hu h11 hgo
 refine ⟨by rw [iM]; exact h.l, fun v hv hf => ?_, fun v hv ht => ?_⟩
 ·rw [hs v hv] at hf
  by_cases h1 : bD pts[a]! = (v : Int)
  ·rw [if_pos h1, hy] at hf; cases hf
  ·rw [if_neg h1] at hf
   by_cases h2 : bO ts pts[a]! v = 2
   ·exact .base ⟨hv, .inr ⟨a, he, h2, h1⟩⟩
   ·rw [if_neg h2] at hf
    exact .step (a := (a, v)) (h.u v hv hf) ⟨rfl, he, h1⟩
 ·rw [hs v hv] at ht
  by_cases h1 : bD pts[a]! = (v : Int)
  ·exact .base ⟨a, he, h1⟩
  ·rw [if_neg h1] at ht
   by_cases h2 : bO ts pts[a]! v = 2
   ·rw [if_pos h2] at ht; cases ht
   ·rw [if_neg h2] at ht
    exact .step (a := (a, v)) (h.m v hv ht) ⟨rfl, he, h2⟩
theorem AK {s : Mc} {x : Pnt} (h : cX ts s x = true) : ∃ v, v < ts.length ∧ bO ts x v ≠ 0 ∧ s.slots[v]!.set = false := by
 unfold cX at h
 obtain ⟨v, hv, h2⟩ := List.any_eq_true.1 h
 rw [Bool.and_eq_true, decide_eq_true_eq] at h2
 exact ⟨v, List.mem_range.1 hv, h2.1, by simpa using h2.2⟩
theorem mF (ts : List Int) : ∀ n v (s : Mc) (u : Nat), ts[u]! ≠ 2 → (dT ts n v s).1.slots[u]! = s.slots[u]!
 | 0, _, _, _, _ => rfl
 | n + 1, v, s, u, hu => by
  unfold dT; split
  ·rename_i h
   have hne : v ≠ u := fun e => hu (e ▸ h.1)
   split
   ·rw [mF ts n _ _ u hu]
    show (s.slots.set v iT)[u]! = _
    rw [c8, if_neg (fun h => hne h.1)]
   ·rfl
  ·exact mF ts n _ _ u hu
end
end Go.AL
