/-
 A part of the proofs over this program: rules and contracts of its functions (the rules).
-/
import Derived.Test.YtahdccneecdmmaaGreatQ5A05
import Derived.Laws.BytesString
import Derived.Laws.StructEq
set_option linter.unusedVariables false
set_option linter.unusedSimpArgs false
namespace Go.AL
open Go.RowKit
set_option linter.unusedVariables false
set_option linter.unusedSimpArgs false
mutual
theorem RnV.bw {w : World} {ρ : Nat → Option Nat} {bad bad' : Nat → Prop} {ι ι' : Pl} (h : ∀ i i', ρ i = some i' → ι i = ι' i') (hc : ∀ b, bad b → bad' b) : ∀ {v v' : AV}, RnV ρ v v' → ∀ {y : Value}, Rd w bad' ι' v' y → Rd w bad ι v y
 | _, _, .pur hp, y, k => Rd.pur _ y hp (Rd.carry (⟨fun b o x h1 h2 => ⟨fun q => h1 (hc b q), h2⟩, fun _ _ h => h, fun _ => Nat.le_refl _⟩ : Carry w bad' ι' w bad ι') _ _ k)
 | _, _, .own hi, y, k => by simp only [Rd, h _ _ hi] at k ⊢; exact k
 | _, _, .optr hi, y, k => by simp only [Rd, h _ _ hi] at k ⊢; exact k
 | _, _, .imm (cs := cs) (cs' := cs') hl, y, k => by
  have hlen := RnL.len hl
  simp only [Rd] at k ⊢
  obtain ⟨a, c, rfl, k⟩ := k
  refine ⟨a, c, rfl, ?_⟩
  rcases k with k | ⟨b, o, hn, rfl, k⟩
  ·exact .inl k
  ·refine .inr ⟨b, o, hn, rfl, ?_⟩
   rcases k with k | ⟨hb, k⟩
   ·subst k; exact .inl (List.eq_nil_of_length_eq_zero (by rw [hlen]; rfl))
   ·exact .inr ⟨fun q => hb (hc b q), RnL.bwC h hc hl k⟩
 | _, _, .agg hl, y, k => by
  simp only [Rd] at k ⊢
  obtain ⟨l, h1, h2⟩ := k
  exact ⟨l, h1, RnL.bwL h hc hl h2⟩
 | _, _, .tup hl, y, k => by
  simp only [Rd] at k ⊢
  obtain ⟨l, h1, h2⟩ := k
  exact ⟨l, h1, RnL.bwV h hc hl h2⟩
 | _, _, .clos h1 h2, y, k => by
  simp only [Rd] at k ⊢
  obtain ⟨lf, lc, q1, q2, q3⟩ := k
  exact ⟨lf, lc, q1, RnL.bwV h hc h1 q2, RnL.bwV h hc h2 q3⟩
theorem RnL.bwL {w : World} {ρ : Nat → Option Nat} {bad bad' : Nat → Prop} {ι ι' : Pl} (h : ∀ i i', ρ i = some i' → ι i = ι' i') (hc : ∀ b, bad b → bad' b) : ∀ {v v' : List AV}, RnL ρ v v' → ∀ {y : List Value}, RdL w bad' ι' v' y → RdL w bad ι v y
 | _, _, .pur hp, y, k => RdL.pur _ y hp (RdL.carry (⟨fun b o x h1 h2 => ⟨fun q => h1 (hc b q), h2⟩, fun _ _ h => h, fun _ => Nat.le_refl _⟩ : Carry w bad' ι' w bad ι') _ _ k)
 | _, _, .nil, y, k => by simpa only [RdL] using k
 | _, _, .cons h1 h2, y, k => by
  simp only [RdL] at k ⊢
  obtain ⟨x, l', q0, q1, q2, q3⟩ := k
  exact ⟨x, l', q0, q1, RnV.bw h hc h1 q2, RnL.bwL h hc h2 q3⟩
theorem RnL.bwV {w : World} {ρ : Nat → Option Nat} {bad bad' : Nat → Prop} {ι ι' : Pl} (h : ∀ i i', ρ i = some i' → ι i = ι' i') (hc : ∀ b, bad b → bad' b) : ∀ {v v' : List AV}, RnL ρ v v' → ∀ {y : List Value}, RdV w bad' ι' v' y → RdV w bad ι v y
 | _, _, .pur hp, y, k => RdV.pur _ y hp (RdV.carry (⟨fun b o x h1 h2 => ⟨fun q => h1 (hc b q), h2⟩, fun _ _ h => h, fun _ => Nat.le_refl _⟩ : Carry w bad' ι' w bad ι') _ _ k)
 | _, _, .nil, y, k => by simpa only [RdV] using k
 | _, _, .cons h1 h2, y, k => by
  simp only [RdV] at k ⊢
  obtain ⟨x, l', q0, q2, q3⟩ := k
  exact ⟨x, l', q0, RnV.bw h hc h1 q2, RnL.bwV h hc h2 q3⟩
theorem RnL.bwC {w : World} {ρ : Nat → Option Nat} {bad bad' : Nat → Prop} {ι ι' : Pl} (h : ∀ i i', ρ i = some i' → ι i = ι' i') (hc : ∀ b, bad b → bad' b) : ∀ {v v' : List AV}, RnL ρ v v' → ∀ {b o : Nat}, RdC w bad' ι' v' b o → RdC w bad ι v b o
 | _, _, .pur hp, b, o, k => RdC.pur _ b o hp (RdC.carryB (⟨fun b o x h1 h2 => ⟨fun q => h1 (hc b q), h2⟩, fun _ _ h => h, fun _ => Nat.le_refl _⟩ : Carry w bad' ι' w bad ι') _ _ _ (fun o x hx => hx) k)
 | _, _, .nil, b, o, k => by simp only [RdC]
 | _, _, .cons h1 h2, b, o, k => by
  simp only [RdC] at k ⊢
  obtain ⟨⟨x, q1, q2, q3⟩, q4⟩ := k
  exact ⟨⟨x, q1, q2, RnV.bw h hc h1 q3⟩, RnL.bwC h hc h2 q4⟩
end
theorem RnL.app {ρ : Nat → Option Nat} : ∀ {a a' b b' : List AV}, RnL ρ a a' → RnL ρ b b' → RnL ρ (a ++ b) (a' ++ b')
 | [], a', b, b', ha, hb => by
  have := ha.len
  cases a' with
  | nil => exact hb
  | cons _ _ => simp at this
 | c :: cs, _, b, b', .pur hp, hb => by
  simp only [bF, Bool.and_eq_true] at hp
  exact .cons (.pur hp.1) (RnL.app (.pur hp.2) hb)
 | c :: cs, _, b, b', .cons h1 h2, hb => .cons h1 (RnL.app h2 hb)
theorem RnL.flt {ρ : Nat → Option Nat} {α : Type} {f f' : α → List AV} : ∀ {xs : List α}, (∀ x ∈ xs, RnL ρ (f x) (f' x)) → RnL ρ (flat f xs) (flat f' xs)
 | [], _ => .nil
 | x :: xs, h => by
  have h1 := h x (List.mem_cons_self)
  have h2 := RnL.flt (f := f) (f' := f') (xs := xs) (fun y hy => h y (List.mem_cons_of_mem _ hy))
  simp only [flat, List.flatMap_cons] at h2 ⊢
  exact h1.app h2
theorem Le.renG (ρ : Nat → Option Nat) {ts ts' : List (Nat × AV)} {hs hs' : List (Nat × Option (List AV))} {n n' : Nat} {lo lo' : Lo} (hlo : lo'.lo = lo.lo) (hfb : lo.fb ≤ lo'.fb)
  (hid : ∀ id, id < lo.lo ∨ (aY ≤ id ∧ id < lo.fb) → ρ id = some id) (hinj : ∀ a b c, ρ a = some c → ρ b = some c → a = b) (hfr : ∀ id, Fn n' lo' id → ρ id = none)
  (h1 : ∀ t v, lk ts' t = some v → ∃ v0, lk ts t = some v0 ∧ RnV ρ v v0) (h2 : ∀ id cs, aS hs' id = some cs → ∃ j cs0, ρ id = some j ∧ aS hs j = some cs0 ∧ RnL ρ cs cs0) :
  Le ⟨ts, hs, n, lo⟩ ⟨ts', hs', n', lo'⟩ := by
 rintro C a w ⟨h0, ι, g, gh⟩
 let ι' : Pl := fun id => match ρ id with | some j => ι j | none => none
 have hto : ∀ id j, ρ id = some j → ι' id = ι j := fun id j h => by simp only [ι', h]
 have hbad : ∀ b, aJ C.X ι' (aS hs') b → aJ C.X ι (aS hs) b := by
  rintro b (h | ⟨id, cs, β, q1, q2⟩)
  ·exact .inl h
  ·obtain ⟨j, cs0, q3, q4, _⟩ := h2 id cs q1
   rw [hto _ _ q3] at q2
   exact .inr ⟨j, cs0, β, q4, q2⟩
 refine ⟨fun id h => ?_, ι', ⟨g.df, g.sz, fun t v ht => ?_⟩, ⟨fun id cs h => ?_, fun id id' cs cs' b β β' q1 q2 q3 q4 => ?_, gh.fr, fun id p hp => ?_, fun id hid' => ?_⟩⟩
 ·have h' : lo.lo ≤ id := by rw [← hlo]; exact h
  rcases h0 id h' with q | q
  ·exact .inl ⟨q.1, Nat.lt_of_lt_of_le q.2 hfb⟩
  ·exact .inr q
 ·obtain ⟨v0, q1, q2⟩ := h1 t v ht
  obtain ⟨y, q3, q4⟩ := g.tm t v0 q1
  exact ⟨y, q3, RnV.bw hto hbad q2 q4⟩
 ·obtain ⟨j, cs0, q3, q4, q5⟩ := h2 id cs h
  rcases gh.obj j cs0 q4 with ⟨p1, p2⟩ | ⟨b, β, arr, e, p1, p2, p3, p4, p5, p6⟩
  ·refine .inl ⟨by rw [hto _ _ q3]; exact p1, ?_⟩
   subst p2; exact List.eq_nil_of_length_eq_zero (by rw [q5.len]; rfl)
  ·exact .inr ⟨b, β, arr, e, by rw [hto _ _ q3]; exact p1, p2, by rw [q5.len]; exact p3, RnL.bwC hto hbad q5 p4, p5, p6⟩
 ·obtain ⟨j, c1, r1, r2, _⟩ := h2 id cs q1
  obtain ⟨j', c2, r3, r4, _⟩ := h2 id' cs' q2
  rw [hto _ _ r1] at q3
  rw [hto _ _ r3] at q4
  have := gh.sep _ _ _ _ _ _ _ r2 r4 q3 q4
  subst this
  exact hinj _ _ _ r1 r3
 ·have : ρ id = some id := by
   refine hid id ?_
   rcases Nat.lt_or_ge id lo.lo with q | q
   ·exact .inl q
   ·rcases h0 id q with q1 | q1
    ·exact .inr q1
    ·rw [q1] at hp; cases hp
  rw [hto _ _ this]; exact gh.ex id p hp
 ·have := hfr id hid'
  simp only [ι', this]
def jK (m : List (Nat × Nat)) (lo : Lo) (pn : Option Nat) (id : Nat) : Option Nat :=
 if id < lo.lo then some id else if aY ≤ id then (if id < lo.fb then some id else if id = lo.fb then pn else none) else zS m id
theorem g0 {m : List (Nat × Nat)} {lo : Lo} {pn : Option Nat} {id : Nat} (h1 : aY ≤ id) (h2 : id < lo.fb) : jK m lo pn id = some id := by
 unfold jK; split
 ·rfl
 ·simp [h1, h2]
def OL (ρ : Nat → Option Nat) (l : List (Nat × AV)) : List (Nat × AV) → Prop
 | [] => True
 | (t, v) :: l' => (∃ v0, lk l t = some v0 ∧ RnV ρ v v0) ∧ OL ρ l l'
def C7 (ρ : Nat → Option Nat) (l : List (Nat × Option (List AV))) : List (Nat × Option (List AV)) → Prop
 | [] => True
 | (t, none) :: l' => C7 ρ l l'
 | (t, some cs) :: l' => (∃ j cs0, ρ t = some j ∧ aS l j = some cs0 ∧ RnL ρ cs cs0) ∧ C7 ρ l l'
theorem CJ {ρ : Nat → Option Nat} {l : List (Nat × AV)} : ∀ {l' : List (Nat × AV)}, OL ρ l l' → ∀ t v, lk l' t = some v → ∃ v0, lk l t = some v0 ∧ RnV ρ v v0
 | [], _, t, v, h => by simp [lk] at h
 | (u, x) :: l', hr, t, v, h => by
  simp only [OL] at hr
  simp only [kZ] at h
  split at h
  ·rename_i e; subst e; cases h; exact hr.1
  ·exact CJ hr.2 t v h
theorem rS {a b : List (Nat × Option (List AV))} {u : Nat} {c : List AV} : aS (a ++ b) u = some c → aS a u = some c ∨ aS b u = some c := by
 induction a with
 | nil => exact fun h => .inr h
 | cons x a ih =>
  obtain ⟨t, v⟩ := x
  rw [List.cons_append, cS, cS]
  split
  ·exact fun h => .inl h
  ·exact ih
theorem Hs {a b : List (Nat × Option (List AV))} {u : Nat} {c : List AV} (h : aS a u = some c) : aS (a ++ b) u = some c := by
 induction a with
 | nil => simp [aS] at h
 | cons x a ih =>
  obtain ⟨t, v⟩ := x
  rw [List.cons_append]
  rw [cS] at h ⊢
  split
  ·rename_i e; rw [if_pos e] at h; exact h
  ·rename_i e; rw [if_neg e] at h; exact ih h
theorem IX {a b : List (Nat × Option (List AV))} {u : Nat} (h : gL u a = true) : aS (a ++ b) u = aS b u := by
 induction a with
 | nil => rfl
 | cons x a ih =>
  obtain ⟨t, v⟩ := x
  simp only [gL, Bool.and_eq_true] at h
  rw [List.cons_append, cS, if_neg (by have := dB h.1; omega)]
  exact ih h.2
theorem rD {n m : Nat} (h : n ≤ m) : ∀ {a : List (Nat × Option (List AV))}, gL n a = true → gL m a = true
 | [], _ => rfl
 | (t, v) :: a, k => by
  simp only [gL, Bool.and_eq_true] at k ⊢
  exact ⟨by have := dB k.1; simp [Nat.blt]; omega, rD h k.2⟩
theorem sF {ρ : Nat → Option Nat} {l : List (Nat × Option (List AV))} : ∀ {l' : List (Nat × Option (List AV))}, C7 ρ l l' → ∀ t cs, aS l' t = some cs →
  ∃ j cs0, ρ t = some j ∧ aS l j = some cs0 ∧ RnL ρ cs cs0
 | [], _, t, v, h => by simp [aS] at h
 | (u, none) :: l', hr, t, v, h => by
  simp only [C7] at hr
  simp only [cS] at h
  split at h
  ·cases h
  ·exact sF hr t v h
 | (u, some x) :: l', hr, t, v, h => by
  simp only [C7] at hr
  simp only [cS] at h
  split at h
  ·rename_i e; subst e; cases h; exact hr.1
  ·exact sF hr.2 t v h
theorem yR {m : List (Nat × Nat)} {lo : Lo} {pn : Option Nat} {n' : Nat} (hm : Hm lo.lo n' m = true) {a c : Nat} (h : jK m lo pn a = some c) :
  (a < lo.lo ∧ c = a) ∨ (lo.lo ≤ a ∧ aY ≤ a ∧ a < lo.fb ∧ c = a) ∨ (lo.lo ≤ a ∧ aY ≤ a ∧ a = lo.fb ∧ pn = some c) ∨ (lo.lo ≤ a ∧ a < aY ∧ a < n' ∧ lo.lo ≤ c ∧ c < aY ∧ zS m a = some c) := by
 unfold jK at h
 split at h
 ·cases h; exact .inl ⟨by assumption, rfl⟩
 ·split at h
  ·split at h
   ·cases h; exact .inr (.inl ⟨by omega, by assumption, by assumption, rfl⟩)
   ·split at h
    ·exact .inr (.inr (.inl ⟨by omega, by assumption, by assumption, h⟩))
    ·cases h
  ·have := jO hm _ _ h
   exact .inr (.inr (.inr ⟨by omega, by omega, by omega, by omega, by omega, h⟩))
theorem Le.renF (m : List (Nat × Nat)) (pn : Option Nat) {ts ts' : List (Nat × AV)} {hs hs' : List (Nat × Option (List AV))} {n n' : Nat} {lo lo' : Lo} (hm : Hm lo.lo n' m = true) (hn : lo.lo ≤ n') (hlo : lo'.lo = lo.lo)
  (hfb : lo'.fb = lo.fb + (if pn.isSome then 1 else 0)) (hp : ∀ b, pn = some b → lo.lo ≤ b ∧ b < aY ∧ ∀ a, zS m a ≠ some b)
  (h1 : ∀ t v, lk ts' t = some v → ∃ v0, lk ts t = some v0 ∧ RnV (jK m lo pn) v v0) (h2 : ∀ id cs, aS hs' id = some cs → ∃ j cs0, jK m lo pn id = some j ∧ aS hs j = some cs0 ∧ RnL (jK m lo pn) cs cs0) :
  Le ⟨ts, hs, n, lo⟩ ⟨ts', hs', n', lo'⟩ := by
 refine Le.renG (jK m lo pn) hlo (by rw [hfb]; omega) (fun id h => ?_) (fun a b c ha hb => ?_) (fun id h => ?_) h1 h2
 ·rcases h with h | h
  ·unfold jK; rw [if_pos h]
  ·exact g0 h.1 h.2
 ·rcases yR hm ha with a1 | a1 | a1 | a1 <;> rcases yR hm hb with b1 | b1 | b1 | b1
  all_goals try omega
  ·have := hp c b1.2.2.2; omega
  ·have := hp c b1.2.2.2; omega
  ·have := hp c a1.2.2.2; omega
  ·have := hp c a1.2.2.2; omega
  ·exact absurd b1.2.2.2.2.2 ((hp c a1.2.2.2).2.2 b)
  ·exact absurd a1.2.2.2.2.2 ((hp c b1.2.2.2).2.2 a)
  ·exact xV hm _ _ _ a1.2.2.2.2.2 b1.2.2.2.2.2
 ·cases hc : jK m lo pn id with
  | none => rfl
  | some c =>
   have h3 : n' ≤ id := h.1
   have h4 : id < aY ∨ lo'.fb ≤ id := h.2
   rcases yR hm hc with a1 | a1 | a1 | a1
   ·omega
   ·omega
   ·rw [a1.2.2.2] at hfb; simp at hfb; omega
   ·omega
theorem Le.renF0 (m : List (Nat × Nat)) {R : List (List Bool)} {ts ts' : List (Nat × AV)} {hs lits : List (Nat × Option (List AV))} {n n' : Nat} {lo : Lo} {l0 : Nat} (hF : FamR R R hs hs) (hz : lo = ⟨l0, aY + R.length⟩) (hm : Hm l0 n' m = true) (hn : l0 ≤ n')
  (h1 : OL (jK m lo none) ts ts') (h2 : C7 (jK m lo none) hs lits) : Le ⟨ts, hs, n, lo⟩ ⟨ts', lits ++ gN R, n', ⟨l0, aY + R.length⟩⟩ := by
 subst hz
 refine Le.renF m none hm hn rfl rfl (fun b h => by cases h) (CJ h1) (fun id cs h => ?_)
 rcases rS h with h | h
 ·exact sF h2 id cs h
 ·obtain ⟨k, hk, rfl, rfl⟩ := l7 h
  exact ⟨_, _, g0 (by omega) (by show k + aY < aY + R.length; omega), hF.get hk, .pur (inferInstance : Pur (flat cB R[k]!)).pf⟩
theorem Le.renF1 (m : List (Nat × Nat)) (b : Nat) {r : List Bool} {R R' : List (List Bool)} {ts ts' : List (Nat × AV)} {hs lits : List (Nat × Option (List AV))} {n n' : Nat} {lo : Lo} {l0 : Nat} (hF : FamR R R hs hs) (hz : lo = ⟨l0, aY + R.length⟩) (hm : Hm l0 n' m = true) (hn : l0 ≤ n')
  (hlb : l0 ≤ aY) (hb : l0 ≤ b ∧ b < aY ∧ (m.all fun p => !Nat.beq p.2 b) = true) (hr : aS hs b = some (flat cB r)) (hR : R' = R ++ [r])
  (h1 : OL (jK m lo (some b)) ts ts') (h2 : C7 (jK m lo (some b)) hs lits) : Le ⟨ts, hs, n, lo⟩ ⟨ts', lits ++ gN R', n', ⟨l0, aY + R'.length⟩⟩ := by
 subst hz hR
 refine Le.renF m (some b) hm hn rfl (by show aY + (R ++ [r]).length = aY + R.length + 1; simp [Nat.add_assoc]) (fun b' h => ?_) (CJ h1) (fun id cs h => ?_)
 ·cases h
  refine ⟨hb.1, hb.2.1, fun a ha => ?_⟩
  have := xC ha
  have h3 := hb.2.2
  rw [List.all_eq_true] at h3
  have := h3 _ this
  simp at this
 ·rcases rS h with h | h
  ·exact sF h2 id cs h
  ·obtain ⟨k, hk, rfl, rfl⟩ := l7 h
   rw [List.length_append, List.length_singleton] at hk
   rcases Nat.lt_or_ge k R.length with hk2 | hk2
   ·have e : (R ++ [r])[k]! = R[k]! := by rw [aZ _ _ (by simp; omega), aZ _ _ hk2, List.getElem_append_left hk2]
    exact ⟨_, _, g0 (by omega) (by show k + aY < aY + R.length; omega), hF.get hk2, by rw [e]; exact .pur (inferInstance : Pur (flat cB R[k]!)).pf⟩
   ·have e : k = R.length := by omega
    subst e
    have e2 : (R ++ [r])[R.length]! = r := by rw [aZ _ _ (by simp)]; simp
    refine ⟨b, flat cB r, ?_, hr, ?_⟩
    ·unfold jK
     rw [if_neg (by show ¬ R.length + aY < l0; omega), if_pos (by omega), if_neg (by show ¬ R.length + aY < aY + R.length; omega), if_pos (by show R.length + aY = aY + R.length; omega)]
    ·rw [e2]; exact .pur (inferInstance : Pur (flat cB r)).pf
end Go.AL
namespace Go.AL
open Go.RowKit
set_option linter.unusedVariables false
set_option linter.unusedSimpArgs false
section
variable {P : Program} {N : Nat} {Q : Exit → AS → Prop}
theorem Le.litF {ts ts' : List (Nat × AV)} {hs lits : List (Nat × Option (List AV))} {n n' : Nat} {z0 z1 : Lo} {R : List (List Bool)} (h1 : pE ts ts') (h2 : nJ hs lits) (h3 : n ≤ n') (hF : FamR R R hs hs) (hz : z0 = z1) :
  Le ⟨ts, hs, n, z0⟩ ⟨ts', lits ++ gN R, n', z1⟩ := by
 refine Le.of (yL h1) (fun i c h => ?_) h3 hz
 rcases rS h with h | h
 ·exact oG h2 i c h
 ·obtain ⟨k, hk, rfl, rfl⟩ := l7 h
  exact hF.get hk
theorem BD {σ : Type} {c : Code} {ts : List (Nat × AV)} {hs : List (Nat × Option (List AV))} {n : Nat} {z0 : Lo} (l0 : Nat) (Rf : σ → List (List Bool)) (ks : List Nat) (kt : List (Nat × AV)) (js : List Nat) (kh : List (Nat × Option (List AV)))
  (ot : σ → List (Nat × AV)) (oh : σ → List (Nat × Option (List AV))) (p : σ → Prop) (μ : σ → Nat) (i0 : σ) (h0 : p i0) (hk : oL ks ts = kt) (hj : qM js hs = kh)
  (h1 : pE ts (ot i0)) (h2 : nJ hs (oh i0)) (hF : FamR (Rf i0) (Rf i0) hs hs) (hz : z0 = ⟨l0, aY + (Rf i0).length⟩)
  (round : ∀ i, p i → AW P N c (oY (fun s' => ∃ j, p j ∧ μ j < μ i ∧ Le s' ⟨ot j ++ kt, (oh j ++ kh) ++ gN (Rf j), n, ⟨l0, aY + (Rf j).length⟩⟩) Q) ⟨ot i ++ kt, (oh i ++ kh) ++ gN (Rf i), n, ⟨l0, aY + (Rf i).length⟩⟩) :
  AW P N (.loop c) Q ⟨ts, hs, n, z0⟩ := by
 subst hk hj
 exact DO p (fun i => ⟨ot i ++ oL ks ts, (oh i ++ qM js hs) ++ gN (Rf i), n, ⟨l0, aY + (Rf i).length⟩⟩) μ ⟨i0, h0, Le.litF (mQ h1 (mE ks)) (mS h2 (pN js)) (Nat.le_refl _) hF hz⟩ round
end
def xG (P : Program) (k : FuncId) (args : List AV) (H0 : Nat → Option (List AV)) (F0 : Nat → Prop) (Q : AV → (Nat → Option (List AV)) → Prop) : Prop :=
 ∀ (C : Ctx) (ι : Pl) (w : World) (vals : List Value), C.w0 = w → C.ι0 = ι → HG C ι F0 H0 w → RdV w (aJ C.X ι H0) ι args vals →
  Calls P k vals.toArray w (fun e w' => ∃ v r H' ι', e = .returned v ∧ Q r H' ∧ Rd w' (aJ C.X ι' H') ι' r v ∧ HG C ι' (fun _ => False) H' w')
theorem oW {P : Program} {k : FuncId} {fn : Func} {c : Code} {args : List AV} {H0 : List (Nat × Option (List AV))} {n fb : Nat} {Q : AV → (Nat → Option (List AV)) → Prop} (hf : P.funcs[k]? = some fn) (hb : fn.body = some c)
  (hN : args.length ≤ fn.ntmps) (h : AW P fn.ntmps c (nL P fn.results Q) ⟨iI 0 args, H0, n, ⟨n, fb⟩⟩) : xG P k args (aS H0) (Fn n ⟨n, fb⟩) Q := by
 intro C ι w vals hw hι g hr
 refine calls_of_wp hf hb ?_
 let C' : Ctx := { C with N := fn.ntmps }
 have hlen := RdV.length hr
 have g' : HG C' ι (Fn n ⟨n, fb⟩) (aS H0) w := ⟨g.obj, g.sep, g.fr, g.ex, g.fresh⟩
 have gt : TG C' ι (lk (iI 0 args)) (aS H0) { tmps := vals.toArray ++ Array.replicate (fn.ntmps - vals.toArray.size) undef, defers := [] } w := by
  refine ⟨rfl, by simp [C', hlen]; omega, fun t av ht => ?_⟩
  obtain ⟨y, _, h1, h2⟩ := tN hr ht
  refine ⟨y, ?_, h2⟩
  have hlt : t < vals.length := by
   rcases Nat.lt_or_ge t vals.length with q | q
   ·exact q
   ·rw [List.getElem?_eq_none (by simpa using q)] at h1; cases h1
  rw [Array.getElem?_append_left (by simpa using hlt)]
  simpa using h1
 refine wp_mono (h C' _ w rfl ⟨fun id hid => ?_, ι, gt, g'⟩) ?_
 ·by_cases q : aY ≤ id ∧ id < fb
  ·exact .inl q
  ·refine .inr ?_
   show C.ι0 id = none
   rw [hι]
   exact g.fresh id ⟨hid, by show id < aY ∨ fb ≤ id; omega⟩
 rintro e a' w' ⟨s1, ⟨he, s', l, hle, hres, hQ⟩, hg⟩
 obtain ⟨_, ι', g1, g2⟩ := hle C' a' w' hg
 obtain ⟨ys, h1, h2⟩ := x5 (P := P) g1 g2 hres
 have hres' : (results fn a'.tmps).run P w' = .ok (if h : ys.toArray.size = 1 then ys.toArray[0] else .tuple ys.toArray) w' := by
  have hr1 : results fn a'.tmps = (do let vs ← fn.results.mapM (BZ a'); pure (if h : vs.size = 1 then vs[0] else .tuple vs)) := by
   unfold results
   congr 1
  rw [hr1, Array.mapM_eq_mapM_toList, Sem.run_bind, Sem.run_map, h1]
  simp only [Result.andThen_ok, Sem.run_pure]
 have g3 : HG C ι' (fun _ => False) (aS s'.hs) w' := ⟨g2.obj, g2.sep, g2.fr, g2.ex, fun _ h => h.elim⟩
 rcases he with rfl | rfl
 ·exact ⟨g1.df, _, hres', _, _, _, ι', rfl, hQ, oS h2, g3⟩
 ·exact ⟨g1.df, _, hres', _, _, _, ι', rfl, hQ, oS h2, g3⟩
def qN (mpF fr : Nat → Option Nat) (j : Nat) : Option Nat := match mpF j with | some i => some i | none => fr j
theorem AE {P : Program} {k : FuncId} {args args' : List AV} {H0 hh : Nat → Option (List AV)} {F0 : Nat → Prop} {mpF fr fi : Nat → Option Nat} {r rr' : AV} {H2 : Nat → Option (List AV)}
  (h : xG P k args H0 F0 (fun r' H' => r' = r ∧ ∀ j cs, hh j = some cs → H' j = some cs)) (hmi : ∀ j j' i, mpF j = some i → mpF j' = some i → j = j') (hfi : ∀ i j, fi i = some j ↔ fr j = some i) (hmf : ∀ j i, fr j = some i → mpF j = none) (hF0 : ∀ j, F0 j → mpF j = none)
  {C : Ctx} {ι : Pl} {F : Nat → Prop} {H : Nat → Option (List AV)} {w : World} (g : HG C ι F H w)
  (hH0 : ∀ j i, mpF j = some i → ∃ cs cs', H0 j = some cs ∧ H i = some cs' ∧ RnL mpF cs cs') (hH1 : ∀ j cs, H0 j = some cs → ∃ i, mpF j = some i)
  (ha : RnL mpF args args') (hF : ∀ j i, fr j = some i → F i) (hr : RnV (qN mpF fr) r rr')
  (hw : ∀ i cs', H2 i = some cs' → (∃ j cs, qN mpF fr j = some i ∧ hh j = some cs ∧ RnL (qN mpF fr) cs cs') ∨ (H i = some cs' ∧ ∀ j, mpF j ≠ some i))
  {vals : List Value} (hv : RdV w (aJ C.X ι H) ι args' vals) :
  Calls P k vals.toArray w (fun e w' => ∃ v ι', e = .returned v ∧ HG C ι' (fun j => F j ∧ fi j = none) H2 w' ∧ Carry w (aJ C.X ι H) ι w' (aJ C.X ι' H2) ι' ∧ Rd w' (aJ C.X ι' H2) ι' rr' v) := by
 let W0 : Nat → Prop := fun b => ∃ (j i β : Nat), mpF j = some i ∧ ι i = some (some (b, β))
 let Xc : Nat → Prop := fun b => aJ C.X ι H b ∧ ¬ W0 b
 let ιc : Pl := fun j => match mpF j with | some i => ι i | none => none
 let C' : Ctx := { N := 0, w0 := w, W0 := W0, X := Xc, ι0 := ιc, xlt := fun b hb => g.bad_lt b hb.1 }
 have hW0 : ∀ b, W0 b → ¬ C.X b ∧ (C.W0 b ∨ C.w0.heap.size ≤ b) ∧ aJ C.X ι H b := by
  rintro b ⟨j, i, β, h1, h2⟩
  obtain ⟨cs, cs', q1, q2, q3⟩ := hH0 j i h1
  rcases g.obj i cs' q2 with ⟨q, _⟩ | ⟨b', β', arr, e, q, q4, q5, q6, q7, q8⟩
  ·rw [q] at h2; cases h2
  ·rw [q] at h2; cases h2; exact ⟨q7, q8, .inr ⟨i, cs', _, q2, q⟩⟩
 have hnone : ∀ i j, fi i = some j → ι i = none := fun i j h1 => g.fresh i (hF j i ((hfi i j).1 h1))
 have hιc : ∀ j i, mpF j = some i → ιc j = ι i := fun j i h => by simp only [ιc, h]
 have hbadc : ∀ b, aJ Xc ιc H0 b → aJ C.X ι H b := by
  rintro b (⟨h1, _⟩ | ⟨j, cs, β, h1, h2⟩)
  ·exact h1
  ·obtain ⟨i, hi⟩ := hH1 j cs h1
   rw [hιc j i hi] at h2
   exact (hW0 b ⟨j, _, β, hi, h2⟩).2.2
 have hbadc2 : ∀ b, aJ C.X ι H b → aJ Xc ιc H0 b := by
  intro b hb
  by_cases hw0 : W0 b
  ·obtain ⟨j, i, β, h1, h2⟩ := hw0
   obtain ⟨cs, cs', q1, q2, q3⟩ := hH0 j i h1
   exact .inr ⟨j, cs, β, q1, by rw [hιc j i h1]; exact h2⟩
  ·exact .inl ⟨hb, hw0⟩
 have gc : HG C' ιc F0 H0 w := by
  refine ⟨fun j cs hj => ?_, fun j j' cs cs' b β β' h1 h2 h3 h4 => ?_, Fr.refl _ _, fun _ _ h => h, fun j hj => ?_⟩
  ·obtain ⟨i, hi⟩ := hH1 j cs hj
   obtain ⟨cs1, cs', q1, q2, q3⟩ := hH0 j _ hi
   rw [hj] at q1; cases q1
   rcases g.obj _ cs' q2 with ⟨q4, q5⟩ | ⟨b', β', arr, e, q4, q5, q6, q7, q8, q9⟩
   ·refine .inl ⟨by rw [hιc j i hi]; exact q4, ?_⟩
    subst q5
    exact List.eq_nil_of_length_eq_zero (by rw [q3.len]; rfl)
   ·have hw0 : W0 b' := ⟨j, _, β', hi, q4⟩
    exact .inr ⟨b', β', arr, e, by rw [hιc j i hi]; exact q4, q5, by rw [q3.len]; exact q6, RnL.bwC hιc hbadc q3 q7, fun hx => hx.2 hw0, .inl hw0⟩
  ·obtain ⟨i, hi⟩ := hH1 j cs h1
   obtain ⟨i', hi'⟩ := hH1 j' cs' h2
   obtain ⟨_, c1, _, q2, _⟩ := hH0 j _ hi
   obtain ⟨_, c2, _, q2', _⟩ := hH0 j' _ hi'
   rw [hιc j i hi] at h3
   rw [hιc j' i' hi'] at h4
   have := g.sep _ _ _ _ _ _ _ q2 q2' h3 h4
   exact hmi j j' i hi (by rw [hi', this])
  ·show ιc j = none
   simp only [ιc, hF0 j hj]
 have hvc : RdV w (aJ C'.X ιc H0) ιc args vals := RnL.bwV hιc hbadc ha hv
 refine (h C' ιc w vals rfl rfl gc hvc).mono ?_
 rintro e w' ⟨v, r0, H', ιr, rfl, ⟨rfl, hkeep⟩, hrd, gr⟩
 let ι' : Pl := fun i => match fi i with | some j => ιr j | none => ι i
 have hmpf : ∀ (j i : Nat), mpF j = some i → fi i = none := by
  intro j i hj
  cases hq : fi i with
  | none => rfl
  | some j2 =>
   obtain ⟨cs, cs', q1, q2, q3⟩ := hH0 j i hj
   rcases g.obj i cs' q2 with ⟨q, _⟩ | ⟨_, _, _, _, q, _⟩ <;> (rw [hnone i _ hq] at q; cases q)
 have hιr : ∀ (j i : Nat), mpF j = some i → ιr j = ι i := by
  intro j i hj
  obtain ⟨cs, cs', q1, q2, q3⟩ := hH0 j i hj
  have : ∃ q, ι i = some q := by
   rcases g.obj i cs' q2 with ⟨q, _⟩ | ⟨_, _, _, _, q, _⟩
   ·exact ⟨_, q⟩
   ·exact ⟨_, q⟩
  obtain ⟨q, hq⟩ := this
  rw [hq]
  exact gr.ex j q (by show ιc j = some q; rw [hιc j i hj]; exact hq)
 have hρ1 : ∀ j i, qN mpF fr j = some i → (mpF j = some i) ∨ (mpF j = none ∧ fr j = some i) := by
  intro j i hj
  unfold qN at hj
  split at hj
  ·cases hj; exact .inl (by assumption)
  ·exact .inr ⟨by assumption, hj⟩
 have hto : ∀ j i, qN mpF fr j = some i → ιr j = ι' i := by
  intro j i hj
  rcases hρ1 j i hj with h2 | ⟨h1, h2⟩
  ·rw [hιr j i h2]; simp only [ι', hmpf j i h2]
  ·simp only [ι', (hfi i j).2 h2]
 have hcase := hw
 have hold : ∀ i cs', H i = some cs' → ι' i = ι i := by
  intro i cs' hi
  simp only [ι']
  cases hq : fi i with
  | none => rfl
  | some j2 => rcases g.obj i cs' hi with ⟨q, _⟩ | ⟨_, _, _, _, q, _⟩ <;> (rw [hnone i _ hq] at q; cases q)
 have hnW : ∀ (i : Nat) cs' b β, H i = some cs' → (∀ j, mpF j ≠ some i) → ι i = some (some (b, β)) → ¬ W0 b := by
  rintro i cs' b β hi hm hb ⟨j, i2, β2, q1, q2⟩
  obtain ⟨cs, c2, _, q3, _⟩ := hH0 j i2 q1
  have := g.sep _ _ _ _ _ _ _ hi q3 hb q2
  subst this
  exact hm j q1
 have hobjlt : ∀ i cs' b β, H i = some cs' → ι i = some (some (b, β)) → b < w.heap.size := fun i cs' b β hi hb => g.bad_lt b (.inr ⟨i, cs', β, hi, hb⟩)
 have hcal : ∀ j cs b β, H' j = some cs → ιr j = some (some (b, β)) → W0 b ∨ w.heap.size ≤ b := by
  intro j cs b β hj hb
  rcases gr.obj j cs hj with ⟨q, _⟩ | ⟨b', β', arr, e, q, q4, q5, q6, q7, q8⟩
  ·rw [q] at hb; cases hb
  ·rw [q] at hb; cases hb; exact q8
 have hbad : ∀ b, aJ C.X ι' H2 b → aJ C.X ι H b ∨ w.heap.size ≤ b := by
  rintro b (h1 | ⟨i, cs', β, h1, h2⟩)
  ·exact .inl (.inl h1)
  ·rcases hcase i cs' h1 with ⟨j, cs, q1, q2, q3⟩ | ⟨q1, q2⟩
   ·rw [← hto j i q1] at h2
    rcases hcal j cs b β (hkeep j cs q2) h2 with q | q
    ·exact .inl (hW0 b q).2.2
    ·exact .inr q
   ·rw [hold i cs' q1] at h2; exact .inl (.inr ⟨i, cs', β, q1, h2⟩)
 have hfr := gr.fr
 have hcar : Carry w (aJ C.X ι H) ι w' (aJ C.X ι' H2) ι' := by
  refine ⟨fun b o y h1 h2 => ?_, fun i q hq => ?_, hfr.bs⟩
  ·have hlt := lF h2
   refine ⟨fun hb => ?_, ?_⟩
   ·rcases hbad b hb with h | h
    ·exact h1 h
    ·omega
   ·rw [dF (hfr.block b hlt (fun hw0 => h1 (hW0 b hw0).2.2))]; exact h2
  ·simp only [ι']
   cases hq2 : fi i with
   | none => exact hq
   | some j2 => rw [hnone i _ hq2] at hq; cases hq
 have hrn2 : RnH w' (qN mpF fr) (aJ C'.X ιr H') ιr (aJ C.X ι' H2) ι' := by
  refine ⟨⟨fun b o y h1 h2 => ⟨fun hb => h1 ?_, h2⟩, fun _ _ h => h, fun _ => Nat.le_refl _⟩, fun j i hj => hto j i hj⟩
  rcases hb with hb | ⟨i, cs', β, q1, q2⟩
  ·exact .inl ⟨.inl hb, fun hw0 => (hW0 b hw0).1 hb⟩
  ·rcases hcase i cs' q1 with ⟨j, cs, r1, r2, r3⟩ | ⟨r1, r2⟩
   ·rw [← hto j i r1] at q2
    exact .inr ⟨j, cs, β, hkeep j cs r2, q2⟩
   ·rw [hold i cs' r1] at q2
    exact .inl ⟨.inr ⟨i, cs', β, r1, q2⟩, hnW i cs' b β r1 r2 q2⟩
 refine ⟨v, ι', rfl, ⟨fun i cs' hi => ?_, fun i i2 cs1 cs2 b β β' h1 h2 h3 h4 => ?_, ⟨hfr.os.trans g.fr.os, hfr.tape.trans g.fr.tape, hfr.output.trans g.fr.output, Nat.le_trans g.fr.size hfr.size, fun b hb hnw => ?_, fun b => Nat.le_trans (g.fr.bs b) (hfr.bs b)⟩, fun i q hq => hcar.pl i q (g.ex i q hq), fun i hi => ?_⟩, hcar, RnV.fwd hrn2 hr hrd⟩
 ·rcases hcase i cs' hi with ⟨j, cs, q1, q2, q3⟩ | ⟨q1, q2⟩
  ·rcases gr.obj j cs (hkeep j cs q2) with ⟨r1, r2⟩ | ⟨b, β, arr, e, r1, r2, r3, r4, r5, r6⟩
   ·refine .inl ⟨by rw [← hto j i q1]; exact r1, ?_⟩
    subst r2
    exact List.eq_nil_of_length_eq_zero (by rw [← q3.len]; rfl)
   ·refine .inr ⟨b, β, arr, e, by rw [← hto j i q1]; exact r1, r2, by rw [← q3.len]; exact r3, RnL.fwdC hrn2 q3 r4, ?_, ?_⟩
    ·rcases r6 with r6 | r6
     ·exact (hW0 b r6).1
     ·intro hX
      have := C.xlt b hX
      have := g.fr.size
      have : w.heap.size ≤ b := r6
      omega
    ·rcases r6 with r6 | r6
     ·exact (hW0 b r6).2.1
     ·refine .inr ?_
      have := g.fr.size
      have : w.heap.size ≤ b := r6
      omega
  ·rcases g.obj i cs' q1 with ⟨r1, r2⟩ | ⟨b, β, arr, e, r1, r2, r3, r4, r5, r6⟩
   ·exact .inl ⟨by rw [hold i cs' q1]; exact r1, r2⟩
   ·have hlt := eW r2
    have hbl := hfr.block b hlt (hnW i cs' b β q1 q2 r1)
    exact .inr ⟨b, β, arr, e, by rw [hold i cs' q1]; exact r1, by rw [hbl]; exact r2, r3, RdC.carryB hcar _ _ _ (fun o y hy => by rw [dF hbl]; exact hy) r4, r5, r6⟩
 ·rcases hcase i cs1 h1 with ⟨j, c1, q1, q2, q3⟩ | ⟨q1, q2⟩ <;> rcases hcase i2 cs2 h2 with ⟨j2, c2, q1', q2', q3'⟩ | ⟨q1', q2'⟩
  ·rw [← hto j i q1] at h3
   rw [← hto j2 i2 q1'] at h4
   have := gr.sep _ _ _ _ _ _ _ (hkeep j c1 q2) (hkeep j2 c2 q2') h3 h4
   subst this
   rw [q1] at q1'; cases q1'; rfl
  ·rw [← hto j i q1] at h3
   rw [hold i2 cs2 q1'] at h4
   have hlt := hobjlt i2 cs2 b _ q1' h4
   rcases hcal j c1 b _ (hkeep j c1 q2) h3 with q | q
   ·exact (hnW i2 cs2 b _ q1' q2' h4 q).elim
   ·omega
  ·rw [hold i cs1 q1] at h3
   rw [← hto j2 i2 q1'] at h4
   have hlt := hobjlt i cs1 b _ q1 h3
   rcases hcal j2 c2 b _ (hkeep j2 c2 q2') h4 with q | q
   ·exact (hnW i cs1 b _ q1 q2 h3 q).elim
   ·omega
  ·rw [hold i cs1 q1] at h3
   rw [hold i2 cs2 q1'] at h4
   exact g.sep _ _ _ _ _ _ _ q1 q1' h3 h4
 ·have hb2 : b < w.heap.size := by have := g.fr.size; omega
  rw [hfr.block b hb2 (fun hw0 => ?_)]
  ·exact g.fr.block b hb hnw
  ·rcases (hW0 b hw0).2.1 with q | q
   ·exact hnw q
   ·omega
 ·simp only [ι', hi.2]
  exact g.fresh i hi.1
end Go.AL
namespace Go.AL
open Go.RowKit
attribute [local irreducible] aY
set_option linter.unusedVariables false
set_option linter.unusedSimpArgs false
def Od (P : Program) (k : FuncId) (args : List AV) (R0 : List (List Bool)) (r : AV) (hh : List (Nat × Option (List AV))) : Prop :=
 xG P k args (aS (gN R0)) (Fn 0 ⟨0, aY + R0.length⟩) (fun r' H' => r' = r ∧ ∀ id cs, aS (hh ++ gN R0) id = some cs → H' id = some cs)
def Pw (P : Program) (k : FuncId) (args : List AV) (r : AV) (R1 : List (List Bool)) : Prop :=
 xG P k args (aS []) (Fn 0 ⟨0, aY⟩) (fun r' H' => r' = r ∧ ∀ id cs, aS (gN R1) id = some cs → H' id = some cs)
theorem qI {hs : List (Nat × Option (List AV))} {r r' : AV} {R0 : List (List Bool)} {hh : List (Nat × Option (List AV))} (hr : r' = r) (hh' : nJ hs hh) (hF : FamR R0 R0 hs hs) : r' = r ∧ ∀ id cs, aS (hh ++ gN R0) id = some cs → aS hs id = some cs := by
 refine ⟨hr, fun id cs h => ?_⟩
 rcases rS h with h | h
 ·exact oG hh' id cs h
 ·obtain ⟨k, hk, rfl, rfl⟩ := l7 h
  exact hF.get hk
theorem MJ {hs : List (Nat × Option (List AV))} {r r' : AV} {R0 : List (List Bool)} (hr : r' = r) (hF : FamR R0 R0 hs hs) : r' = r ∧ ∀ id cs, aS (gN R0) id = some cs → aS hs id = some cs :=
 qI (hh := []) hr trivial hF
def JB (b m : Nat) (j : Nat) : Option Nat := if aY ≤ j ∧ j < aY + m then some (b + j) else none
def Ob (n n1 : Nat) (j : Nat) : Option Nat := if j < n1 then some (n + j) else none
def PI (n n1 : Nat) (i : Nat) : Option Nat := if n ≤ i ∧ i < n + n1 then some (i - n) else none
def Po (b m n n1 : Nat) : Nat → Option Nat := qN (JB b m) (Ob n n1)
theorem F7 {mpF fr : Nat → Option Nat} {j i : Nat} (h : mpF j = some i) : qN mpF fr j = some i := by unfold qN; rw [h]
theorem EL {mpF fr : Nat → Option Nat} {j : Nat} (h : mpF j = none) : qN mpF fr j = fr j := by unfold qN; rw [h]
theorem nF {b m k : Nat} (h : k < m) : JB b m (k + aY) = some (b + k + aY) := by
 unfold JB; rw [if_pos (by omega), Nat.add_assoc]
theorem JE {b m n n1 k : Nat} (h : k < m) : Po b m n n1 (k + aY) = some (b + k + aY) := F7 (nF h)
theorem sD {b m n n1 j : Nat} (h : j < n1) (hb : j < aY) : Po b m n n1 j = some (n + j) := by
 have e : JB b m j = none := by unfold JB; rw [if_neg (by omega)]
 refine (EL e).trans ?_
 unfold Ob; rw [if_pos h]
theorem rn_rows {ρ : Nat → Option Nat} {b b' m w : Nat} (h : ∀ k, k < m → ρ (b + k + aY) = some (b' + k + aY)) : RnL ρ (flat (zR b w) (List.range m)) (flat (zR b' w) (List.range m)) :=
 RnL.flt fun k hk => by rw [List.mem_range] at hk; exact .cons (.own (h k hk)) .nil
theorem dD {m : List (Nat × Nat)} {lo : Lo} {pn : Option Nat} {b k w : Nat} (h : aY + (b + k) ≤ lo.fb) : RnL (jK m lo pn) (flat (zR b w) (List.range k)) (flat (zR b w) (List.range k)) :=
 rn_rows fun j hj => g0 (by omega) (by omega)
def Oc (ρ : Nat → Option Nat) (hh : List (Nat × Option (List AV))) : List (Nat × Option (List AV)) → Prop
 | [] => True
 | (i, none) :: l => Oc ρ hh l
 | (i, some cs') :: l => (∃ j cs, ρ j = some i ∧ aS hh j = some cs ∧ RnL ρ cs cs') ∧ Oc ρ hh l
theorem CK {ρ : Nat → Option Nat} {hh : List (Nat × Option (List AV))} : ∀ {ws : List (Nat × Option (List AV))}, Oc ρ hh ws → ∀ i cs', (i, some cs') ∈ ws → ∃ j cs, ρ j = some i ∧ aS hh j = some cs ∧ RnL ρ cs cs'
 | [], _, i, cs', h => by simp at h
 | (u, none) :: l, hw, i, cs', h => by
  simp only [Oc] at hw
  rcases List.mem_cons.1 h with h | h
  ·cases h
  ·exact CK hw i cs' h
 | (u, some c) :: l, hw, i, cs', h => by
  simp only [Oc] at hw
  rcases List.mem_cons.1 h with h | h
  ·cases h; exact hw.1
  ·exact CK hw.2 i cs' h
section
variable {P : Program} {N : Nat} {Q : Exit → AS → Prop} {all : Array Oper} {rest : List Oper} {ts : List (Nat × AV)} {hs : List (Nat × Option (List AV))} {n : Nat} {z0 : Lo} {md : Md}
variable {d : Nat} {ty : TypeId} {pos : String} {af : Array Edge}
theorem Ae {k : FuncId} {args : Array Operand} {tys : Array TypeId} {avs avs0 : List AV} {R R0 : List (List Bool)} {r rr' : AV} {hh : List (Nat × Option (List AV))} (b n1 : Nat) (D : List Nat) (ws : List (Nat × Option (List AV))) [hc : CaT P k]
  (ha : evL (lk ts) args.toList = some avs) (h : Od P k avs0 R0 r hh) (hF : FamR R R hs hs) (hb : b + R0.length ≤ R.length) (hR : ∀ k, k < R0.length → R0[k]! = R[b + k]!) (hD : ∀ k, k < R0.length → b + k + aY ∈ D)
  (har : RnL (JB b R0.length) avs0 avs) (hk : gL aY hh = true) (hr : RnV (Po b R0.length n n1) r rr') (hw : Oc (Po b R0.length n n1) hh ws) (hM : Nat.ble (n + n1) aY = true) (hN : Nat.blt d N = true)
  {md' : Md} [hmd : MdA md (fK args.toList ++ D.map .inr) (ws.map (fun p => .inr p.1) ++ [.inl d]) md']
  (kk : RW P N all Q md' rest ⟨(d, rr') :: ts, gR hs ws, n + n1, z0⟩) : RW P N all Q md (⟨some d, .call ⟨.value (.func k), args, tys⟩, ty, pos, af, none⟩ :: rest) ⟨ts, hs, n, z0⟩ := by
 have hM' := Nat.le_of_ble_eq_true hM
 refine jX (rs := fK args.toList ++ D.map .inr) (ws := ws) (n' := n + n1) (out := rr') rfl (Nat.le_add_right _ _) (.inr hM') (fun C ι F T H a w K Q' hCN ag hFf g gh hK => ?_) (fun x hx => by cases hx; exact dB hN) (by simp only [wD]; rw [← hmd.pf] at kk; exact kk)
 simp only [Oper.wp, fP hc.pf, Oper.upon]
 have hH : ∀ q, q < R0.length → H (b + q + aY) = some (flat cB R[b + q]!) := fun q hq => by
  rw [ag.r.h _ (List.mem_map_of_mem (hD q hq))]; exact hF.get (by omega)
 have hmp : ∀ j i, JB b R0.length j = some i → ∃ q, q < R0.length ∧ j = q + aY ∧ i = b + q + aY := by
  intro j i hj
  unfold JB at hj
  split at hj
  ·cases hj; exact ⟨j - aY, by omega, by omega, by omega⟩
  ·cases hj
 have hrh : ∀ j i, Ob n n1 j = some i → j < n1 ∧ i = n + j := by
  intro j i hj
  unfold Ob at hj
  split at hj
  ·cases hj; exact ⟨by assumption, rfl⟩
  ·cases hj
 refine (AE (fr := Ob n n1) (fi := PI n n1) (hh := aS (hh ++ gN R0)) (H2 := j7 H ws) h (fun j j' i h1 h2 => ?_) (fun i j => ?_) (fun j i h1 => ?_) (fun j hj => ?_) gh (fun j i hj => ?_) (fun j cs hj => ?_) har (fun j i hj => ?_) hr (fun i cs' hi => ?_) (iE g (ag.l.evL.trans ha))).mono ?_
 ·obtain ⟨q, _, _, _⟩ := hmp j i h1
  obtain ⟨q', _, _, _⟩ := hmp j' i h2
  omega
 ·unfold PI Ob
  constructor
  ·intro h1
   split at h1
   ·cases h1; rw [if_pos (by omega)]; congr 1; omega
   ·cases h1
  ·intro h1
   split at h1
   ·cases h1; rw [if_pos (by omega)]; congr 1; omega
   ·cases h1
 ·have := hrh j i h1
  unfold JB; rw [if_neg (by omega)]
 ·have h1 : j < aY ∨ aY + R0.length ≤ j := hj.2
  unfold JB; rw [if_neg (by omega)]
 ·obtain ⟨q, q1, rfl, rfl⟩ := hmp j i hj
  refine ⟨flat cB R0[q]!, flat cB R[b + q]!, ?_, hH q q1, ?_⟩
  ·rw [pB, if_pos q1]
  ·rw [hR q q1]; exact .pur (inferInstance : Pur (flat cB R[b + q]!)).pf
 ·obtain ⟨q, q1, rfl, rfl⟩ := l7 hj
  exact ⟨_, nF q1⟩
 ·obtain ⟨q1, rfl⟩ := hrh j i hj
  exact hFf _ (Nat.le_add_right _ _) (by omega)
 ·rcases u9 hi with h1 | ⟨h1, h2⟩
  ·obtain ⟨j, cs, q1, q2, q3⟩ := CK hw i cs' h1
   exact .inl ⟨j, cs, q1, Hs q2, q3⟩
  ·by_cases hq : ∃ q, q < R0.length ∧ i = b + q + aY
   ·obtain ⟨q, q1, rfl⟩ := hq
    rw [hH q q1] at h1
    cases h1
    refine .inl ⟨q + aY, flat cB R0[q]!, JE q1, ?_, ?_⟩
    ·rw [IX (rD (by omega) hk), pB, if_pos q1]
    ·rw [hR q q1]; exact .pur (inferInstance : Pur (flat cB R[b + q]!)).pf
   ·refine .inr ⟨h1, fun j hj => hq ?_⟩
    obtain ⟨q, q1, _, q2⟩ := hmp j i hj
    exact ⟨q, q1, q2⟩
 ·rintro e w' ⟨v, ι', rfl, g', c', hrd⟩
  refine hK ι' w' v (g.carry c') (g'.less (fun _ _ h => h) (fun j hj => ⟨hj.1, ?_⟩)).1 hrd
  unfold PI; rw [if_neg hj.2]
theorem G2 {k : FuncId} {args : Array Operand} {tys : Array TypeId} {avs : List AV} {R R1 : List (List Bool)} {r rr' : AV} {hs' : List (Nat × Option (List AV))} {l0 : Nat} [hc : CaT P k]
  (ha : evL (lk ts) args.toList = some avs) (h : Pw P k avs r R1) (hp : bF avs = true) (hF : FamR R (R ++ R1) hs hs') (hz : z0 = ⟨l0, aY + R.length⟩)
  (hr : RnV (fun j => if aY ≤ j ∧ j < aY + R1.length then some (R.length + j) else none) r rr') (hM : Nat.ble n aY = true) (hN : Nat.blt d N = true)
  (kk : RW P N all Q .txt rest ⟨(d, rr') :: ts, hs', n, ⟨l0, aY + (R ++ R1).length⟩⟩) : RW P N all Q .txt (⟨some d, .call ⟨.value (.func k), args, tys⟩, ty, pos, af, none⟩ :: rest) ⟨ts, hs, n, z0⟩ := by
 subst hz
 rintro C a w hCN ⟨h0, ι, g, gh⟩
 refine wpList_plain rfl (fun K hK => ?_)
 simp only [Oper.wp, fP hc.pf, Oper.upon]
 have hM' := Nat.le_of_ble_eq_true hM
 have hrh : ∀ j i, (fun j => if aY ≤ j ∧ j < aY + R1.length then some (R.length + j) else none) j = some i → aY ≤ j ∧ j < aY + R1.length ∧ i = R.length + j := by
  intro j i hj
  dsimp only at hj
  split at hj
  ·rename_i hh; cases hj; exact ⟨hh.1, hh.2, rfl⟩
  ·cases hj
 have hrho : qN (fun _ => none) (fun j => if aY ≤ j ∧ j < aY + R1.length then some (R.length + j) else none) = (fun j => if aY ≤ j ∧ j < aY + R1.length then some (R.length + j) else none) := by funext j; rfl
 have hlen : (R ++ R1).length = R.length + R1.length := List.length_append
 refine (AE (mpF := fun _ => none) (fr := fun j => if aY ≤ j ∧ j < aY + R1.length then some (R.length + j) else none) (fi := fun i => if aY + R.length ≤ i ∧ i < aY + R.length + R1.length then some (i - R.length) else none) (hh := aS (gN R1)) (H2 := aS hs') (args' := avs)
  h (fun j j' i h1 h2 => by cases h1) (fun i j => ?_) (fun j i h1 => rfl) (fun j hj => rfl) gh (fun j i hj => by cases hj) (fun j cs hj => by simp [aS] at hj) (.pur hp) (fun j i hj => ?_) (rr' := rr') (by rw [hrho]; exact hr) (fun i cs' hi => ?_) (iE g ha)).mono ?_
 ·constructor
  ·intro h1
   split at h1
   ·cases h1; rw [if_pos (by omega)]; congr 1; omega
   ·cases h1
  ·intro h1
   split at h1
   ·cases h1; rw [if_pos (by omega)]; congr 1; omega
   ·cases h1
 ·obtain ⟨q1, q2, rfl⟩ := hrh j i hj
  exact ⟨by show n ≤ R.length + j; omega, .inr (by show aY + R.length ≤ R.length + j; omega)⟩
 ·rcases Nat.lt_or_ge i aY with hi2 | hi2
  ·exact .inr ⟨by rw [hF.low i hi2]; exact hi, fun j => by simp⟩
  ·obtain ⟨q, rfl⟩ : ∃ q, i = q + aY := ⟨i - aY, by omega⟩
   have hg := hF.symm.fam q
   rw [hi] at hg
   split at hg
   ·rename_i hq
    cases hg
    rcases Nat.lt_or_ge q R.length with hq2 | hq2
    ·refine .inr ⟨?_, fun j => by simp⟩
     have e : (R ++ R1)[q]! = R[q]! := by rw [aZ _ _ hq, aZ _ _ hq2, List.getElem_append_left hq2]
     rw [e]; exact hF.get hq2
    ·refine .inl ⟨(q - R.length) + aY, flat cB R1[q - R.length]!, ?_, ?_, ?_⟩
     ·rw [hrho]
      show (if aY ≤ q - R.length + aY ∧ q - R.length + aY < aY + R1.length then some (R.length + (q - R.length + aY)) else none) = some (q + aY)
      rw [if_pos (by omega)]; congr 1; omega
     ·rw [pB, if_pos (by omega)]
     ·have e : (R ++ R1)[q]! = R1[q - R.length]! := by rw [aZ _ _ hq, aZ _ _ (by omega), List.getElem_append_right hq2]
      rw [e]; exact .pur (inferInstance : Pur (flat cB R1[q - R.length]!)).pf
   ·cases hg
 ·rintro e w' ⟨v, ι', rfl, g', c', hrd⟩
  refine hK _ _ (kk C _ _ hCN ⟨fun id hid => ?_, ι', ?_, ?_⟩)
  ·rcases h0 id hid with q | q
   ·exact .inl ⟨q.1, by have := q.2; show id < aY + (R ++ R1).length; have h5 : id < aY + R.length := this; omega⟩
   ·exact .inr q
  ·show TG C ι' (lk ((d, rr') :: ts)) _ _ _
   rw [gT]
   exact (g.carry c').put (hCN.symm ▸ dB hN) hrd
  ·refine (g'.less (fun _ _ h => h) (fun j hj => ?_)).1
   have h3 : n ≤ j := hj.1
   have h4 : j < aY ∨ aY + (R ++ R1).length ≤ j := hj.2
   refine ⟨⟨h3, ?_⟩, ?_⟩
   ·show j < aY ∨ aY + R.length ≤ j
    omega
   ·rw [if_neg (by omega)]
end
theorem GH {P : Program} {k : FuncId} {fn : Func} {c : Code} {args : List AV} {R0 : List (List Bool)} {r : AV} {hh : List (Nat × Option (List AV))} (hf : P.funcs[k]? = some fn) (hb : fn.body = some c) (hN : args.length ≤ fn.ntmps)
  (h : AW P fn.ntmps c (nL P fn.results (fun r' H' => r' = r ∧ ∀ id cs, aS (hh ++ gN R0) id = some cs → H' id = some cs)) ⟨iI 0 args, gN R0, 0, ⟨0, aY + R0.length⟩⟩) : Od P k args R0 r hh := oW hf hb hN h
theorem H8 {P : Program} {k : FuncId} {fn : Func} {c : Code} {args : List AV} {R1 : List (List Bool)} {r : AV} (hf : P.funcs[k]? = some fn) (hb : fn.body = some c) (hN : args.length ≤ fn.ntmps)
  (h : AW P fn.ntmps c (nL P fn.results (fun r' H' => r' = r ∧ ∀ id cs, aS (gN R1) id = some cs → H' id = some cs)) ⟨iI 0 args, [], 0, ⟨0, aY⟩⟩) : Pw P k args r R1 := oW hf hb hN h
end Go.AL
namespace Go.AL
open Go.RowKit
set_option linter.unusedVariables false
set_option linter.unusedSimpArgs false
theorem Le.virt {ts : List (Nat × AV)} {hs : List (Nat × Option (List AV))} {n : Nat} {z0 : Lo} (hn : n < aY) : Le ⟨ts, hs, n, z0⟩ ⟨ts, (n, some []) :: hs, n + 1, z0⟩ := by
 rintro C a w ⟨h0, ι, g, gh⟩
 obtain ⟨g1, c1⟩ := gh.virt (id := n) ⟨Nat.le_refl _, .inl hn⟩
 have e : aS ((n, some []) :: hs) = dQ (aS hs) n (some []) := A3 _ _ _
 refine ⟨h0, dQ ι n (some none), ?_, ?_⟩
 ·show TG C _ (lk ts) (aS ((n, some []) :: hs)) a w
  rw [e]; exact g.carry c1
 ·show HG C _ _ (aS ((n, some []) :: hs)) w
  rw [e]
  refine (g1.less (fun _ _ h => h) (fun j hj => ?_)).1
  have h1 : n + 1 ≤ j := hj.1
  exact ⟨⟨by show n ≤ j; omega, hj.2⟩, by omega⟩
theorem Le.cellsN {ts : List (Nat × AV)} {hs : List (Nat × Option (List AV))} {n : Nat} {z0 : Lo} {i q : Nat} {cs cs' cq : List AV} (hi : aS hs i = some cs) (hq : aS hs q = some cq) (hl : cs'.length = cs.length)
  (h : ∀ (w : World) (bad : Nat → Prop) (ι : Pl) (b β : Nat), (∃ p, ι q = some p) → RdC w bad ι cs b β → RdC w bad ι cs' b β) :
  Le ⟨ts, hs, n, z0⟩ ⟨ts, (i, some cs') :: hs, n, z0⟩ := by
 rintro C a w ⟨h0, ι, g, gh⟩
 have hqq : ∃ p, ι q = some p := by
  rcases gh.obj q cq hq with ⟨p1, _⟩ | ⟨_, _, _, _, p1, _⟩ <;> exact ⟨_, p1⟩
 have hk : ∀ id c, aS ((i, some cs') :: hs) id = some c → (id = i ∧ c = cs') ∨ (id ≠ i ∧ aS hs id = some c) := by
  intro id c hc
  rw [cS] at hc
  split at hc
  ·rename_i e; cases hc; exact .inl ⟨e, rfl⟩
  ·rename_i e; exact .inr ⟨fun h => e h, hc⟩
 have hk2 : ∀ id c, aS hs id = some c → ∃ c', aS ((i, some cs') :: hs) id = some c' := by
  intro id c hc
  rw [cS]
  split
  ·exact ⟨_, rfl⟩
  ·exact ⟨_, hc⟩
 have hb : aJ C.X ι (aS ((i, some cs') :: hs)) = aJ C.X ι (aS hs) := by
  funext b
  refine propext ⟨?_, ?_⟩
  ·rintro (h | ⟨id, c, β, h1, h2⟩)
   ·exact .inl h
   ·rcases hk id c h1 with ⟨rfl, _⟩ | ⟨_, h3⟩
    ·exact .inr ⟨_, _, _, hi, h2⟩
    ·exact .inr ⟨_, _, _, h3, h2⟩
  ·rintro (h | ⟨id, c, β, h1, h2⟩)
   ·exact .inl h
   ·obtain ⟨c', h3⟩ := hk2 id c h1
    exact .inr ⟨_, _, _, h3, h2⟩
 refine ⟨h0, ι, ⟨g.df, g.sz, fun t av ht => ?_⟩, ?_, ?_, gh.fr, gh.ex, gh.fresh⟩
 ·show ∃ y, a.tmps[t]? = some y ∧ Rd w (aJ C.X ι (aS ((i, some cs') :: hs))) ι av y
  rw [hb]; exact g.tm t av ht
 ·intro id c hc
  show _ ∨ ∃ b β arr e, ι id = some (some (b, β)) ∧ w.heap[b]? = some (.cells arr e (0, 0)) ∧ β + c.length ≤ arr.size ∧ RdC w (aJ C.X ι (aS ((i, some cs') :: hs))) ι c b β ∧ ¬ C.X b ∧ (C.W0 b ∨ C.w0.heap.size ≤ b)
  rw [hb]
  rcases hk id c hc with ⟨rfl, rfl⟩ | ⟨_, h3⟩
  ·rcases gh.obj _ _ hi with ⟨q1, q2⟩ | ⟨b, β, arr, e, q1, q2, q3, q4, q5⟩
   ·subst q2
    exact .inl ⟨q1, List.eq_nil_of_length_eq_zero hl⟩
   ·exact .inr ⟨b, β, arr, e, q1, q2, by rw [hl]; exact q3, h _ _ _ _ _ hqq q4, q5⟩
  ·exact gh.obj _ _ h3
 ·intro id id' c c' b β β' h1 h2 h3 h4
  obtain ⟨d1, e1⟩ : ∃ d, aS hs id = some d := by
   rcases hk id c h1 with ⟨rfl, _⟩ | ⟨_, h⟩
   ·exact ⟨_, hi⟩
   ·exact ⟨_, h⟩
  obtain ⟨d2, e2⟩ : ∃ d, aS hs id' = some d := by
   rcases hk id' c' h2 with ⟨rfl, _⟩ | ⟨_, h⟩
   ·exact ⟨_, hi⟩
   ·exact ⟨_, h⟩
  exact gh.sep id id' d1 d2 b β β' e1 e2 h3 h4
theorem sB {w : World} {bad : Nat → Prop} {ι : Pl} {c c' : AV} (hc : ∀ y, Rd w bad ι c y → Rd w bad ι c' y) : ∀ (a : List AV) (r : List AV) (b o : Nat), RdC w bad ι (a ++ c :: r) b o → RdC w bad ι (a ++ c' :: r) b o
 | [], r, b, o, h => by
  simp only [List.nil_append, RdC] at h ⊢
  obtain ⟨⟨x, h1, h2, h3⟩, h4⟩ := h
  exact ⟨⟨x, h1, h2, hc _ h3⟩, h4⟩
 | x :: a, r, b, o, h => by
  simp only [List.cons_append, RdC] at h ⊢
  exact ⟨h.1, sB hc a r b (o + 1) h.2⟩
theorem Le.nilCell {ts : List (Nat × AV)} {hs : List (Nat × Option (List AV))} {n : Nat} {z0 : Lo} {i : Nat} (e : Nat) (c1 : List AV) {c2 : List AV} (hi : aS hs i = some (c1 ++ .v (.slice none 0 0) :: c2)) (hin : i ≠ n) (hn : n < aY) :
  Le ⟨ts, hs, n, z0⟩ ⟨ts, (i, some (c1 ++ .own n 0 0 e :: c2)) :: (n, some []) :: hs, n + 1, z0⟩ :=
 (Le.virt hn).trans (Le.cellsN (q := n) (cs := c1 ++ .v (.slice none 0 0) :: c2) (by rw [cS, if_neg hin]; exact hi) (by rw [cS, if_pos rfl]) (by simp) fun w bad ι b β hp hr =>
  sB (fun y hy => by simp only [Rd] at hy ⊢; exact .inl ⟨hp, trivial, none, hy⟩) c1 c2 b β hr)
theorem Le.frzC {ts : List (Nat × AV)} {hs : List (Nat × Option (List AV))} {n : Nat} {z0 : Lo} {j i m e : Nat} (c1 : List AV) {c2 d : List AV} (hj : aS hs j = some (c1 ++ .own i 0 m e :: c2)) (hi : aS hs i = some d) (hij : j ≠ i) :
  Le ⟨ts, hs, n, z0⟩ ⟨ts, (j, some (c1 ++ .imm m d :: c2)) :: (i, none) :: hs, n, z0⟩ := by
 rintro C a w ⟨h0, ι, g, gh⟩
 have hk : ∀ id c, aS ((j, some (c1 ++ .imm m d :: c2)) :: (i, none) :: hs) id = some c → (id = j ∧ c = c1 ++ .imm m d :: c2) ∨ (id ≠ j ∧ id ≠ i ∧ aS hs id = some c) := by
  intro id c hc
  rw [cS] at hc
  split at hc
  ·rename_i e; cases hc; exact .inl ⟨e, rfl⟩
  ·rename_i e
   rw [cS] at hc
   split at hc
   ·cases hc
   ·rename_i e2; exact .inr ⟨e, e2, hc⟩
 have hk2 : ∀ id c, aS ((j, some (c1 ++ .imm m d :: c2)) :: (i, none) :: hs) id = some c → id ≠ i ∧ ∃ c', aS hs id = some c' := by
  intro id c hc
  rcases hk id c hc with ⟨rfl, _⟩ | ⟨_, h2, h3⟩
  ·exact ⟨hij, _, hj⟩
  ·exact ⟨h2, _, h3⟩
 have hbad : ∀ b, aJ C.X ι (aS ((j, some (c1 ++ .imm m d :: c2)) :: (i, none) :: hs)) b → aJ C.X ι (aS hs) b := by
  rintro b (h | ⟨id, c, β, h1, h2⟩)
  ·exact .inl h
  ·obtain ⟨_, c', h3⟩ := hk2 id c h1
   exact .inr ⟨id, c', β, h3, h2⟩
 have car : Carry w (aJ C.X ι (aS hs)) ι w (aJ C.X ι (aS ((j, some (c1 ++ .imm m d :: c2)) :: (i, none) :: hs))) ι := ⟨fun b o x h1 h2 => ⟨fun q => h1 (hbad b q), h2⟩, fun _ _ h => h, fun _ => Nat.le_refl _⟩
 have hcell : ∀ y, Rd w (aJ C.X ι (aS ((j, some (c1 ++ .imm m d :: c2)) :: (i, none) :: hs))) ι (.own i 0 m e) y → Rd w (aJ C.X ι (aS ((j, some (c1 ++ .imm m d :: c2)) :: (i, none) :: hs))) ι (.imm m d) y := by
  intro y hr
  simp only [Rd] at hr ⊢
  rcases hr with ⟨_, h2, a', h3⟩ | ⟨b, β, c, h1, h2, h3, h4⟩
  ·subst h2; exact ⟨a', 0, h3, .inl rfl⟩
  ·refine ⟨_, c, h2, ?_⟩
   rcases Nat.eq_zero_or_pos m with h5 | h5
   ·exact .inl h5
   ·refine .inr ⟨b, β + 0, h3, rfl, ?_⟩
    rcases gh.obj i d hi with ⟨q1, q2⟩ | ⟨b', β', arr, e', q1, q2, q3, q4, q5, q6⟩
    ·rw [h1] at q1; cases q1
    ·rw [h1] at q1; cases q1
     refine .inr ⟨?_, RdC.carryB car _ _ _ (fun o x hx => hx) q4⟩
     rintro (h | ⟨id', cs', β', r1, r2⟩)
     ·exact q5 h
     ·obtain ⟨r3, c', r4⟩ := hk2 id' cs' r1
      exact r3 (gh.sep _ _ _ _ _ _ _ r4 hi r2 h1)
 refine ⟨h0, ι, g.carry car, ⟨fun id c hc => ?_, fun id id' c c' b β β' h1 h2 h3 h4 => ?_, gh.fr, gh.ex, gh.fresh⟩⟩
 ·rcases hk id c hc with ⟨rfl, rfl⟩ | ⟨_, _, h3⟩
  ·rcases gh.obj _ _ hj with ⟨q1, q2⟩ | ⟨b, β, arr, e, q1, q2, q3, q4, q5⟩
   ·simp at q2
   ·exact .inr ⟨b, β, arr, e, q1, q2, by simpa using q3, sB hcell c1 c2 b β (RdC.carryB car _ _ _ (fun o x hx => hx) q4), q5⟩
  ·rcases gh.obj _ _ h3 with ⟨q1, q2⟩ | ⟨b, β, arr, e, q1, q2, q3, q4, q5⟩
   ·exact .inl ⟨q1, q2⟩
   ·exact .inr ⟨b, β, arr, e, q1, q2, q3, RdC.carryB car _ _ _ (fun o x hx => hx) q4, q5⟩
 ·obtain ⟨_, d1, e1⟩ := hk2 id c h1
  obtain ⟨_, d2, e2⟩ := hk2 id' c' h2
  exact gh.sep id id' d1 d2 b β β' e1 e2 h3 h4
theorem Jv {R : List (List Bool)} {hs hs' : List (Nat × Option (List AV))} {k m : Nat} (hF : FamR R R hs hs') (hk : k < R.length) (hm : m = R[k]!.length) : sCells (aS hs) 1 (oB (.own (k + aY) 0 m 1)) = some (m, flat cB R[k]!) := by
 subst hm
 have hl : (flat cB R[k]!).length = R[k]!.length * 1 := aL cB _
 show (aS hs (k + aY)).bind (fun cs => if R[k]!.length * 1 ≤ (cs.drop 0).length then some (R[k]!.length, (cs.drop 0).take (R[k]!.length * 1)) else none) = _
 rw [hF.get hk, Option.bind_some, List.drop_zero, if_pos (by omega), List.take_of_length_le (by omega)]
end Go.AL
namespace Go.AL
open Go.RowKit
set_option linter.unusedVariables false
set_option linter.unusedSimpArgs false
theorem D1 {cs : List AV} {v : Nat} {c : AV} : gI cs (0 + v * 1) [c] = cs.take v ++ c :: cs.drop (v + 1) := by
 unfold gI; simp
theorem KP {u : List (List Bool)} {v : Nat} {r : List Bool} (hv : v < u.length) : (flat iA u).take v ++ .imm r.length (flat cB r) :: (flat iA u).drop (v + 1) = flat iA (u.set v r) := by
 have h := DG (xs := u) (k := v) (r := r) hv
 rw [D1] at h; exact h
theorem Le.frzRow {ts : List (Nat × AV)} {hs : List (Nat × Option (List AV))} {n : Nat} {z0 : Lo} {j q v m : Nat} {u : List (List Bool)} {r : List Bool} (hj : aS hs j = some (gI (flat iA u) (0 + v * 1) [.own q 0 m 1])) (hq : aS hs q = some (flat cB r)) (hm : m = r.length) (hv : v < u.length) (hjq : j ≠ q) :
  Le ⟨ts, hs, n, z0⟩ ⟨ts, (j, some (flat iA (u.set v r))) :: (q, none) :: hs, n, z0⟩ := by
 subst hm
 rw [D1] at hj
 have h := Le.frzC (ts := ts) (n := n) (z0 := z0) ((flat iA u).take v) hj hq hjq
 rwa [KP hv] at h
theorem Le.fdrop {ts : List (Nat × AV)} {hs : List (Nat × Option (List AV))} {n : Nat} {z0 : Lo} {k : Nat} {R : List (List Bool)} (hF : FamR R R hs hs) (hk : k < R.length) : Le ⟨ts, (k + aY, some (flat cB R[k]!)) :: hs, n, z0⟩ ⟨ts, hs, n, z0⟩ := by
 refine Le.of (fun _ _ h => h) (fun i cs h => ?_) (Nat.le_refl _) rfl
 have h' : aS hs i = some cs := h
 show aS ((k + aY, some (flat cB R[k]!)) :: hs) i = some cs
 rw [cS]
 split
 ·rename_i e; subst e; rw [hF.get hk] at h'; exact h'
 ·exact h'
theorem Pn {i k : Nat} (hi : Nat.blt i aY = true) : distinct [i, k + aY] = true := by
 have h1 := dB hi
 have : Nat.beq i (k + aY) = false := by
  cases h : Nat.beq i (k + aY) with
  | false => rfl
  | true => have := Nat.eq_of_beq_eq_true h; omega
 simp only [distinct, List.all_cons, List.all_nil, this]; rfl
structure Hid (T : Prop) : Prop where pf : T
theorem cut {G : Prop} {T : Prop} (key : T) (main : Hid T → G) : G := main ⟨key⟩
end Go.AL
namespace Go.AL
structure Hy (T : Prop) : Prop where pf : T
theorem Pq : (∀ a b : Bool, ((a && b) = true) = (a = true ∧ b = true)) ∧ (∀ a b : Bool, ((a && b) = false) ↔ (a = false ∨ b = false)) ∧ (∀ a b : Bool, ((a || b) = true) = (a = true ∨ b = true)) ∧ (∀ a b : Bool, ((a || b) = false) ↔ (a = false ∧ b = false)) ∧
  (∀ (p : Prop) [Decidable p], (decide p = true) = p) ∧ (∀ (p : Prop) [Decidable p], (decide p = false) ↔ ¬ p) ∧ (∀ a : Bool, ((!a) = true) ↔ a = false) ∧ (∀ a : Bool, ((!a) = false) ↔ a = true) ∧ ((!true) = false) ∧ ((!false) = true) ∧ (∀ a b : Int, ¬ a < b ↔ b ≤ a) ∧ (∀ a b : Int, ¬ a ≤ b ↔ b < a) :=
 ⟨fun a b => Bool.and_eq_true a b, fun a b => Bool.and_eq_false_iff, fun a b => Bool.or_eq_true a b, fun a b => Bool.or_eq_false_iff, fun p _ => by simp, fun p _ => decide_eq_false_iff_not, fun a => by simp, fun a => by simp, rfl, rfl, fun _ _ => Int.not_lt, fun _ _ => Int.not_le⟩
theorem hU : (∀ {α : Type} (a b : List α), (a ++ b).length = a.length + b.length) ∧ (∀ {α : Type} (a : α) (b : List α), (a :: b).length = b.length + 1) ∧ (∀ {α : Type}, ([] : List α).length = 0) ∧ (∀ {α : Type} (a : List α) (i : Nat) (x : α), (a.set i x).length = a.length) ∧ (∀ {α : Type} (i : Nat) (a : List α), (a.take i).length = min i a.length) ∧
  (∀ {α β : Type} (f : α → β) (a : List α), (a.map f).length = a.length) ∧ (∀ {α : Type} (n : Nat) (a : α), (List.replicate n a).length = n) ∧ (∀ (l : List Stmt) (b : Nat), (dZ b l).length = b8 l) ∧ (∀ n : Nat, n * 1 = n) ∧ (∀ n : Nat, 0 + n = n) ∧ (∀ n : Nat, n + 0 = n) :=
 ⟨fun _ _ => List.length_append, fun _ _ => rfl, rfl, fun _ _ _ => List.length_set, fun _ _ => List.length_take, fun _ _ => List.length_map _, fun _ _ => List.length_replicate, bE, Nat.mul_one, Nat.zero_add, Nat.add_zero⟩
theorem bH {α : Type} {p q r : α → Prop} (x : α) (h3 : r x) (h1 : p x) (h2 : q x) : ∃ x, p x ∧ q x ∧ r x := ⟨x, h1, h2, h3⟩
theorem PM {G K : Prop} (k : K) (h : Hy K → G := by first | (intro k; (first | ((with_reducible apply E0); (case hx => rfl); (case hH => rfl); (case hf => infer_instance); (case hg => infer_instance); (case hα => infer_instance); (case hk => omega); (case hc => rfl); (case hN => rfl)) | ((with_reducible apply FD); (case hx => rfl); (case hH => rfl); (case hf => infer_instance); (case hg => infer_instance); (case hα => infer_instance); (case hk => omega); (case hc => rfl); (case hN => rfl)) | ((with_reducible apply Gl); (case hx => rfl); (case hH => rfl); (case hf => infer_instance); (case hg => infer_instance); (case hα => infer_instance); (case hk => omega); (case h0 => rfl); (case hN => rfl)) | ((with_reducible apply II); (case hx => rfl); (case hd => rfl); (case hc => rfl); (case hN => rfl)) | ((with_reducible apply Io); (case hx => rfl); (case hd => rfl); (case hc => (first | exact (rfl : _ = [_]) | exact (rfl : _ = [_, _]) | exact (rfl : _ = [_, _, _]) | exact (rfl : _ = [_, _, _, _]) | exact (rfl : _ = [_, _, _, _, _]) | exact (rfl : _ = [_, _, _, _, _, _]) | exact (rfl : _ = [_, _, _, _, _, _, _]) | exact (rfl : _ = [_, _, _, _, _, _, _, _]) | rfl)); (case hn => rfl); (case h0 => rfl); (case hN => rfl)) | ((with_reducible apply BI); (case hx => rfl); (case hl => first | assumption | omega | (simp only [hU, List.length_drop] <;> omega)); (case h0 => rfl); (case hN => rfl)) | ((with_reducible apply A4); (case hx => rfl); (case hH => rfl); (case hl => first | assumption | omega | (simp only [hU] <;> omega) | rfl); (case h0 => rfl); (case hN => rfl)) | ((with_reducible apply At); (case hx => rfl); (case hH => rfl); (case hl => first | assumption | omega | (simp only [hU] <;> omega) | rfl); (case h0 => rfl); (case hN => rfl)) | ((with_reducible apply E3); (case hx => rfl); (case hH => rfl); (case ho => first | exact PR | exact PK); (case hq => first | assumption | omega | (simp only [hU] <;> omega)); (case hN => rfl))); exact k.pf) | fail) : G := h ⟨k⟩
theorem PH {G K : Prop} (k : K) (h : Hy K → G := by first | (intro k; (first | ((with_reducible apply Gd); (case hj => rfl); (case hb => rfl); (case hN => rfl)) | ((with_reducible apply FL); (case hj => rfl); (case hb => rfl); (case hN => rfl); (case hw => first | rfl | assumption)) | ((with_reducible apply Dh); (case hj => rfl); (case hb => rfl); (case hN => rfl); (case hw => first | rfl | assumption)) ); exact k.pf) | fail) : G := h ⟨k⟩
theorem PE {G K : Prop} (k : K) (h : Hy K → G := by first | (intro k; (first | ((with_reducible apply LN); (case hx => rfl); (case hy => rfl); (case h => rfl); (case hN => rfl)) | ((with_reducible apply MR); (case hx => rfl); (case hy => rfl); (case hk => infer_instance); (case ha => infer_instance); (case hb => infer_instance); (case hN => rfl)) | ((with_reducible apply JY); (case hx => rfl); (case hy => rfl); (case hk => infer_instance); (case ha => infer_instance); (case hN => rfl)) | ((with_reducible apply Ky); (case hx => rfl); (case hy => rfl); (case hk => infer_instance); (case ha => infer_instance); (case hb => infer_instance); (case hN => rfl)) | ((with_reducible apply KQ); (case hx => rfl); (case hy => rfl); (case hk => infer_instance); (case ha => infer_instance); (case hb => infer_instance); (case hN => rfl)) | ((with_reducible apply K5); (case hx => rfl); (case hy => rfl); (case hk => infer_instance); (case ha => infer_instance); (case h => omega); (case hN => rfl)) | ((with_reducible apply Mi); (case hx => rfl); (case hy => rfl); (case h => omega); (case hN => rfl)) | ((with_reducible apply Mg); (case hx => rfl); (case hy => rfl); (case h => omega); (case hN => rfl)) | ((with_reducible apply Mt); (case hx => rfl); (case hy => rfl); (case h => omega); (case h' => omega); (case hN => rfl))  | ((with_reducible apply Mk); (case hx => rfl); (case hy => rfl); (case h => omega); (case hN => rfl)) | ((with_reducible apply NM); (case hx => rfl); (case hy => rfl); (case h => omega); (case hN => rfl)) | ((with_reducible apply Nz); (case hx => rfl); (case hy => rfl); (case h => omega); (case hN => rfl)) | ((with_reducible apply NS); (case hx => rfl); (case hy => rfl); (case h => rfl); (case hN => rfl))); exact k.pf) | fail) : G := h ⟨k⟩
theorem PO {G K : Prop} (k : K) (h : Hy K → G := by first | (intro k; (first | ((with_reducible apply tT); (case hx => rfl); (case hi => rfl); (case hm => (first | assumption | omega)); (case hml => (first|rfl|assumption|omega)); (case hα => infer_instance); (case hf => infer_instance); (case hg => infer_instance); (case hN => rfl)) | ((with_reducible apply CA); (case hx => rfl); (case hi => rfl); (case hm => (first | assumption | omega)); (case hN => rfl)) | ((with_reducible apply wW); (case hx => rfl); (case hi => rfl); (case hm => (first | assumption | omega | exact ⟨Int.emod_nonneg _ (by omega), Int.emod_lt_of_pos _ (by omega)⟩)); (case hml => (first|rfl|assumption|omega)); (case hα => infer_instance); (case hf => infer_instance); (case hg => infer_instance); (case hN => rfl)) | ((with_reducible apply E5); (case hx => rfl); (case hi => rfl); (case hm => (first | assumption | omega | exact ⟨Int.emod_nonneg _ (by omega), Int.emod_lt_of_pos _ (by omega)⟩)); (case hN => rfl)) | ((with_reducible apply BQ); (case hx => rfl); (case hi => rfl); (case hm => first | omega | assumption); (case hp => rfl); (case hN => rfl)) | ((with_reducible apply Cv); (case hx => rfl); (case hi => rfl); (case hm => first | omega | assumption); (case hN => rfl))); exact k.pf) | fail) : G := h ⟨k⟩
theorem PS {G K : Prop} (k : K) (h : Hy K → G := by first | (intro k; (first | ((with_reducible apply M9); (case hx => rfl); (case hn => rfl); (case hN => rfl)) | ((with_reducible apply Lc); (case hx => rfl); (case hN => rfl)) | ((with_reducible apply cP); (case hx => rfl); (case hy => rfl); (case hze => rfl); (case he0 => rfl); (case hH => rfl); (case hl => first | (rw [aL]; omega) | (rw [aL]; simp only [hU] <;> omega) | (simp [aL]; done) | decide | (simp; omega)); (case hs' => first | rfl | exact MO (by (first | rfl | assumption | omega))); (case hbig => omega); (case hmx => omega); (case hcs => first | exact AA (by (first | assumption | omega | (simp only [hU] <;> omega) | infer_instance | decide | (simp; done) | grind)) | exact oF (by (first | assumption | omega | (simp only [hU] <;> omega) | infer_instance | decide | (simp; done) | grind)) | exact Lm (by (first | assumption | omega | (simp only [hU] <;> omega) | infer_instance | decide | (simp; done) | grind)) | exact Jr (by (first | assumption | omega | (simp only [hU] <;> omega) | infer_instance | decide | (simp; done) | grind)) | exact Hp (by (first | assumption | omega | (simp only [hU] <;> omega) | infer_instance | decide | (simp; done) | grind)) | exact JI (by (first | assumption | omega | (simp only [hU] <;> omega) | infer_instance | decide | (simp; done) | grind)) | exact JP (by (first | assumption | omega | (simp only [hU] <;> omega) | infer_instance | decide | (simp; done) | grind))   | exact (rfl : _ = [_]) | exact (rfl : _ = [_, _]) | exact (rfl : _ = [_, _, _]) | exact (rfl : _ = [_, _, _, _]) | exact (rfl : _ = [_, _, _, _, _]) | exact (rfl : _ = [_, _, _, _, _, _]) | exact (rfl : _ = [_, _, _, _, _, _, _]) | exact (rfl : _ = [_, _, _, _, _, _, _, _]) | rfl); (case hM => rfl); (case hN => rfl))); exact k.pf) | fail) : G := h ⟨k⟩
theorem PF {G K : Prop} (k : K) (h : Hy K → G := by first | (intro k; (first | ((with_reducible apply Fx); (case hl => rfl); (case hf => (first | exact (rfl : _ = some [_]) | exact (rfl : _ = some [_, _]) | exact (rfl : _ = some [_, _, _]) | exact (rfl : _ = some [_, _, _, _]) | exact (rfl : _ = some [_, _, _, _, _]) | exact (rfl : _ = some [_, _, _, _, _, _]) | exact (rfl : _ = some [_, _, _, _, _, _, _]) | exact (rfl : _ = some [_, _, _, _, _, _, _, _]) | rfl)); (case hk => (first | exact (rfl : _ = [_]) | exact (rfl : _ = [_, _]) | exact (rfl : _ = [_, _, _]) | exact (rfl : _ = [_, _, _, _]) | exact (rfl : _ = [_, _, _, _, _]) | exact (rfl : _ = [_, _, _, _, _, _]) | exact (rfl : _ = [_, _, _, _, _, _, _]) | exact (rfl : _ = [_, _, _, _, _, _, _, _]) | rfl)); (case hN => rfl)) | ((with_reducible apply lV); (case hl => rfl); (case hf => (first | exact (rfl : _ = some [_]) | exact (rfl : _ = some [_, _]) | exact (rfl : _ = some [_, _, _]) | exact (rfl : _ = some [_, _, _, _]) | exact (rfl : _ = some [_, _, _, _, _]) | exact (rfl : _ = some [_, _, _, _, _, _]) | exact (rfl : _ = some [_, _, _, _, _, _, _]) | exact (rfl : _ = some [_, _, _, _, _, _, _, _]) | rfl)); (case hN => rfl))); exact k.pf) | fail) : G := h ⟨k⟩
theorem PV {G K : Prop} (k : K) (h : Hy K → G := by first | (intro k; (first | ((with_reducible apply nP); (case hze => rfl); (case hsm => rfl); (case hl => rfl); (case hfl => (first | exact (rfl : _ = some [_]) | exact (rfl : _ = some [_, _]) | exact (rfl : _ = some [_, _, _]) | exact (rfl : _ = some [_, _, _, _]) | exact (rfl : _ = some [_, _, _, _, _]) | exact (rfl : _ = some [_, _, _, _, _, _]) | exact (rfl : _ = some [_, _, _, _, _, _, _]) | exact (rfl : _ = some [_, _, _, _, _, _, _, _]) | rfl)); (case hM => rfl); (case hN => rfl)) | ((with_reducible apply nQ); (case hx => rfl); (case hy => rfl); (case hze => rfl); (case hsm => omega); (case hmx => omega); (case hcs => first | exact MB | exact KR | exact GF | exact Ds | rfl); (case hM => rfl); (case hN => rfl))); exact k.pf) | fail) : G := h ⟨k⟩
theorem PJ {G K : Prop} (k : K) (h : Hy K → G := by first | (intro k; (first | ((with_reducible apply bT); (case hx => rfl); (case hy => rfl); (case hc => rfl); (case hn => rfl); (case hH => rfl); (case hl => (first|decide|(rw [aL]; simp only [hU] <;> omega)|omega|(simp;done)|(simp;omega))); (case hcs => first | exact MH (by (first | assumption | omega | (simp only [hU] <;> omega) | infer_instance | decide | (simp; done) | grind)) | exact Pf (by (first | assumption | omega | (simp only [hU] <;> omega) | infer_instance | decide | (simp; done) | grind)) | exact OT (by (first | assumption | omega | (simp only [hU] <;> omega) | infer_instance | decide | (simp; done) | grind)) | exact O7 (by (first | assumption | omega | (simp only [hU] <;> omega) | infer_instance | decide | (simp; done) | grind)) | exact DG (by (first | assumption | omega | (simp only [hU] <;> omega) | infer_instance | decide | (simp; done) | grind)) | exact Jk (by (first | assumption | omega | (simp only [hU] <;> omega) | infer_instance | decide | (simp; done) | grind)) | exact HJ (by (first | assumption | omega | (simp only [hU] <;> omega) | infer_instance | decide | (simp; done) | grind)) | exact NR (by (first | assumption | omega | (simp only [hU] <;> omega) | infer_instance | decide | (simp; done) | grind)) | exact Ey (by (first | assumption | omega | (simp only [hU] <;> omega) | infer_instance | decide | (simp; done) | grind)) | exact GD (by (first | assumption | omega | (simp only [hU] <;> omega) | infer_instance | decide | (simp; done) | grind))   | exact xI (by (first | assumption | omega | (simp only [hU] <;> omega) | infer_instance | decide | (simp; done) | grind))  | exact (rfl : _ = [_]) | exact (rfl : _ = [_, _]) | exact (rfl : _ = [_, _, _]) | exact (rfl : _ = [_, _, _, _]) | exact (rfl : _ = [_, _, _, _, _]) | exact (rfl : _ = [_, _, _, _, _, _]) | exact (rfl : _ = [_, _, _, _, _, _, _]) | exact (rfl : _ = [_, _, _, _, _, _, _, _]) | rfl)) | ((with_reducible apply AO); (case hx => rfl); (case hy => rfl); (case hH => rfl); (case hl => first | assumption | omega | (simp only [hU] <;> omega)); (case hc => first | rfl | (rw [eS]; first | assumption | (simp only [hU] <;> omega))))); exact k.pf) | fail) : G := h ⟨k⟩
theorem aD {G K : Prop} (k : K) (h : Hy K → G := by first | (intro k; (first | ((with_reducible apply aI); first | ((with_reducible apply JZ); (case hx => rfl); (case hN => rfl)) | ((with_reducible apply Kc); refine PM ?_) | ((with_reducible apply xR); (case hx => rfl); (case hp => rfl); (case hN => rfl)) | ((with_reducible apply Ol); refine PH ?_) | ((with_reducible apply Mj); refine PE ?_) | ((with_reducible apply wF); (case hx => rfl); (case hN => rfl)) | ((with_reducible apply JN); first | ((with_reducible apply HS); (case hc => rfl); (case hb => first | rfl | assumption); (case hx => rfl); (case hN => rfl)) | ((with_reducible apply I5); (case hc => rfl); (case hb => first | rfl | assumption); (case hx => rfl); (case hN => rfl))) | ((with_reducible apply ML); refine PO ?_) | ((with_reducible apply OQ); refine PS ?_) | ((with_reducible apply MK); (case hf => kernel_rfl)) | ((with_reducible apply Lr); first | ((with_reducible apply wJ); (case hx => rfl); (case h => first | exact L1 _ | omega); (case hN => rfl)) ) | ((with_reducible apply Pg); first | ((with_reducible apply B1); (case hx => rfl); (case hi => rfl); (case hl => first | assumption | omega | (simp only [hU] <;> omega)); (case hm => omega); (case hN => rfl))) | ((with_reducible apply NB); refine PF ?_) | ((with_reducible apply MG); first | ((with_reducible apply E9); (case hx => rfl); (case hf => infer_instance); (case hl => rfl); (case hh => rfl); (case hb => first | omega | (simp only [List.length_take, List.length_drop, Int.toNat_natCast]; omega)); (case hN => rfl))) | ((with_reducible apply l9); (case hf => rfl); (case hc => rfl); (case hN => rfl)) | ((with_reducible apply Nu); (case hx => rfl); (case hN => rfl)) | ((with_reducible apply Np); (case hx => rfl); (case hp => rfl); (case hN => rfl)) | ((with_reducible apply MF); (case hx => rfl); (case hc => rfl); (case hM => rfl); (case hN => rfl)) | ((with_reducible apply Hr); (case hM => rfl); (case hN => rfl)) | ((with_reducible apply Cu); (case hx => rfl); (case hc => rfl); (case hN => rfl)) | refine PV ?_ | refine PJ ?_)); exact k.pf) | fail) : G := h ⟨k⟩
theorem aE {G K : Prop} (k : K) (h : Hy K → G := by first | (intro k; (first | ((with_reducible apply Ej); first | with_reducible apply Nr | with_reducible apply EE | ((with_reducible apply Jg); (case hc => rfl); (case hb => first | rfl | assumption)) | ((with_reducible apply Hg); (case hc => rfl); (case hb => first | rfl | assumption)) | with_reducible apply I8 | with_reducible apply Kn | with_reducible apply Kk | with_reducible apply MX ) | with_reducible apply EK | with_reducible apply M3 | with_reducible apply LQ | with_reducible apply Ga | with_reducible apply M8 | with_reducible apply LW | ((with_reducible apply bq_out); (case hij => decide))); exact k.pf) | fail) : G := h ⟨k⟩
theorem aM {G c1 q1 c2 q2 K1 K2 : Prop} (k1 : c1 → q1 → K1) (k2 : c2 → q2 → K2) (h : Hy (c1 → q1 → K1) → Hy (c2 → q2 → K2) → G := by first | (intro k1 k2; (with_reducible apply Ej); (with_reducible apply y9); (case hc => rfl); (intro hc; have hq := hc; (try simp only [Pq] at hq); first | exact k1.pf hc hq | exact k1.pf hc trivial); (intro hc; have hq := hc; (try simp only [Pq] at hq); first | exact k2.pf hc hq | exact k2.pf hc trivial)) | fail) : G := h ⟨k1⟩ ⟨k2⟩
theorem bU {G c1 q1 c2 q2 K1 K2 : Prop} (k1 : c1 → q1 → K1) (k2 : c2 → q2 → K2) (h : Hy (c1 → q1 → K1) → Hy (c2 → q2 → K2) → G := by first | (intro k1 k2; (with_reducible apply aI); (with_reducible apply Ol); (with_reducible apply E6); (case hj => rfl); (case hb => rfl); (case hN => rfl); (intro hc; have hq := hc; (try simp only [Pq] at hq); first | exact k1.pf hc hq | exact k1.pf hc trivial); (intro hc; have hq := hc; (try simp only [Pq] at hq); first | exact k2.pf hc hq | exact k2.pf hc trivial)) | fail) : G := h ⟨k1⟩ ⟨k2⟩
theorem b0 {G K : Prop} (k : K) (h : Hy K → G := by first | (intro k; (with_reducible apply Ej); (with_reducible apply J9); (case hm => kernel_rfl); exact k.pf) | fail) : G := h ⟨k⟩
theorem c5 {G K : Prop} (k : K) (h : Hy K → G := by first | (intro k; (with_reducible apply aF); (case hr => rfl); exact k.pf) | fail) : G := h ⟨k⟩
theorem Ai {ts : List (Nat × AV)} : oL [] ts = [] := rfl
theorem vY {k : Nat} {v : AV} {ks : List Nat} {ts kt : List (Nat × AV)} (h : lk ts k = some v) (h2 : oL ks ts = kt) : oL (k :: ks) ts = (k, v) :: kt := by
 subst h2; simp [oL, h]
theorem zY {hs : List (Nat × Option (List AV))} : qM [] hs = [] := rfl
theorem w4 {k : Nat} {v : List AV} {ks : List Nat} {hs kh : List (Nat × Option (List AV))} (h : aS hs k = some v) (h2 : qM ks hs = kh) : qM (k :: ks) hs = (k, some v) :: kh := by
 subst h2; simp [qM, h]
section
variable {P : Program} {N : Nat} {Q : Exit → AS → Prop} {σ : Type} {c : Code} {ts : List (Nat × AV)} {hs : List (Nat × Option (List AV))} {n : Nat} {z0 : Lo}
theorem aK (ks js : List Nat) {kt : List (Nat × AV)} {kh : List (Nat × Option (List AV))} (ot : σ → List (Nat × AV)) (oh : σ → List (Nat × Option (List AV))) (p : σ → Prop) (μ : σ → Nat) (i0 : σ) (h0 : p i0)
  (round : ∀ i, p i → AW P N c (oY (fun s' => ∃ j, p j ∧ μ j < μ i ∧ Le s' ⟨ot j ++ kt, oh j ++ kh, n, z0⟩) Q) ⟨ot i ++ kt, oh i ++ kh, n, z0⟩)
  (hk : oL ks ts = kt := by repeat' (first | exact Ai | (apply vY; rfl))) (hj : qM js hs = kh := by repeat' (first | exact zY | (apply w4; rfl)))
  (h1 : pE ts (ot i0) := by repeat' (first | exact trivial | refine And.intro rfl ?_)) (h2 : nJ hs (oh i0) := by repeat' (first | exact trivial | refine And.intro (.inr rfl) ?_)) : AW P N (.loop c) Q ⟨ts, hs, n, z0⟩ :=
 Jj ks kt js kh ot oh p μ i0 h0 hk hj h1 h2 round
theorem eO (Rf : σ → List (List Bool)) (ks js : List Nat) {kt : List (Nat × AV)} {kh : List (Nat × Option (List AV))} (ot : σ → List (Nat × AV)) (oh : σ → List (Nat × Option (List AV))) (p : σ → Prop) (μ : σ → Nat) (i0 : σ) (h0 : p i0)
  (round : ∀ i, p i → AW P N c (oY (fun s' => ∃ j, p j ∧ μ j < μ i ∧ Le s' ⟨ot j ++ kt, (oh j ++ kh) ++ gN (Rf j), n, ⟨0, aY + (Rf j).length⟩⟩) Q) ⟨ot i ++ kt, (oh i ++ kh) ++ gN (Rf i), n, ⟨0, aY + (Rf i).length⟩⟩)
  (hk : oL ks ts = kt := by repeat' (first | exact Ai | (apply vY; rfl))) (hj : qM js hs = kh := by repeat' (first | exact zY | (apply w4; rfl)))
  (h1 : pE ts (ot i0) := by repeat' (first | exact trivial | refine And.intro rfl ?_)) (h2 : nJ hs (oh i0) := by repeat' (first | exact trivial | refine And.intro (.inr rfl) ?_))
  (hF : FamR (Rf i0) (Rf i0) hs hs := by repeat' (first | exact FamR.here | exact FamR.nil | (apply FamR.cons; focus rfl))) (hz : z0 = ⟨0, aY + (Rf i0).length⟩ := by first | rfl | (simp only [fH])) : AW P N (.loop c) Q ⟨ts, hs, n, z0⟩ :=
 BD 0 Rf ks kt js kh ot oh p μ i0 h0 hk hj h1 h2 hF hz round
end
theorem Le.renA (m : List (Nat × Nat)) {ts ts' : List (Nat × AV)} {hs hs' : List (Nat × Option (List AV))} {n n' : Nat} {lo : Lo} (hm : Hm lo.lo n' m = true := by rfl) (hn : lo.lo ≤ n' := by decide)
  (h1 : IF m lo ts ts' := by repeat' (first | exact trivial | refine And.intro ⟨_, rfl, ?_⟩ ?_ | refine And.intro ⟨_, _, rfl, rfl, ?_⟩ ?_ | exact Or.inr rfl | refine Or.inl ⟨?_, (by first | rfl | exact bG _ _ | exact Pur.pf | exact PurV.pf)⟩ | refine Or.inr (All2.cons ?_ ?_) | refine All2.cons ?_ ?_ | exact All2.nil | rfl))
  (h2 : CF m lo hs hs' := by repeat' (first | exact trivial | refine And.intro ⟨_, rfl, ?_⟩ ?_ | refine And.intro ⟨_, _, rfl, rfl, ?_⟩ ?_ | exact Or.inr rfl | refine Or.inl ⟨?_, (by first | rfl | exact bG _ _ | exact Pur.pf | exact PurV.pf)⟩ | refine Or.inr (All2.cons ?_ ?_) | refine All2.cons ?_ ?_ | exact All2.nil | rfl)) : Le ⟨ts, hs, n, lo⟩ ⟨ts', hs', n', lo⟩ :=
 Le.ren m hm hn h1 h2
section
variable {P : Program} {k : FuncId} {fn : Func} {c : Code} {args : List AV} {N : Nat}
theorem aB {Q : AV → Prop} (hf : P.funcs[k]? = some fn) (hn : fn.ntmps = N) (h : AW P N c (nL P fn.results (fun r _ => Q r ∧ r.pur = true)) ⟨iI 0 args, [], 0, ⟨0, aY⟩⟩) (hb : fn.body = some c := by rfl)
  (hN : args.length ≤ N := by simp) : PC P k args Q := by subst hn; exact HH hf hb hN h
theorem aX {σ : Type} {H0 : List (Nat × Option (List AV))} {n : Nat} {p : σ → Prop} {rr : σ → AV} {hh : σ → List (Nat × Option (List AV))} (hf : P.funcs[k]? = some fn) (hn : fn.ntmps = N)
  (h : AW P N c (nL P fn.results (fun r H' => ∃ x, p x ∧ r = rr x ∧ ∀ id cs, aS (hh x) id = some cs → H' id = some cs)) ⟨iI 0 args, H0, n, ⟨n, aY⟩⟩) (hb : fn.body = some c := by rfl)
  (hN : args.length ≤ N := by simp) : MC P k args H0 n p rr hh := by subst hn; exact Im hf hb hN h
theorem A5 {R0 : List (List Bool)} {r : AV} {hh : List (Nat × Option (List AV))} (hf : P.funcs[k]? = some fn) (hn : fn.ntmps = N)
  (h : AW P N c (nL P fn.results (fun r' H' => r' = r ∧ ∀ id cs, aS (hh ++ gN R0) id = some cs → H' id = some cs)) ⟨iI 0 args, gN R0, 0, ⟨0, aY + R0.length⟩⟩) (hb : fn.body = some c := by rfl)
  (hN : args.length ≤ N := by simp) : Od P k args R0 r hh := by subst hn; exact GH hf hb hN h
theorem HE {R1 : List (List Bool)} {r : AV} (hf : P.funcs[k]? = some fn) (hn : fn.ntmps = N)
  (h : AW P N c (nL P fn.results (fun r' H' => r' = r ∧ ∀ id cs, aS (gN R1) id = some cs → H' id = some cs)) ⟨iI 0 args, [], 0, ⟨0, aY⟩⟩) (hb : fn.body = some c := by rfl)
  (hN : args.length ≤ N := by simp) : Pw P k args r R1 := by subst hn; exact H8 hf hb hN h
end
end Go.AL
namespace Go.AL
open Go.RowKit
set_option linter.unusedVariables false
def KM (op : BinOp) (a b : ByteArray) : Option Value :=
 match op with
 | .add => if a.size + b.size ≤ 9000000000000000000 then some (.string (a ++ b)) else none
 | .eql => some (.bool (a.toList == b.toList))
 | .neq => some (.bool (!(a.toList == b.toList)))
 | _ => none
def H7 (s : ByteArray) (l : List Int) : ByteArray := l.foldl (fun r n => r.push (UInt8.ofNat n.toNat)) s
section
variable {P : Program} {C : Ctx} {ι : Pl} {T : Nat → Option AV} {F : Nat → Prop} {H : Nat → Option (List AV)} {a : Act} {w : World} {o : Oper}
theorem JQ (g : TG C ι T H a w) {op : BinOp} {t t' : TypeId} {x y : Operand} {m n : ByteArray} {v : Value} (ho : o.op = .binOp op t x y t')
  (hx : ev T x = some (.v (.string m))) (hy : ev T y = some (.v (.string n))) (h : KM op m n = some v) : Pu P C ι H a w o (.v v) := by
 have h1 := bS g hx
 have h2 := bS g hy
 simp only [Rd] at h1 h2
 refine ⟨v, ?_, by simp [Rd]⟩
 have hg : (eqGuard op t x y (.string m) (.string n)).run P w = .ok () w := by
  unfold eqGuard
  cases op <;> simp
 have hb : (binOp op t (.string m) (.string n)).run P w = .ok v w := by
  cases op <;> simp only [KM] at h <;> first | (cases h; done) | skip
  ·split at h
   ·rename_i hs
    cases h
    have h9 : ¬ (((m.size + n.size : Nat) : Int) > IntKind.i64.max) := by
     have : IntKind.i64.max = 9223372036854775807 := rfl
     omega
    show ((if ((m.size + n.size : Nat) : Int) > IntKind.i64.max then _ else pure (.string (m ++ n)) : Sem Value)).run P w = _
    rw [if_neg h9]; simp
   ·cases h
  all_goals (cases h; simp [binOp, Op.stringOp])
 simp only [execOp, ho, h1, h2, Sem.run_bind, hg, Result.andThen_ok, hb, Sem.run_pure]
theorem BN {bad : Nat → Prop} {k : IntKind} : ∀ {ns : List Int} {l : List Value}, RdL w bad ι (ns.map fun n => .v (.int k n)) l → l = ns.map (Value.int k)
 | [], l, h => by simp only [List.map_nil, RdL] at h; exact h
 | n :: ns, l, h => by
  simp only [List.map_cons, RdL] at h
  obtain ⟨x, l', rfl, h0, h1, h2⟩ := h
  simp only [Rd] at h1
  rw [h1, BN h2, List.map_cons]
theorem MT (g : TG C ι T H a w) (gh : HG C ι F H w) {s t el : TypeId} {x : Operand} {av : AV} {m : Nat} {ns : List Int} (ho : o.op = .convert s t x) (hx : ev T x = some av)
  (ht : mR P s = some el) (hu : Bs P el = some .u8) (hst : P.underlying t = some .string) (hs : sCells H 1 (oB av) = some (m, ns.map fun n => .v (.int .u8 n))) :
  Pu P C ι H a w o (.v (.string (H7 .empty ns))) := by
 obtain ⟨ad, c, l, h1, h2, h3, h4, h5⟩ := wL gh (lU (bS g hx)) hs
 have hl := BN h3
 have hll : ns.length = m := by have := h2; rw [hl] at this; simpa using this
 refine ⟨.string (H7 .empty ns), ?_, by simp [Rd]⟩
 have hcv : (convert s t (.slice ad m c)).run P w = (Conv.bytesToString (.slice ad m c)).run P w := run_convert_bytes_string w s t el ad m c (j5 ht) (CT hu) hst
 have hrun : (Conv.bytesToString (.slice ad m c)).run P w = .ok (.string (H7 .empty ns)) w := by
  cases ad with
  | none =>
   rcases h5 with ⟨b, o', h⟩ | h
   ·cases h
   ·subst h
    have : ns = [] := List.eq_nil_of_length_eq_zero hll
    subst this
    rfl
  | some ad =>
   have hload : (loadCells ad m).run P w = .ok (ns.map (Value.int .u8)).toArray w := by
    rcases h5 with ⟨b, o', h⟩ | h
    ·cases h
     have := run_loadCells_list (P := P) w ⟨b, o', none⟩ l (fun j v hj => by rw [Addr.add_lit]; exact h4 b o' rfl j v hj)
     rw [h2, Nat.mul_one, hl] at this
     exact this
    ·subst h
     have : ns = [] := List.eq_nil_of_length_eq_zero hll
     subst this
     simp [loadCells, loadCellsFrom]
   exact run_bytesToString w ad m c ns hload
 simp only [execOp, ho, h1, Sem.run_bind, hcv, hrun, Result.andThen_ok, Sem.run_pure]
end
section
variable {P : Program} {N : Nat} {Q : Exit → AS → Prop} {all : Array Oper} {rest : List Oper} {ts : List (Nat × AV)} {hs : List (Nat × Option (List AV))} {n : Nat} {z0 : Lo} {md : Md}
variable {d : Nat} {ty : TypeId} {pos : String} {af : Array Edge}
theorem kT {op : BinOp} {t t' : TypeId} {x y : Operand} {m m' : ByteArray} {v : Value} (hx : ev (lk ts) x = some (.v (.string m))) (hy : ev (lk ts) y = some (.v (.string m')))
  (h : KM op m m' = some v) (hN : Nat.blt d N = true) {md' : Md} [hmd : MdA md (rO x ++ rO y) [.inl d] md'] (kk : RW P N all Q md' rest ⟨(d, .v v) :: ts, hs, n, z0⟩) : RW P N all Q md (⟨some d, .binOp op t x y t', ty, pos, af, none⟩ :: rest) ⟨ts, hs, n, z0⟩ :=
 dY rfl rfl (dB hN) (fun C ι F T H a w ag g gh => JQ g rfl (ag.l.ev.trans hx) (ag.r.ev.trans hy) h) (by rw [hmd.pf]; exact kk)
theorem I3 {s t el : TypeId} {x : Operand} {av : AV} {m : Nat} (ns : List Int) [ht : SlT P s el] [hu : InT P el .u8] [hst : StT P t] (hx : ev (lk ts) x = some av)
  (hs' : sCells (aS hs) 1 (oB av) = some (m, ns.map fun n => .v (.int .u8 n))) (hN : Nat.blt d N = true) {md' : Md} [hmd : MdA md (rO x ++ rA av) [.inl d] md'] (kk : RW P N all Q md' rest ⟨(d, .v (.string (H7 .empty ns))) :: ts, hs, n, z0⟩) :
  RW P N all Q md (⟨some d, .convert s t x, ty, pos, af, none⟩ :: rest) ⟨ts, hs, n, z0⟩ :=
 dY rfl rfl (dB hN) (fun C ι F T H a w ag g gh => MT g gh rfl (ag.l.ev.trans hx) ht.pf hu.pf hst.pf (ag.r.sCells.trans hs')) (by rw [hmd.pf]; exact kk)
theorem qO {t : TypeId} {x i : Operand} {s : ByteArray} {k : IntKind} {m : Int} [ht : StT P t] (hx : ev (lk ts) x = some (.v (.string s)))
  (hi : ev (lk ts) i = some (.v (.int k m))) (hm : 0 ≤ m ∧ m < (s.size : Int)) (hN : Nat.blt d N = true) {md' : Md} [hmd : MdA md (rO x ++ rO i) [.inl d] md'] (kk : RW P N all Q md' rest ⟨(d, .v (.int .u8 ((s[m.toNat]!).toNat : Int))) :: ts, hs, n, z0⟩) :
  RW P N all Q md (⟨some d, .index t x i, ty, pos, af, none⟩ :: rest) ⟨ts, hs, n, z0⟩ :=
 Fb (b := s[m.toNat]!) hx hi ht.pf hm.1 (by rw [getElem!_pos s m.toNat (by omega), getElem?_pos s m.toNat (by omega)]) (dB hN) (by rw [hmd.pf]; exact kk)
theorem Gh {t : TypeId} {x : Operand} {lo hi : Option Operand} {s : ByteArray} {l h : Nat} [ht : StT P t] (hx : ev (lk ts) x = some (.v (.string s)))
  (hl : gG (lk ts) lo 0 = some l) (hh : gG (lk ts) hi s.size = some h) (hc : l ≤ h ∧ h ≤ s.size) (hN : Nat.blt d N = true) {md' : Md} [hmd : MdA md (rO x ++ (rB lo ++ rB hi)) [.inl d] md'] (kk : RW P N all Q md' rest ⟨(d, .v (.string (s.extract l h))) :: ts, hs, n, z0⟩) :
  RW P N all Q md (⟨some d, .slice t x lo hi none, ty, pos, af, none⟩ :: rest) ⟨ts, hs, n, z0⟩ := EI hx ht.pf hl hh hc (dB hN) (by rw [hmd.pf]; exact kk)
theorem Ir (m : Int) (h : 0 ≤ m ∧ m ≤ 255) : IntKind.u8.wrap m = m := by
 have : IntKind.u8.wrap m = m % 256 := rfl
 rw [this]; omega
theorem Km {t t' : TypeId} {x y : Operand} {m m' : Int} (hx : ev (lk ts) x = some (.v (.int .u8 m))) (hy : ev (lk ts) y = some (.v (.int .u8 m')))
  (h : 0 ≤ m + m' ∧ m + m' ≤ 255) (hN : Nat.blt d N = true) {md' : Md} [hmd : MdA md (rO x ++ rO y) [.inl d] md'] (kk : RW P N all Q md' rest ⟨(d, .v (.int .u8 (m + m'))) :: ts, hs, n, z0⟩) : RW P N all Q md (⟨some d, .binOp .add t x y t', ty, pos, af, none⟩ :: rest) ⟨ts, hs, n, z0⟩ :=
 dO hx hy (.inl rfl) (v := .int .u8 (m + m')) (by simp only [gE, Ir _ h]) (dB hN) (by rw [hmd.pf]; exact kk)
theorem Eb {t t' : TypeId} {x y : Operand} {m m' : Int} (hx : ev (lk ts) x = some (.v (.int .u8 m))) (hy : ev (lk ts) y = some (.v (.int .u8 m')))
  (h : 0 ≤ m - m' ∧ m - m' ≤ 255) (hN : Nat.blt d N = true) {md' : Md} [hmd : MdA md (rO x ++ rO y) [.inl d] md'] (kk : RW P N all Q md' rest ⟨(d, .v (.int .u8 (m - m'))) :: ts, hs, n, z0⟩) : RW P N all Q md (⟨some d, .binOp .sub t x y t', ty, pos, af, none⟩ :: rest) ⟨ts, hs, n, z0⟩ :=
 dO hx hy (.inl rfl) (v := .int .u8 (m - m')) (by simp only [gE, Ir _ h]) (dB hN) (by rw [hmd.pf]; exact kk)
theorem A8 {s t : TypeId} {x : Operand} {k' : IntKind} {m : Int} [hd : InT P t .u8] [hs' : InT P s k'] (hx : ev (lk ts) x = some (.v (.int k' m))) (h : 0 ≤ m ∧ m ≤ 255) (hN : Nat.blt d N = true) {md' : Md} [hmd : MdA md (rO x) [.inl d] md'] (kk : RW P N all Q md' rest ⟨(d, .v (.int .u8 m)) :: ts, hs, n, z0⟩) :
  RW P N all Q md (⟨some d, .convert s t x, ty, pos, af, none⟩ :: rest) ⟨ts, hs, n, z0⟩ := DC hx hd.pf hs'.pf (dB hN) (by rw [hmd.pf, Ir _ h]; exact kk)
end
theorem qD (n : Int) : (H7 .empty [n]).size = 1 := rfl
theorem sE {a b : ByteArray} (h : a.size + b.size ≤ 9000000000000000000) : KM .add a b = some (.string (a ++ b)) := if_pos h
end Go.AL
namespace Go.AL
def Hq (l : List Int) : ByteArray := l.foldl (fun r n => r.push (UInt8.ofNat n.toNat)) .empty
def gH (v : Int) : ByteArray := Hq [97 + v]
def Df (n : Int) : ByteArray := Hq [48 + n] ++ .empty
theorem pG (l : List UInt8) : ByteArray.size ⟨l.toArray⟩ = l.length := rfl
theorem mY (v : Int) : (gH v).size = 1 := rfl
theorem nB (v : Int) : (Df v).size = 1 := by simp [Df, Hq, ByteArray.size_append]
def qX (out : ByteArray) (k : Nat) (t : ByteArray) : ByteArray := (if 0 < k then out ++ ⟨#[59]⟩ else out) ++ t
mutual
def lI : Stmt → ByteArray
 | .mk op x y n th el =>
  if op = 1 then (gH x ++ ⟨#[61]⟩) ++ Df n
  else if op = 2 then (gH x ++ ⟨#[61, 98, 111, 120, 32]⟩) ++ Df n
  else if op = 3 then (gH x ++ ⟨#[61]⟩) ++ gH y
  else if op = 4 then (gH x ++ ⟨#[61, 38]⟩) ++ gH y
  else if op = 5 then (gH x ++ ⟨#[61, 38, 109, 117, 116, 32]⟩) ++ gH y
  else if op = 6 then (gH x ++ ⟨#[61, 42]⟩) ++ gH y
  else if op = 7 then ((⟨#[42]⟩ ++ gH x) ++ ⟨#[61]⟩) ++ gH y
  else if op = 8 then ⟨#[100, 114, 111, 112, 32]⟩ ++ gH x
  else if op = 10 then (⟨#[108, 111, 111, 112, 123]⟩ ++ lL .empty 0 th) ++ ⟨#[125]⟩
  else (((⟨#[105, 102, 123]⟩ ++ lL .empty 0 th) ++ ⟨#[125, 123]⟩) ++ lL .empty 0 el) ++ ⟨#[125]⟩
def lL (out : ByteArray) (k : Nat) : List Stmt → ByteArray
 | [] => out
 | s :: l => lL (qX out k (lI s)) (k + 1) l
end
def jC (l : List Stmt) : ByteArray := lL .empty 0 l
theorem tG : ∀ (l : List Stmt) (out : ByteArray) (k : Nat) (s : Stmt), lL out k (l ++ [s]) = qX (lL out k l) (k + l.length) (lI s)
 | [], out, k, s => by simp only [List.nil_append, lL, List.length_nil, Nat.add_zero]
 | x :: l, out, k, s => by
  simp only [List.cons_append, lL, tG l, List.length_cons]
  rw [show k + 1 + l.length = k + (l.length + 1) from by omega]
theorem sW (l : List Stmt) (k : Nat) (h : k < l.length) : jC (l.take (k + 1)) = qX (jC (l.take k)) k (lI l[k]!) := by
 rw [bI _ _ h, jC, tG, List.length_take, Nat.min_eq_left (by omega), Nat.zero_add]; rfl
theorem F3 (s : Stmt) : lI s = 
  if s.op = 1 then (gH s.x ++ ⟨#[61]⟩) ++ Df s.n
  else if s.op = 2 then (gH s.x ++ ⟨#[61, 98, 111, 120, 32]⟩) ++ Df s.n
  else if s.op = 3 then (gH s.x ++ ⟨#[61]⟩) ++ gH s.y
  else if s.op = 4 then (gH s.x ++ ⟨#[61, 38]⟩) ++ gH s.y
  else if s.op = 5 then (gH s.x ++ ⟨#[61, 38, 109, 117, 116, 32]⟩) ++ gH s.y
  else if s.op = 6 then (gH s.x ++ ⟨#[61, 42]⟩) ++ gH s.y
  else if s.op = 7 then ((⟨#[42]⟩ ++ gH s.x) ++ ⟨#[61]⟩) ++ gH s.y
  else if s.op = 8 then ⟨#[100, 114, 111, 112, 32]⟩ ++ gH s.x
  else if s.op = 10 then (⟨#[108, 111, 111, 112, 123]⟩ ++ jC s.th) ++ ⟨#[125]⟩
  else (((⟨#[105, 102, 123]⟩ ++ jC s.th) ++ ⟨#[125, 123]⟩) ++ jC s.el) ++ ⟨#[125]⟩ := by
 cases s; rw [lI]; rfl
mutual
theorem uI : ∀ s, (lI s).size + 1 ≤ 11 * cL s
 | .mk op x y n th el => by
  have h1 := lG th .empty 0
  have h2 := lG el .empty 0
  have h3 : ByteArray.size .empty = 0 := rfl
  rw [lI]
  simp only [cL]
  repeat' split
  all_goals simp only [ByteArray.size_append, pG, List.length_cons, List.length_nil, mY, nB]
  all_goals omega
theorem lG : ∀ (l : List Stmt) (out : ByteArray) (k : Nat), (lL out k l).size ≤ out.size + 11 * aP l
 | [], out, k => by simp only [lL, aP]; omega
 | s :: l, out, k => by
  have h1 := uI s
  have h2 := lG l (qX out k (lI s)) (k + 1)
  have h3 : (qX out k (lI s)).size ≤ out.size + 1 + (lI s).size := by
   unfold qX; split <;> simp only [ByteArray.size_append, pG, List.length_cons, List.length_nil] <;> omega
  simp only [lL, aP]
  omega
end
theorem lE (l : List Stmt) : (jC l).size ≤ 11 * aP l := by
 have := lG l .empty 0
 have h3 : ByteArray.size .empty = 0 := rfl
 unfold jC; omega
theorem ES {ts : List Int} {s : Stmt} (ht : bK ts = true) (h : dK ts s = true) : 1 ≤ s.op ∧ s.op ≤ 8 ∧ 0 ≤ s.x ∧ s.x ≤ 5 ∧ 0 ≤ s.y ∧ s.y ≤ 5 ∧ (s.op = 1 ∨ s.op = 2 → 0 ≤ s.n ∧ s.n ≤ 9) := by
 have hl := eG ht
 have hx := fM ht s.x
 have hy := fM ht s.y
 unfold dK at h
 dsimp only at h
 repeat' split at h
 all_goals (first | (simp only [decide_eq_true_eq] at h; omega) | (simp at h; done))
end Go.AL
namespace Go.AL
theorem lC {A n : Nat} (hv : ∀ v, A.testBit v = true → v < n) : A < 2 ^ n := Nat.lt_pow_two_of_testBit _ fun v h => by
 cases hq : Nat.testBit _ v with
 | false => rfl
 | true => have := hv v hq; omega
theorem jL {A n : Nat} (hn : n ≤ 62) (hv : A < 2 ^ n) : Sm A := ⟨Nat.lt_of_lt_of_le hv (Nat.pow_le_pow_right (by decide) hn)⟩
structure FB (ts : List Int) (pts : List Pnt) (f : Flows ts pts) : Prop where
 la : f.Aa.length = pts.length
 lm : f.Am.length = pts.length
 ln : f.An.length = pts.length
 ll : f.Al.length = pts.length
 lp : f.Ap.length = pts.length
 bA : ∀ i : Nat, f.Aa[i]! < 2 ^ ts.length
 bM : ∀ i : Nat, f.Am[i]! < 2 ^ ts.length
 bN : ∀ i : Nat, f.An[i]! < 2 ^ ts.length
 bL : ∀ i : Nat, f.Al[i]! < 2 ^ ts.length
 bP : ∀ i : Nat, f.Ap[i]! < 2 ^ pts.length
 sA : ∀ i : Nat, Sm f.Aa[i]!
 sM : ∀ i : Nat, Sm f.Am[i]!
 sN : ∀ i : Nat, Sm f.An[i]!
 sL : ∀ i : Nat, Sm f.Al[i]!
 sP : ∀ i : Nat, Sm f.Ap[i]!
 rl : ∀ i, i < pts.length → (eQ f.Af i).length = 6
 rs : ∀ i, i < pts.length → ∀ z : Nat, Sm (eQ f.Af i)[z]!
 af : ∀ i, i < pts.length → Ka pts f.An i = f.Al[i]!
 kp : ∀ i, i < pts.length → vP ts pts[i]! f.Al[i]! (eQ f.Af i) < 2 ^ pts.length
 lo : ∀ i, i < pts.length → vP ts pts[i]! f.Al[i]! (eQ f.Af i) &&& f.Ap[i]! < 2 ^ pts.length
 cf : ∀ i, i < pts.length → Dq ts pts f.Am f.Al f.Af f.Ap i < 2 ^ pts.length
theorem Flows.bnd {ts : List Int} {pts : List Pnt} (f : Flows ts pts) (w : WG ts pts) : FB ts pts f := by
 have hpl := w.pl
 have htl := w.tl
 have off : ∀ {A : List Nat} {n : Nat} {i : Nat}, A.length = pts.length → ¬ i < pts.length → A[i]! < 2 ^ n := fun {A n i} h hi => by
  rw [getElem!_neg A i (by omega)]; exact Nat.pow_pos (by decide)
 have bA : ∀ i : Nat, f.Aa[i]! < 2 ^ ts.length := fun i => by
  by_cases hi : i < pts.length
  ·exact lC fun v hv => ((f.ga.2 i hi v).1 hv).1
  ·exact off f.ga.1 hi
 have bM : ∀ i : Nat, f.Am[i]! < 2 ^ ts.length := fun i => by
  by_cases hi : i < pts.length
  ·exact lC fun v hv => H9 w ((f.gm.2 i hi v).1 hv)
  ·exact off f.gm.1 hi
 have bN : ∀ i : Nat, f.An[i]! < 2 ^ ts.length := fun i => by
  by_cases hi : i < pts.length
  ·exact lC fun v hv => qW w ((f.gn.2 i hi v).1 hv)
  ·exact off f.gn.1 hi
 have bL : ∀ i : Nat, f.Al[i]! < 2 ^ ts.length := fun i => by
  by_cases hi : i < pts.length
  ·exact lC fun v hv => by obtain ⟨k, _, h⟩ := (f.gl.2 i hi v).1 hv; exact qW w h
  ·exact off f.gl.1 hi
 have bP : ∀ i : Nat, f.Ap[i]! < 2 ^ pts.length := fun i => by
  by_cases hi : i < pts.length
  ·exact lC fun v hv => (oC ((f.gp.2 i hi v).1 hv)).1
  ·exact off f.gp.1 hi
 have rs : ∀ i, i < pts.length → ∀ z : Nat, (eQ f.Af i)[z]! < 2 ^ pts.length := fun i hi z => by
  by_cases hz : z < 6
  ·rw [fJ f.gf.1 hi hz]
   exact lC fun v hv => (Bk w ((f.gf.2 i z hi hz v).1 hv)).2.2
  ·rw [getElem!_neg _ z (by rw [gD f.gf.1 hi]; exact hz)]; exact Nat.pow_pos (by decide)
 have kp : ∀ i, i < pts.length → vP ts pts[i]! f.Al[i]! (eQ f.Af i) < 2 ^ pts.length := fun i hi => lC fun v hv => by
  unfold vP at hv
  rw [fS] at hv
  rcases hv with hv | ⟨z, hz, hv⟩
  ·simp at hv
  ·exact cZ (rs i hi _) hv
 have lo : ∀ i, i < pts.length → vP ts pts[i]! f.Al[i]! (eQ f.Af i) &&& f.Ap[i]! < 2 ^ pts.length := fun i hi => Nat.and_lt_two_pow _ (bP i)
 refine ⟨f.ga.1, f.gm.1, f.gn.1, f.gl.1, f.gp.1, bA, bM, bN, bL, bP, fun i => jL (by omega) (bA i), fun i => jL (by omega) (bM i), fun i => jL (by omega) (bN i), fun i => jL (by omega) (bL i), fun i => jL (by omega) (bP i),
  fun i hi => gD f.gf.1 hi, fun i hi z => jL (by omega) (rs i hi z), fun i hi => ?_, kp, lo, fun i hi => Cx w (bP i)⟩
 rw [wT f.gl (BK w f.gn), bR _ _ _ hi]
end Go.AL
namespace Go.AL
def vU (pts : List Pnt) (l : Nat) (c : Acc) : Bool := decide (c.var = pts[l]!.y) && (c.write || decide (pts[l]!.op = 5))
theorem zX {ts : List Int} {pts : List Pnt} (w : WG ts pts) (f : Flows ts pts) {i l : Nat} (hi : i < pts.length) (hl : l < pts.length) (hln : bW pts[l]! = true) :
  (Dq ts pts f.Am f.Al f.Af f.Ap i).testBit l = ((iD ts pts[i]! (f.Am[i]!.testBit (aN pts[i]!).toNat)).any (vU pts l) && ((vP ts pts[i]! f.Al[i]! (eQ f.Af i)).testBit l && f.Ap[i]!.testBit l)) := by
 have b := f.bnd w
 have hpl := w.pl
 have hy := n0 w hl hln
 rw [Bool.eq_iff_iff]
 unfold Dq
 rw [gX _ _ _ (jL (by omega) (b.lo i hi)), Bool.and_eq_true, List.any_eq_true, ← Nat.testBit_and]
 simp only [Nat.zero_testBit, Bool.false_eq_true, false_or]
 constructor
 ·rintro ⟨c, hc, h1, h2, h3⟩
  refine ⟨⟨c, hc, ?_⟩, h1⟩
  rw [hO] at h2
  simp only [Bool.and_eq_true, decide_eq_true_eq] at h2
  have e2 := h2.2.2
  rw [Nat.testBit_two_pow, decide_eq_true_eq] at e2
  have hcv := zJ _ w hi c hc
  unfold vU
  rw [decide_eq_true (by omega : c.var = pts[l]!.y)]
  rcases h3 with h3 | h3
  ·rw [h3]; rfl
  ·rw [decide_eq_true h3]; simp
 ·rintro ⟨⟨c, hc, h⟩, h1⟩
  unfold vU at h
  simp only [Bool.and_eq_true, Bool.or_eq_true, decide_eq_true_eq] at h
  refine ⟨c, hc, h1, ?_, h.2⟩
  rw [hO, decide_eq_true hl, hln, h.1, Nat.testBit_two_pow_self]; rfl
theorem Kf {ts : List Int} {pts : List Pnt} (w : WG ts pts) (f : Flows ts pts) {i l : Nat} (hi : i < pts.length) (h : (Dq ts pts f.Am f.Al f.Af f.Ap i).testBit l = true) : l < pts.length ∧ bW pts[l]! = true := by
 have b := f.bnd w
 have hpl := w.pl
 unfold Dq at h
 rw [gX _ _ _ (jL (by omega) (b.lo i hi))] at h
 rcases h with h | ⟨c, _, h1, _⟩
 ·simp at h
 ·rw [Nat.testBit_and, Bool.and_eq_true] at h1
  exact oC ((f.gp.2 i hi l).1 h1.2)
end Go.AL
namespace Go.AL
open Go.RowKit
set_option linter.unusedVariables false
section
variable {P : Program} {C : Ctx} {ι : Pl} {F : Nat → Prop} {T : Nat → Option AV} {H : Nat → Option (List AV)} {a : Act} {w : World} {o : Oper}
theorem tH (z : Array Value) : ∀ n, (Builtin.zeroCells z n).toList = (List.replicate n z.toList).flatten := fun n => by
 have := pV z n (n * z.size) rfl
 simpa [Builtin.zeroCells, madeCells] using this
end
theorem Le.cut {ts : List (Nat × AV)} {hs : List (Nat × Option (List AV))} {n : Nat} {z0 : Lo} {i : Nat} {cs : List AV} (k : Nat) (hi : aS hs i = some cs) :
  Le ⟨ts, hs, n, z0⟩ ⟨ts, (i, some (cs.take k)) :: hs, n, z0⟩ := by
 rintro C a w ⟨h0, ι, g, gh⟩
 have hσ : ∀ id c, aS ((i, some (cs.take k)) :: hs) id = some c → ∃ c0, aS hs id = some c0 ∧ (c = c0 ∨ c = c0.take k) := by
  intro id c h
  rw [cS] at h
  split at h
  ·rename_i e; subst e; cases h; exact ⟨cs, hi, .inr rfl⟩
  ·exact ⟨c, h, .inl rfl⟩
 have car : Carry w (aJ C.X ι (aS hs)) ι w (aJ C.X ι (aS ((i, some (cs.take k)) :: hs))) ι := by
  refine ⟨fun b o' x h1 h2 => ⟨?_, h2⟩, fun _ _ h => h, fun _ => Nat.le_refl _⟩
  rintro (h | ⟨id, c, β, q1, q2⟩)
  ·exact h1 (.inl h)
  ·obtain ⟨c0, r, _⟩ := hσ id c q1
   exact h1 (.inr ⟨id, c0, β, r, q2⟩)
 refine ⟨h0, ι, ⟨g.df, g.sz, fun t av ht => ?_⟩, ⟨fun id c h => ?_, fun id id' c c' b β β' q1 q2 q3 q4 => ?_, gh.fr, gh.ex, gh.fresh⟩⟩
 ·obtain ⟨y, hy, hr⟩ := g.tm t av ht
  exact ⟨y, hy, Rd.carry car _ _ hr⟩
 ·obtain ⟨c0, r, e⟩ := hσ id c h
  rcases gh.obj id c0 r with ⟨h1, h2⟩ | ⟨b', β', arr', e', h1, h2, h3, h4, h5, h6⟩
  ·refine .inl ⟨h1, ?_⟩
   rcases e with e | e
   ·rw [e, h2]
   ·rw [e, h2]; simp
  ·refine .inr ⟨b', β', arr', e', h1, h2, ?_, ?_, h5, h6⟩
   ·rcases e with e | e
    ·rw [e]; exact h3
    ·rw [e, List.length_take]; omega
   ·have h7 := RdC.carryB car _ _ _ (fun o x hx => hx) h4
    rcases e with e | e
    ·rw [e]; exact h7
    ·rw [e]; exact RdC.take k h7
 ·obtain ⟨_, r1, _⟩ := hσ id c q1
  obtain ⟨_, r2, _⟩ := hσ id' c' q2
  exact gh.sep _ _ _ _ _ _ _ r1 r2 q3 q4
section
variable {P : Program} {N : Nat} {Q : Exit → AS → Prop} {all : Array Oper} {rest : List Oper} {ts : List (Nat × AV)} {hs : List (Nat × Option (List AV))} {n : Nat} {z0 : Lo}
variable {d : Nat} {ty : TypeId} {pos : String} {af : Array Edge}
theorem iH {fn : Go.Fn} {cs : Array Operand} {i : Nat} {cc c : List AV} (t : Nat) (hx : lk ts t = some (.optr i 0)) (hH : aS hs i = some cc) (hc : evL (lk ((t, .iptr cc) :: ts)) cs.toList = some c) (hN : Nat.blt d N = true)
  (kk : RW P N all Q .txt rest ⟨(d, .clos fn [] c) :: (t, .iptr cc) :: ts, (i, none) :: hs, n, z0⟩) : RW P N all Q .txt (⟨some d, .makeFunc fn #[] cs, ty, pos, af, none⟩ :: rest) ⟨ts, hs, n, z0⟩ :=
 dW (l9 (f := []) (c := c) rfl hc hN (md' := .txt) kk) (Le.frzP hx hH)
end
theorem Cc {hs : List (Nat × Option (List AV))} {id m e' : Nat} {u : List Int} (h : aS hs id = some (flat cI u)) (hm : m = u.length) : sCells (aS hs) 1 (oB (.own id 0 m e')) = some (m, flat cI u) := by
 subst hm
 have hl : (flat cI u).length = u.length * 1 := aL cI u
 show ((aS hs id).bind fun cs => if u.length * 1 ≤ (cs.drop 0).length then some (u.length, (cs.drop 0).take (u.length * 1)) else none) = _
 rw [h]
 show (if u.length * 1 ≤ ((flat cI u).drop 0).length then some (u.length, ((flat cI u).drop 0).take (u.length * 1)) else none) = _
 rw [List.drop_zero, if_pos (by omega), List.take_of_length_le (by omega)]
end Go.AL
namespace Go.AL
theorem B9 {ts : List Int} {v : Int} (h : 0 < dU ts v) : dU ts v = ts[v.toNat]! := by
 unfold dU at h ⊢
 split at h
 ·rename_i c; rw [if_pos c]
 ·omega
end Go.AL
namespace Go.AL
open Go.RowKit
set_option linter.unusedVariables false
set_option linter.unusedSimpArgs false
section
variable {P : Program} {C : Ctx} {ι : Pl} {T : Nat → Option AV} {F : Nat → Prop} {H : Nat → Option (List AV)} {a : Act} {w : World} {o : Oper}
theorem zW {bad : Nat → Prop} {zs : List Value} (h : zs.all (·.oneCell') = true) : ∀ n, RdL w bad ι (List.replicate n (zs.map AV.v)).flatten (List.replicate n zs).flatten
 | 0 => by simp [RdL]
 | n + 1 => by
  rw [List.replicate_succ, List.replicate_succ, List.flatten_cons, List.flatten_cons]
  exact RdL.append (tY h) (zW h n)
theorem Il (gh : HG C ι F H w) {t el : TypeId} {x : Operand} {id off n e : Nat} {cs : List AV} {zs : List Value}
  (ho : o.op = .call ⟨.builtin .clear, #[x], #[t]⟩) (hx : Rd w (aJ C.X ι H) ι (.own id off n e) (a.eval x)) (hd : o.dst = none)
  (ht : mR P t = some el) (he : fN P el = some e) (hz : oQ P el = some zs) (hze : zs.length = e)
  (hH : H id = some cs) (h0 : 0 < n) (hl : off + n * e ≤ cs.length) :
  Ef P C ι F H a w o (.tup []) (dQ H id (some (gI cs off (List.replicate n (zs.map AV.v)).flatten))) := by
 obtain ⟨i, z, h1, h2, h3, h4⟩ := qH hz
 have hu := j5 ht
 have hsz := yK he h1
 simp only [Rd] at hx
 rcases hx with ⟨_, rfl, _⟩ | ⟨b, β, c, p1, p2, p3, p4⟩
 ·omega
 have hlen : ((List.replicate n (zs.map AV.v)).flatten).length = n * e := by
  rw [List.length_flatten]; simp [hze]
 obtain ⟨w', q1, q2, q3⟩ := u5 (P := P) gh hH p1 (off := off) (new := (List.replicate n (zs.map AV.v)).flatten) (by rw [hlen]; exact hl) (zW h4 n)
 have hr : (Builtin.clear_ #[t] o.type #[a.eval x]).run P w = .ok (.tuple #[]) w' := by
  rw [p2]
  cases n with
  | zero => omega
  | succ n =>
   have hzc : (Builtin.zeroCells z.cells (n + 1)).toList = (List.replicate (n + 1) zs).flatten := by rw [tH, h3]
   simp [Builtin.clear_, bZ hu, zeroValue, typeInfo, h1, h2, hzc, q1]
 refine ⟨.value (.tuple #[]), .tuple #[], ι, w', ?_, .inl ⟨rfl, ?_⟩, q2, q3⟩
 ·simp [execOp, ho, resolve, invoke, builtin, hr]
 ·simp only [Rd]; exact ⟨[], rfl, by simp [RdV]⟩
end
section
variable {P : Program} {N : Nat} {Q : Exit → AS → Prop} {all : Array Oper} {rest : List Oper} {ts : List (Nat × AV)} {hs : List (Nat × Option (List AV))} {n : Nat} {z0 : Lo} {md : Md}
variable {d : Nat} {ty : TypeId} {pos : String} {af : Array Edge}
theorem GJ {t el id off m e : Nat} {x : Operand} {cs cs' : List AV} {zs : List Value} [ht : SlT P t el] [he : SzT P el e] [hz : ZrT P el zs]
  (hx : ev (lk ts) x = some (.own id off m e)) (hze : zs.length = e) (h0 : 0 < m) (hH : aS hs id = some cs) (hl : off + m * e ≤ cs.length)
  (hcs : gI cs off (List.replicate m (zs.map AV.v)).flatten = cs') {md' : Md} [hmd : MdA md (rO x ++ [.inr id]) [.inr id] md'] (kk : RW P N all Q md' rest ⟨ts, (id, some cs') :: hs, n, z0⟩) :
  RW P N all Q md (⟨none, .call ⟨.builtin .clear, #[x], #[t]⟩, ty, pos, af, none⟩ :: rest) ⟨ts, hs, n, z0⟩ := by
 subst hcs
 exact Ei (rs := rO x ++ [.inr id]) (ws := [(id, some (gI cs off (List.replicate m (zs.map AV.v)).flatten))]) (n' := n) (out := .tup []) rfl (fun _ h => by cases h) (Nat.le_refl n) (.inl rfl)
  (fun C ι F T H a w ag hF g gh => Ee (Il gh rfl (bS g (ag.l.ev.trans hx)) rfl ht.pf he.pf hz.pf hze ((ag.r.h id (by simp)).trans hH) h0 hl)) (by
   show RW P N all Q (md.add (rO x ++ [.inr id]) [.inr id]) rest ⟨ts, (id, some (gI cs off (List.replicate m (zs.map AV.v)).flatten)) :: hs, n, z0⟩
   rw [hmd.pf]; exact kk)
end
end Go.AL
namespace Go.AL
def A7 {α : Type} (k : Nat) (xs : List α) : List α := xs.take k ++ xs.drop (k + 1)
end Go.AL
namespace Go.AL
open Go.RowKit
set_option linter.unusedVariables false
set_option linter.unusedSimpArgs false
section
variable {P : Program} {N : Nat} {Q : Exit → AS → Prop} {all : Array Oper} {rest : List Oper} {ts : List (Nat × AV)} {hs : List (Nat × Option (List AV))} {n : Nat} {z0 : Lo} {md : Md}
variable {d : Nat} {ty : TypeId} {pos : String} {af : Array Edge}
theorem vR (w : World) (t el : TypeId) (hu : P.underlying t = some (.slice el)) (a : Option Addr) (m c : Nat) : (binOp .eql t (.slice a m c) (.slice none 0 0)).run P w = .ok (.bool a.isNone) w := by
 have h0 : ∀ d : Nat, (Op.equalIn (d + 1) t (.slice a m c) (.slice none 0 0)).run P w = .ok a.isNone w := fun d => by
  cases a <;> simp [Op.equalIn, bZ hu]
 have h := h0 9999
 simp only [binOp]
 simp [Op.equal, Op.maxDepth, h]
theorem uR {t t' el : TypeId} {x : Operand} {m : Nat} {cs : List AV} [ht : SlT P t el] (hx : ev (lk ts) x = some (.imm m cs)) (hN : Nat.blt d N = true)
  (kk : ∀ b : Bool, (b = true → m = 0) → RW P N all Q .txt rest ⟨(d, .v (.bool b)) :: ts, hs, n, z0⟩) : RW P N all Q .txt (⟨some d, .binOp .eql t x (.const (.slice none 0 0)) t', ty, pos, af, none⟩ :: rest) ⟨ts, hs, n, z0⟩ := by
 rintro C a w hCN ⟨h0, ι, g, gh⟩
 refine wpList_plain rfl (fun K hK => ?_)
 have h1 := bS g hx
 simp only [Rd] at h1
 obtain ⟨a', c, h2, h3⟩ := h1
 have hu := j5 ht.pf
 have hb : a'.isNone = true → m = 0 := fun hn => by
  rcases h3 with h3 | ⟨b, o, _, rfl, _⟩
  ·exact h3
  ·cases hn
 have hg : (eqGuard .eql t x (.const (.slice none 0 0)) (.slice a' m c) (.slice none 0 0)).run P w = .ok () w := by simp [eqGuard]
 have hr : (execOp a.eval ⟨some d, .binOp .eql t x (.const (.slice none 0 0)) t', ty, pos, af, none⟩).run P w = .ok (.value (.bool a'.isNone)) w := by
  have e2 : a.eval (.const (.slice none 0 0)) = .slice none 0 0 := rfl
  simp only [execOp, h2, e2, Sem.run_bind, hg, Result.andThen_ok, vR w t el hu, Sem.run_pure]
 simp only [Oper.wp, hr, Oper.upon]
 refine hK _ _ (kk a'.isNone hb C _ _ hCN ⟨h0, ι, ?_, gh⟩)
 show TG C ι (lk ((d, AV.v (.bool a'.isNone)) :: ts)) _ _ _
 rw [gT]
 exact g.put (by have := dB hN; omega) (by simp [Rd])
end
theorem yN {α : Type} {f : α → List AV} {e : Nat} [h : FlT f e] {hs : List (Nat × Option (List AV))} {xs : List α} {i k n : Nat} (hH : aS hs i = some (flat f xs)) (hn : n = xs.length - k) : sCells (aS hs) e (oB (.own i (0 + k * e) n e)) = some (n, flat f (xs.drop k)) := by
 show ((aS hs i).bind fun cs => if n * e ≤ (cs.drop (0 + k * e)).length then some (n, (cs.drop (0 + k * e)).take (n * e)) else none) = _
 rw [hH, Option.bind_some, Nat.zero_add]
 have h1 : (flat f xs).length = xs.length * e := aL f xs
 have h3 : (flat f xs).drop (k * e) = flat f (xs.drop k) := by
  have h4 : flat f xs = flat f (xs.take k) ++ flat f (xs.drop k) := by rw [bO, List.take_append_drop]
  have h5 : (flat f (xs.take k)).length = (xs.take k).length * e := aL f _
  by_cases hk : k ≤ xs.length
  ·rw [h4, ← show (flat f (xs.take k)).length = k * e from by rw [h5, List.length_take]; congr 1; omega, List.drop_left]
  ·rw [List.drop_of_length_le (by rw [h1]; exact Nat.mul_le_mul_right _ (by omega)), List.drop_of_length_le (by omega)]; rfl
 rw [h3]
 have h2 : (flat f (xs.drop k)).length = (xs.length - k) * e := by rw [aL f (e := e), List.length_drop]
 rw [h2, hn, if_pos (Nat.le_refl _), List.take_of_length_le (by rw [h2]; exact Nat.le_refl _)]
theorem k8 {T : Nat → Option AV} {x : Operand} {dd : Nat} {k : IntKind} {m : Int} {h : Nat} (hx : ev T x = some (.v (.int k m))) (e : m = (h : Int)) : gG T (some x) dd = some h := by
 simp only [gG, hx]; rw [if_pos (by omega)]; congr 1; omega
end Go.AL
