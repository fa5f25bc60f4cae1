/-
 A part of the proofs over this program: rules and contracts of its functions (the rules).
-/
import Derived.Test.YtahdccneecdmmaaGreatJ1A05
import Derived.Laws.BytesString
import Derived.Laws.StructEq
set_option linter.unusedVariables false
set_option linter.unusedSimpArgs false
namespace Go.AL
open Go.RowKit
set_option linter.unusedVariables false
set_option linter.unusedSimpArgs false
mutual
theorem RnV.bw {w : World} {ρ : Nat → Option Nat} {bad bad' : Nat → Prop} {ι ι' : Pl} (h : ∀ i i', ρ i = some i' → ι i = ι' i') (hc : ∀ b, bad b → bad' b) : ∀ {v v' : AV}, RnV ρ v v' → ∀ {y : Value}, Rd w bad' ι' v' y → Rd w bad ι v y
 | _, _, .pur hp, y, k => Rd.pur _ y hp (Rd.carry (⟨fun b o x h1 h2 => ⟨fun q => h1 (hc b q), h2⟩, fun _ _ h => h, fun _ => Nat.le_refl _⟩ : Carry w bad' ι' w bad ι') _ _ k)
 | _, _, .own hi, y, k => by simp only [Rd, h _ _ hi] at k ⊢; exact k
 | _, _, .optr hi, y, k => by simp only [Rd, h _ _ hi] at k ⊢; exact k
 | _, _, .imm (cs := cs) (cs' := cs') hl, y, k => by
  have hlen := RnL.len hl
  simp only [Rd] at k ⊢
  obtain ⟨a, c, rfl, k⟩ := k
  refine ⟨a, c, rfl, ?_⟩
  rcases k with k | ⟨b, o, hn, rfl, k⟩
  ·exact .inl k
  ·refine .inr ⟨b, o, hn, rfl, ?_⟩
   rcases k with k | ⟨hb, k⟩
   ·subst k; exact .inl (List.eq_nil_of_length_eq_zero (by rw [hlen]; rfl))
   ·exact .inr ⟨fun q => hb (hc b q), RnL.bwC h hc hl k⟩
 | _, _, .agg hl, y, k => by
  simp only [Rd] at k ⊢
  obtain ⟨l, h1, h2⟩ := k
  exact ⟨l, h1, RnL.bwL h hc hl h2⟩
 | _, _, .tup hl, y, k => by
  simp only [Rd] at k ⊢
  obtain ⟨l, h1, h2⟩ := k
  exact ⟨l, h1, RnL.bwV h hc hl h2⟩
 | _, _, .clos h1 h2, y, k => by
  simp only [Rd] at k ⊢
  obtain ⟨lf, lc, q1, q2, q3⟩ := k
  exact ⟨lf, lc, q1, RnL.bwV h hc h1 q2, RnL.bwV h hc h2 q3⟩
theorem RnL.bwL {w : World} {ρ : Nat → Option Nat} {bad bad' : Nat → Prop} {ι ι' : Pl} (h : ∀ i i', ρ i = some i' → ι i = ι' i') (hc : ∀ b, bad b → bad' b) : ∀ {v v' : List AV}, RnL ρ v v' → ∀ {y : List Value}, RdL w bad' ι' v' y → RdL w bad ι v y
 | _, _, .pur hp, y, k => RdL.pur _ y hp (RdL.carry (⟨fun b o x h1 h2 => ⟨fun q => h1 (hc b q), h2⟩, fun _ _ h => h, fun _ => Nat.le_refl _⟩ : Carry w bad' ι' w bad ι') _ _ k)
 | _, _, .nil, y, k => by simpa only [RdL] using k
 | _, _, .cons h1 h2, y, k => by
  simp only [RdL] at k ⊢
  obtain ⟨x, l', q0, q1, q2, q3⟩ := k
  exact ⟨x, l', q0, q1, RnV.bw h hc h1 q2, RnL.bwL h hc h2 q3⟩
theorem RnL.bwV {w : World} {ρ : Nat → Option Nat} {bad bad' : Nat → Prop} {ι ι' : Pl} (h : ∀ i i', ρ i = some i' → ι i = ι' i') (hc : ∀ b, bad b → bad' b) : ∀ {v v' : List AV}, RnL ρ v v' → ∀ {y : List Value}, RdV w bad' ι' v' y → RdV w bad ι v y
 | _, _, .pur hp, y, k => RdV.pur _ y hp (RdV.carry (⟨fun b o x h1 h2 => ⟨fun q => h1 (hc b q), h2⟩, fun _ _ h => h, fun _ => Nat.le_refl _⟩ : Carry w bad' ι' w bad ι') _ _ k)
 | _, _, .nil, y, k => by simpa only [RdV] using k
 | _, _, .cons h1 h2, y, k => by
  simp only [RdV] at k ⊢
  obtain ⟨x, l', q0, q2, q3⟩ := k
  exact ⟨x, l', q0, RnV.bw h hc h1 q2, RnL.bwV h hc h2 q3⟩
theorem RnL.bwC {w : World} {ρ : Nat → Option Nat} {bad bad' : Nat → Prop} {ι ι' : Pl} (h : ∀ i i', ρ i = some i' → ι i = ι' i') (hc : ∀ b, bad b → bad' b) : ∀ {v v' : List AV}, RnL ρ v v' → ∀ {b o : Nat}, RdC w bad' ι' v' b o → RdC w bad ι v b o
 | _, _, .pur hp, b, o, k => RdC.pur _ b o hp (RdC.carryB (⟨fun b o x h1 h2 => ⟨fun q => h1 (hc b q), h2⟩, fun _ _ h => h, fun _ => Nat.le_refl _⟩ : Carry w bad' ι' w bad ι') _ _ _ (fun o x hx => hx) k)
 | _, _, .nil, b, o, k => by simp only [RdC]
 | _, _, .cons h1 h2, b, o, k => by
  simp only [RdC] at k ⊢
  obtain ⟨⟨x, q1, q2, q3⟩, q4⟩ := k
  exact ⟨⟨x, q1, q2, RnV.bw h hc h1 q3⟩, RnL.bwC h hc h2 q4⟩
end
theorem RnL.app {ρ : Nat → Option Nat} : ∀ {a a' b b' : List AV}, RnL ρ a a' → RnL ρ b b' → RnL ρ (a ++ b) (a' ++ b')
 | [], a', b, b', ha, hb => by
  have := ha.len
  cases a' with
  | nil => exact hb
  | cons _ _ => simp at this
 | c :: cs, _, b, b', .pur hp, hb => by
  simp only [bR, Bool.and_eq_true] at hp
  exact .cons (.pur hp.1) (RnL.app (.pur hp.2) hb)
 | c :: cs, _, b, b', .cons h1 h2, hb => .cons h1 (RnL.app h2 hb)
theorem RnL.flt {ρ : Nat → Option Nat} {α : Type} {f f' : α → List AV} : ∀ {xs : List α}, (∀ x ∈ xs, RnL ρ (f x) (f' x)) → RnL ρ (flat f xs) (flat f' xs)
 | [], _ => .nil
 | x :: xs, h => by
  have h1 := h x (List.mem_cons_self)
  have h2 := RnL.flt (f := f) (f' := f') (xs := xs) (fun y hy => h y (List.mem_cons_of_mem _ hy))
  simp only [flat, List.flatMap_cons] at h2 ⊢
  exact h1.app h2
theorem Le.renG (ρ : Nat → Option Nat) {ts ts' : List (Nat × AV)} {hs hs' : List (Nat × Option (List AV))} {n n' : Nat} {lo lo' : Lo} (hlo : lo'.lo = lo.lo) (hfb : lo.fb ≤ lo'.fb)
  (hid : ∀ id, id < lo.lo ∨ (aV ≤ id ∧ id < lo.fb) → ρ id = some id) (hinj : ∀ a b c, ρ a = some c → ρ b = some c → a = b) (hfr : ∀ id, Fn n' lo' id → ρ id = none)
  (h1 : ∀ t v, lk ts' t = some v → ∃ v0, lk ts t = some v0 ∧ RnV ρ v v0) (h2 : ∀ id cs, aT hs' id = some cs → ∃ j cs0, ρ id = some j ∧ aT hs j = some cs0 ∧ RnL ρ cs cs0) :
  Le ⟨ts, hs, n, lo⟩ ⟨ts', hs', n', lo'⟩ := by
 rintro C a w ⟨h0, ι, g, gh⟩
 let ι' : Pl := fun id => match ρ id with | some j => ι j | none => none
 have hto : ∀ id j, ρ id = some j → ι' id = ι j := fun id j h => by simp only [ι', h]
 have hbad : ∀ b, aM C.X ι' (aT hs') b → aM C.X ι (aT hs) b := by
  rintro b (h | ⟨id, cs, β, q1, q2⟩)
  ·exact .inl h
  ·obtain ⟨j, cs0, q3, q4, _⟩ := h2 id cs q1
   rw [hto _ _ q3] at q2
   exact .inr ⟨j, cs0, β, q4, q2⟩
 refine ⟨fun id h => ?_, ι', ⟨g.df, g.sz, fun t v ht => ?_⟩, ⟨fun id cs h => ?_, fun id id' cs cs' b β β' q1 q2 q3 q4 => ?_, gh.fr, fun id p hp => ?_, fun id hid' => ?_⟩⟩
 ·have h' : lo.lo ≤ id := by rw [← hlo]; exact h
  rcases h0 id h' with q | q
  ·exact .inl ⟨q.1, Nat.lt_of_lt_of_le q.2 hfb⟩
  ·exact .inr q
 ·obtain ⟨v0, q1, q2⟩ := h1 t v ht
  obtain ⟨y, q3, q4⟩ := g.tm t v0 q1
  exact ⟨y, q3, RnV.bw hto hbad q2 q4⟩
 ·obtain ⟨j, cs0, q3, q4, q5⟩ := h2 id cs h
  rcases gh.obj j cs0 q4 with ⟨p1, p2⟩ | ⟨b, β, arr, e, p1, p2, p3, p4, p5, p6⟩
  ·refine .inl ⟨by rw [hto _ _ q3]; exact p1, ?_⟩
   subst p2; exact List.eq_nil_of_length_eq_zero (by rw [q5.len]; rfl)
  ·exact .inr ⟨b, β, arr, e, by rw [hto _ _ q3]; exact p1, p2, by rw [q5.len]; exact p3, RnL.bwC hto hbad q5 p4, p5, p6⟩
 ·obtain ⟨j, c1, r1, r2, _⟩ := h2 id cs q1
  obtain ⟨j', c2, r3, r4, _⟩ := h2 id' cs' q2
  rw [hto _ _ r1] at q3
  rw [hto _ _ r3] at q4
  have := gh.sep _ _ _ _ _ _ _ r2 r4 q3 q4
  subst this
  exact hinj _ _ _ r1 r3
 ·have : ρ id = some id := by
   refine hid id ?_
   rcases Nat.lt_or_ge id lo.lo with q | q
   ·exact .inl q
   ·rcases h0 id q with q1 | q1
    ·exact .inr q1
    ·rw [q1] at hp; cases hp
  rw [hto _ _ this]; exact gh.ex id p hp
 ·have := hfr id hid'
  simp only [ι', this]
def jZ (m : List (Nat × Nat)) (lo : Lo) (pn : Option Nat) (id : Nat) : Option Nat :=
 if id < lo.lo then some id else if aV ≤ id then (if id < lo.fb then some id else if id = lo.fb then pn else none) else Av m id
theorem iK {m : List (Nat × Nat)} {lo : Lo} {pn : Option Nat} {id : Nat} (h1 : aV ≤ id) (h2 : id < lo.fb) : jZ m lo pn id = some id := by
 unfold jZ; split
 ·rfl
 ·simp [h1, h2]
def OR (ρ : Nat → Option Nat) (l : List (Nat × AV)) : List (Nat × AV) → Prop
 | [] => True
 | (t, v) :: l' => (∃ v0, lk l t = some v0 ∧ RnV ρ v v0) ∧ OR ρ l l'
def Ck (ρ : Nat → Option Nat) (l : List (Nat × Option (List AV))) : List (Nat × Option (List AV)) → Prop
 | [] => True
 | (t, none) :: l' => Ck ρ l l'
 | (t, some cs) :: l' => (∃ j cs0, ρ t = some j ∧ aT l j = some cs0 ∧ RnL ρ cs cs0) ∧ Ck ρ l l'
theorem CL {ρ : Nat → Option Nat} {l : List (Nat × AV)} : ∀ {l' : List (Nat × AV)}, OR ρ l l' → ∀ t v, lk l' t = some v → ∃ v0, lk l t = some v0 ∧ RnV ρ v v0
 | [], _, t, v, h => by simp [lk] at h
 | (u, x) :: l', hr, t, v, h => by
  simp only [OR] at hr
  simp only [lC] at h
  split at h
  ·rename_i e; subst e; cases h; exact hr.1
  ·exact CL hr.2 t v h
theorem sO {a b : List (Nat × Option (List AV))} {u : Nat} {c : List AV} : aT (a ++ b) u = some c → aT a u = some c ∨ aT b u = some c := by
 induction a with
 | nil => exact fun h => .inr h
 | cons x a ih =>
  obtain ⟨t, v⟩ := x
  rw [List.cons_append, cS, cS]
  split
  ·exact fun h => .inl h
  ·exact ih
theorem Ht {a b : List (Nat × Option (List AV))} {u : Nat} {c : List AV} (h : aT a u = some c) : aT (a ++ b) u = some c := by
 induction a with
 | nil => simp [aT] at h
 | cons x a ih =>
  obtain ⟨t, v⟩ := x
  rw [List.cons_append]
  rw [cS] at h ⊢
  split
  ·rename_i e; rw [if_pos e] at h; exact h
  ·rename_i e; rw [if_neg e] at h; exact ih h
theorem I9 {a b : List (Nat × Option (List AV))} {u : Nat} (h : gL u a = true) : aT (a ++ b) u = aT b u := by
 induction a with
 | nil => rfl
 | cons x a ih =>
  obtain ⟨t, v⟩ := x
  simp only [gL, Bool.and_eq_true] at h
  rw [List.cons_append, cS, if_neg (by have := dE h.1; omega)]
  exact ih h.2
theorem rQ {n m : Nat} (h : n ≤ m) : ∀ {a : List (Nat × Option (List AV))}, gL n a = true → gL m a = true
 | [], _ => rfl
 | (t, v) :: a, k => by
  simp only [gL, Bool.and_eq_true] at k ⊢
  exact ⟨by have := dE k.1; simp [Nat.blt]; omega, rQ h k.2⟩
theorem sS {ρ : Nat → Option Nat} {l : List (Nat × Option (List AV))} : ∀ {l' : List (Nat × Option (List AV))}, Ck ρ l l' → ∀ t cs, aT l' t = some cs →
  ∃ j cs0, ρ t = some j ∧ aT l j = some cs0 ∧ RnL ρ cs cs0
 | [], _, t, v, h => by simp [aT] at h
 | (u, none) :: l', hr, t, v, h => by
  simp only [Ck] at hr
  simp only [cS] at h
  split at h
  ·cases h
  ·exact sS hr t v h
 | (u, some x) :: l', hr, t, v, h => by
  simp only [Ck] at hr
  simp only [cS] at h
  split at h
  ·rename_i e; subst e; cases h; exact hr.1
  ·exact sS hr.2 t v h
theorem zG {m : List (Nat × Nat)} {lo : Lo} {pn : Option Nat} {n' : Nat} (hm : GY lo.lo n' m = true) {a c : Nat} (h : jZ m lo pn a = some c) :
  (a < lo.lo ∧ c = a) ∨ (lo.lo ≤ a ∧ aV ≤ a ∧ a < lo.fb ∧ c = a) ∨ (lo.lo ≤ a ∧ aV ≤ a ∧ a = lo.fb ∧ pn = some c) ∨ (lo.lo ≤ a ∧ a < aV ∧ a < n' ∧ lo.lo ≤ c ∧ c < aV ∧ Av m a = some c) := by
 unfold jZ at h
 split at h
 ·cases h; exact .inl ⟨by assumption, rfl⟩
 ·split at h
  ·split at h
   ·cases h; exact .inr (.inl ⟨by omega, by assumption, by assumption, rfl⟩)
   ·split at h
    ·exact .inr (.inr (.inl ⟨by omega, by assumption, by assumption, h⟩))
    ·cases h
  ·have := j8 hm _ _ h
   exact .inr (.inr (.inr ⟨by omega, by omega, by omega, by omega, by omega, h⟩))
theorem Le.renF (m : List (Nat × Nat)) (pn : Option Nat) {ts ts' : List (Nat × AV)} {hs hs' : List (Nat × Option (List AV))} {n n' : Nat} {lo lo' : Lo} (hm : GY lo.lo n' m = true) (hn : lo.lo ≤ n') (hlo : lo'.lo = lo.lo)
  (hfb : lo'.fb = lo.fb + (if pn.isSome then 1 else 0)) (hp : ∀ b, pn = some b → lo.lo ≤ b ∧ b < aV ∧ ∀ a, Av m a ≠ some b)
  (h1 : ∀ t v, lk ts' t = some v → ∃ v0, lk ts t = some v0 ∧ RnV (jZ m lo pn) v v0) (h2 : ∀ id cs, aT hs' id = some cs → ∃ j cs0, jZ m lo pn id = some j ∧ aT hs j = some cs0 ∧ RnL (jZ m lo pn) cs cs0) :
  Le ⟨ts, hs, n, lo⟩ ⟨ts', hs', n', lo'⟩ := by
 refine Le.renG (jZ m lo pn) hlo (by rw [hfb]; omega) (fun id h => ?_) (fun a b c ha hb => ?_) (fun id h => ?_) h1 h2
 ·rcases h with h | h
  ·unfold jZ; rw [if_pos h]
  ·exact iK h.1 h.2
 ·rcases zG hm ha with a1 | a1 | a1 | a1 <;> rcases zG hm hb with b1 | b1 | b1 | b1
  all_goals try omega
  ·have := hp c b1.2.2.2; omega
  ·have := hp c b1.2.2.2; omega
  ·have := hp c a1.2.2.2; omega
  ·have := hp c a1.2.2.2; omega
  ·exact absurd b1.2.2.2.2.2 ((hp c a1.2.2.2).2.2 b)
  ·exact absurd a1.2.2.2.2.2 ((hp c b1.2.2.2).2.2 a)
  ·exact yZ hm _ _ _ a1.2.2.2.2.2 b1.2.2.2.2.2
 ·cases hc : jZ m lo pn id with
  | none => rfl
  | some c =>
   have h3 : n' ≤ id := h.1
   have h4 : id < aV ∨ lo'.fb ≤ id := h.2
   rcases zG hm hc with a1 | a1 | a1 | a1
   ·omega
   ·omega
   ·rw [a1.2.2.2] at hfb; simp at hfb; omega
   ·omega
theorem Le.renF0 (m : List (Nat × Nat)) {R : List (List Bool)} {ts ts' : List (Nat × AV)} {hs lits : List (Nat × Option (List AV))} {n n' : Nat} {lo : Lo} {l0 : Nat} (hF : FamR R R hs hs) (hz : lo = ⟨l0, aV + R.length⟩) (hm : GY l0 n' m = true) (hn : l0 ≤ n')
  (h1 : OR (jZ m lo none) ts ts') (h2 : Ck (jZ m lo none) hs lits) : Le ⟨ts, hs, n, lo⟩ ⟨ts', lits ++ g8 R, n', ⟨l0, aV + R.length⟩⟩ := by
 subst hz
 refine Le.renF m none hm hn rfl rfl (fun b h => by cases h) (CL h1) (fun id cs h => ?_)
 rcases sO h with h | h
 ·exact sS h2 id cs h
 ·obtain ⟨k, hk, rfl, rfl⟩ := l6 h
  exact ⟨_, _, iK (by omega) (by show k + aV < aV + R.length; omega), hF.get hk, .pur (inferInstance : Pur (flat cB R[k]!)).pf⟩
theorem Le.renF1 (m : List (Nat × Nat)) (b : Nat) {r : List Bool} {R R' : List (List Bool)} {ts ts' : List (Nat × AV)} {hs lits : List (Nat × Option (List AV))} {n n' : Nat} {lo : Lo} {l0 : Nat} (hF : FamR R R hs hs) (hz : lo = ⟨l0, aV + R.length⟩) (hm : GY l0 n' m = true) (hn : l0 ≤ n')
  (hlb : l0 ≤ aV) (hb : l0 ≤ b ∧ b < aV ∧ (m.all fun p => !Nat.beq p.2 b) = true) (hr : aT hs b = some (flat cB r)) (hR : R' = R ++ [r])
  (h1 : OR (jZ m lo (some b)) ts ts') (h2 : Ck (jZ m lo (some b)) hs lits) : Le ⟨ts, hs, n, lo⟩ ⟨ts', lits ++ g8 R', n', ⟨l0, aV + R'.length⟩⟩ := by
 subst hz hR
 refine Le.renF m (some b) hm hn rfl (by show aV + (R ++ [r]).length = aV + R.length + 1; simp [Nat.add_assoc]) (fun b' h => ?_) (CL h1) (fun id cs h => ?_)
 ·cases h
  refine ⟨hb.1, hb.2.1, fun a ha => ?_⟩
  have := yJ ha
  have h3 := hb.2.2
  rw [List.all_eq_true] at h3
  have := h3 _ this
  simp at this
 ·rcases sO h with h | h
  ·exact sS h2 id cs h
  ·obtain ⟨k, hk, rfl, rfl⟩ := l6 h
   rw [List.length_append, List.length_singleton] at hk
   rcases Nat.lt_or_ge k R.length with hk2 | hk2
   ·have e : (R ++ [r])[k]! = R[k]! := by rw [bE _ _ (by simp; omega), bE _ _ hk2, List.getElem_append_left hk2]
    exact ⟨_, _, iK (by omega) (by show k + aV < aV + R.length; omega), hF.get hk2, by rw [e]; exact .pur (inferInstance : Pur (flat cB R[k]!)).pf⟩
   ·have e : k = R.length := by omega
    subst e
    have e2 : (R ++ [r])[R.length]! = r := by rw [bE _ _ (by simp)]; simp
    refine ⟨b, flat cB r, ?_, hr, ?_⟩
    ·unfold jZ
     rw [if_neg (by show ¬ R.length + aV < l0; omega), if_pos (by omega), if_neg (by show ¬ R.length + aV < aV + R.length; omega), if_pos (by show R.length + aV = aV + R.length; omega)]
    ·rw [e2]; exact .pur (inferInstance : Pur (flat cB r)).pf
end Go.AL
namespace Go.AL
open Go.RowKit
set_option linter.unusedVariables false
set_option linter.unusedSimpArgs false
section
variable {P : Program} {N : Nat} {Q : Exit → AS → Prop}
theorem Le.litF {ts ts' : List (Nat × AV)} {hs lits : List (Nat × Option (List AV))} {n n' : Nat} {z0 z1 : Lo} {R : List (List Bool)} (h1 : o8 ts ts') (h2 : nU hs lits) (h3 : n ≤ n') (hF : FamR R R hs hs) (hz : z0 = z1) :
  Le ⟨ts, hs, n, z0⟩ ⟨ts', lits ++ g8 R, n', z1⟩ := by
 refine Le.of (nQ h1) (fun i c h => ?_) h3 hz
 rcases sO h with h | h
 ·exact j9 h2 i c h
 ·obtain ⟨k, hk, rfl, rfl⟩ := l6 h
  exact hF.get hk
theorem Br {σ : Type} {c : Code} {ts : List (Nat × AV)} {hs : List (Nat × Option (List AV))} {n : Nat} {z0 : Lo} (l0 : Nat) (Rf : σ → List (List Bool)) (ks : List Nat) (kt : List (Nat × AV)) (js : List Nat) (kh : List (Nat × Option (List AV)))
  (ot : σ → List (Nat × AV)) (oh : σ → List (Nat × Option (List AV))) (p : σ → Prop) (μ : σ → Nat) (i0 : σ) (h0 : p i0) (hk : oQ ks ts = kt) (hj : qV js hs = kh)
  (h1 : o8 ts (ot i0)) (h2 : nU hs (oh i0)) (hF : FamR (Rf i0) (Rf i0) hs hs) (hz : z0 = ⟨l0, aV + (Rf i0).length⟩)
  (round : ∀ i, p i → AW P N c (pI (fun s' => ∃ j, p j ∧ μ j < μ i ∧ Le s' ⟨ot j ++ kt, (oh j ++ kh) ++ g8 (Rf j), n, ⟨l0, aV + (Rf j).length⟩⟩) Q) ⟨ot i ++ kt, (oh i ++ kh) ++ g8 (Rf i), n, ⟨l0, aV + (Rf i).length⟩⟩) :
  AW P N (.loop c) Q ⟨ts, hs, n, z0⟩ := by
 subst hk hj
 exact DP p (fun i => ⟨ot i ++ oQ ks ts, (oh i ++ qV js hs) ++ g8 (Rf i), n, ⟨l0, aV + (Rf i).length⟩⟩) μ ⟨i0, h0, Le.litF (l8 h1 (mA ks)) (mL h2 (p8 js)) (Nat.le_refl _) hF hz⟩ round
end
def yD (P : Program) (k : FuncId) (args : List AV) (H0 : Nat → Option (List AV)) (F0 : Nat → Prop) (Q : AV → (Nat → Option (List AV)) → Prop) : Prop :=
 ∀ (C : Ctx) (ι : Pl) (w : World) (vals : List Value), C.w0 = w → C.ι0 = ι → HG C ι F0 H0 w → RdV w (aM C.X ι H0) ι args vals →
  Calls P k vals.toArray w (fun e w' => ∃ v r H' ι', e = .returned v ∧ Q r H' ∧ Rd w' (aM C.X ι' H') ι' r v ∧ HG C ι' (fun _ => False) H' w')
theorem pU {P : Program} {k : FuncId} {fn : Func} {c : Code} {args : List AV} {H0 : List (Nat × Option (List AV))} {n fb : Nat} {Q : AV → (Nat → Option (List AV)) → Prop} (hf : P.funcs[k]? = some fn) (hb : fn.body = some c)
  (hN : args.length ≤ fn.ntmps) (h : AW P fn.ntmps c (n6 P fn.results Q) ⟨iQ 0 args, H0, n, ⟨n, fb⟩⟩) : yD P k args (aT H0) (Fn n ⟨n, fb⟩) Q := by
 intro C ι w vals hw hι g hr
 refine calls_of_wp hf hb ?_
 let C' : Ctx := { C with N := fn.ntmps }
 have hlen := RdV.length hr
 have g' : HG C' ι (Fn n ⟨n, fb⟩) (aT H0) w := ⟨g.obj, g.sep, g.fr, g.ex, g.fresh⟩
 have gt : TG C' ι (lk (iQ 0 args)) (aT H0) { tmps := vals.toArray ++ Array.replicate (fn.ntmps - vals.toArray.size) undef, defers := [] } w := by
  refine ⟨rfl, by simp [C', hlen]; omega, fun t av ht => ?_⟩
  obtain ⟨y, _, h1, h2⟩ := vP hr ht
  refine ⟨y, ?_, h2⟩
  have hlt : t < vals.length := by
   rcases Nat.lt_or_ge t vals.length with q | q
   ·exact q
   ·rw [List.getElem?_eq_none (by simpa using q)] at h1; cases h1
  rw [Array.getElem?_append_left (by simpa using hlt)]
  simpa using h1
 refine wp_mono (h C' _ w rfl ⟨fun id hid => ?_, ι, gt, g'⟩) ?_
 ·by_cases q : aV ≤ id ∧ id < fb
  ·exact .inl q
  ·refine .inr ?_
   show C.ι0 id = none
   rw [hι]
   exact g.fresh id ⟨hid, by show id < aV ∨ fb ≤ id; omega⟩
 rintro e a' w' ⟨s1, ⟨he, s', l, hle, hres, hQ⟩, hg⟩
 obtain ⟨_, ι', g1, g2⟩ := hle C' a' w' hg
 obtain ⟨ys, h1, h2⟩ := zP (P := P) g1 g2 hres
 have hres' : (results fn a'.tmps).run P w' = .ok (if h : ys.toArray.size = 1 then ys.toArray[0] else .tuple ys.toArray) w' := by
  have hr1 : results fn a'.tmps = (do let vs ← fn.results.mapM (CZ a'); pure (if h : vs.size = 1 then vs[0] else .tuple vs)) := by
   unfold results
   congr 1
  rw [hr1, Array.mapM_eq_mapM_toList, Sem.run_bind, Sem.run_map, h1]
  simp only [Result.andThen_ok, Sem.run_pure]
 have g3 : HG C ι' (fun _ => False) (aT s'.hs) w' := ⟨g2.obj, g2.sep, g2.fr, g2.ex, fun _ h => h.elim⟩
 rcases he with rfl | rfl
 ·exact ⟨g1.df, _, hres', _, _, _, ι', rfl, hQ, oS h2, g3⟩
 ·exact ⟨g1.df, _, hres', _, _, _, ι', rfl, hQ, oS h2, g3⟩
def qK (mpF fr : Nat → Option Nat) (j : Nat) : Option Nat := match mpF j with | some i => some i | none => fr j
theorem By {P : Program} {k : FuncId} {args args' : List AV} {H0 hh : Nat → Option (List AV)} {F0 : Nat → Prop} {mpF fr fi : Nat → Option Nat} {r rr' : AV} {H2 : Nat → Option (List AV)}
  (h : yD P k args H0 F0 (fun r' H' => r' = r ∧ ∀ j cs, hh j = some cs → H' j = some cs)) (hmi : ∀ j j' i, mpF j = some i → mpF j' = some i → j = j') (hfi : ∀ i j, fi i = some j ↔ fr j = some i) (hmf : ∀ j i, fr j = some i → mpF j = none) (hF0 : ∀ j, F0 j → mpF j = none)
  {C : Ctx} {ι : Pl} {F : Nat → Prop} {H : Nat → Option (List AV)} {w : World} (g : HG C ι F H w)
  (hH0 : ∀ j i, mpF j = some i → ∃ cs cs', H0 j = some cs ∧ H i = some cs' ∧ RnL mpF cs cs') (hH1 : ∀ j cs, H0 j = some cs → ∃ i, mpF j = some i)
  (ha : RnL mpF args args') (hF : ∀ j i, fr j = some i → F i) (hr : RnV (qK mpF fr) r rr')
  (hw : ∀ i cs', H2 i = some cs' → (∃ j cs, qK mpF fr j = some i ∧ hh j = some cs ∧ RnL (qK mpF fr) cs cs') ∨ (H i = some cs' ∧ ∀ j, mpF j ≠ some i))
  {vals : List Value} (hv : RdV w (aM C.X ι H) ι args' vals) :
  Calls P k vals.toArray w (fun e w' => ∃ v ι', e = .returned v ∧ HG C ι' (fun j => F j ∧ fi j = none) H2 w' ∧ Carry w (aM C.X ι H) ι w' (aM C.X ι' H2) ι' ∧ Rd w' (aM C.X ι' H2) ι' rr' v) := by
 let W0 : Nat → Prop := fun b => ∃ (j i β : Nat), mpF j = some i ∧ ι i = some (some (b, β))
 let Xc : Nat → Prop := fun b => aM C.X ι H b ∧ ¬ W0 b
 let ιc : Pl := fun j => match mpF j with | some i => ι i | none => none
 let C' : Ctx := { N := 0, w0 := w, W0 := W0, X := Xc, ι0 := ιc, xlt := fun b hb => g.bad_lt b hb.1 }
 have hW0 : ∀ b, W0 b → ¬ C.X b ∧ (C.W0 b ∨ C.w0.heap.size ≤ b) ∧ aM C.X ι H b := by
  rintro b ⟨j, i, β, h1, h2⟩
  obtain ⟨cs, cs', q1, q2, q3⟩ := hH0 j i h1
  rcases g.obj i cs' q2 with ⟨q, _⟩ | ⟨b', β', arr, e, q, q4, q5, q6, q7, q8⟩
  ·rw [q] at h2; cases h2
  ·rw [q] at h2; cases h2; exact ⟨q7, q8, .inr ⟨i, cs', _, q2, q⟩⟩
 have hnone : ∀ i j, fi i = some j → ι i = none := fun i j h1 => g.fresh i (hF j i ((hfi i j).1 h1))
 have hιc : ∀ j i, mpF j = some i → ιc j = ι i := fun j i h => by simp only [ιc, h]
 have hbadc : ∀ b, aM Xc ιc H0 b → aM C.X ι H b := by
  rintro b (⟨h1, _⟩ | ⟨j, cs, β, h1, h2⟩)
  ·exact h1
  ·obtain ⟨i, hi⟩ := hH1 j cs h1
   rw [hιc j i hi] at h2
   exact (hW0 b ⟨j, _, β, hi, h2⟩).2.2
 have hbadc2 : ∀ b, aM C.X ι H b → aM Xc ιc H0 b := by
  intro b hb
  by_cases hw0 : W0 b
  ·obtain ⟨j, i, β, h1, h2⟩ := hw0
   obtain ⟨cs, cs', q1, q2, q3⟩ := hH0 j i h1
   exact .inr ⟨j, cs, β, q1, by rw [hιc j i h1]; exact h2⟩
  ·exact .inl ⟨hb, hw0⟩
 have gc : HG C' ιc F0 H0 w := by
  refine ⟨fun j cs hj => ?_, fun j j' cs cs' b β β' h1 h2 h3 h4 => ?_, Fr.refl _ _, fun _ _ h => h, fun j hj => ?_⟩
  ·obtain ⟨i, hi⟩ := hH1 j cs hj
   obtain ⟨cs1, cs', q1, q2, q3⟩ := hH0 j _ hi
   rw [hj] at q1; cases q1
   rcases g.obj _ cs' q2 with ⟨q4, q5⟩ | ⟨b', β', arr, e, q4, q5, q6, q7, q8, q9⟩
   ·refine .inl ⟨by rw [hιc j i hi]; exact q4, ?_⟩
    subst q5
    exact List.eq_nil_of_length_eq_zero (by rw [q3.len]; rfl)
   ·have hw0 : W0 b' := ⟨j, _, β', hi, q4⟩
    exact .inr ⟨b', β', arr, e, by rw [hιc j i hi]; exact q4, q5, by rw [q3.len]; exact q6, RnL.bwC hιc hbadc q3 q7, fun hx => hx.2 hw0, .inl hw0⟩
  ·obtain ⟨i, hi⟩ := hH1 j cs h1
   obtain ⟨i', hi'⟩ := hH1 j' cs' h2
   obtain ⟨_, c1, _, q2, _⟩ := hH0 j _ hi
   obtain ⟨_, c2, _, q2', _⟩ := hH0 j' _ hi'
   rw [hιc j i hi] at h3
   rw [hιc j' i' hi'] at h4
   have := g.sep _ _ _ _ _ _ _ q2 q2' h3 h4
   exact hmi j j' i hi (by rw [hi', this])
  ·show ιc j = none
   simp only [ιc, hF0 j hj]
 have hvc : RdV w (aM C'.X ιc H0) ιc args vals := RnL.bwV hιc hbadc ha hv
 refine (h C' ιc w vals rfl rfl gc hvc).mono ?_
 rintro e w' ⟨v, r0, H', ιr, rfl, ⟨rfl, hkeep⟩, hrd, gr⟩
 let ι' : Pl := fun i => match fi i with | some j => ιr j | none => ι i
 have hmpf : ∀ (j i : Nat), mpF j = some i → fi i = none := by
  intro j i hj
  cases hq : fi i with
  | none => rfl
  | some j2 =>
   obtain ⟨cs, cs', q1, q2, q3⟩ := hH0 j i hj
   rcases g.obj i cs' q2 with ⟨q, _⟩ | ⟨_, _, _, _, q, _⟩ <;> (rw [hnone i _ hq] at q; cases q)
 have hιr : ∀ (j i : Nat), mpF j = some i → ιr j = ι i := by
  intro j i hj
  obtain ⟨cs, cs', q1, q2, q3⟩ := hH0 j i hj
  have : ∃ q, ι i = some q := by
   rcases g.obj i cs' q2 with ⟨q, _⟩ | ⟨_, _, _, _, q, _⟩
   ·exact ⟨_, q⟩
   ·exact ⟨_, q⟩
  obtain ⟨q, hq⟩ := this
  rw [hq]
  exact gr.ex j q (by show ιc j = some q; rw [hιc j i hj]; exact hq)
 have hρ1 : ∀ j i, qK mpF fr j = some i → (mpF j = some i) ∨ (mpF j = none ∧ fr j = some i) := by
  intro j i hj
  unfold qK at hj
  split at hj
  ·cases hj; exact .inl (by assumption)
  ·exact .inr ⟨by assumption, hj⟩
 have hto : ∀ j i, qK mpF fr j = some i → ιr j = ι' i := by
  intro j i hj
  rcases hρ1 j i hj with h2 | ⟨h1, h2⟩
  ·rw [hιr j i h2]; simp only [ι', hmpf j i h2]
  ·simp only [ι', (hfi i j).2 h2]
 have hcase := hw
 have hold : ∀ i cs', H i = some cs' → ι' i = ι i := by
  intro i cs' hi
  simp only [ι']
  cases hq : fi i with
  | none => rfl
  | some j2 => rcases g.obj i cs' hi with ⟨q, _⟩ | ⟨_, _, _, _, q, _⟩ <;> (rw [hnone i _ hq] at q; cases q)
 have hnW : ∀ (i : Nat) cs' b β, H i = some cs' → (∀ j, mpF j ≠ some i) → ι i = some (some (b, β)) → ¬ W0 b := by
  rintro i cs' b β hi hm hb ⟨j, i2, β2, q1, q2⟩
  obtain ⟨cs, c2, _, q3, _⟩ := hH0 j i2 q1
  have := g.sep _ _ _ _ _ _ _ hi q3 hb q2
  subst this
  exact hm j q1
 have hobjlt : ∀ i cs' b β, H i = some cs' → ι i = some (some (b, β)) → b < w.heap.size := fun i cs' b β hi hb => g.bad_lt b (.inr ⟨i, cs', β, hi, hb⟩)
 have hcal : ∀ j cs b β, H' j = some cs → ιr j = some (some (b, β)) → W0 b ∨ w.heap.size ≤ b := by
  intro j cs b β hj hb
  rcases gr.obj j cs hj with ⟨q, _⟩ | ⟨b', β', arr, e, q, q4, q5, q6, q7, q8⟩
  ·rw [q] at hb; cases hb
  ·rw [q] at hb; cases hb; exact q8
 have hbad : ∀ b, aM C.X ι' H2 b → aM C.X ι H b ∨ w.heap.size ≤ b := by
  rintro b (h1 | ⟨i, cs', β, h1, h2⟩)
  ·exact .inl (.inl h1)
  ·rcases hcase i cs' h1 with ⟨j, cs, q1, q2, q3⟩ | ⟨q1, q2⟩
   ·rw [← hto j i q1] at h2
    rcases hcal j cs b β (hkeep j cs q2) h2 with q | q
    ·exact .inl (hW0 b q).2.2
    ·exact .inr q
   ·rw [hold i cs' q1] at h2; exact .inl (.inr ⟨i, cs', β, q1, h2⟩)
 have hfr := gr.fr
 have hcar : Carry w (aM C.X ι H) ι w' (aM C.X ι' H2) ι' := by
  refine ⟨fun b o y h1 h2 => ?_, fun i q hq => ?_, hfr.bs⟩
  ·have hlt := k9 h2
   refine ⟨fun hb => ?_, ?_⟩
   ·rcases hbad b hb with h | h
    ·exact h1 h
    ·omega
   ·rw [dM (hfr.block b hlt (fun hw0 => h1 (hW0 b hw0).2.2))]; exact h2
  ·simp only [ι']
   cases hq2 : fi i with
   | none => exact hq
   | some j2 => rw [hnone i _ hq2] at hq; cases hq
 have hrn2 : RnH w' (qK mpF fr) (aM C'.X ιr H') ιr (aM C.X ι' H2) ι' := by
  refine ⟨⟨fun b o y h1 h2 => ⟨fun hb => h1 ?_, h2⟩, fun _ _ h => h, fun _ => Nat.le_refl _⟩, fun j i hj => hto j i hj⟩
  rcases hb with hb | ⟨i, cs', β, q1, q2⟩
  ·exact .inl ⟨.inl hb, fun hw0 => (hW0 b hw0).1 hb⟩
  ·rcases hcase i cs' q1 with ⟨j, cs, r1, r2, r3⟩ | ⟨r1, r2⟩
   ·rw [← hto j i r1] at q2
    exact .inr ⟨j, cs, β, hkeep j cs r2, q2⟩
   ·rw [hold i cs' r1] at q2
    exact .inl ⟨.inr ⟨i, cs', β, r1, q2⟩, hnW i cs' b β r1 r2 q2⟩
 refine ⟨v, ι', rfl, ⟨fun i cs' hi => ?_, fun i i2 cs1 cs2 b β β' h1 h2 h3 h4 => ?_, ⟨hfr.os.trans g.fr.os, hfr.tape.trans g.fr.tape, hfr.output.trans g.fr.output, Nat.le_trans g.fr.size hfr.size, fun b hb hnw => ?_, fun b => Nat.le_trans (g.fr.bs b) (hfr.bs b)⟩, fun i q hq => hcar.pl i q (g.ex i q hq), fun i hi => ?_⟩, hcar, RnV.fwd hrn2 hr hrd⟩
 ·rcases hcase i cs' hi with ⟨j, cs, q1, q2, q3⟩ | ⟨q1, q2⟩
  ·rcases gr.obj j cs (hkeep j cs q2) with ⟨r1, r2⟩ | ⟨b, β, arr, e, r1, r2, r3, r4, r5, r6⟩
   ·refine .inl ⟨by rw [← hto j i q1]; exact r1, ?_⟩
    subst r2
    exact List.eq_nil_of_length_eq_zero (by rw [← q3.len]; rfl)
   ·refine .inr ⟨b, β, arr, e, by rw [← hto j i q1]; exact r1, r2, by rw [← q3.len]; exact r3, RnL.fwdC hrn2 q3 r4, ?_, ?_⟩
    ·rcases r6 with r6 | r6
     ·exact (hW0 b r6).1
     ·intro hX
      have := C.xlt b hX
      have := g.fr.size
      have : w.heap.size ≤ b := r6
      omega
    ·rcases r6 with r6 | r6
     ·exact (hW0 b r6).2.1
     ·refine .inr ?_
      have := g.fr.size
      have : w.heap.size ≤ b := r6
      omega
  ·rcases g.obj i cs' q1 with ⟨r1, r2⟩ | ⟨b, β, arr, e, r1, r2, r3, r4, r5, r6⟩
   ·exact .inl ⟨by rw [hold i cs' q1]; exact r1, r2⟩
   ·have hlt := fG r2
    have hbl := hfr.block b hlt (hnW i cs' b β q1 q2 r1)
    exact .inr ⟨b, β, arr, e, by rw [hold i cs' q1]; exact r1, by rw [hbl]; exact r2, r3, RdC.carryB hcar _ _ _ (fun o y hy => by rw [dM hbl]; exact hy) r4, r5, r6⟩
 ·rcases hcase i cs1 h1 with ⟨j, c1, q1, q2, q3⟩ | ⟨q1, q2⟩ <;> rcases hcase i2 cs2 h2 with ⟨j2, c2, q1', q2', q3'⟩ | ⟨q1', q2'⟩
  ·rw [← hto j i q1] at h3
   rw [← hto j2 i2 q1'] at h4
   have := gr.sep _ _ _ _ _ _ _ (hkeep j c1 q2) (hkeep j2 c2 q2') h3 h4
   subst this
   rw [q1] at q1'; cases q1'; rfl
  ·rw [← hto j i q1] at h3
   rw [hold i2 cs2 q1'] at h4
   have hlt := hobjlt i2 cs2 b _ q1' h4
   rcases hcal j c1 b _ (hkeep j c1 q2) h3 with q | q
   ·exact (hnW i2 cs2 b _ q1' q2' h4 q).elim
   ·omega
  ·rw [hold i cs1 q1] at h3
   rw [← hto j2 i2 q1'] at h4
   have hlt := hobjlt i cs1 b _ q1 h3
   rcases hcal j2 c2 b _ (hkeep j2 c2 q2') h4 with q | q
   ·exact (hnW i cs1 b _ q1 q2 h3 q).elim
   ·omega
  ·rw [hold i cs1 q1] at h3
   rw [hold i2 cs2 q1'] at h4
   exact g.sep _ _ _ _ _ _ _ q1 q1' h3 h4
 ·have hb2 : b < w.heap.size := by have := g.fr.size; omega
  rw [hfr.block b hb2 (fun hw0 => ?_)]
  ·exact g.fr.block b hb hnw
  ·rcases (hW0 b hw0).2.1 with q | q
   ·exact hnw q
   ·omega
 ·simp only [ι', hi.2]
  exact g.fresh i hi.1
end Go.AL
namespace Go.AL
open Go.RowKit
attribute [local irreducible] aV
set_option linter.unusedVariables false
set_option linter.unusedSimpArgs false
def OC (P : Program) (k : FuncId) (args : List AV) (R0 : List (List Bool)) (r : AV) (hh : List (Nat × Option (List AV))) : Prop :=
 yD P k args (aT (g8 R0)) (Fn 0 ⟨0, aV + R0.length⟩) (fun r' H' => r' = r ∧ ∀ id cs, aT (hh ++ g8 R0) id = some cs → H' id = some cs)
def PM (P : Program) (k : FuncId) (args : List AV) (r : AV) (R1 : List (List Bool)) : Prop :=
 yD P k args (aT []) (Fn 0 ⟨0, aV⟩) (fun r' H' => r' = r ∧ ∀ id cs, aT (g8 R1) id = some cs → H' id = some cs)
theorem qI {hs : List (Nat × Option (List AV))} {r r' : AV} {R0 : List (List Bool)} {hh : List (Nat × Option (List AV))} (hr : r' = r) (hh' : nU hs hh) (hF : FamR R0 R0 hs hs) : r' = r ∧ ∀ id cs, aT (hh ++ g8 R0) id = some cs → aT hs id = some cs := by
 refine ⟨hr, fun id cs h => ?_⟩
 rcases sO h with h | h
 ·exact j9 hh' id cs h
 ·obtain ⟨k, hk, rfl, rfl⟩ := l6 h
  exact hF.get hk
theorem M7 {hs : List (Nat × Option (List AV))} {r r' : AV} {R0 : List (List Bool)} (hr : r' = r) (hF : FamR R0 R0 hs hs) : r' = r ∧ ∀ id cs, aT (g8 R0) id = some cs → aT hs id = some cs :=
 qI (hh := []) hr trivial hF
def JI (b m : Nat) (j : Nat) : Option Nat := if aV ≤ j ∧ j < aV + m then some (b + j) else none
def OD (n n1 : Nat) (j : Nat) : Option Nat := if j < n1 then some (n + j) else none
def PY (n n1 : Nat) (i : Nat) : Option Nat := if n ≤ i ∧ i < n + n1 then some (i - n) else none
def PL (b m n n1 : Nat) : Nat → Option Nat := qK (JI b m) (OD n n1)
theorem EW {mpF fr : Nat → Option Nat} {j i : Nat} (h : mpF j = some i) : qK mpF fr j = some i := by unfold qK; rw [h]
theorem Gf {mpF fr : Nat → Option Nat} {j : Nat} (h : mpF j = none) : qK mpF fr j = fr j := by unfold qK; rw [h]
theorem m7 {b m k : Nat} (h : k < m) : JI b m (k + aV) = some (b + k + aV) := by
 unfold JI; rw [if_pos (by omega), Nat.add_assoc]
theorem Lq {b m n n1 k : Nat} (h : k < m) : PL b m n n1 (k + aV) = some (b + k + aV) := EW (m7 h)
theorem sJ {b m n n1 j : Nat} (h : j < n1) (hb : j < aV) : PL b m n n1 j = some (n + j) := by
 have e : JI b m j = none := by unfold JI; rw [if_neg (by omega)]
 refine (Gf e).trans ?_
 unfold OD; rw [if_pos h]
theorem rn_rows {ρ : Nat → Option Nat} {b b' m w : Nat} (h : ∀ k, k < m → ρ (b + k + aV) = some (b' + k + aV)) : RnL ρ (flat (x9 b w) (List.range m)) (flat (x9 b' w) (List.range m)) :=
 RnL.flt fun k hk => by rw [List.mem_range] at hk; exact .cons (.own (h k hk)) .nil
theorem cT {m : List (Nat × Nat)} {lo : Lo} {pn : Option Nat} {b k w : Nat} (h : aV + (b + k) ≤ lo.fb) : RnL (jZ m lo pn) (flat (x9 b w) (List.range k)) (flat (x9 b w) (List.range k)) :=
 rn_rows fun j hj => iK (by omega) (by omega)
def OA (ρ : Nat → Option Nat) (hh : List (Nat × Option (List AV))) : List (Nat × Option (List AV)) → Prop
 | [] => True
 | (i, none) :: l => OA ρ hh l
 | (i, some cs') :: l => (∃ j cs, ρ j = some i ∧ aT hh j = some cs ∧ RnL ρ cs cs') ∧ OA ρ hh l
theorem CE {ρ : Nat → Option Nat} {hh : List (Nat × Option (List AV))} : ∀ {ws : List (Nat × Option (List AV))}, OA ρ hh ws → ∀ i cs', (i, some cs') ∈ ws → ∃ j cs, ρ j = some i ∧ aT hh j = some cs ∧ RnL ρ cs cs'
 | [], _, i, cs', h => by simp at h
 | (u, none) :: l, hw, i, cs', h => by
  simp only [OA] at hw
  rcases List.mem_cons.1 h with h | h
  ·cases h
  ·exact CE hw i cs' h
 | (u, some c) :: l, hw, i, cs', h => by
  simp only [OA] at hw
  rcases List.mem_cons.1 h with h | h
  ·cases h; exact hw.1
  ·exact CE hw.2 i cs' h
section
variable {P : Program} {N : Nat} {Q : Exit → AS → Prop} {all : Array Oper} {rest : List Oper} {ts : List (Nat × AV)} {hs : List (Nat × Option (List AV))} {n : Nat} {z0 : Lo} {md : Md}
variable {d : Nat} {ty : TypeId} {pos : String} {af : Array Edge}
theorem A3 {k : FuncId} {args : Array Operand} {tys : Array TypeId} {avs avs0 : List AV} {R R0 : List (List Bool)} {r rr' : AV} {hh : List (Nat × Option (List AV))} (b n1 : Nat) (D : List Nat) (ws : List (Nat × Option (List AV))) [hc : CaT P k]
  (ha : evL (lk ts) args.toList = some avs) (h : OC P k avs0 R0 r hh) (hF : FamR R R hs hs) (hb : b + R0.length ≤ R.length) (hR : ∀ k, k < R0.length → R0[k]! = R[b + k]!) (hD : ∀ k, k < R0.length → b + k + aV ∈ D)
  (har : RnL (JI b R0.length) avs0 avs) (hk : gL aV hh = true) (hr : RnV (PL b R0.length n n1) r rr') (hw : OA (PL b R0.length n n1) hh ws) (hM : Nat.ble (n + n1) aV = true) (hN : Nat.blt d N = true)
  {md' : Md} [hmd : MdA md (fK args.toList ++ D.map .inr) (ws.map (fun p => .inr p.1) ++ [.inl d]) md']
  (kk : RW P N all Q md' rest ⟨(d, rr') :: ts, gS hs ws, n + n1, z0⟩) : RW P N all Q md (⟨some d, .call ⟨.value (.func k), args, tys⟩, ty, pos, af, none⟩ :: rest) ⟨ts, hs, n, z0⟩ := by
 have hM' := Nat.le_of_ble_eq_true hM
 refine iZ (rs := fK args.toList ++ D.map .inr) (ws := ws) (n' := n + n1) (out := rr') rfl (Nat.le_add_right _ _) (.inr hM') (fun C ι F T H a w K Q' hCN ag hFf g gh hK => ?_) (fun x hx => by cases hx; exact dE hN) (by simp only [wD]; rw [← hmd.pf] at kk; exact kk)
 simp only [Oper.wp, gF hc.pf, Oper.upon]
 have hH : ∀ q, q < R0.length → H (b + q + aV) = some (flat cB R[b + q]!) := fun q hq => by
  rw [ag.r.h _ (List.mem_map_of_mem (hD q hq))]; exact hF.get (by omega)
 have hmp : ∀ j i, JI b R0.length j = some i → ∃ q, q < R0.length ∧ j = q + aV ∧ i = b + q + aV := by
  intro j i hj
  unfold JI at hj
  split at hj
  ·cases hj; exact ⟨j - aV, by omega, by omega, by omega⟩
  ·cases hj
 have hrh : ∀ j i, OD n n1 j = some i → j < n1 ∧ i = n + j := by
  intro j i hj
  unfold OD at hj
  split at hj
  ·cases hj; exact ⟨by assumption, rfl⟩
  ·cases hj
 refine (By (fr := OD n n1) (fi := PY n n1) (hh := aT (hh ++ g8 R0)) (H2 := kJ H ws) h (fun j j' i h1 h2 => ?_) (fun i j => ?_) (fun j i h1 => ?_) (fun j hj => ?_) gh (fun j i hj => ?_) (fun j cs hj => ?_) har (fun j i hj => ?_) hr (fun i cs' hi => ?_) (hG g (ag.l.evL.trans ha))).mono ?_
 ·obtain ⟨q, _, _, _⟩ := hmp j i h1
  obtain ⟨q', _, _, _⟩ := hmp j' i h2
  omega
 ·unfold PY OD
  constructor
  ·intro h1
   split at h1
   ·cases h1; rw [if_pos (by omega)]; congr 1; omega
   ·cases h1
  ·intro h1
   split at h1
   ·cases h1; rw [if_pos (by omega)]; congr 1; omega
   ·cases h1
 ·have := hrh j i h1
  unfold JI; rw [if_neg (by omega)]
 ·have h1 : j < aV ∨ aV + R0.length ≤ j := hj.2
  unfold JI; rw [if_neg (by omega)]
 ·obtain ⟨q, q1, rfl, rfl⟩ := hmp j i hj
  refine ⟨flat cB R0[q]!, flat cB R[b + q]!, ?_, hH q q1, ?_⟩
  ·rw [oO, if_pos q1]
  ·rw [hR q q1]; exact .pur (inferInstance : Pur (flat cB R[b + q]!)).pf
 ·obtain ⟨q, q1, rfl, rfl⟩ := l6 hj
  exact ⟨_, m7 q1⟩
 ·obtain ⟨q1, rfl⟩ := hrh j i hj
  exact hFf _ (Nat.le_add_right _ _) (by omega)
 ·rcases uI hi with h1 | ⟨h1, h2⟩
  ·obtain ⟨j, cs, q1, q2, q3⟩ := CE hw i cs' h1
   exact .inl ⟨j, cs, q1, Ht q2, q3⟩
  ·by_cases hq : ∃ q, q < R0.length ∧ i = b + q + aV
   ·obtain ⟨q, q1, rfl⟩ := hq
    rw [hH q q1] at h1
    cases h1
    refine .inl ⟨q + aV, flat cB R0[q]!, Lq q1, ?_, ?_⟩
    ·rw [I9 (rQ (by omega) hk), oO, if_pos q1]
    ·rw [hR q q1]; exact .pur (inferInstance : Pur (flat cB R[b + q]!)).pf
   ·refine .inr ⟨h1, fun j hj => hq ?_⟩
    obtain ⟨q, q1, _, q2⟩ := hmp j i hj
    exact ⟨q, q1, q2⟩
 ·rintro e w' ⟨v, ι', rfl, g', c', hrd⟩
  refine hK ι' w' v (g.carry c') (g'.less (fun _ _ h => h) (fun j hj => ⟨hj.1, ?_⟩)).1 hrd
  unfold PY; rw [if_neg hj.2]
theorem GH {k : FuncId} {args : Array Operand} {tys : Array TypeId} {avs : List AV} {R R1 : List (List Bool)} {r rr' : AV} {hs' : List (Nat × Option (List AV))} {l0 : Nat} [hc : CaT P k]
  (ha : evL (lk ts) args.toList = some avs) (h : PM P k avs r R1) (hp : bR avs = true) (hF : FamR R (R ++ R1) hs hs') (hz : z0 = ⟨l0, aV + R.length⟩)
  (hr : RnV (fun j => if aV ≤ j ∧ j < aV + R1.length then some (R.length + j) else none) r rr') (hM : Nat.ble n aV = true) (hN : Nat.blt d N = true)
  (kk : RW P N all Q .txt rest ⟨(d, rr') :: ts, hs', n, ⟨l0, aV + (R ++ R1).length⟩⟩) : RW P N all Q .txt (⟨some d, .call ⟨.value (.func k), args, tys⟩, ty, pos, af, none⟩ :: rest) ⟨ts, hs, n, z0⟩ := by
 subst hz
 rintro C a w hCN ⟨h0, ι, g, gh⟩
 refine wpList_plain rfl (fun K hK => ?_)
 simp only [Oper.wp, gF hc.pf, Oper.upon]
 have hM' := Nat.le_of_ble_eq_true hM
 have hrh : ∀ j i, (fun j => if aV ≤ j ∧ j < aV + R1.length then some (R.length + j) else none) j = some i → aV ≤ j ∧ j < aV + R1.length ∧ i = R.length + j := by
  intro j i hj
  dsimp only at hj
  split at hj
  ·rename_i hh; cases hj; exact ⟨hh.1, hh.2, rfl⟩
  ·cases hj
 have hrho : qK (fun _ => none) (fun j => if aV ≤ j ∧ j < aV + R1.length then some (R.length + j) else none) = (fun j => if aV ≤ j ∧ j < aV + R1.length then some (R.length + j) else none) := by funext j; rfl
 have hlen : (R ++ R1).length = R.length + R1.length := List.length_append
 refine (By (mpF := fun _ => none) (fr := fun j => if aV ≤ j ∧ j < aV + R1.length then some (R.length + j) else none) (fi := fun i => if aV + R.length ≤ i ∧ i < aV + R.length + R1.length then some (i - R.length) else none) (hh := aT (g8 R1)) (H2 := aT hs') (args' := avs)
  h (fun j j' i h1 h2 => by cases h1) (fun i j => ?_) (fun j i h1 => rfl) (fun j hj => rfl) gh (fun j i hj => by cases hj) (fun j cs hj => by simp [aT] at hj) (.pur hp) (fun j i hj => ?_) (rr' := rr') (by rw [hrho]; exact hr) (fun i cs' hi => ?_) (hG g ha)).mono ?_
 ·constructor
  ·intro h1
   split at h1
   ·cases h1; rw [if_pos (by omega)]; congr 1; omega
   ·cases h1
  ·intro h1
   split at h1
   ·cases h1; rw [if_pos (by omega)]; congr 1; omega
   ·cases h1
 ·obtain ⟨q1, q2, rfl⟩ := hrh j i hj
  exact ⟨by show n ≤ R.length + j; omega, .inr (by show aV + R.length ≤ R.length + j; omega)⟩
 ·rcases Nat.lt_or_ge i aV with hi2 | hi2
  ·exact .inr ⟨by rw [hF.low i hi2]; exact hi, fun j => by simp⟩
  ·obtain ⟨q, rfl⟩ : ∃ q, i = q + aV := ⟨i - aV, by omega⟩
   have hg := hF.symm.fam q
   rw [hi] at hg
   split at hg
   ·rename_i hq
    cases hg
    rcases Nat.lt_or_ge q R.length with hq2 | hq2
    ·refine .inr ⟨?_, fun j => by simp⟩
     have e : (R ++ R1)[q]! = R[q]! := by rw [bE _ _ hq, bE _ _ hq2, List.getElem_append_left hq2]
     rw [e]; exact hF.get hq2
    ·refine .inl ⟨(q - R.length) + aV, flat cB R1[q - R.length]!, ?_, ?_, ?_⟩
     ·rw [hrho]
      show (if aV ≤ q - R.length + aV ∧ q - R.length + aV < aV + R1.length then some (R.length + (q - R.length + aV)) else none) = some (q + aV)
      rw [if_pos (by omega)]; congr 1; omega
     ·rw [oO, if_pos (by omega)]
     ·have e : (R ++ R1)[q]! = R1[q - R.length]! := by rw [bE _ _ hq, bE _ _ (by omega), List.getElem_append_right hq2]
      rw [e]; exact .pur (inferInstance : Pur (flat cB R1[q - R.length]!)).pf
   ·cases hg
 ·rintro e w' ⟨v, ι', rfl, g', c', hrd⟩
  refine hK _ _ (kk C _ _ hCN ⟨fun id hid => ?_, ι', ?_, ?_⟩)
  ·rcases h0 id hid with q | q
   ·exact .inl ⟨q.1, by have := q.2; show id < aV + (R ++ R1).length; have h5 : id < aV + R.length := this; omega⟩
   ·exact .inr q
  ·show TG C ι' (lk ((d, rr') :: ts)) _ _ _
   rw [hZ]
   exact (g.carry c').put (hCN.symm ▸ dE hN) hrd
  ·refine (g'.less (fun _ _ h => h) (fun j hj => ?_)).1
   have h3 : n ≤ j := hj.1
   have h4 : j < aV ∨ aV + (R ++ R1).length ≤ j := hj.2
   refine ⟨⟨h3, ?_⟩, ?_⟩
   ·show j < aV ∨ aV + R.length ≤ j
    omega
   ·rw [if_neg (by omega)]
end
theorem HO {P : Program} {k : FuncId} {fn : Func} {c : Code} {args : List AV} {R0 : List (List Bool)} {r : AV} {hh : List (Nat × Option (List AV))} (hf : P.funcs[k]? = some fn) (hb : fn.body = some c) (hN : args.length ≤ fn.ntmps)
  (h : AW P fn.ntmps c (n6 P fn.results (fun r' H' => r' = r ∧ ∀ id cs, aT (hh ++ g8 R0) id = some cs → H' id = some cs)) ⟨iQ 0 args, g8 R0, 0, ⟨0, aV + R0.length⟩⟩) : OC P k args R0 r hh := pU hf hb hN h
theorem Iq {P : Program} {k : FuncId} {fn : Func} {c : Code} {args : List AV} {R1 : List (List Bool)} {r : AV} (hf : P.funcs[k]? = some fn) (hb : fn.body = some c) (hN : args.length ≤ fn.ntmps)
  (h : AW P fn.ntmps c (n6 P fn.results (fun r' H' => r' = r ∧ ∀ id cs, aT (g8 R1) id = some cs → H' id = some cs)) ⟨iQ 0 args, [], 0, ⟨0, aV⟩⟩) : PM P k args r R1 := pU hf hb hN h
end Go.AL
namespace Go.AL
open Go.RowKit
set_option linter.unusedVariables false
set_option linter.unusedSimpArgs false
theorem Le.virt {ts : List (Nat × AV)} {hs : List (Nat × Option (List AV))} {n : Nat} {z0 : Lo} (hn : n < aV) : Le ⟨ts, hs, n, z0⟩ ⟨ts, (n, some []) :: hs, n + 1, z0⟩ := by
 rintro C a w ⟨h0, ι, g, gh⟩
 obtain ⟨g1, c1⟩ := gh.virt (id := n) ⟨Nat.le_refl _, .inl hn⟩
 have e : aT ((n, some []) :: hs) = eS (aT hs) n (some []) := BH _ _ _
 refine ⟨h0, eS ι n (some none), ?_, ?_⟩
 ·show TG C _ (lk ts) (aT ((n, some []) :: hs)) a w
  rw [e]; exact g.carry c1
 ·show HG C _ _ (aT ((n, some []) :: hs)) w
  rw [e]
  refine (g1.less (fun _ _ h => h) (fun j hj => ?_)).1
  have h1 : n + 1 ≤ j := hj.1
  exact ⟨⟨by show n ≤ j; omega, hj.2⟩, by omega⟩
theorem Le.cellsN {ts : List (Nat × AV)} {hs : List (Nat × Option (List AV))} {n : Nat} {z0 : Lo} {i q : Nat} {cs cs' cq : List AV} (hi : aT hs i = some cs) (hq : aT hs q = some cq) (hl : cs'.length = cs.length)
  (h : ∀ (w : World) (bad : Nat → Prop) (ι : Pl) (b β : Nat), (∃ p, ι q = some p) → RdC w bad ι cs b β → RdC w bad ι cs' b β) :
  Le ⟨ts, hs, n, z0⟩ ⟨ts, (i, some cs') :: hs, n, z0⟩ := by
 rintro C a w ⟨h0, ι, g, gh⟩
 have hqq : ∃ p, ι q = some p := by
  rcases gh.obj q cq hq with ⟨p1, _⟩ | ⟨_, _, _, _, p1, _⟩ <;> exact ⟨_, p1⟩
 have hk : ∀ id c, aT ((i, some cs') :: hs) id = some c → (id = i ∧ c = cs') ∨ (id ≠ i ∧ aT hs id = some c) := by
  intro id c hc
  rw [cS] at hc
  split at hc
  ·rename_i e; cases hc; exact .inl ⟨e, rfl⟩
  ·rename_i e; exact .inr ⟨fun h => e h, hc⟩
 have hk2 : ∀ id c, aT hs id = some c → ∃ c', aT ((i, some cs') :: hs) id = some c' := by
  intro id c hc
  rw [cS]
  split
  ·exact ⟨_, rfl⟩
  ·exact ⟨_, hc⟩
 have hb : aM C.X ι (aT ((i, some cs') :: hs)) = aM C.X ι (aT hs) := by
  funext b
  refine propext ⟨?_, ?_⟩
  ·rintro (h | ⟨id, c, β, h1, h2⟩)
   ·exact .inl h
   ·rcases hk id c h1 with ⟨rfl, _⟩ | ⟨_, h3⟩
    ·exact .inr ⟨_, _, _, hi, h2⟩
    ·exact .inr ⟨_, _, _, h3, h2⟩
  ·rintro (h | ⟨id, c, β, h1, h2⟩)
   ·exact .inl h
   ·obtain ⟨c', h3⟩ := hk2 id c h1
    exact .inr ⟨_, _, _, h3, h2⟩
 refine ⟨h0, ι, ⟨g.df, g.sz, fun t av ht => ?_⟩, ?_, ?_, gh.fr, gh.ex, gh.fresh⟩
 ·show ∃ y, a.tmps[t]? = some y ∧ Rd w (aM C.X ι (aT ((i, some cs') :: hs))) ι av y
  rw [hb]; exact g.tm t av ht
 ·intro id c hc
  show _ ∨ ∃ b β arr e, ι id = some (some (b, β)) ∧ w.heap[b]? = some (.cells arr e (0, 0)) ∧ β + c.length ≤ arr.size ∧ RdC w (aM C.X ι (aT ((i, some cs') :: hs))) ι c b β ∧ ¬ C.X b ∧ (C.W0 b ∨ C.w0.heap.size ≤ b)
  rw [hb]
  rcases hk id c hc with ⟨rfl, rfl⟩ | ⟨_, h3⟩
  ·rcases gh.obj _ _ hi with ⟨q1, q2⟩ | ⟨b, β, arr, e, q1, q2, q3, q4, q5⟩
   ·subst q2
    exact .inl ⟨q1, List.eq_nil_of_length_eq_zero hl⟩
   ·exact .inr ⟨b, β, arr, e, q1, q2, by rw [hl]; exact q3, h _ _ _ _ _ hqq q4, q5⟩
  ·exact gh.obj _ _ h3
 ·intro id id' c c' b β β' h1 h2 h3 h4
  obtain ⟨d1, e1⟩ : ∃ d, aT hs id = some d := by
   rcases hk id c h1 with ⟨rfl, _⟩ | ⟨_, h⟩
   ·exact ⟨_, hi⟩
   ·exact ⟨_, h⟩
  obtain ⟨d2, e2⟩ : ∃ d, aT hs id' = some d := by
   rcases hk id' c' h2 with ⟨rfl, _⟩ | ⟨_, h⟩
   ·exact ⟨_, hi⟩
   ·exact ⟨_, h⟩
  exact gh.sep id id' d1 d2 b β β' e1 e2 h3 h4
theorem sQ {w : World} {bad : Nat → Prop} {ι : Pl} {c c' : AV} (hc : ∀ y, Rd w bad ι c y → Rd w bad ι c' y) : ∀ (a : List AV) (r : List AV) (b o : Nat), RdC w bad ι (a ++ c :: r) b o → RdC w bad ι (a ++ c' :: r) b o
 | [], r, b, o, h => by
  simp only [List.nil_append, RdC] at h ⊢
  obtain ⟨⟨x, h1, h2, h3⟩, h4⟩ := h
  exact ⟨⟨x, h1, h2, hc _ h3⟩, h4⟩
 | x :: a, r, b, o, h => by
  simp only [List.cons_append, RdC] at h ⊢
  exact ⟨h.1, sQ hc a r b (o + 1) h.2⟩
theorem Le.nilCell {ts : List (Nat × AV)} {hs : List (Nat × Option (List AV))} {n : Nat} {z0 : Lo} {i : Nat} (e : Nat) (c1 : List AV) {c2 : List AV} (hi : aT hs i = some (c1 ++ .v (.slice none 0 0) :: c2)) (hin : i ≠ n) (hn : n < aV) :
  Le ⟨ts, hs, n, z0⟩ ⟨ts, (i, some (c1 ++ .own n 0 0 e :: c2)) :: (n, some []) :: hs, n + 1, z0⟩ :=
 (Le.virt hn).trans (Le.cellsN (q := n) (cs := c1 ++ .v (.slice none 0 0) :: c2) (by rw [cS, if_neg hin]; exact hi) (by rw [cS, if_pos rfl]) (by simp) fun w bad ι b β hp hr =>
  sQ (fun y hy => by simp only [Rd] at hy ⊢; exact .inl ⟨hp, trivial, none, hy⟩) c1 c2 b β hr)
theorem Le.frzC {ts : List (Nat × AV)} {hs : List (Nat × Option (List AV))} {n : Nat} {z0 : Lo} {j i m e : Nat} (c1 : List AV) {c2 d : List AV} (hj : aT hs j = some (c1 ++ .own i 0 m e :: c2)) (hi : aT hs i = some d) (hij : j ≠ i) :
  Le ⟨ts, hs, n, z0⟩ ⟨ts, (j, some (c1 ++ .imm m d :: c2)) :: (i, none) :: hs, n, z0⟩ := by
 rintro C a w ⟨h0, ι, g, gh⟩
 have hk : ∀ id c, aT ((j, some (c1 ++ .imm m d :: c2)) :: (i, none) :: hs) id = some c → (id = j ∧ c = c1 ++ .imm m d :: c2) ∨ (id ≠ j ∧ id ≠ i ∧ aT hs id = some c) := by
  intro id c hc
  rw [cS] at hc
  split at hc
  ·rename_i e; cases hc; exact .inl ⟨e, rfl⟩
  ·rename_i e
   rw [cS] at hc
   split at hc
   ·cases hc
   ·rename_i e2; exact .inr ⟨e, e2, hc⟩
 have hk2 : ∀ id c, aT ((j, some (c1 ++ .imm m d :: c2)) :: (i, none) :: hs) id = some c → id ≠ i ∧ ∃ c', aT hs id = some c' := by
  intro id c hc
  rcases hk id c hc with ⟨rfl, _⟩ | ⟨_, h2, h3⟩
  ·exact ⟨hij, _, hj⟩
  ·exact ⟨h2, _, h3⟩
 have hbad : ∀ b, aM C.X ι (aT ((j, some (c1 ++ .imm m d :: c2)) :: (i, none) :: hs)) b → aM C.X ι (aT hs) b := by
  rintro b (h | ⟨id, c, β, h1, h2⟩)
  ·exact .inl h
  ·obtain ⟨_, c', h3⟩ := hk2 id c h1
   exact .inr ⟨id, c', β, h3, h2⟩
 have car : Carry w (aM C.X ι (aT hs)) ι w (aM C.X ι (aT ((j, some (c1 ++ .imm m d :: c2)) :: (i, none) :: hs))) ι := ⟨fun b o x h1 h2 => ⟨fun q => h1 (hbad b q), h2⟩, fun _ _ h => h, fun _ => Nat.le_refl _⟩
 have hcell : ∀ y, Rd w (aM C.X ι (aT ((j, some (c1 ++ .imm m d :: c2)) :: (i, none) :: hs))) ι (.own i 0 m e) y → Rd w (aM C.X ι (aT ((j, some (c1 ++ .imm m d :: c2)) :: (i, none) :: hs))) ι (.imm m d) y := by
  intro y hr
  simp only [Rd] at hr ⊢
  rcases hr with ⟨_, h2, a', h3⟩ | ⟨b, β, c, h1, h2, h3, h4⟩
  ·subst h2; exact ⟨a', 0, h3, .inl rfl⟩
  ·refine ⟨_, c, h2, ?_⟩
   rcases Nat.eq_zero_or_pos m with h5 | h5
   ·exact .inl h5
   ·refine .inr ⟨b, β + 0, h3, rfl, ?_⟩
    rcases gh.obj i d hi with ⟨q1, q2⟩ | ⟨b', β', arr, e', q1, q2, q3, q4, q5, q6⟩
    ·rw [h1] at q1; cases q1
    ·rw [h1] at q1; cases q1
     refine .inr ⟨?_, RdC.carryB car _ _ _ (fun o x hx => hx) q4⟩
     rintro (h | ⟨id', cs', β', r1, r2⟩)
     ·exact q5 h
     ·obtain ⟨r3, c', r4⟩ := hk2 id' cs' r1
      exact r3 (gh.sep _ _ _ _ _ _ _ r4 hi r2 h1)
 refine ⟨h0, ι, g.carry car, ⟨fun id c hc => ?_, fun id id' c c' b β β' h1 h2 h3 h4 => ?_, gh.fr, gh.ex, gh.fresh⟩⟩
 ·rcases hk id c hc with ⟨rfl, rfl⟩ | ⟨_, _, h3⟩
  ·rcases gh.obj _ _ hj with ⟨q1, q2⟩ | ⟨b, β, arr, e, q1, q2, q3, q4, q5⟩
   ·simp at q2
   ·exact .inr ⟨b, β, arr, e, q1, q2, by simpa using q3, sQ hcell c1 c2 b β (RdC.carryB car _ _ _ (fun o x hx => hx) q4), q5⟩
  ·rcases gh.obj _ _ h3 with ⟨q1, q2⟩ | ⟨b, β, arr, e, q1, q2, q3, q4, q5⟩
   ·exact .inl ⟨q1, q2⟩
   ·exact .inr ⟨b, β, arr, e, q1, q2, q3, RdC.carryB car _ _ _ (fun o x hx => hx) q4, q5⟩
 ·obtain ⟨_, d1, e1⟩ := hk2 id c h1
  obtain ⟨_, d2, e2⟩ := hk2 id' c' h2
  exact gh.sep id id' d1 d2 b β β' e1 e2 h3 h4
theorem HK {R : List (List Bool)} {hs hs' : List (Nat × Option (List AV))} {k m : Nat} (hF : FamR R R hs hs') (hk : k < R.length) (hm : m = R[k]!.length) : sCells (aT hs) 1 (qD (.own (k + aV) 0 m 1)) = some (m, flat cB R[k]!) := by
 subst hm
 have hl : (flat cB R[k]!).length = R[k]!.length * 1 := aJ cB _
 show (aT hs (k + aV)).bind (fun cs => if R[k]!.length * 1 ≤ (cs.drop 0).length then some (R[k]!.length, (cs.drop 0).take (R[k]!.length * 1)) else none) = _
 rw [hF.get hk, Option.bind_some, List.drop_zero, if_pos (by omega), List.take_of_length_le (by omega)]
end Go.AL
namespace Go.AL
open Go.RowKit
set_option linter.unusedVariables false
set_option linter.unusedSimpArgs false
theorem zS {cs : List AV} {v : Nat} {c : AV} : g6 cs (0 + v * 1) [c] = cs.take v ++ c :: cs.drop (v + 1) := by
 unfold g6; simp
theorem Lp {u : List (List Bool)} {v : Nat} {r : List Bool} (hv : v < u.length) : (flat gJ u).take v ++ .imm r.length (flat cB r) :: (flat gJ u).drop (v + 1) = flat gJ (u.set v r) := by
 have h := D1 (xs := u) (k := v) (r := r) hv
 rw [zS] at h; exact h
theorem Le.frzRow {ts : List (Nat × AV)} {hs : List (Nat × Option (List AV))} {n : Nat} {z0 : Lo} {j q v m : Nat} {u : List (List Bool)} {r : List Bool} (hj : aT hs j = some (g6 (flat gJ u) (0 + v * 1) [.own q 0 m 1])) (hq : aT hs q = some (flat cB r)) (hm : m = r.length) (hv : v < u.length) (hjq : j ≠ q) :
  Le ⟨ts, hs, n, z0⟩ ⟨ts, (j, some (flat gJ (u.set v r))) :: (q, none) :: hs, n, z0⟩ := by
 subst hm
 rw [zS] at hj
 have h := Le.frzC (ts := ts) (n := n) (z0 := z0) ((flat gJ u).take v) hj hq hjq
 rwa [Lp hv] at h
theorem Le.fdrop {ts : List (Nat × AV)} {hs : List (Nat × Option (List AV))} {n : Nat} {z0 : Lo} {k : Nat} {R : List (List Bool)} (hF : FamR R R hs hs) (hk : k < R.length) : Le ⟨ts, (k + aV, some (flat cB R[k]!)) :: hs, n, z0⟩ ⟨ts, hs, n, z0⟩ := by
 refine Le.of (fun _ _ h => h) (fun i cs h => ?_) (Nat.le_refl _) rfl
 have h' : aT hs i = some cs := h
 show aT ((k + aV, some (flat cB R[k]!)) :: hs) i = some cs
 rw [cS]
 split
 ·rename_i e; subst e; rw [hF.get hk] at h'; exact h'
 ·exact h'
theorem Pn {i k : Nat} (hi : Nat.blt i aV = true) : distinct [i, k + aV] = true := by
 have h1 := dE hi
 have : Nat.beq i (k + aV) = false := by
  cases h : Nat.beq i (k + aV) with
  | false => rfl
  | true => have := Nat.eq_of_beq_eq_true h; omega
 simp only [distinct, List.all_cons, List.all_nil, this]; rfl
structure Hid (T : Prop) : Prop where pf : T
theorem cut {G : Prop} {T : Prop} (key : T) (main : Hid T → G) : G := main ⟨key⟩
end Go.AL
namespace Go.AL
structure Hy (T : Prop) : Prop where pf : T
theorem PO : (∀ a b : Bool, ((a && b) = true) = (a = true ∧ b = true)) ∧ (∀ a b : Bool, ((a && b) = false) ↔ (a = false ∨ b = false)) ∧ (∀ a b : Bool, ((a || b) = true) = (a = true ∨ b = true)) ∧ (∀ a b : Bool, ((a || b) = false) ↔ (a = false ∧ b = false)) ∧
  (∀ (p : Prop) [Decidable p], (decide p = true) = p) ∧ (∀ (p : Prop) [Decidable p], (decide p = false) ↔ ¬ p) ∧ (∀ a : Bool, ((!a) = true) ↔ a = false) ∧ (∀ a : Bool, ((!a) = false) ↔ a = true) ∧ ((!true) = false) ∧ ((!false) = true) ∧ (∀ a b : Int, ¬ a < b ↔ b ≤ a) ∧ (∀ a b : Int, ¬ a ≤ b ↔ b < a) :=
 ⟨fun a b => Bool.and_eq_true a b, fun a b => Bool.and_eq_false_iff, fun a b => Bool.or_eq_true a b, fun a b => Bool.or_eq_false_iff, fun p _ => by simp, fun p _ => decide_eq_false_iff_not, fun a => by simp, fun a => by simp, rfl, rfl, fun _ _ => Int.not_lt, fun _ _ => Int.not_le⟩
theorem fX : (∀ {α : Type} (a b : List α), (a ++ b).length = a.length + b.length) ∧ (∀ {α : Type} (a : α) (b : List α), (a :: b).length = b.length + 1) ∧ (∀ {α : Type}, ([] : List α).length = 0) ∧ (∀ {α : Type} (a : List α) (i : Nat) (x : α), (a.set i x).length = a.length) ∧ (∀ {α : Type} (i : Nat) (a : List α), (a.take i).length = min i a.length) ∧
  (∀ {α β : Type} (f : α → β) (a : List α), (a.map f).length = a.length) ∧ (∀ {α : Type} (n : Nat) (a : α), (List.replicate n a).length = n) ∧ (∀ (l : List Stmt) (b : Nat), (gB b l).length = dF l) ∧ (∀ n : Nat, n * 1 = n) ∧ (∀ n : Nat, 0 + n = n) ∧ (∀ n : Nat, n + 0 = n) :=
 ⟨fun _ _ => List.length_append, fun _ _ => rfl, rfl, fun _ _ _ => List.length_set, fun _ _ => List.length_take, fun _ _ => List.length_map _, fun _ _ => List.length_replicate, bX, Nat.mul_one, Nat.zero_add, Nat.add_zero⟩
theorem bB {α : Type} {p q r : α → Prop} (x : α) (h3 : r x) (h1 : p x) (h2 : q x) : ∃ x, p x ∧ q x ∧ r x := ⟨x, h1, h2, h3⟩
theorem P6 {G K : Prop} (k : K) (h : Hy K → G := by first | (intro k; (first | ((with_reducible apply E3); (case hx => rfl); (case hH => rfl); (case hf => infer_instance); (case hg => infer_instance); (case hα => infer_instance); (case hk => omega); (case hc => rfl); (case hN => rfl)) | ((with_reducible apply FA); (case hx => rfl); (case hH => rfl); (case hf => infer_instance); (case hg => infer_instance); (case hα => infer_instance); (case hk => omega); (case hc => rfl); (case hN => rfl)) | ((with_reducible apply Gc); (case hx => rfl); (case hH => rfl); (case hf => infer_instance); (case hg => infer_instance); (case hα => infer_instance); (case hk => omega); (case h0 => rfl); (case hN => rfl)) | ((with_reducible apply HF); (case hx => rfl); (case hd => rfl); (case hc => rfl); (case hN => rfl)) | ((with_reducible apply GF); (case hx => rfl); (case hd => rfl); (case hc => (first | exact (rfl : _ = [_]) | exact (rfl : _ = [_, _]) | exact (rfl : _ = [_, _, _]) | exact (rfl : _ = [_, _, _, _]) | exact (rfl : _ = [_, _, _, _, _]) | exact (rfl : _ = [_, _, _, _, _, _]) | exact (rfl : _ = [_, _, _, _, _, _, _]) | exact (rfl : _ = [_, _, _, _, _, _, _, _]) | rfl)); (case hn => rfl); (case h0 => rfl); (case hN => rfl)) | ((with_reducible apply Bk); (case hx => rfl); (case hl => first | assumption | omega | (simp only [fX, List.length_drop] <;> omega)); (case h0 => rfl); (case hN => rfl)) | ((with_reducible apply B3); (case hx => rfl); (case hH => rfl); (case hl => first | assumption | omega | (simp only [fX] <;> omega) | rfl); (case h0 => rfl); (case hN => rfl)) | ((with_reducible apply Bu); (case hx => rfl); (case hH => rfl); (case hl => first | assumption | omega | (simp only [fX] <;> omega) | rfl); (case h0 => rfl); (case hN => rfl)) | ((with_reducible apply Gb); (case hx => rfl); (case hH => rfl); (case ho => first | exact PZ | exact P4); (case hq => first | assumption | omega | (simp only [fX] <;> omega)); (case hN => rfl))); exact k.pf) | fail) : G := h ⟨k⟩
theorem P2 {G K : Prop} (k : K) (h : Hy K → G := by first | (intro k; (first | ((with_reducible apply Fh); (case hj => rfl); (case hb => rfl); (case hN => rfl)) | ((with_reducible apply EY); (case hj => rfl); (case hb => rfl); (case hN => rfl); (case hw => first | rfl | assumption)) | ((with_reducible apply CC); (case hj => rfl); (case hb => rfl); (case hN => rfl); (case hw => first | rfl | assumption)) ); exact k.pf) | fail) : G := h ⟨k⟩
theorem P5 {G K : Prop} (k : K) (h : Hy K → G := by first | (intro k; (first | ((with_reducible apply Kd); (case hx => rfl); (case hy => rfl); (case h => rfl); (case hN => rfl)) | ((with_reducible apply MD); (case hx => rfl); (case hy => rfl); (case hk => infer_instance); (case ha => infer_instance); (case hb => infer_instance); (case hN => rfl)) | ((with_reducible apply KT); (case hx => rfl); (case hy => rfl); (case hk => infer_instance); (case ha => infer_instance); (case hN => rfl)) | ((with_reducible apply Lc); (case hx => rfl); (case hy => rfl); (case hk => infer_instance); (case ha => infer_instance); (case hb => infer_instance); (case hN => rfl)) | ((with_reducible apply LR); (case hx => rfl); (case hy => rfl); (case hk => infer_instance); (case ha => infer_instance); (case hb => infer_instance); (case hN => rfl)) | ((with_reducible apply J4); (case hx => rfl); (case hy => rfl); (case hk => infer_instance); (case ha => infer_instance); (case h => omega); (case hN => rfl)) | ((with_reducible apply ME); (case hx => rfl); (case hy => rfl); (case h => omega); (case hN => rfl)) | ((with_reducible apply Ov); (case hx => rfl); (case hy => rfl); (case h => omega); (case hN => rfl)) | ((with_reducible apply Oj); (case hx => rfl); (case hy => rfl); (case h => omega); (case h' => omega); (case hN => rfl))  | ((with_reducible apply N7); (case hx => rfl); (case hy => rfl); (case h => omega); (case hN => rfl)) | ((with_reducible apply Ol); (case hx => rfl); (case hy => rfl); (case h => omega); (case hN => rfl)) | ((with_reducible apply NN); (case hx => rfl); (case hy => rfl); (case h => omega); (case hN => rfl)) | ((with_reducible apply Of); (case hx => rfl); (case hy => rfl); (case h => rfl); (case hN => rfl))); exact k.pf) | fail) : G := h ⟨k⟩
theorem PU {G K : Prop} (k : K) (h : Hy K → G := by first | (intro k; (first | ((with_reducible apply uH); (case hx => rfl); (case hi => rfl); (case hm => (first | assumption | omega)); (case hml => (first|rfl|assumption|omega)); (case hα => infer_instance); (case hf => infer_instance); (case hg => infer_instance); (case hN => rfl)) | ((with_reducible apply C8); (case hx => rfl); (case hi => rfl); (case hm => (first | assumption | omega)); (case hN => rfl)) | ((with_reducible apply xH); (case hx => rfl); (case hi => rfl); (case hm => (first | assumption | omega | exact ⟨Int.emod_nonneg _ (by omega), Int.emod_lt_of_pos _ (by omega)⟩)); (case hml => (first|rfl|assumption|omega)); (case hα => infer_instance); (case hf => infer_instance); (case hg => infer_instance); (case hN => rfl)) | ((with_reducible apply Fe); (case hx => rfl); (case hi => rfl); (case hm => (first | assumption | omega | exact ⟨Int.emod_nonneg _ (by omega), Int.emod_lt_of_pos _ (by omega)⟩)); (case hN => rfl)) | ((with_reducible apply AB); (case hx => rfl); (case hi => rfl); (case hm => first | omega | assumption); (case hp => rfl); (case hN => rfl)) | ((with_reducible apply DA); (case hx => rfl); (case hi => rfl); (case hm => first | omega | assumption); (case hN => rfl))); exact k.pf) | fail) : G := h ⟨k⟩
theorem PW {G K : Prop} (k : K) (h : Hy K → G := by first | (intro k; (first | ((with_reducible apply Oa); (case hx => rfl); (case hn => rfl); (case hN => rfl)) | ((with_reducible apply Lh); (case hx => rfl); (case hN => rfl)) | ((with_reducible apply bW); (case hx => rfl); (case hy => rfl); (case hze => rfl); (case he0 => rfl); (case hH => rfl); (case hl => first | (rw [aJ]; omega) | (rw [aJ]; simp only [fX] <;> omega) | (simp [aJ]; done) | decide | (simp; omega)); (case hs' => first | rfl | exact My (by (first | rfl | assumption | omega))); (case hbig => omega); (case hmx => omega); (case hcs => first | exact Bp (by (first | assumption | omega | (simp only [fX] <;> omega) | infer_instance | decide | (simp; done) | grind)) | exact pC (by (first | assumption | omega | (simp only [fX] <;> omega) | infer_instance | decide | (simp; done) | grind)) | exact KZ (by (first | assumption | omega | (simp only [fX] <;> omega) | infer_instance | decide | (simp; done) | grind)) | exact Iy (by (first | assumption | omega | (simp only [fX] <;> omega) | infer_instance | decide | (simp; done) | grind)) | exact IS (by (first | assumption | omega | (simp only [fX] <;> omega) | infer_instance | decide | (simp; done) | grind)) | exact Lf (by (first | assumption | omega | (simp only [fX] <;> omega) | infer_instance | decide | (simp; done) | grind)) | exact JJ (by (first | assumption | omega | (simp only [fX] <;> omega) | infer_instance | decide | (simp; done) | grind))   | exact (rfl : _ = [_]) | exact (rfl : _ = [_, _]) | exact (rfl : _ = [_, _, _]) | exact (rfl : _ = [_, _, _, _]) | exact (rfl : _ = [_, _, _, _, _]) | exact (rfl : _ = [_, _, _, _, _, _]) | exact (rfl : _ = [_, _, _, _, _, _, _]) | exact (rfl : _ = [_, _, _, _, _, _, _, _]) | rfl); (case hM => rfl); (case hN => rfl))); exact k.pf) | fail) : G := h ⟨k⟩
theorem P1 {G K : Prop} (k : K) (h : Hy K → G := by first | (intro k; (first | ((with_reducible apply E6); (case hl => rfl); (case hf => (first | exact (rfl : _ = some [_]) | exact (rfl : _ = some [_, _]) | exact (rfl : _ = some [_, _, _]) | exact (rfl : _ = some [_, _, _, _]) | exact (rfl : _ = some [_, _, _, _, _]) | exact (rfl : _ = some [_, _, _, _, _, _]) | exact (rfl : _ = some [_, _, _, _, _, _, _]) | exact (rfl : _ = some [_, _, _, _, _, _, _, _]) | rfl)); (case hk => (first | exact (rfl : _ = [_]) | exact (rfl : _ = [_, _]) | exact (rfl : _ = [_, _, _]) | exact (rfl : _ = [_, _, _, _]) | exact (rfl : _ = [_, _, _, _, _]) | exact (rfl : _ = [_, _, _, _, _, _]) | exact (rfl : _ = [_, _, _, _, _, _, _]) | exact (rfl : _ = [_, _, _, _, _, _, _, _]) | rfl)); (case hN => rfl)) | ((with_reducible apply mE); (case hl => rfl); (case hf => (first | exact (rfl : _ = some [_]) | exact (rfl : _ = some [_, _]) | exact (rfl : _ = some [_, _, _]) | exact (rfl : _ = some [_, _, _, _]) | exact (rfl : _ = some [_, _, _, _, _]) | exact (rfl : _ = some [_, _, _, _, _, _]) | exact (rfl : _ = some [_, _, _, _, _, _, _]) | exact (rfl : _ = some [_, _, _, _, _, _, _, _]) | rfl)); (case hN => rfl))); exact k.pf) | fail) : G := h ⟨k⟩
theorem P3 {G K : Prop} (k : K) (h : Hy K → G := by first | (intro k; (first | ((with_reducible apply nZ); (case hze => rfl); (case hsm => rfl); (case hl => rfl); (case hfl => (first | exact (rfl : _ = some [_]) | exact (rfl : _ = some [_, _]) | exact (rfl : _ = some [_, _, _]) | exact (rfl : _ = some [_, _, _, _]) | exact (rfl : _ = some [_, _, _, _, _]) | exact (rfl : _ = some [_, _, _, _, _, _]) | exact (rfl : _ = some [_, _, _, _, _, _, _]) | exact (rfl : _ = some [_, _, _, _, _, _, _, _]) | rfl)); (case hM => rfl); (case hN => rfl)) | ((with_reducible apply nX); (case hx => rfl); (case hy => rfl); (case hze => rfl); (case hsm => omega); (case hmx => omega); (case hcs => first | exact NJ | exact JV | exact Ji | exact DU | rfl); (case hM => rfl); (case hN => rfl))); exact k.pf) | fail) : G := h ⟨k⟩
theorem PX {G K : Prop} (k : K) (h : Hy K → G := by first | (intro k; (first | ((with_reducible apply bC); (case hx => rfl); (case hy => rfl); (case hc => rfl); (case hn => rfl); (case hH => rfl); (case hl => (first|decide|(rw [aJ]; simp only [fX] <;> omega)|omega|(simp;done)|(simp;omega))); (case hcs => first | exact M1 (by (first | assumption | omega | (simp only [fX] <;> omega) | infer_instance | decide | (simp; done) | grind)) | exact Pe (by (first | assumption | omega | (simp only [fX] <;> omega) | infer_instance | decide | (simp; done) | grind)) | exact Py (by (first | assumption | omega | (simp only [fX] <;> omega) | infer_instance | decide | (simp; done) | grind)) | exact OW (by (first | assumption | omega | (simp only [fX] <;> omega) | infer_instance | decide | (simp; done) | grind)) | exact D1 (by (first | assumption | omega | (simp only [fX] <;> omega) | infer_instance | decide | (simp; done) | grind)) | exact He (by (first | assumption | omega | (simp only [fX] <;> omega) | infer_instance | decide | (simp; done) | grind)) | exact Iw (by (first | assumption | omega | (simp only [fX] <;> omega) | infer_instance | decide | (simp; done) | grind)) | exact Mt (by (first | assumption | omega | (simp only [fX] <;> omega) | infer_instance | decide | (simp; done) | grind)) | exact DJ (by (first | assumption | omega | (simp only [fX] <;> omega) | infer_instance | decide | (simp; done) | grind)) | exact Ju (by (first | assumption | omega | (simp only [fX] <;> omega) | infer_instance | decide | (simp; done) | grind))   | exact zA (by (first | assumption | omega | (simp only [fX] <;> omega) | infer_instance | decide | (simp; done) | grind))  | exact (rfl : _ = [_]) | exact (rfl : _ = [_, _]) | exact (rfl : _ = [_, _, _]) | exact (rfl : _ = [_, _, _, _]) | exact (rfl : _ = [_, _, _, _, _]) | exact (rfl : _ = [_, _, _, _, _, _]) | exact (rfl : _ = [_, _, _, _, _, _, _]) | exact (rfl : _ = [_, _, _, _, _, _, _, _]) | rfl)) | ((with_reducible apply Bc); (case hx => rfl); (case hy => rfl); (case hH => rfl); (case hl => first | assumption | omega | (simp only [fX] <;> omega)); (case hc => first | rfl | (rw [e8]; first | assumption | (simp only [fX] <;> omega))))); exact k.pf) | fail) : G := h ⟨k⟩
theorem aE {G K : Prop} (k : K) (h : Hy K → G := by first | (intro k; (first | ((with_reducible apply aH); first | ((with_reducible apply LA); (case hx => rfl); (case hN => rfl)) | ((with_reducible apply Kg); refine P6 ?_) | ((with_reducible apply zN); (case hx => rfl); (case hp => rfl); (case hN => rfl)) | ((with_reducible apply Pj); refine P2 ?_) | ((with_reducible apply MR); refine P5 ?_) | ((with_reducible apply xF); (case hx => rfl); (case hN => rfl)) | ((with_reducible apply KQ); first | ((with_reducible apply Ha); (case hc => rfl); (case hb => first | rfl | assumption); (case hx => rfl); (case hN => rfl)) | ((with_reducible apply Hm); (case hc => rfl); (case hb => first | rfl | assumption); (case hx => rfl); (case hN => rfl))) | ((with_reducible apply Oh); refine PU ?_) | ((with_reducible apply O8); refine PW ?_) | ((with_reducible apply Mx); (case hf => kernel_rfl)) | ((with_reducible apply Ky); first | ((with_reducible apply xE); (case hx => rfl); (case h => first | exact Mh _ | omega); (case hN => rfl)) ) | ((with_reducible apply OL); first | ((with_reducible apply CN); (case hx => rfl); (case hi => rfl); (case hl => first | assumption | omega | (simp only [fX] <;> omega)); (case hm => omega); (case hN => rfl))) | ((with_reducible apply NT); refine P1 ?_) | ((with_reducible apply M4); first | ((with_reducible apply Fy); (case hx => rfl); (case hf => infer_instance); (case hl => rfl); (case hh => rfl); (case hb => first | omega | (simp only [List.length_take, List.length_drop, Int.toNat_natCast]; omega)); (case hN => rfl))) | ((with_reducible apply l9); (case hf => rfl); (case hc => rfl); (case hN => rfl)) | ((with_reducible apply Ob); (case hx => rfl); (case hN => rfl)) | ((with_reducible apply Ns); (case hx => rfl); (case hp => rfl); (case hN => rfl)) | ((with_reducible apply Nt); (case hx => rfl); (case hc => rfl); (case hM => rfl); (case hN => rfl)) | ((with_reducible apply G4); (case hM => rfl); (case hN => rfl)) | ((with_reducible apply CF); (case hx => rfl); (case hc => rfl); (case hN => rfl)) | refine P3 ?_ | refine PX ?_)); exact k.pf) | fail) : G := h ⟨k⟩
theorem aF {G K : Prop} (k : K) (h : Hy K → G := by first | (intro k; (first | ((with_reducible apply DV); first | with_reducible apply MZ | with_reducible apply EK | ((with_reducible apply GV); (case hc => rfl); (case hb => first | rfl | assumption)) | ((with_reducible apply GI); (case hc => rfl); (case hb => first | rfl | assumption)) | with_reducible apply Ih | with_reducible apply Ks | with_reducible apply LG | with_reducible apply Oi ) | with_reducible apply Fg | with_reducible apply Nc | with_reducible apply J1 | with_reducible apply Gl | with_reducible apply Nm | with_reducible apply Kl | ((with_reducible apply bq_out); (case hij => decide))); exact k.pf) | fail) : G := h ⟨k⟩
theorem aL {G c1 q1 c2 q2 K1 K2 : Prop} (k1 : c1 → q1 → K1) (k2 : c2 → q2 → K2) (h : Hy (c1 → q1 → K1) → Hy (c2 → q2 → K2) → G := by first | (intro k1 k2; (with_reducible apply DV); (with_reducible apply yK); (case hc => rfl); (intro hc; have hq := hc; (try simp only [PO] at hq); first | exact k1.pf hc hq | exact k1.pf hc trivial); (intro hc; have hq := hc; (try simp only [PO] at hq); first | exact k2.pf hc hq | exact k2.pf hc trivial)) | fail) : G := h ⟨k1⟩ ⟨k2⟩
theorem bS {G c1 q1 c2 q2 K1 K2 : Prop} (k1 : c1 → q1 → K1) (k2 : c2 → q2 → K2) (h : Hy (c1 → q1 → K1) → Hy (c2 → q2 → K2) → G := by first | (intro k1 k2; (with_reducible apply aH); (with_reducible apply Pj); (with_reducible apply Fa); (case hj => rfl); (case hb => rfl); (case hN => rfl); (intro hc; have hq := hc; (try simp only [PO] at hq); first | exact k1.pf hc hq | exact k1.pf hc trivial); (intro hc; have hq := hc; (try simp only [PO] at hq); first | exact k2.pf hc hq | exact k2.pf hc trivial)) | fail) : G := h ⟨k1⟩ ⟨k2⟩
theorem bQ {G K : Prop} (k : K) (h : Hy K → G := by first | (intro k; (with_reducible apply DV); (with_reducible apply K5); (case hm => kernel_rfl); exact k.pf) | fail) : G := h ⟨k⟩
theorem dA {G K : Prop} (k : K) (h : Hy K → G := by first | (intro k; (with_reducible apply aD); (case hr => rfl); exact k.pf) | fail) : G := h ⟨k⟩
theorem A6 {ts : List (Nat × AV)} : oQ [] ts = [] := rfl
theorem xG {k : Nat} {v : AV} {ks : List Nat} {ts kt : List (Nat × AV)} (h : lk ts k = some v) (h2 : oQ ks ts = kt) : oQ (k :: ks) ts = (k, v) :: kt := by
 subst h2; simp [oQ, h]
theorem AZ {hs : List (Nat × Option (List AV))} : qV [] hs = [] := rfl
theorem wU {k : Nat} {v : List AV} {ks : List Nat} {hs kh : List (Nat × Option (List AV))} (h : aT hs k = some v) (h2 : qV ks hs = kh) : qV (k :: ks) hs = (k, some v) :: kh := by
 subst h2; simp [qV, h]
section
variable {P : Program} {N : Nat} {Q : Exit → AS → Prop} {σ : Type} {c : Code} {ts : List (Nat × AV)} {hs : List (Nat × Option (List AV))} {n : Nat} {z0 : Lo}
theorem aI (ks js : List Nat) {kt : List (Nat × AV)} {kh : List (Nat × Option (List AV))} (ot : σ → List (Nat × AV)) (oh : σ → List (Nat × Option (List AV))) (p : σ → Prop) (μ : σ → Nat) (i0 : σ) (h0 : p i0)
  (round : ∀ i, p i → AW P N c (pI (fun s' => ∃ j, p j ∧ μ j < μ i ∧ Le s' ⟨ot j ++ kt, oh j ++ kh, n, z0⟩) Q) ⟨ot i ++ kt, oh i ++ kh, n, z0⟩)
  (hk : oQ ks ts = kt := by repeat' (first | exact A6 | (apply xG; rfl))) (hj : qV js hs = kh := by repeat' (first | exact AZ | (apply wU; rfl)))
  (h1 : o8 ts (ot i0) := by repeat' (first | exact trivial | refine And.intro rfl ?_)) (h2 : nU hs (oh i0) := by repeat' (first | exact trivial | refine And.intro (.inr rfl) ?_)) : AW P N (.loop c) Q ⟨ts, hs, n, z0⟩ :=
 Il ks kt js kh ot oh p μ i0 h0 hk hj h1 h2 round
theorem dL (Rf : σ → List (List Bool)) (ks js : List Nat) {kt : List (Nat × AV)} {kh : List (Nat × Option (List AV))} (ot : σ → List (Nat × AV)) (oh : σ → List (Nat × Option (List AV))) (p : σ → Prop) (μ : σ → Nat) (i0 : σ) (h0 : p i0)
  (round : ∀ i, p i → AW P N c (pI (fun s' => ∃ j, p j ∧ μ j < μ i ∧ Le s' ⟨ot j ++ kt, (oh j ++ kh) ++ g8 (Rf j), n, ⟨0, aV + (Rf j).length⟩⟩) Q) ⟨ot i ++ kt, (oh i ++ kh) ++ g8 (Rf i), n, ⟨0, aV + (Rf i).length⟩⟩)
  (hk : oQ ks ts = kt := by repeat' (first | exact A6 | (apply xG; rfl))) (hj : qV js hs = kh := by repeat' (first | exact AZ | (apply wU; rfl)))
  (h1 : o8 ts (ot i0) := by repeat' (first | exact trivial | refine And.intro rfl ?_)) (h2 : nU hs (oh i0) := by repeat' (first | exact trivial | refine And.intro (.inr rfl) ?_))
  (hF : FamR (Rf i0) (Rf i0) hs hs := by repeat' (first | exact FamR.here | exact FamR.nil | (apply FamR.cons; focus rfl))) (hz : z0 = ⟨0, aV + (Rf i0).length⟩ := by first | rfl | (simp only [fW])) : AW P N (.loop c) Q ⟨ts, hs, n, z0⟩ :=
 Br 0 Rf ks kt js kh ot oh p μ i0 h0 hk hj h1 h2 hF hz round
end
theorem Le.renA (m : List (Nat × Nat)) {ts ts' : List (Nat × AV)} {hs hs' : List (Nat × Option (List AV))} {n n' : Nat} {lo : Lo} (hm : GY lo.lo n' m = true := by rfl) (hn : lo.lo ≤ n' := by decide)
  (h1 : Jm m lo ts ts' := by repeat' (first | exact trivial | refine And.intro ⟨_, rfl, ?_⟩ ?_ | refine And.intro ⟨_, _, rfl, rfl, ?_⟩ ?_ | exact Or.inr rfl | refine Or.inl ⟨?_, (by first | rfl | exact a8 _ _ | exact Pur.pf | exact PurV.pf)⟩ | refine Or.inr (All2.cons ?_ ?_) | refine All2.cons ?_ ?_ | exact All2.nil | rfl))
  (h2 : Dx m lo hs hs' := by repeat' (first | exact trivial | refine And.intro ⟨_, rfl, ?_⟩ ?_ | refine And.intro ⟨_, _, rfl, rfl, ?_⟩ ?_ | exact Or.inr rfl | refine Or.inl ⟨?_, (by first | rfl | exact a8 _ _ | exact Pur.pf | exact PurV.pf)⟩ | refine Or.inr (All2.cons ?_ ?_) | refine All2.cons ?_ ?_ | exact All2.nil | rfl)) : Le ⟨ts, hs, n, lo⟩ ⟨ts', hs', n', lo⟩ :=
 Le.ren m hm hn h1 h2
section
variable {P : Program} {k : FuncId} {fn : Func} {c : Code} {args : List AV} {N : Nat}
theorem aC {Q : AV → Prop} (hf : P.funcs[k]? = some fn) (hn : fn.ntmps = N) (h : AW P N c (n6 P fn.results (fun r _ => Q r ∧ r.pur = true)) ⟨iQ 0 args, [], 0, ⟨0, aV⟩⟩) (hb : fn.body = some c := by rfl)
  (hN : args.length ≤ N := by simp) : PC P k args Q := by subst hn; exact JB hf hb hN h
theorem aU {σ : Type} {H0 : List (Nat × Option (List AV))} {n : Nat} {p : σ → Prop} {rr : σ → AV} {hh : σ → List (Nat × Option (List AV))} (hf : P.funcs[k]? = some fn) (hn : fn.ntmps = N)
  (h : AW P N c (n6 P fn.results (fun r H' => ∃ x, p x ∧ r = rr x ∧ ∀ id cs, aT (hh x) id = some cs → H' id = some cs)) ⟨iQ 0 args, H0, n, ⟨n, aV⟩⟩) (hb : fn.body = some c := by rfl)
  (hN : args.length ≤ N := by simp) : MC P k args H0 n p rr hh := by subst hn; exact IW hf hb hN h
theorem AH {R0 : List (List Bool)} {r : AV} {hh : List (Nat × Option (List AV))} (hf : P.funcs[k]? = some fn) (hn : fn.ntmps = N)
  (h : AW P N c (n6 P fn.results (fun r' H' => r' = r ∧ ∀ id cs, aT (hh ++ g8 R0) id = some cs → H' id = some cs)) ⟨iQ 0 args, g8 R0, 0, ⟨0, aV + R0.length⟩⟩) (hb : fn.body = some c := by rfl)
  (hN : args.length ≤ N := by simp) : OC P k args R0 r hh := by subst hn; exact HO hf hb hN h
theorem Ia {R1 : List (List Bool)} {r : AV} (hf : P.funcs[k]? = some fn) (hn : fn.ntmps = N)
  (h : AW P N c (n6 P fn.results (fun r' H' => r' = r ∧ ∀ id cs, aT (g8 R1) id = some cs → H' id = some cs)) ⟨iQ 0 args, [], 0, ⟨0, aV⟩⟩) (hb : fn.body = some c := by rfl)
  (hN : args.length ≤ N := by simp) : PM P k args r R1 := by subst hn; exact Iq hf hb hN h
end
end Go.AL
namespace Go.AL
open Go.RowKit
set_option linter.unusedVariables false
def LM (op : BinOp) (a b : ByteArray) : Option Value :=
 match op with
 | .add => if a.size + b.size ≤ 9000000000000000000 then some (.string (a ++ b)) else none
 | .eql => some (.bool (a.toList == b.toList))
 | .neq => some (.bool (!(a.toList == b.toList)))
 | _ => none
def IE (s : ByteArray) (l : List Int) : ByteArray := l.foldl (fun r n => r.push (UInt8.ofNat n.toNat)) s
section
variable {P : Program} {C : Ctx} {ι : Pl} {T : Nat → Option AV} {F : Nat → Prop} {H : Nat → Option (List AV)} {a : Act} {w : World} {o : Oper}
theorem LB (g : TG C ι T H a w) {op : BinOp} {t t' : TypeId} {x y : Operand} {m n : ByteArray} {v : Value} (ho : o.op = .binOp op t x y t')
  (hx : ev T x = some (.v (.string m))) (hy : ev T y = some (.v (.string n))) (h : LM op m n = some v) : Pu P C ι H a w o (.v v) := by
 have h1 := bZ g hx
 have h2 := bZ g hy
 simp only [Rd] at h1 h2
 refine ⟨v, ?_, by simp [Rd]⟩
 have hg : (eqGuard op t x y (.string m) (.string n)).run P w = .ok () w := by
  unfold eqGuard
  cases op <;> simp
 have hb : (binOp op t (.string m) (.string n)).run P w = .ok v w := by
  cases op <;> simp only [LM] at h <;> first | (cases h; done) | skip
  ·split at h
   ·rename_i hs
    cases h
    have h9 : ¬ (((m.size + n.size : Nat) : Int) > IntKind.i64.max) := by
     have : IntKind.i64.max = 9223372036854775807 := rfl
     omega
    show ((if ((m.size + n.size : Nat) : Int) > IntKind.i64.max then _ else pure (.string (m ++ n)) : Sem Value)).run P w = _
    rw [if_neg h9]; simp
   ·cases h
  all_goals (cases h; simp [binOp, Op.stringOp])
 simp only [execOp, ho, h1, h2, Sem.run_bind, hg, Result.andThen_ok, hb, Sem.run_pure]
theorem BE {bad : Nat → Prop} {k : IntKind} : ∀ {ns : List Int} {l : List Value}, RdL w bad ι (ns.map fun n => .v (.int k n)) l → l = ns.map (Value.int k)
 | [], l, h => by simp only [List.map_nil, RdL] at h; exact h
 | n :: ns, l, h => by
  simp only [List.map_cons, RdL] at h
  obtain ⟨x, l', rfl, h0, h1, h2⟩ := h
  simp only [Rd] at h1
  rw [h1, BE h2, List.map_cons]
theorem Ny (g : TG C ι T H a w) (gh : HG C ι F H w) {s t el : TypeId} {x : Operand} {av : AV} {m : Nat} {ns : List Int} (ho : o.op = .convert s t x) (hx : ev T x = some av)
  (ht : mZ P s = some el) (hu : A7 P el = some .u8) (hst : P.underlying t = some .string) (hs : sCells H 1 (qD av) = some (m, ns.map fun n => .v (.int .u8 n))) :
  Pu P C ι H a w o (.v (.string (IE .empty ns))) := by
 obtain ⟨ad, c, l, h1, h2, h3, h4, h5⟩ := xV gh (mH (bZ g hx)) hs
 have hl := BE h3
 have hll : ns.length = m := by have := h2; rw [hl] at this; simpa using this
 refine ⟨.string (IE .empty ns), ?_, by simp [Rd]⟩
 have hcv : (convert s t (.slice ad m c)).run P w = (Conv.bytesToString (.slice ad m c)).run P w := run_convert_bytes_string w s t el ad m c (kH ht) (Cw hu) hst
 have hrun : (Conv.bytesToString (.slice ad m c)).run P w = .ok (.string (IE .empty ns)) w := by
  cases ad with
  | none =>
   rcases h5 with ⟨b, o', h⟩ | h
   ·cases h
   ·subst h
    have : ns = [] := List.eq_nil_of_length_eq_zero hll
    subst this
    rfl
  | some ad =>
   have hload : (loadCells ad m).run P w = .ok (ns.map (Value.int .u8)).toArray w := by
    rcases h5 with ⟨b, o', h⟩ | h
    ·cases h
     have := run_loadCells_list (P := P) w ⟨b, o', none⟩ l (fun j v hj => by rw [Addr.add_lit]; exact h4 b o' rfl j v hj)
     rw [h2, Nat.mul_one, hl] at this
     exact this
    ·subst h
     have : ns = [] := List.eq_nil_of_length_eq_zero hll
     subst this
     simp [loadCells, loadCellsFrom]
   exact run_bytesToString w ad m c ns hload
 simp only [execOp, ho, h1, Sem.run_bind, hcv, hrun, Result.andThen_ok, Sem.run_pure]
end
section
variable {P : Program} {N : Nat} {Q : Exit → AS → Prop} {all : Array Oper} {rest : List Oper} {ts : List (Nat × AV)} {hs : List (Nat × Option (List AV))} {n : Nat} {z0 : Lo} {md : Md}
variable {d : Nat} {ty : TypeId} {pos : String} {af : Array Edge}
theorem lH {op : BinOp} {t t' : TypeId} {x y : Operand} {m m' : ByteArray} {v : Value} (hx : ev (lk ts) x = some (.v (.string m))) (hy : ev (lk ts) y = some (.v (.string m')))
  (h : LM op m m' = some v) (hN : Nat.blt d N = true) {md' : Md} [hmd : MdA md (rO x ++ rO y) [.inl d] md'] (kk : RW P N all Q md' rest ⟨(d, .v v) :: ts, hs, n, z0⟩) : RW P N all Q md (⟨some d, .binOp op t x y t', ty, pos, af, none⟩ :: rest) ⟨ts, hs, n, z0⟩ :=
 eH rfl rfl (dE hN) (fun C ι F T H a w ag g gh => LB g rfl (ag.l.ev.trans hx) (ag.r.ev.trans hy) h) (by rw [hmd.pf]; exact kk)
theorem GR {s t el : TypeId} {x : Operand} {av : AV} {m : Nat} (ns : List Int) [ht : SlT P s el] [hu : InT P el .u8] [hst : StT P t] (hx : ev (lk ts) x = some av)
  (hs' : sCells (aT hs) 1 (qD av) = some (m, ns.map fun n => .v (.int .u8 n))) (hN : Nat.blt d N = true) {md' : Md} [hmd : MdA md (rO x ++ rA av) [.inl d] md'] (kk : RW P N all Q md' rest ⟨(d, .v (.string (IE .empty ns))) :: ts, hs, n, z0⟩) :
  RW P N all Q md (⟨some d, .convert s t x, ty, pos, af, none⟩ :: rest) ⟨ts, hs, n, z0⟩ :=
 eH rfl rfl (dE hN) (fun C ι F T H a w ag g gh => Ny g gh rfl (ag.l.ev.trans hx) ht.pf hu.pf hst.pf (ag.r.sCells.trans hs')) (by rw [hmd.pf]; exact kk)
theorem qZ {t : TypeId} {x i : Operand} {s : ByteArray} {k : IntKind} {m : Int} [ht : StT P t] (hx : ev (lk ts) x = some (.v (.string s)))
  (hi : ev (lk ts) i = some (.v (.int k m))) (hm : 0 ≤ m ∧ m < (s.size : Int)) (hN : Nat.blt d N = true) {md' : Md} [hmd : MdA md (rO x ++ rO i) [.inl d] md'] (kk : RW P N all Q md' rest ⟨(d, .v (.int .u8 ((s[m.toNat]!).toNat : Int))) :: ts, hs, n, z0⟩) :
  RW P N all Q md (⟨some d, .index t x i, ty, pos, af, none⟩ :: rest) ⟨ts, hs, n, z0⟩ :=
 EV (b := s[m.toNat]!) hx hi ht.pf hm.1 (by rw [getElem!_pos s m.toNat (by omega), getElem?_pos s m.toNat (by omega)]) (dE hN) (by rw [hmd.pf]; exact kk)
theorem FW {t : TypeId} {x : Operand} {lo hi : Option Operand} {s : ByteArray} {l h : Nat} [ht : StT P t] (hx : ev (lk ts) x = some (.v (.string s)))
  (hl : gW (lk ts) lo 0 = some l) (hh : gW (lk ts) hi s.size = some h) (hc : l ≤ h ∧ h ≤ s.size) (hN : Nat.blt d N = true) {md' : Md} [hmd : MdA md (rO x ++ (rB lo ++ rB hi)) [.inl d] md'] (kk : RW P N all Q md' rest ⟨(d, .v (.string (s.extract l h))) :: ts, hs, n, z0⟩) :
  RW P N all Q md (⟨some d, .slice t x lo hi none, ty, pos, af, none⟩ :: rest) ⟨ts, hs, n, z0⟩ := FT hx ht.pf hl hh hc (dE hN) (by rw [hmd.pf]; exact kk)
theorem Ii (m : Int) (h : 0 ≤ m ∧ m ≤ 255) : IntKind.u8.wrap m = m := by
 have : IntKind.u8.wrap m = m % 256 := rfl
 rw [this]; omega
theorem JY {t t' : TypeId} {x y : Operand} {m m' : Int} (hx : ev (lk ts) x = some (.v (.int .u8 m))) (hy : ev (lk ts) y = some (.v (.int .u8 m')))
  (h : 0 ≤ m + m' ∧ m + m' ≤ 255) (hN : Nat.blt d N = true) {md' : Md} [hmd : MdA md (rO x ++ rO y) [.inl d] md'] (kk : RW P N all Q md' rest ⟨(d, .v (.int .u8 (m + m'))) :: ts, hs, n, z0⟩) : RW P N all Q md (⟨some d, .binOp .add t x y t', ty, pos, af, none⟩ :: rest) ⟨ts, hs, n, z0⟩ :=
 eE hx hy (.inl rfl) (v := .int .u8 (m + m')) (by simp only [gO, Ii _ h]) (dE hN) (by rw [hmd.pf]; exact kk)
theorem Ew {t t' : TypeId} {x y : Operand} {m m' : Int} (hx : ev (lk ts) x = some (.v (.int .u8 m))) (hy : ev (lk ts) y = some (.v (.int .u8 m')))
  (h : 0 ≤ m - m' ∧ m - m' ≤ 255) (hN : Nat.blt d N = true) {md' : Md} [hmd : MdA md (rO x ++ rO y) [.inl d] md'] (kk : RW P N all Q md' rest ⟨(d, .v (.int .u8 (m - m'))) :: ts, hs, n, z0⟩) : RW P N all Q md (⟨some d, .binOp .sub t x y t', ty, pos, af, none⟩ :: rest) ⟨ts, hs, n, z0⟩ :=
 eE hx hy (.inl rfl) (v := .int .u8 (m - m')) (by simp only [gO, Ii _ h]) (dE hN) (by rw [hmd.pf]; exact kk)
theorem BD {s t : TypeId} {x : Operand} {k' : IntKind} {m : Int} [hd : InT P t .u8] [hs' : InT P s k'] (hx : ev (lk ts) x = some (.v (.int k' m))) (h : 0 ≤ m ∧ m ≤ 255) (hN : Nat.blt d N = true) {md' : Md} [hmd : MdA md (rO x) [.inl d] md'] (kk : RW P N all Q md' rest ⟨(d, .v (.int .u8 m)) :: ts, hs, n, z0⟩) :
  RW P N all Q md (⟨some d, .convert s t x, ty, pos, af, none⟩ :: rest) ⟨ts, hs, n, z0⟩ := Ej hx hd.pf hs'.pf (dE hN) (by rw [hmd.pf, Ii _ h]; exact kk)
end
theorem qR (n : Int) : (IE .empty [n]).size = 1 := rfl
theorem sD {a b : ByteArray} (h : a.size + b.size ≤ 9000000000000000000) : LM .add a b = some (.string (a ++ b)) := if_pos h
end Go.AL
namespace Go.AL
def IG (l : List Int) : ByteArray := l.foldl (fun r n => r.push (UInt8.ofNat n.toNat)) .empty
def gZ (v : Int) : ByteArray := IG [97 + v]
def CG (n : Int) : ByteArray := IG [48 + n] ++ .empty
theorem pR (l : List UInt8) : ByteArray.size ⟨l.toArray⟩ = l.length := rfl
theorem nO (v : Int) : (gZ v).size = 1 := rfl
theorem m8 (v : Int) : (CG v).size = 1 := by simp [CG, IG, ByteArray.size_append]
def rS (out : ByteArray) (k : Nat) (t : ByteArray) : ByteArray := (if 0 < k then out ++ ⟨#[59]⟩ else out) ++ t
mutual
def lW : Stmt → ByteArray
 | .mk op x y n th el =>
  if op = 1 then (gZ x ++ ⟨#[61]⟩) ++ CG n
  else if op = 2 then (gZ x ++ ⟨#[61, 98, 111, 120, 32]⟩) ++ CG n
  else if op = 3 then (gZ x ++ ⟨#[61]⟩) ++ gZ y
  else if op = 4 then (gZ x ++ ⟨#[61, 38]⟩) ++ gZ y
  else if op = 5 then (gZ x ++ ⟨#[61, 38, 109, 117, 116, 32]⟩) ++ gZ y
  else if op = 6 then (gZ x ++ ⟨#[61, 42]⟩) ++ gZ y
  else if op = 7 then ((⟨#[42]⟩ ++ gZ x) ++ ⟨#[61]⟩) ++ gZ y
  else if op = 8 then ⟨#[100, 114, 111, 112, 32]⟩ ++ gZ x
  else if op = 10 then (⟨#[108, 111, 111, 112, 123]⟩ ++ lX .empty 0 th) ++ ⟨#[125]⟩
  else (((⟨#[105, 102, 123]⟩ ++ lX .empty 0 th) ++ ⟨#[125, 123]⟩) ++ lX .empty 0 el) ++ ⟨#[125]⟩
def lX (out : ByteArray) (k : Nat) : List Stmt → ByteArray
 | [] => out
 | s :: l => lX (rS out k (lW s)) (k + 1) l
end
def jP (l : List Stmt) : ByteArray := lX .empty 0 l
theorem tU : ∀ (l : List Stmt) (out : ByteArray) (k : Nat) (s : Stmt), lX out k (l ++ [s]) = rS (lX out k l) (k + l.length) (lW s)
 | [], out, k, s => by simp only [List.nil_append, lX, List.length_nil, Nat.add_zero]
 | x :: l, out, k, s => by
  simp only [List.cons_append, lX, tU l, List.length_cons]
  rw [show k + 1 + l.length = k + (l.length + 1) from by omega]
theorem vN (l : List Stmt) (k : Nat) (h : k < l.length) : jP (l.take (k + 1)) = rS (jP (l.take k)) k (lW l[k]!) := by
 rw [bH _ _ h, jP, tU, List.length_take, Nat.min_eq_left (by omega), Nat.zero_add]; rfl
theorem Ga (s : Stmt) : lW s = 
  if s.op = 1 then (gZ s.x ++ ⟨#[61]⟩) ++ CG s.n
  else if s.op = 2 then (gZ s.x ++ ⟨#[61, 98, 111, 120, 32]⟩) ++ CG s.n
  else if s.op = 3 then (gZ s.x ++ ⟨#[61]⟩) ++ gZ s.y
  else if s.op = 4 then (gZ s.x ++ ⟨#[61, 38]⟩) ++ gZ s.y
  else if s.op = 5 then (gZ s.x ++ ⟨#[61, 38, 109, 117, 116, 32]⟩) ++ gZ s.y
  else if s.op = 6 then (gZ s.x ++ ⟨#[61, 42]⟩) ++ gZ s.y
  else if s.op = 7 then ((⟨#[42]⟩ ++ gZ s.x) ++ ⟨#[61]⟩) ++ gZ s.y
  else if s.op = 8 then ⟨#[100, 114, 111, 112, 32]⟩ ++ gZ s.x
  else if s.op = 10 then (⟨#[108, 111, 111, 112, 123]⟩ ++ jP s.th) ++ ⟨#[125]⟩
  else (((⟨#[105, 102, 123]⟩ ++ jP s.th) ++ ⟨#[125, 123]⟩) ++ jP s.el) ++ ⟨#[125]⟩ := by
 cases s; rw [lW]; rfl
mutual
theorem vH : ∀ s, (lW s).size + 1 ≤ 11 * cR s
 | .mk op x y n th el => by
  have h1 := lR th .empty 0
  have h2 := lR el .empty 0
  have h3 : ByteArray.size .empty = 0 := rfl
  rw [lW]
  simp only [cR]
  repeat' split
  all_goals simp only [ByteArray.size_append, pR, List.length_cons, List.length_nil, nO, m8]
  all_goals omega
theorem lR : ∀ (l : List Stmt) (out : ByteArray) (k : Nat), (lX out k l).size ≤ out.size + 11 * aS l
 | [], out, k => by simp only [lX, aS]; omega
 | s :: l, out, k => by
  have h1 := vH s
  have h2 := lR l (rS out k (lW s)) (k + 1)
  have h3 : (rS out k (lW s)).size ≤ out.size + 1 + (lW s).size := by
   unfold rS; split <;> simp only [ByteArray.size_append, pR, List.length_cons, List.length_nil] <;> omega
  simp only [lX, aS]
  omega
end
theorem k7 (l : List Stmt) : (jP l).size ≤ 11 * aS l := by
 have := lR l .empty 0
 have h3 : ByteArray.size .empty = 0 := rfl
 unfold jP; omega
theorem F3 {ts : List Int} {s : Stmt} (ht : b8 ts = true) (h : dC ts s = true) : 1 ≤ s.op ∧ s.op ≤ 8 ∧ 0 ≤ s.x ∧ s.x ≤ 5 ∧ 0 ≤ s.y ∧ s.y ≤ 5 ∧ (s.op = 1 ∨ s.op = 2 → 0 ≤ s.n ∧ s.n ≤ 9) := by
 have hl := iI ht
 have hx := k8 ht s.x
 have hy := k8 ht s.y
 unfold dC at h
 dsimp only at h
 repeat' split at h
 all_goals (first | (simp only [decide_eq_true_eq] at h; omega) | (simp at h; done))
end Go.AL
namespace Go.AL
theorem lG {A n : Nat} (hv : ∀ v, A.testBit v = true → v < n) : A < 2 ^ n := Nat.lt_pow_two_of_testBit _ fun v h => by
 cases hq : Nat.testBit _ v with
 | false => rfl
 | true => have := hv v hq; omega
theorem j6 {A n : Nat} (hn : n ≤ 62) (hv : A < 2 ^ n) : Sm A := ⟨Nat.lt_of_lt_of_le hv (Nat.pow_le_pow_right (by decide) hn)⟩
structure FB (ts : List Int) (pts : List Pnt) (f : Flows ts pts) : Prop where
 la : f.Aa.length = pts.length
 lm : f.Am.length = pts.length
 ln : f.An.length = pts.length
 ll : f.Al.length = pts.length
 lp : f.Ap.length = pts.length
 bA : ∀ i : Nat, f.Aa[i]! < 2 ^ ts.length
 bM : ∀ i : Nat, f.Am[i]! < 2 ^ ts.length
 bN : ∀ i : Nat, f.An[i]! < 2 ^ ts.length
 bL : ∀ i : Nat, f.Al[i]! < 2 ^ ts.length
 bP : ∀ i : Nat, f.Ap[i]! < 2 ^ pts.length
 sA : ∀ i : Nat, Sm f.Aa[i]!
 sM : ∀ i : Nat, Sm f.Am[i]!
 sN : ∀ i : Nat, Sm f.An[i]!
 sL : ∀ i : Nat, Sm f.Al[i]!
 sP : ∀ i : Nat, Sm f.Ap[i]!
 rl : ∀ i, i < pts.length → (cG f.Af i).length = 6
 rs : ∀ i, i < pts.length → ∀ z : Nat, Sm (cG f.Af i)[z]!
 af : ∀ i, i < pts.length → LF pts f.An i = f.Al[i]!
 kp : ∀ i, i < pts.length → lQ ts pts[i]! f.Al[i]! (cG f.Af i) < 2 ^ pts.length
 lo : ∀ i, i < pts.length → lQ ts pts[i]! f.Al[i]! (cG f.Af i) &&& f.Ap[i]! < 2 ^ pts.length
 cf : ∀ i, i < pts.length → uK ts pts f.Am f.Al f.Af f.Ap i < 2 ^ pts.length
theorem Flows.bnd {ts : List Int} {pts : List Pnt} (f : Flows ts pts) (w : WG ts pts) : FB ts pts f := by
 have hpl := w.pl
 have htl := w.tl
 have off : ∀ {A : List Nat} {n : Nat} {i : Nat}, A.length = pts.length → ¬ i < pts.length → A[i]! < 2 ^ n := fun {A n i} h hi => by
  rw [getElem!_neg A i (by omega)]; exact Nat.pow_pos (by decide)
 have bA : ∀ i : Nat, f.Aa[i]! < 2 ^ ts.length := fun i => by
  by_cases hi : i < pts.length
  ·exact lG fun v hv => ((f.ga.2 i hi v).1 hv).1
  ·exact off f.ga.1 hi
 have bM : ∀ i : Nat, f.Am[i]! < 2 ^ ts.length := fun i => by
  by_cases hi : i < pts.length
  ·exact lG fun v hv => rU w ((f.gm.2 i hi v).1 hv)
  ·exact off f.gm.1 hi
 have bN : ∀ i : Nat, f.An[i]! < 2 ^ ts.length := fun i => by
  by_cases hi : i < pts.length
  ·exact lG fun v hv => o7 w ((f.gn.2 i hi v).1 hv)
  ·exact off f.gn.1 hi
 have bL : ∀ i : Nat, f.Al[i]! < 2 ^ ts.length := fun i => by
  by_cases hi : i < pts.length
  ·exact lG fun v hv => by obtain ⟨k, _, h⟩ := (f.gl.2 i hi v).1 hv; exact o7 w h
  ·exact off f.gl.1 hi
 have bP : ∀ i : Nat, f.Ap[i]! < 2 ^ pts.length := fun i => by
  by_cases hi : i < pts.length
  ·exact lG fun v hv => (m5 ((f.gp.2 i hi v).1 hv)).1
  ·exact off f.gp.1 hi
 have rs : ∀ i, i < pts.length → ∀ z : Nat, (cG f.Af i)[z]! < 2 ^ pts.length := fun i hi z => by
  by_cases hz : z < 6
  ·rw [dX f.gf.1 hi hz]
   exact lG fun v hv => (xT w ((f.gf.2 i z hi hz v).1 hv)).2.2
  ·rw [getElem!_neg _ z (by rw [eF f.gf.1 hi]; exact hz)]; exact Nat.pow_pos (by decide)
 have kp : ∀ i, i < pts.length → lQ ts pts[i]! f.Al[i]! (cG f.Af i) < 2 ^ pts.length := fun i hi => lG fun v hv => by
  unfold lQ at hv
  rw [dU] at hv
  rcases hv with hv | ⟨z, hz, hv⟩
  ·simp at hv
  ·exact cL (rs i hi _) hv
 have lo : ∀ i, i < pts.length → lQ ts pts[i]! f.Al[i]! (cG f.Af i) &&& f.Ap[i]! < 2 ^ pts.length := fun i hi => Nat.and_lt_two_pow _ (bP i)
 refine ⟨f.ga.1, f.gm.1, f.gn.1, f.gl.1, f.gp.1, bA, bM, bN, bL, bP, fun i => j6 (by omega) (bA i), fun i => j6 (by omega) (bM i), fun i => j6 (by omega) (bN i), fun i => j6 (by omega) (bL i), fun i => j6 (by omega) (bP i),
  fun i hi => eF f.gf.1 hi, fun i hi z => j6 (by omega) (rs i hi z), fun i hi => ?_, kp, lo, fun i hi => qQ w (bP i)⟩
 rw [wO f.gl (AJ w f.gn), a6 _ _ _ hi]
end Go.AL
namespace Go.AL
open Go.RowKit
set_option linter.unusedVariables false
section
variable {P : Program} {C : Ctx} {ι : Pl} {F : Nat → Prop} {T : Nat → Option AV} {H : Nat → Option (List AV)} {a : Act} {w : World} {o : Oper}
theorem vF (z : Array Value) : ∀ n, (Builtin.zeroCells z n).toList = (List.replicate n z.toList).flatten := fun n => by
 have := qG z n (n * z.size) rfl
 simpa [Builtin.zeroCells, madeCells] using this
end
theorem Le.cut {ts : List (Nat × AV)} {hs : List (Nat × Option (List AV))} {n : Nat} {z0 : Lo} {i : Nat} {cs : List AV} (k : Nat) (hi : aT hs i = some cs) :
  Le ⟨ts, hs, n, z0⟩ ⟨ts, (i, some (cs.take k)) :: hs, n, z0⟩ := by
 rintro C a w ⟨h0, ι, g, gh⟩
 have hσ : ∀ id c, aT ((i, some (cs.take k)) :: hs) id = some c → ∃ c0, aT hs id = some c0 ∧ (c = c0 ∨ c = c0.take k) := by
  intro id c h
  rw [cS] at h
  split at h
  ·rename_i e; subst e; cases h; exact ⟨cs, hi, .inr rfl⟩
  ·exact ⟨c, h, .inl rfl⟩
 have car : Carry w (aM C.X ι (aT hs)) ι w (aM C.X ι (aT ((i, some (cs.take k)) :: hs))) ι := by
  refine ⟨fun b o' x h1 h2 => ⟨?_, h2⟩, fun _ _ h => h, fun _ => Nat.le_refl _⟩
  rintro (h | ⟨id, c, β, q1, q2⟩)
  ·exact h1 (.inl h)
  ·obtain ⟨c0, r, _⟩ := hσ id c q1
   exact h1 (.inr ⟨id, c0, β, r, q2⟩)
 refine ⟨h0, ι, ⟨g.df, g.sz, fun t av ht => ?_⟩, ⟨fun id c h => ?_, fun id id' c c' b β β' q1 q2 q3 q4 => ?_, gh.fr, gh.ex, gh.fresh⟩⟩
 ·obtain ⟨y, hy, hr⟩ := g.tm t av ht
  exact ⟨y, hy, Rd.carry car _ _ hr⟩
 ·obtain ⟨c0, r, e⟩ := hσ id c h
  rcases gh.obj id c0 r with ⟨h1, h2⟩ | ⟨b', β', arr', e', h1, h2, h3, h4, h5, h6⟩
  ·refine .inl ⟨h1, ?_⟩
   rcases e with e | e
   ·rw [e, h2]
   ·rw [e, h2]; simp
  ·refine .inr ⟨b', β', arr', e', h1, h2, ?_, ?_, h5, h6⟩
   ·rcases e with e | e
    ·rw [e]; exact h3
    ·rw [e, List.length_take]; omega
   ·have h7 := RdC.carryB car _ _ _ (fun o x hx => hx) h4
    rcases e with e | e
    ·rw [e]; exact h7
    ·rw [e]; exact RdC.take k h7
 ·obtain ⟨_, r1, _⟩ := hσ id c q1
  obtain ⟨_, r2, _⟩ := hσ id' c' q2
  exact gh.sep _ _ _ _ _ _ _ r1 r2 q3 q4
section
variable {P : Program} {N : Nat} {Q : Exit → AS → Prop} {all : Array Oper} {rest : List Oper} {ts : List (Nat × AV)} {hs : List (Nat × Option (List AV))} {n : Nat} {z0 : Lo}
variable {d : Nat} {ty : TypeId} {pos : String} {af : Array Edge}
theorem fU {fn : Go.Fn} {cs : Array Operand} {i : Nat} {cc c : List AV} (t : Nat) (hx : lk ts t = some (.optr i 0)) (hH : aT hs i = some cc) (hc : evL (lk ((t, .iptr cc) :: ts)) cs.toList = some c) (hN : Nat.blt d N = true)
  (kk : RW P N all Q .txt rest ⟨(d, .clos fn [] c) :: (t, .iptr cc) :: ts, (i, none) :: hs, n, z0⟩) : RW P N all Q .txt (⟨some d, .makeFunc fn #[] cs, ty, pos, af, none⟩ :: rest) ⟨ts, hs, n, z0⟩ :=
 c6 (l9 (f := []) (c := c) rfl hc hN (md' := .txt) kk) (Le.frzP hx hH)
end
end Go.AL
namespace Go.AL
structure Bnd where
 var : Int
 loan : Int
 src : Int
 deriving Inhabited, DecidableEq
def zB (b : Bnd) : List AV := [iv b.var, iv b.loan, iv b.src]
instance : FlT zB 3 := ⟨fun s => rfl⟩
instance : FE zB (fun b => [iv b.var, iv b.loan, iv b.src]) := ⟨fun _ => rfl⟩
instance (s : Bnd) : Pur (zB s) := ⟨rfl⟩
theorem sX {xs : List Bnd} {m : Nat} {a b c : Int} (hm : m = xs.length) : ((flat zB xs).drop 0).take (m * 3) ++ [iv a, iv b, iv c] = flat zB (xs ++ [⟨a, b, c⟩]) := eI hm rfl
structure WT (ts : List Int) (pts : List Pnt) : Prop where
 mv : ∀ i, i < pts.length → pts[i]!.op = 3 → ts[pts[i]!.x.toNat]! = ts[pts[i]!.y.toNat]! ∧ pts[i]!.x ≠ pts[i]!.y
 ln : ∀ i, i < pts.length → pts[i]!.op = 4 ∨ pts[i]!.op = 5 → eR ts[pts[i]!.x.toNat]! = true ∧ pts[i]!.x ≠ pts[i]!.y
def PtY (ts : List Int) (x : Pnt) : Prop := (x.op = 3 → ts[x.x.toNat]! = ts[x.y.toNat]! ∧ x.x ≠ x.y) ∧ (x.op = 4 ∨ x.op = 5 → eR ts[x.x.toNat]! = true ∧ x.x ≠ x.y)
theorem jI {ts : List Int} {v : Int} (h : 0 < fO ts v) : fO ts v = ts[v.toNat]! := by
 unfold fO at h ⊢
 split at h
 ·rename_i c; rw [if_pos c]
 ·omega
theorem E2 {ts : List Int} {s : Stmt} (h : dC ts s = true) : (s.op = 3 → ts[s.x.toNat]! = ts[s.y.toNat]! ∧ s.x ≠ s.y) ∧ (s.op = 4 ∨ s.op = 5 → eR ts[s.x.toNat]! = true ∧ s.x ≠ s.y) := by
 unfold dC at h
 dsimp only at h
 refine ⟨fun h3 => ?_, fun h4 => ?_⟩
 ·rw [h3] at h
  simp only [show ¬ (3 : Int) = 1 by decide, show ¬ (3 : Int) = 2 by decide, if_false, if_true] at h
  split at h
  ·cases h
  ·simp only [decide_eq_true_eq] at h
   refine ⟨?_, h.2.2⟩
   rw [← jI h.2.1, h.1, jI (by omega)]
 ·rcases h4 with h4 | h4 <;> rw [h4] at h
  ·simp only [show ¬ (4 : Int) = 1 by decide, show ¬ (4 : Int) = 2 by decide, show ¬ (4 : Int) = 3 by decide, if_false, if_true] at h
   split at h
   ·cases h
   ·simp only [decide_eq_true_eq] at h
    refine ⟨?_, h.2.2⟩
    rw [← jI (by omega), h.1]; rfl
  ·simp only [show ¬ (5 : Int) = 1 by decide, show ¬ (5 : Int) = 2 by decide, show ¬ (5 : Int) = 3 by decide, show ¬ (5 : Int) = 4 by decide, if_false, if_true] at h
   split at h
   ·cases h
   ·simp only [decide_eq_true_eq] at h
    refine ⟨?_, h.2.2⟩
    rw [← jI (by omega), h.1]; rfl
theorem PtY.no {ts : List Int} {x : Pnt} (h : 9 ≤ x.op) : PtY ts x := ⟨fun e => by omega, fun e => by omega⟩
mutual
theorem Nb {ts : List Int} : ∀ (s : Stmt) (d b : Nat), rR ts d s = true → ∀ x ∈ vT b s, PtY ts x
 | .mk op x y n th el, d, b, h => by
  simp only [rR] at h
  split at h
  ·rename_i hop
   simp only [Bool.and_eq_true] at h
   have hs := E2 h.2
   simp only [Stmt.op, Stmt.x, Stmt.y] at hs
   simp only [vT, hop.1, hop.2, if_false, List.mem_singleton]
   rintro z rfl
   exact hs
  ·rename_i hop
   cases d with
   | zero => cases h
   | succ d =>
    simp only [Bool.and_eq_true, decide_eq_true_eq] at h
    obtain ⟨⟨⟨_, _⟩, h1⟩, h2⟩ := h
    by_cases h9 : op = 9
    ·subst h9
     simp only [vT, if_true, List.mem_append, List.mem_singleton]
     rintro z (((rfl | hz) | rfl) | hz)
     ·exact PtY.no (by simp)
     ·exact tA th d (b + 1) h1 z hz
     ·exact PtY.no (by simp)
     ·exact tA el d (b + 2 + dF th) h2 z hz
    ·have h10 : op = 10 := by omega
     subst h10
     simp only [vT, if_true, show ((10 : Int) = 9) = False by simp, if_false, List.mem_append, List.mem_singleton]
     rintro z ((rfl | hz) | rfl)
     ·exact PtY.no (by simp)
     ·exact tA th d (b + 1) h1 z hz
     ·exact PtY.no (by simp)
theorem tA {ts : List Int} : ∀ (l : List Stmt) (d b : Nat), okL ts d l = true → ∀ x ∈ gB b l, PtY ts x
 | [], d, b, h => by simp [gB]
 | s :: l, d, b, h => by
  simp only [okL, Bool.and_eq_true] at h
  simp only [gB, List.mem_append]
  rintro x (hx | hx)
  ·exact Nb s d b h.1 x hx
  ·exact tA l d (b + oL s) h.2 x hx
end
theorem WT.of_valid {p : Prg} (h : bG p = true) : WT p.types (aB p) := by
 unfold bG at h
 simp only [Bool.and_eq_true, decide_eq_true_eq] at h
 obtain ⟨⟨_, hl⟩, _⟩ := h
 have key : ∀ i, i < (aB p).length → PtY p.types (aB p)[i]! := by
  intro i hi
  have hm := aY _ i hi
  unfold aB at hm
  rw [List.mem_append, List.mem_singleton] at hm
  rcases hm with hm | hm
  ·exact tA p.body 4 0 hl _ hm
  ·unfold aB; rw [hm]; exact PtY.no (by simp)
 exact ⟨fun i hi => (key i hi).1, fun i hi => (key i hi).2⟩
def JE (ts : List Int) (pts : List Pnt) (i : Nat) : List Bnd :=
 (if b0 pts[i]! = true then [⟨pts[i]!.x, i, -1⟩] else []) ++ (if (b0 pts[i]! = true ∨ pts[i]!.op = 3) ∧ eR ts[pts[i]!.y.toNat]! = true then [⟨pts[i]!.x, -1, pts[i]!.y⟩] else [])
def kM (ts : List Int) (pts : List Pnt) (k : Nat) : List Bnd := (List.range k).flatMap (JE ts pts)
theorem uS (ts : List Int) (pts : List Pnt) (k : Nat) : kM ts pts (k + 1) = kM ts pts k ++ JE ts pts k := by
 unfold kM; rw [List.range_succ, List.flatMap_append]; simp
theorem Lj (ts : List Int) (pts : List Pnt) (i : Nat) : (JE ts pts i).length ≤ 2 := by
 unfold JE; split <;> split <;> simp
theorem yR (ts : List Int) (pts : List Pnt) : ∀ k, (kM ts pts k).length ≤ 2 * k
 | 0 => by simp [kM]
 | k + 1 => by
  rw [uS, List.length_append]
  have := yR ts pts k
  have := Lj ts pts k
  omega
theorem zO {ts : List Int} {pts : List Pnt} {k : Nat} {b : Bnd} : b ∈ kM ts pts k ↔ ∃ i, i < k ∧ b ∈ JE ts pts i := by
 unfold kM; rw [List.mem_flatMap]; simp
structure BOk (nt n : Nat) (b : Bnd) : Prop where
 v : 0 ≤ b.var ∧ b.var < nt
 k : (0 ≤ b.loan ∧ b.loan < n ∧ b.src = -1) ∨ (b.loan = -1 ∧ 0 ≤ b.src ∧ b.src < nt ∧ b.src ≠ b.var)
theorem pK {ts : List Int} {pts : List Pnt} (w : WG ts pts) (t : WT ts pts) {b : Bnd} (h : b ∈ kM ts pts pts.length) : BOk ts.length pts.length b := by
 obtain ⟨i, hi, hb⟩ := zO.1 h
 unfold JE at hb
 have hx := w.x i hi
 have hy := w.y i hi
 rcases List.mem_append.1 hb with hb | hb
 ·split at hb
  ·rename_i hl
   have := fV hl
   rw [List.mem_singleton] at hb; subst hb
   exact ⟨⟨hx.1, hx.2 (by omega)⟩, .inl ⟨by dsimp only; omega, by dsimp only; omega, rfl⟩⟩
  ·simp at hb
 ·split at hb
  ·rename_i hl
   have h3 : pts[i]!.op = 3 ∨ pts[i]!.op = 4 ∨ pts[i]!.op = 5 := by
    rcases hl.1 with h | h
    ·exact .inr (fV h)
    ·exact .inl h
   rw [List.mem_singleton] at hb; subst hb
   refine ⟨⟨hx.1, hx.2 (by omega)⟩, .inr ⟨rfl, hy.1, hy.2 (by omega) (by omega), fun e => ?_⟩⟩
   dsimp only at e
   rcases h3 with h | h
   ·exact (t.mv i hi h).2 e.symm
   ·exact (t.ln i hi h).2 e.symm
  ·simp at hb
def Rg (ts : List Int) (pts : List Pnt) (a : Nat × Nat) : Prop := Clo (fun a : Nat × Nat => ∃ b, b ∈ kM ts pts pts.length ∧ b.var = (a.1 : Int) ∧ b.loan = (a.2 : Int))
 (fun a c => c.2 = a.2 ∧ ∃ b, b ∈ kM ts pts pts.length ∧ b.src = (a.1 : Int) ∧ b.var = (c.1 : Int)) a
theorem Mi {ts : List Int} {pts : List Pnt} (w : WG ts pts) (t : WT ts pts) {a : Nat × Nat} (h : Rg ts pts a) : a.1 < ts.length ∧ a.2 < pts.length := by
 induction h with
 | @base a h =>
  obtain ⟨b, hb, h1, h2⟩ := h
  have hk := pK w t hb
  have := hk.v
  rcases hk.k with h | h <;> exact ⟨by omega, by omega⟩
 | @step a c _ r ih =>
  obtain ⟨e, b, hb, h1, h2⟩ := r
  have := (pK w t hb).v
  exact ⟨by omega, by rw [e]; exact ih.2⟩
def GoodG (ts : List Int) (pts : List Pnt) (A : List Nat) : Prop := A.length = 6 ∧ ∀ v, v < 6 → ∀ l, A[v]!.testBit l = true ↔ Rg ts pts (v, l)
theorem GoodG.exist {ts : List Int} {pts : List Pnt} (w : WG ts pts) (t : WT ts pts) : ∃ A, GoodG ts pts A := by
 obtain ⟨A, h1, h2⟩ := lT 6 pts.length (fun v l => Rg ts pts (v, l)) (fun v l _ h => (Mi w t h).2)
 exact ⟨A, h1, h2⟩
end Go.AL
namespace Go.AL
def B8 (A : List Nat) (b : Bnd) : Nat := if b.src < 0 then A[b.var.toNat]! ||| 2 ^ b.loan.toNat else A[b.var.toNat]! ||| A[b.src.toNat]!
def Er (s : List Nat × Bool) (b : Bnd) : List Nat × Bool := if B8 s.1 b ≠ s.1[b.var.toNat]! then (s.1.set b.var.toNat (B8 s.1 b), true) else s
structure SRg (ts : List Int) (pts : List Pnt) (A : List Nat) : Prop where
 l : A.length = 6
 b : ∀ v : Nat, A[v]! < 2 ^ pts.length
 s : ∀ v : Nat, ∀ l, A[v]!.testBit l = true → Rg ts pts (v, l)
theorem SRg.rep (ts : List Int) (pts : List Pnt) : SRg ts pts (List.replicate 6 0) := by
 have h : ∀ v : Nat, (List.replicate 6 0)[v]! = 0 := fun v => by
  by_cases hv : v < 6
  ·exact cY _ _ _ hv
  ·rw [getElem!_neg _ v (by simpa using hv)]; rfl
 exact ⟨by simp, fun v => by rw [h]; exact Nat.pow_pos (by decide), fun v l hl => by rw [h] at hl; simp at hl⟩
theorem G1 {a b : Nat} (h : a ||| b ≠ a) : a < a ||| b := by
 have := Nat.left_le_or (n := a) (m := b)
 omega
theorem Nn {ts : List Int} {pts : List Pnt} (w : WG ts pts) (t : WT ts pts) {A : List Nat} (S : SRg ts pts A) {b : Bnd} (hb : b ∈ kM ts pts pts.length) :
  B8 A b < 2 ^ pts.length ∧ (∀ l, (B8 A b).testBit l = true → Rg ts pts (b.var.toNat, l)) ∧ ∃ y, B8 A b = A[b.var.toNat]! ||| y := by
 have ok := pK w t hb
 have hv := ok.v
 unfold B8
 rcases ok.k with ⟨h1, h2, h3⟩ | ⟨h1, h2, h3, _⟩
 ·rw [if_pos (by omega)]
  refine ⟨Nat.or_lt_two_pow (S.b _) (Nat.pow_lt_pow_right (by decide) (by omega)), fun l hl => ?_, _, rfl⟩
  rw [Nat.testBit_or, Bool.or_eq_true] at hl
  rcases hl with hl | hl
  ·exact S.s _ l hl
  ·rw [Nat.testBit_two_pow] at hl
   have hl := of_decide_eq_true hl
   exact .base ⟨b, hb, by dsimp only; omega, by dsimp only; omega⟩
 ·rw [if_neg (by omega)]
  refine ⟨Nat.or_lt_two_pow (S.b _) (S.b _), fun l hl => ?_, _, rfl⟩
  rw [Nat.testBit_or, Bool.or_eq_true] at hl
  rcases hl with hl | hl
  ·exact S.s _ l hl
  ·exact .step (a := (b.src.toNat, l)) (S.s _ l hl) ⟨rfl, b, hb, by dsimp only; omega, by dsimp only; omega⟩
theorem EC {ts : List Int} {pts : List Pnt} (w : WG ts pts) (t : WT ts pts) (A : List Nat) (c : Bool) (b : Bnd) (hb : b ∈ kM ts pts pts.length) (S : SRg ts pts A) :
  SRg ts pts (Er (A, c) b).1 ∧ ((Er (A, c) b = (A, c) ∧ B8 A b = A[b.var.toNat]!) ∨ ((Er (A, c) b).2 = true ∧ eT ((Er (A, c) b).1.map (fun x => 2 ^ pts.length - x)) < eT (A.map (fun x => 2 ^ pts.length - x)))) := by
 obtain ⟨h1, h2, y, h3⟩ := Nn w t S hb
 have ok := pK w t hb
 have hv := ok.v
 have htl := w.tl
 have hl := S.l
 unfold Er
 dsimp only
 by_cases hc : B8 A b ≠ A[b.var.toNat]!
 ·rw [if_pos hc]
  refine ⟨⟨by rw [List.length_set]; exact hl, fun v => ?_, fun v l hb' => ?_⟩, .inr ⟨rfl, ?_⟩⟩
  ·rw [aZ]; split
   ·exact h1
   ·exact S.b v
  ·rw [aZ] at hb'; split at hb'
   ·rename_i e; rw [← e.1]; exact h2 l hb'
   ·exact S.s v l hb'
  ·have e1 := mT (fun x => 2 ^ pts.length - x) A b.var.toNat (B8 A b) (by omega)
   have e2 : A[b.var.toNat]! < B8 A b := by rw [h3] at hc ⊢; exact G1 hc
   dsimp only at e1 ⊢
   omega
 ·rw [if_neg hc]
  exact ⟨S, .inl ⟨rfl, Classical.not_not.1 hc⟩⟩
def P7 (ts : List Int) (pts : List Pnt) (A : List Nat) : Prop := ∀ b ∈ kM ts pts pts.length, B8 A b = A[b.var.toNat]!
theorem LW {ts : List Int} {pts : List Pnt} (w : WG ts pts) (t : WT ts pts) (A : List Nat) (c : Bool) (S : SRg ts pts A) :
  SRg ts pts ((kM ts pts pts.length).foldl Er (A, c)).1 ∧ (((kM ts pts pts.length).foldl Er (A, c) = (A, c) ∧ P7 ts pts A) ∨ (((kM ts pts pts.length).foldl Er (A, c)).2 = true ∧ eT (((kM ts pts pts.length).foldl Er (A, c)).1.map (fun x => 2 ^ pts.length - x)) < eT (A.map (fun x => 2 ^ pts.length - x)))) :=
 iM Er (fun b s => B8 s b = s[b.var.toNat]!) (fun s => eT (s.map (fun x => 2 ^ pts.length - x))) (SRg ts pts) (kM ts pts pts.length) (fun s c' b hb hs => EC w t s c' b hb hs) A c S
theorem Hz {a b : Nat} (h : a ||| b = a) {l : Nat} (hl : b.testBit l = true) : a.testBit l = true := by
 have : (a ||| b).testBit l = true := by rw [Nat.testBit_or, hl, Bool.or_true]
 rwa [h] at this
theorem Hf {ts : List Int} {pts : List Pnt} (w : WG ts pts) (t : WT ts pts) {A : List Nat} (S : SRg ts pts A) (hC : P7 ts pts A) : GoodG ts pts A := by
 refine ⟨S.l, fun v hv l => ⟨S.s v l, fun h => ?_⟩⟩
 have key : ∀ a : Nat × Nat, Rg ts pts a → A[a.1]!.testBit a.2 = true := by
  refine Clo.sub ?_ ?_
  ·rintro ⟨v, l⟩ ⟨b, hb, h1, h2⟩
   have hc := hC b hb
   have ok := pK w t hb
   dsimp only at h1 h2 ⊢
   unfold B8 at hc
   rcases ok.k with ⟨k1, k2, k3⟩ | ⟨k1, _⟩
   ·rw [if_pos (by omega)] at hc
    have e1 : b.var.toNat = v := by omega
    have e2 : b.loan.toNat = l := by omega
    rw [e1, e2] at hc
    exact Hz hc (by rw [Nat.testBit_two_pow]; simp)
   ·omega
  ·rintro ⟨v, l⟩ ⟨v', l'⟩ hh ⟨e, b, hb, h1, h2⟩
   have hc := hC b hb
   dsimp only at e h1 h2 hh ⊢
   subst e
   unfold B8 at hc
   rw [if_neg (by omega)] at hc
   have e1 : b.var.toNat = v' := by omega
   have e2 : b.src.toNat = v := by omega
   rw [e1, e2] at hc
   exact Hz hc hh
 exact key (v, l) h
theorem ES {ts : List Int} {pts : List Pnt} {A B : List Nat} (h1 : GoodG ts pts A) (h2 : GoodG ts pts B) : A = B := by
 refine bT (by rw [h1.1, h2.1]) fun v hv => ?_
 rw [h1.1] at hv
 apply Nat.eq_of_testBit_eq
 intro l
 rw [Bool.eq_iff_iff, h1.2 v hv l, h2.2 v hv l]
end Go.AL
