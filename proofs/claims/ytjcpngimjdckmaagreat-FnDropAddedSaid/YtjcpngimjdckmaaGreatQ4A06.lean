/-
 A part of the proofs over this program: rules and contracts of its functions (the rules).
-/
import Derived.Test.YtjcpngimjdckmaaGreatQ4A05
import Derived.Laws.BytesString
import Derived.Laws.StructEq
import Derived.MapKept
import Derived.Orders
import Derived.Sort.Grow
set_option linter.unusedVariables false
set_option linter.unusedSimpArgs false
namespace Go.AL
open Go.RowKit
set_option linter.unusedVariables false
set_option linter.unusedSimpArgs false
mutual
theorem RnV.bw {w : World} {ρ : Nat → Option Nat} {bad bad' : Nat → Prop} {ι ι' : Pl} (h : ∀ i i', ρ i = some i' → ι i = ι' i') (hc : ∀ b, bad b → bad' b) : ∀ {v v' : AV}, RnV ρ v v' → ∀ {y : Value}, Rd w bad' ι' v' y → Rd w bad ι v y
 | _, _, .pur hp, y, k => Rd.pur _ y hp (Rd.carry (⟨fun b o x h1 h2 => ⟨fun q => h1 (hc b q), h2⟩, fun _ _ h => h, fun _ => Nat.le_refl _⟩ : Carry w bad' ι' w bad ι') _ _ k)
 | _, _, .own hi, y, k => by simp only [Rd, h _ _ hi] at k ⊢; exact k
 | _, _, .optr hi, y, k => by simp only [Rd, h _ _ hi] at k ⊢; exact k
 | _, _, .imm (cs := cs) (cs' := cs') hl, y, k => by
  have hlen := RnL.len hl
  simp only [Rd] at k ⊢
  obtain ⟨a, c, rfl, k⟩ := k
  refine ⟨a, c, rfl, ?_⟩
  rcases k with k | ⟨b, o, hn, rfl, k⟩
  ·exact .inl k
  ·refine .inr ⟨b, o, hn, rfl, ?_⟩
   rcases k with k | ⟨hb, k⟩
   ·subst k; exact .inl (List.eq_nil_of_length_eq_zero (by rw [hlen]; rfl))
   ·exact .inr ⟨fun q => hb (hc b q), RnL.bwC h hc hl k⟩
 | _, _, .agg hl, y, k => by
  simp only [Rd] at k ⊢
  obtain ⟨l, h1, h2⟩ := k
  exact ⟨l, h1, RnL.bwL h hc hl h2⟩
 | _, _, .tup hl, y, k => by
  simp only [Rd] at k ⊢
  obtain ⟨l, h1, h2⟩ := k
  exact ⟨l, h1, RnL.bwV h hc hl h2⟩
 | _, _, .clos h1 h2, y, k => by
  simp only [Rd] at k ⊢
  obtain ⟨lf, lc, q1, q2, q3⟩ := k
  exact ⟨lf, lc, q1, RnL.bwV h hc h1 q2, RnL.bwV h hc h2 q3⟩
theorem RnL.bwL {w : World} {ρ : Nat → Option Nat} {bad bad' : Nat → Prop} {ι ι' : Pl} (h : ∀ i i', ρ i = some i' → ι i = ι' i') (hc : ∀ b, bad b → bad' b) : ∀ {v v' : List AV}, RnL ρ v v' → ∀ {y : List Value}, RdL w bad' ι' v' y → RdL w bad ι v y
 | _, _, .pur hp, y, k => RdL.pur _ y hp (RdL.carry (⟨fun b o x h1 h2 => ⟨fun q => h1 (hc b q), h2⟩, fun _ _ h => h, fun _ => Nat.le_refl _⟩ : Carry w bad' ι' w bad ι') _ _ k)
 | _, _, .nil, y, k => by simpa only [RdL] using k
 | _, _, .cons h1 h2, y, k => by
  simp only [RdL] at k ⊢
  obtain ⟨x, l', q0, q1, q2, q3⟩ := k
  exact ⟨x, l', q0, q1, RnV.bw h hc h1 q2, RnL.bwL h hc h2 q3⟩
theorem RnL.bwV {w : World} {ρ : Nat → Option Nat} {bad bad' : Nat → Prop} {ι ι' : Pl} (h : ∀ i i', ρ i = some i' → ι i = ι' i') (hc : ∀ b, bad b → bad' b) : ∀ {v v' : List AV}, RnL ρ v v' → ∀ {y : List Value}, RdV w bad' ι' v' y → RdV w bad ι v y
 | _, _, .pur hp, y, k => RdV.pur _ y hp (RdV.carry (⟨fun b o x h1 h2 => ⟨fun q => h1 (hc b q), h2⟩, fun _ _ h => h, fun _ => Nat.le_refl _⟩ : Carry w bad' ι' w bad ι') _ _ k)
 | _, _, .nil, y, k => by simpa only [RdV] using k
 | _, _, .cons h1 h2, y, k => by
  simp only [RdV] at k ⊢
  obtain ⟨x, l', q0, q2, q3⟩ := k
  exact ⟨x, l', q0, RnV.bw h hc h1 q2, RnL.bwV h hc h2 q3⟩
theorem RnL.bwC {w : World} {ρ : Nat → Option Nat} {bad bad' : Nat → Prop} {ι ι' : Pl} (h : ∀ i i', ρ i = some i' → ι i = ι' i') (hc : ∀ b, bad b → bad' b) : ∀ {v v' : List AV}, RnL ρ v v' → ∀ {b o : Nat}, RdC w bad' ι' v' b o → RdC w bad ι v b o
 | _, _, .pur hp, b, o, k => RdC.pur _ b o hp (RdC.carryB (⟨fun b o x h1 h2 => ⟨fun q => h1 (hc b q), h2⟩, fun _ _ h => h, fun _ => Nat.le_refl _⟩ : Carry w bad' ι' w bad ι') _ _ _ (fun o x hx => hx) k)
 | _, _, .nil, b, o, k => by simp only [RdC]
 | _, _, .cons h1 h2, b, o, k => by
  simp only [RdC] at k ⊢
  obtain ⟨⟨x, q1, q2, q3⟩, q4⟩ := k
  exact ⟨⟨x, q1, q2, RnV.bw h hc h1 q3⟩, RnL.bwC h hc h2 q4⟩
end
theorem RnL.app {ρ : Nat → Option Nat} : ∀ {a a' b b' : List AV}, RnL ρ a a' → RnL ρ b b' → RnL ρ (a ++ b) (a' ++ b')
 | [], a', b, b', ha, hb => by
  have := ha.len
  cases a' with
  | nil => exact hb
  | cons _ _ => simp at this
 | c :: cs, _, b, b', .pur hp, hb => by
  simp only [cO, Bool.and_eq_true] at hp
  exact .cons (.pur hp.1) (RnL.app (.pur hp.2) hb)
 | c :: cs, _, b, b', .cons h1 h2, hb => .cons h1 (RnL.app h2 hb)
theorem RnL.flt {ρ : Nat → Option Nat} {α : Type} {f f' : α → List AV} : ∀ {xs : List α}, (∀ x ∈ xs, RnL ρ (f x) (f' x)) → RnL ρ (flat f xs) (flat f' xs)
 | [], _ => .nil
 | x :: xs, h => by
  have h1 := h x (List.mem_cons_self)
  have h2 := RnL.flt (f := f) (f' := f') (xs := xs) (fun y hy => h y (List.mem_cons_of_mem _ hy))
  simp only [flat, List.flatMap_cons] at h2 ⊢
  exact h1.app h2
theorem Le.renG (ρ : Nat → Option Nat) {ts ts' : List (Nat × AV)} {hs hs' : List (Nat × Option (List AV))} {n n' : Nat} {lo lo' : Lo} (hlo : lo'.lo = lo.lo) (hfb : lo.fb ≤ lo'.fb)
  (hid : ∀ id, id < lo.lo ∨ (bZ ≤ id ∧ id < lo.fb) → ρ id = some id) (hinj : ∀ a b c, ρ a = some c → ρ b = some c → a = b) (hfr : ∀ id, Fn n' lo' id → ρ id = none)
  (h1 : ∀ t v, lk ts' t = some v → ∃ v0, lk ts t = some v0 ∧ RnV ρ v v0) (h2 : ∀ id cs, bU hs' id = some cs → ∃ j cs0, ρ id = some j ∧ bU hs j = some cs0 ∧ RnL ρ cs cs0) :
  Le ⟨ts, hs, n, lo⟩ ⟨ts', hs', n', lo'⟩ := by
 rintro C a w ⟨h0, ι, g, gh⟩
 let ι' : Pl := fun id => match ρ id with | some j => ι j | none => none
 have hto : ∀ id j, ρ id = some j → ι' id = ι j := fun id j h => by simp only [ι', h]
 have hbad : ∀ b, aY C.X ι' (bU hs') b → aY C.X ι (bU hs) b := by
  rintro b (h | ⟨id, cs, β, q1, q2⟩)
  ·exact .inl h
  ·obtain ⟨j, cs0, q3, q4, _⟩ := h2 id cs q1
   rw [hto _ _ q3] at q2
   exact .inr ⟨j, cs0, β, q4, q2⟩
 refine ⟨fun id h => ?_, ι', ⟨g.df, g.sz, fun t v ht => ?_⟩, ⟨fun id cs h => ?_, fun id id' cs cs' b β β' q1 q2 q3 q4 => ?_, gh.fr, fun id p hp => ?_, fun id hid' => ?_⟩⟩
 ·have h' : lo.lo ≤ id := by rw [← hlo]; exact h
  rcases h0 id h' with q | q
  ·exact .inl ⟨q.1, Nat.lt_of_lt_of_le q.2 hfb⟩
  ·exact .inr q
 ·obtain ⟨v0, q1, q2⟩ := h1 t v ht
  obtain ⟨y, q3, q4⟩ := g.tm t v0 q1
  exact ⟨y, q3, RnV.bw hto hbad q2 q4⟩
 ·obtain ⟨j, cs0, q3, q4, q5⟩ := h2 id cs h
  rcases gh.obj j cs0 q4 with ⟨p1, p2⟩ | ⟨b, β, arr, e, p1, p2, p3, p4, p5, p6⟩
  ·refine .inl ⟨by rw [hto _ _ q3]; exact p1, ?_⟩
   subst p2; exact List.eq_nil_of_length_eq_zero (by rw [q5.len]; rfl)
  ·exact .inr ⟨b, β, arr, e, by rw [hto _ _ q3]; exact p1, p2, by rw [q5.len]; exact p3, RnL.bwC hto hbad q5 p4, p5, p6⟩
 ·obtain ⟨j, c1, r1, r2, _⟩ := h2 id cs q1
  obtain ⟨j', c2, r3, r4, _⟩ := h2 id' cs' q2
  rw [hto _ _ r1] at q3
  rw [hto _ _ r3] at q4
  have := gh.sep _ _ _ _ _ _ _ r2 r4 q3 q4
  subst this
  exact hinj _ _ _ r1 r3
 ·have : ρ id = some id := by
   refine hid id ?_
   rcases Nat.lt_or_ge id lo.lo with q | q
   ·exact .inl q
   ·rcases h0 id q with q1 | q1
    ·exact .inr q1
    ·rw [q1] at hp; cases hp
  rw [hto _ _ this]; exact gh.ex id p hp
 ·have := hfr id hid'
  simp only [ι', this]
def jI (m : List (Nat × Nat)) (lo : Lo) (pn : Option Nat) (id : Nat) : Option Nat :=
 if id < lo.lo then some id else if bZ ≤ id then (if id < lo.fb then some id else if id = lo.fb then pn else none) else wR m id
theorem hU {m : List (Nat × Nat)} {lo : Lo} {pn : Option Nat} {id : Nat} (h1 : bZ ≤ id) (h2 : id < lo.fb) : jI m lo pn id = some id := by
 unfold jI; split
 ·rfl
 ·simp [h1, h2]
def IY (ρ : Nat → Option Nat) (l : List (Nat × AV)) : List (Nat × AV) → Prop
 | [] => True
 | (t, v) :: l' => (∃ v0, lk l t = some v0 ∧ RnV ρ v v0) ∧ IY ρ l l'
def zN (ρ : Nat → Option Nat) (l : List (Nat × Option (List AV))) : List (Nat × Option (List AV)) → Prop
 | [] => True
 | (t, none) :: l' => zN ρ l l'
 | (t, some cs) :: l' => (∃ j cs0, ρ t = some j ∧ bU l j = some cs0 ∧ RnL ρ cs cs0) ∧ zN ρ l l'
theorem AO {ρ : Nat → Option Nat} {l : List (Nat × AV)} : ∀ {l' : List (Nat × AV)}, IY ρ l l' → ∀ t v, lk l' t = some v → ∃ v0, lk l t = some v0 ∧ RnV ρ v v0
 | [], _, t, v, h => by simp [lk] at h
 | (u, x) :: l', hr, t, v, h => by
  simp only [IY] at hr
  simp only [kG] at h
  split at h
  ·rename_i e; subst e; cases h; exact hr.1
  ·exact AO hr.2 t v h
theorem pT {a b : List (Nat × Option (List AV))} {u : Nat} {c : List AV} : bU (a ++ b) u = some c → bU a u = some c ∨ bU b u = some c := by
 induction a with
 | nil => exact fun h => .inr h
 | cons x a ih =>
  obtain ⟨t, v⟩ := x
  rw [List.cons_append, dN, dN]
  split
  ·exact fun h => .inl h
  ·exact ih
theorem ES {a b : List (Nat × Option (List AV))} {u : Nat} {c : List AV} (h : bU a u = some c) : bU (a ++ b) u = some c := by
 induction a with
 | nil => simp [bU] at h
 | cons x a ih =>
  obtain ⟨t, v⟩ := x
  rw [List.cons_append]
  rw [dN] at h ⊢
  split
  ·rename_i e; rw [if_pos e] at h; exact h
  ·rename_i e; rw [if_neg e] at h; exact ih h
theorem Em {a b : List (Nat × Option (List AV))} {u : Nat} (h : gR u a = true) : bU (a ++ b) u = bU b u := by
 induction a with
 | nil => rfl
 | cons x a ih =>
  obtain ⟨t, v⟩ := x
  simp only [gR, Bool.and_eq_true] at h
  rw [List.cons_append, dN, if_neg (by have := dX h.1; omega)]
  exact ih h.2
theorem o4 {n m : Nat} (h : n ≤ m) : ∀ {a : List (Nat × Option (List AV))}, gR n a = true → gR m a = true
 | [], _ => rfl
 | (t, v) :: a, k => by
  simp only [gR, Bool.and_eq_true] at k ⊢
  exact ⟨by have := dX k.1; simp [Nat.blt]; omega, o4 h k.2⟩
theorem pL {ρ : Nat → Option Nat} {l : List (Nat × Option (List AV))} : ∀ {l' : List (Nat × Option (List AV))}, zN ρ l l' → ∀ t cs, bU l' t = some cs →
  ∃ j cs0, ρ t = some j ∧ bU l j = some cs0 ∧ RnL ρ cs cs0
 | [], _, t, v, h => by simp [bU] at h
 | (u, none) :: l', hr, t, v, h => by
  simp only [zN] at hr
  simp only [dN] at h
  split at h
  ·cases h
  ·exact pL hr t v h
 | (u, some x) :: l', hr, t, v, h => by
  simp only [zN] at hr
  simp only [dN] at h
  split at h
  ·rename_i e; subst e; cases h; exact hr.1
  ·exact pL hr.2 t v h
theorem vA {m : List (Nat × Nat)} {lo : Lo} {pn : Option Nat} {n' : Nat} (hm : Fu lo.lo n' m = true) {a c : Nat} (h : jI m lo pn a = some c) :
  (a < lo.lo ∧ c = a) ∨ (lo.lo ≤ a ∧ bZ ≤ a ∧ a < lo.fb ∧ c = a) ∨ (lo.lo ≤ a ∧ bZ ≤ a ∧ a = lo.fb ∧ pn = some c) ∨ (lo.lo ≤ a ∧ a < bZ ∧ a < n' ∧ lo.lo ≤ c ∧ c < bZ ∧ wR m a = some c) := by
 unfold jI at h
 split at h
 ·cases h; exact .inl ⟨by assumption, rfl⟩
 ·split at h
  ·split at h
   ·cases h; exact .inr (.inl ⟨by omega, by assumption, by assumption, rfl⟩)
   ·split at h
    ·exact .inr (.inr (.inl ⟨by omega, by assumption, by assumption, h⟩))
    ·cases h
  ·have := jP hm _ _ h
   exact .inr (.inr (.inr ⟨by omega, by omega, by omega, by omega, by omega, h⟩))
theorem Le.renF (m : List (Nat × Nat)) (pn : Option Nat) {ts ts' : List (Nat × AV)} {hs hs' : List (Nat × Option (List AV))} {n n' : Nat} {lo lo' : Lo} (hm : Fu lo.lo n' m = true) (hn : lo.lo ≤ n') (hlo : lo'.lo = lo.lo)
  (hfb : lo'.fb = lo.fb + (if pn.isSome then 1 else 0)) (hp : ∀ b, pn = some b → lo.lo ≤ b ∧ b < bZ ∧ ∀ a, wR m a ≠ some b)
  (h1 : ∀ t v, lk ts' t = some v → ∃ v0, lk ts t = some v0 ∧ RnV (jI m lo pn) v v0) (h2 : ∀ id cs, bU hs' id = some cs → ∃ j cs0, jI m lo pn id = some j ∧ bU hs j = some cs0 ∧ RnL (jI m lo pn) cs cs0) :
  Le ⟨ts, hs, n, lo⟩ ⟨ts', hs', n', lo'⟩ := by
 refine Le.renG (jI m lo pn) hlo (by rw [hfb]; omega) (fun id h => ?_) (fun a b c ha hb => ?_) (fun id h => ?_) h1 h2
 ·rcases h with h | h
  ·unfold jI; rw [if_pos h]
  ·exact hU h.1 h.2
 ·rcases vA hm ha with a1 | a1 | a1 | a1 <;> rcases vA hm hb with b1 | b1 | b1 | b1
  all_goals try omega
  ·have := hp c b1.2.2.2; omega
  ·have := hp c b1.2.2.2; omega
  ·have := hp c a1.2.2.2; omega
  ·have := hp c a1.2.2.2; omega
  ·exact absurd b1.2.2.2.2.2 ((hp c a1.2.2.2).2.2 b)
  ·exact absurd a1.2.2.2.2.2 ((hp c b1.2.2.2).2.2 a)
  ·exact wI hm _ _ _ a1.2.2.2.2.2 b1.2.2.2.2.2
 ·cases hc : jI m lo pn id with
  | none => rfl
  | some c =>
   have h3 : n' ≤ id := h.1
   have h4 : id < bZ ∨ lo'.fb ≤ id := h.2
   rcases vA hm hc with a1 | a1 | a1 | a1
   ·omega
   ·omega
   ·rw [a1.2.2.2] at hfb; simp at hfb; omega
   ·omega
theorem Le.renF0 (m : List (Nat × Nat)) {R : List (List Bool)} {ts ts' : List (Nat × AV)} {hs lits : List (Nat × Option (List AV))} {n n' : Nat} {lo : Lo} {l0 : Nat} (hF : FamR R R hs hs) (hz : lo = ⟨l0, bZ + R.length⟩) (hm : Fu l0 n' m = true) (hn : l0 ≤ n')
  (h1 : IY (jI m lo none) ts ts') (h2 : zN (jI m lo none) hs lits) : Le ⟨ts, hs, n, lo⟩ ⟨ts', lits ++ jK R, n', ⟨l0, bZ + R.length⟩⟩ := by
 subst hz
 refine Le.renF m none hm hn rfl rfl (fun b h => by cases h) (AO h1) (fun id cs h => ?_)
 rcases pT h with h | h
 ·exact pL h2 id cs h
 ·obtain ⟨k, hk, rfl, rfl⟩ := lW h
  exact ⟨_, _, hU (by omega) (by show k + bZ < bZ + R.length; omega), hF.get hk, .pur (inferInstance : Pur (flat cB R[k]!)).pf⟩
theorem Le.renF1 (m : List (Nat × Nat)) (b : Nat) {r : List Bool} {R R' : List (List Bool)} {ts ts' : List (Nat × AV)} {hs lits : List (Nat × Option (List AV))} {n n' : Nat} {lo : Lo} {l0 : Nat} (hF : FamR R R hs hs) (hz : lo = ⟨l0, bZ + R.length⟩) (hm : Fu l0 n' m = true) (hn : l0 ≤ n')
  (hlb : l0 ≤ bZ) (hb : l0 ≤ b ∧ b < bZ ∧ (m.all fun p => !Nat.beq p.2 b) = true) (hr : bU hs b = some (flat cB r)) (hR : R' = R ++ [r])
  (h1 : IY (jI m lo (some b)) ts ts') (h2 : zN (jI m lo (some b)) hs lits) : Le ⟨ts, hs, n, lo⟩ ⟨ts', lits ++ jK R', n', ⟨l0, bZ + R'.length⟩⟩ := by
 subst hz hR
 refine Le.renF m (some b) hm hn rfl (by show bZ + (R ++ [r]).length = bZ + R.length + 1; simp [Nat.add_assoc]) (fun b' h => ?_) (AO h1) (fun id cs h => ?_)
 ·cases h
  refine ⟨hb.1, hb.2.1, fun a ha => ?_⟩
  have := wM ha
  have h3 := hb.2.2
  rw [List.all_eq_true] at h3
  have := h3 _ this
  simp at this
 ·rcases pT h with h | h
  ·exact pL h2 id cs h
  ·obtain ⟨k, hk, rfl, rfl⟩ := lW h
   rw [List.length_append, List.length_singleton] at hk
   rcases Nat.lt_or_ge k R.length with hk2 | hk2
   ·have e : (R ++ [r])[k]! = R[k]! := by rw [dG _ _ (by simp; omega), dG _ _ hk2, List.getElem_append_left hk2]
    exact ⟨_, _, hU (by omega) (by show k + bZ < bZ + R.length; omega), hF.get hk2, by rw [e]; exact .pur (inferInstance : Pur (flat cB R[k]!)).pf⟩
   ·have e : k = R.length := by omega
    subst e
    have e2 : (R ++ [r])[R.length]! = r := by rw [dG _ _ (by simp)]; simp
    refine ⟨b, flat cB r, ?_, hr, ?_⟩
    ·unfold jI
     rw [if_neg (by show ¬ R.length + bZ < l0; omega), if_pos (by omega), if_neg (by show ¬ R.length + bZ < bZ + R.length; omega), if_pos (by show R.length + bZ = bZ + R.length; omega)]
    ·rw [e2]; exact .pur (inferInstance : Pur (flat cB r)).pf
end Go.AL
namespace Go.AL
open Go.RowKit
set_option linter.unusedVariables false
set_option linter.unusedSimpArgs false
section
variable {P : Program} {N : Nat} {Q : Exit → AS → Prop}
theorem Le.litF {ts ts' : List (Nat × AV)} {hs lits : List (Nat × Option (List AV))} {n n' : Nat} {z0 z1 : Lo} {R : List (List Bool)} (h1 : qQ ts ts') (h2 : oY hs lits) (h3 : n ≤ n') (hF : FamR R R hs hs) (hz : z0 = z1) :
  Le ⟨ts, hs, n, z0⟩ ⟨ts', lits ++ jK R, n', z1⟩ := by
 refine Le.of (vK h1) (fun i c h => ?_) h3 hz
 rcases pT h with h | h
 ·exact nZ h2 i c h
 ·obtain ⟨k, hk, rfl, rfl⟩ := lW h
  exact hF.get hk
theorem eR {σ : Type} {c : Code} {ts : List (Nat × AV)} {hs : List (Nat × Option (List AV))} {n : Nat} {z0 : Lo} (l0 : Nat) (Rf : σ → List (List Bool)) (ks : List Nat) (kt : List (Nat × AV)) (js : List Nat) (kh : List (Nat × Option (List AV)))
  (ot : σ → List (Nat × AV)) (oh : σ → List (Nat × Option (List AV))) (p : σ → Prop) (μ : σ → Nat) (i0 : σ) (h0 : p i0) (hk : B7 ks ts = kt) (hj : DI js hs = kh)
  (h1 : qQ ts (ot i0)) (h2 : oY hs (oh i0)) (hF : FamR (Rf i0) (Rf i0) hs hs) (hz : z0 = ⟨l0, bZ + (Rf i0).length⟩)
  (round : ∀ i, p i → AW P N c (qR (fun s' => ∃ j, p j ∧ μ j < μ i ∧ Le s' ⟨ot j ++ kt, (oh j ++ kh) ++ jK (Rf j), n, ⟨l0, bZ + (Rf j).length⟩⟩) Q) ⟨ot i ++ kt, (oh i ++ kh) ++ jK (Rf i), n, ⟨l0, bZ + (Rf i).length⟩⟩) :
  AW P N (.loop c) Q ⟨ts, hs, n, z0⟩ := by
 subst hk hj
 exact Bo p (fun i => ⟨ot i ++ B7 ks ts, (oh i ++ DI js hs) ++ jK (Rf i), n, ⟨l0, bZ + (Rf i).length⟩⟩) μ ⟨i0, h0, Le.litF (o9 h1 (n4 ks)) (pH h2 (qF js)) (Nat.le_refl _) hF hz⟩ round
end
def vT (P : Program) (k : FuncId) (args : List AV) (H0 : Nat → Option (List AV)) (F0 : Nat → Prop) (Q : AV → (Nat → Option (List AV)) → Prop) : Prop :=
 ∀ (C : Ctx) (ι : Pl) (w : World) (vals : List Value), C.w0 = w → C.ι0 = ι → HG C ι F0 H0 w → RdV w (aY C.X ι H0) ι args vals →
  Calls P k vals.toArray w (fun e w' => ∃ v r H' ι', e = .returned v ∧ Q r H' ∧ Rd w' (aY C.X ι' H') ι' r v ∧ HG C ι' (fun _ => False) H' w')
theorem nG {P : Program} {k : FuncId} {fn : Func} {c : Code} {args : List AV} {H0 : List (Nat × Option (List AV))} {n fb : Nat} {Q : AV → (Nat → Option (List AV)) → Prop} (hf : P.funcs[k]? = some fn) (hb : fn.body = some c)
  (hN : args.length ≤ fn.ntmps) (h : AW P fn.ntmps c (pI P fn.results Q) ⟨k8 0 args, H0, n, ⟨n, fb⟩⟩) : vT P k args (bU H0) (Fn n ⟨n, fb⟩) Q := by
 intro C ι w vals hw hι g hr
 refine calls_of_wp hf hb ?_
 let C' : Ctx := { C with N := fn.ntmps }
 have hlen := RdV.length hr
 have g' : HG C' ι (Fn n ⟨n, fb⟩) (bU H0) w := ⟨g.obj, g.sep, g.fr, g.ex, g.fresh⟩
 have gt : TG C' ι (lk (k8 0 args)) (bU H0) { tmps := vals.toArray ++ Array.replicate (fn.ntmps - vals.toArray.size) undef, defers := [] } w := by
  refine ⟨rfl, by simp [C', hlen]; omega, fun t av ht => ?_⟩
  obtain ⟨y, _, h1, h2⟩ := qD hr ht
  refine ⟨y, ?_, h2⟩
  have hlt : t < vals.length := by
   rcases Nat.lt_or_ge t vals.length with q | q
   ·exact q
   ·rw [List.getElem?_eq_none (by simpa using q)] at h1; cases h1
  rw [Array.getElem?_append_left (by simpa using hlt)]
  simpa using h1
 refine wp_mono (h C' _ w rfl ⟨fun id hid => ?_, ι, gt, g'⟩) ?_
 ·by_cases q : bZ ≤ id ∧ id < fb
  ·exact .inl q
  ·refine .inr ?_
   show C.ι0 id = none
   rw [hι]
   exact g.fresh id ⟨hid, by show id < bZ ∨ fb ≤ id; omega⟩
 rintro e a' w' ⟨s1, ⟨he, s', l, hle, hres, hQ⟩, hg⟩
 obtain ⟨_, ι', g1, g2⟩ := hle C' a' w' hg
 obtain ⟨ys, h1, h2⟩ := vZ (P := P) g1 g2 hres
 have hres' : (results fn a'.tmps).run P w' = .ok (if h : ys.toArray.size = 1 then ys.toArray[0] else .tuple ys.toArray) w' := by
  have hr1 : results fn a'.tmps = (do let vs ← fn.results.mapM (Au a'); pure (if h : vs.size = 1 then vs[0] else .tuple vs)) := by
   unfold results
   congr 1
  rw [hr1, Array.mapM_eq_mapM_toList, Sem.run_bind, Sem.run_map, h1]
  simp only [Result.andThen_ok, Sem.run_pure]
 have g3 : HG C ι' (fun _ => False) (bU s'.hs) w' := ⟨g2.obj, g2.sep, g2.fr, g2.ex, fun _ h => h.elim⟩
 rcases he with rfl | rfl
 ·exact ⟨g1.df, _, hres', _, _, _, ι', rfl, hQ, n5 h2, g3⟩
 ·exact ⟨g1.df, _, hres', _, _, _, ι', rfl, hQ, n5 h2, g3⟩
def oE (mpF fr : Nat → Option Nat) (j : Nat) : Option Nat := match mpF j with | some i => some i | none => fr j
theorem yL {P : Program} {k : FuncId} {args args' : List AV} {H0 hh : Nat → Option (List AV)} {F0 : Nat → Prop} {mpF fr fi : Nat → Option Nat} {r rr' : AV} {H2 : Nat → Option (List AV)}
  (h : vT P k args H0 F0 (fun r' H' => r' = r ∧ ∀ j cs, hh j = some cs → H' j = some cs)) (hmi : ∀ j j' i, mpF j = some i → mpF j' = some i → j = j') (hfi : ∀ i j, fi i = some j ↔ fr j = some i) (hmf : ∀ j i, fr j = some i → mpF j = none) (hF0 : ∀ j, F0 j → mpF j = none)
  {C : Ctx} {ι : Pl} {F : Nat → Prop} {H : Nat → Option (List AV)} {w : World} (g : HG C ι F H w)
  (hH0 : ∀ j i, mpF j = some i → ∃ cs cs', H0 j = some cs ∧ H i = some cs' ∧ RnL mpF cs cs') (hH1 : ∀ j cs, H0 j = some cs → ∃ i, mpF j = some i)
  (ha : RnL mpF args args') (hF : ∀ j i, fr j = some i → F i) (hr : RnV (oE mpF fr) r rr')
  (hw : ∀ i cs', H2 i = some cs' → (∃ j cs, oE mpF fr j = some i ∧ hh j = some cs ∧ RnL (oE mpF fr) cs cs') ∨ (H i = some cs' ∧ ∀ j, mpF j ≠ some i))
  {vals : List Value} (hv : RdV w (aY C.X ι H) ι args' vals) :
  Calls P k vals.toArray w (fun e w' => ∃ v ι', e = .returned v ∧ HG C ι' (fun j => F j ∧ fi j = none) H2 w' ∧ Carry w (aY C.X ι H) ι w' (aY C.X ι' H2) ι' ∧ Rd w' (aY C.X ι' H2) ι' rr' v) := by
 let W0 : Nat → Prop := fun b => ∃ (j i β : Nat), mpF j = some i ∧ ι i = some (some (b, β))
 let Xc : Nat → Prop := fun b => aY C.X ι H b ∧ ¬ W0 b
 let ιc : Pl := fun j => match mpF j with | some i => ι i | none => none
 let C' : Ctx := { N := 0, w0 := w, W0 := W0, X := Xc, ι0 := ιc, xlt := fun b hb => g.bad_lt b hb.1 }
 have hW0 : ∀ b, W0 b → ¬ C.X b ∧ (C.W0 b ∨ C.w0.heap.size ≤ b) ∧ aY C.X ι H b := by
  rintro b ⟨j, i, β, h1, h2⟩
  obtain ⟨cs, cs', q1, q2, q3⟩ := hH0 j i h1
  rcases g.obj i cs' q2 with ⟨q, _⟩ | ⟨b', β', arr, e, q, q4, q5, q6, q7, q8⟩
  ·rw [q] at h2; cases h2
  ·rw [q] at h2; cases h2; exact ⟨q7, q8, .inr ⟨i, cs', _, q2, q⟩⟩
 have hnone : ∀ i j, fi i = some j → ι i = none := fun i j h1 => g.fresh i (hF j i ((hfi i j).1 h1))
 have hιc : ∀ j i, mpF j = some i → ιc j = ι i := fun j i h => by simp only [ιc, h]
 have hbadc : ∀ b, aY Xc ιc H0 b → aY C.X ι H b := by
  rintro b (⟨h1, _⟩ | ⟨j, cs, β, h1, h2⟩)
  ·exact h1
  ·obtain ⟨i, hi⟩ := hH1 j cs h1
   rw [hιc j i hi] at h2
   exact (hW0 b ⟨j, _, β, hi, h2⟩).2.2
 have hbadc2 : ∀ b, aY C.X ι H b → aY Xc ιc H0 b := by
  intro b hb
  by_cases hw0 : W0 b
  ·obtain ⟨j, i, β, h1, h2⟩ := hw0
   obtain ⟨cs, cs', q1, q2, q3⟩ := hH0 j i h1
   exact .inr ⟨j, cs, β, q1, by rw [hιc j i h1]; exact h2⟩
  ·exact .inl ⟨hb, hw0⟩
 have gc : HG C' ιc F0 H0 w := by
  refine ⟨fun j cs hj => ?_, fun j j' cs cs' b β β' h1 h2 h3 h4 => ?_, Fr.refl _ _, fun _ _ h => h, fun j hj => ?_⟩
  ·obtain ⟨i, hi⟩ := hH1 j cs hj
   obtain ⟨cs1, cs', q1, q2, q3⟩ := hH0 j _ hi
   rw [hj] at q1; cases q1
   rcases g.obj _ cs' q2 with ⟨q4, q5⟩ | ⟨b', β', arr, e, q4, q5, q6, q7, q8, q9⟩
   ·refine .inl ⟨by rw [hιc j i hi]; exact q4, ?_⟩
    subst q5
    exact List.eq_nil_of_length_eq_zero (by rw [q3.len]; rfl)
   ·have hw0 : W0 b' := ⟨j, _, β', hi, q4⟩
    exact .inr ⟨b', β', arr, e, by rw [hιc j i hi]; exact q4, q5, by rw [q3.len]; exact q6, RnL.bwC hιc hbadc q3 q7, fun hx => hx.2 hw0, .inl hw0⟩
  ·obtain ⟨i, hi⟩ := hH1 j cs h1
   obtain ⟨i', hi'⟩ := hH1 j' cs' h2
   obtain ⟨_, c1, _, q2, _⟩ := hH0 j _ hi
   obtain ⟨_, c2, _, q2', _⟩ := hH0 j' _ hi'
   rw [hιc j i hi] at h3
   rw [hιc j' i' hi'] at h4
   have := g.sep _ _ _ _ _ _ _ q2 q2' h3 h4
   exact hmi j j' i hi (by rw [hi', this])
  ·show ιc j = none
   simp only [ιc, hF0 j hj]
 have hvc : RdV w (aY C'.X ιc H0) ιc args vals := RnL.bwV hιc hbadc ha hv
 refine (h C' ιc w vals rfl rfl gc hvc).mono ?_
 rintro e w' ⟨v, r0, H', ιr, rfl, ⟨rfl, hkeep⟩, hrd, gr⟩
 let ι' : Pl := fun i => match fi i with | some j => ιr j | none => ι i
 have hmpf : ∀ (j i : Nat), mpF j = some i → fi i = none := by
  intro j i hj
  cases hq : fi i with
  | none => rfl
  | some j2 =>
   obtain ⟨cs, cs', q1, q2, q3⟩ := hH0 j i hj
   rcases g.obj i cs' q2 with ⟨q, _⟩ | ⟨_, _, _, _, q, _⟩ <;> (rw [hnone i _ hq] at q; cases q)
 have hιr : ∀ (j i : Nat), mpF j = some i → ιr j = ι i := by
  intro j i hj
  obtain ⟨cs, cs', q1, q2, q3⟩ := hH0 j i hj
  have : ∃ q, ι i = some q := by
   rcases g.obj i cs' q2 with ⟨q, _⟩ | ⟨_, _, _, _, q, _⟩
   ·exact ⟨_, q⟩
   ·exact ⟨_, q⟩
  obtain ⟨q, hq⟩ := this
  rw [hq]
  exact gr.ex j q (by show ιc j = some q; rw [hιc j i hj]; exact hq)
 have hρ1 : ∀ j i, oE mpF fr j = some i → (mpF j = some i) ∨ (mpF j = none ∧ fr j = some i) := by
  intro j i hj
  unfold oE at hj
  split at hj
  ·cases hj; exact .inl (by assumption)
  ·exact .inr ⟨by assumption, hj⟩
 have hto : ∀ j i, oE mpF fr j = some i → ιr j = ι' i := by
  intro j i hj
  rcases hρ1 j i hj with h2 | ⟨h1, h2⟩
  ·rw [hιr j i h2]; simp only [ι', hmpf j i h2]
  ·simp only [ι', (hfi i j).2 h2]
 have hcase := hw
 have hold : ∀ i cs', H i = some cs' → ι' i = ι i := by
  intro i cs' hi
  simp only [ι']
  cases hq : fi i with
  | none => rfl
  | some j2 => rcases g.obj i cs' hi with ⟨q, _⟩ | ⟨_, _, _, _, q, _⟩ <;> (rw [hnone i _ hq] at q; cases q)
 have hnW : ∀ (i : Nat) cs' b β, H i = some cs' → (∀ j, mpF j ≠ some i) → ι i = some (some (b, β)) → ¬ W0 b := by
  rintro i cs' b β hi hm hb ⟨j, i2, β2, q1, q2⟩
  obtain ⟨cs, c2, _, q3, _⟩ := hH0 j i2 q1
  have := g.sep _ _ _ _ _ _ _ hi q3 hb q2
  subst this
  exact hm j q1
 have hobjlt : ∀ i cs' b β, H i = some cs' → ι i = some (some (b, β)) → b < w.heap.size := fun i cs' b β hi hb => g.bad_lt b (.inr ⟨i, cs', β, hi, hb⟩)
 have hcal : ∀ j cs b β, H' j = some cs → ιr j = some (some (b, β)) → W0 b ∨ w.heap.size ≤ b := by
  intro j cs b β hj hb
  rcases gr.obj j cs hj with ⟨q, _⟩ | ⟨b', β', arr, e, q, q4, q5, q6, q7, q8⟩
  ·rw [q] at hb; cases hb
  ·rw [q] at hb; cases hb; exact q8
 have hbad : ∀ b, aY C.X ι' H2 b → aY C.X ι H b ∨ w.heap.size ≤ b := by
  rintro b (h1 | ⟨i, cs', β, h1, h2⟩)
  ·exact .inl (.inl h1)
  ·rcases hcase i cs' h1 with ⟨j, cs, q1, q2, q3⟩ | ⟨q1, q2⟩
   ·rw [← hto j i q1] at h2
    rcases hcal j cs b β (hkeep j cs q2) h2 with q | q
    ·exact .inl (hW0 b q).2.2
    ·exact .inr q
   ·rw [hold i cs' q1] at h2; exact .inl (.inr ⟨i, cs', β, q1, h2⟩)
 have hfr := gr.fr
 have hcar : Carry w (aY C.X ι H) ι w' (aY C.X ι' H2) ι' := by
  refine ⟨fun b o y h1 h2 => ?_, fun i q hq => ?_, hfr.bs⟩
  ·have hlt := kR h2
   refine ⟨fun hb => ?_, ?_⟩
   ·rcases hbad b hb with h | h
    ·exact h1 h
    ·omega
   ·rw [eK (hfr.block b hlt (fun hw0 => h1 (hW0 b hw0).2.2))]; exact h2
  ·simp only [ι']
   cases hq2 : fi i with
   | none => exact hq
   | some j2 => rw [hnone i _ hq2] at hq; cases hq
 have hrn2 : RnH w' (oE mpF fr) (aY C'.X ιr H') ιr (aY C.X ι' H2) ι' := by
  refine ⟨⟨fun b o y h1 h2 => ⟨fun hb => h1 ?_, h2⟩, fun _ _ h => h, fun _ => Nat.le_refl _⟩, fun j i hj => hto j i hj⟩
  rcases hb with hb | ⟨i, cs', β, q1, q2⟩
  ·exact .inl ⟨.inl hb, fun hw0 => (hW0 b hw0).1 hb⟩
  ·rcases hcase i cs' q1 with ⟨j, cs, r1, r2, r3⟩ | ⟨r1, r2⟩
   ·rw [← hto j i r1] at q2
    exact .inr ⟨j, cs, β, hkeep j cs r2, q2⟩
   ·rw [hold i cs' r1] at q2
    exact .inl ⟨.inr ⟨i, cs', β, r1, q2⟩, hnW i cs' b β r1 r2 q2⟩
 refine ⟨v, ι', rfl, ⟨fun i cs' hi => ?_, fun i i2 cs1 cs2 b β β' h1 h2 h3 h4 => ?_, ⟨hfr.os.trans g.fr.os, hfr.tape.trans g.fr.tape, hfr.output.trans g.fr.output, Nat.le_trans g.fr.size hfr.size, fun b hb hnw => ?_, fun b => Nat.le_trans (g.fr.bs b) (hfr.bs b)⟩, fun i q hq => hcar.pl i q (g.ex i q hq), fun i hi => ?_⟩, hcar, RnV.fwd hrn2 hr hrd⟩
 ·rcases hcase i cs' hi with ⟨j, cs, q1, q2, q3⟩ | ⟨q1, q2⟩
  ·rcases gr.obj j cs (hkeep j cs q2) with ⟨r1, r2⟩ | ⟨b, β, arr, e, r1, r2, r3, r4, r5, r6⟩
   ·refine .inl ⟨by rw [← hto j i q1]; exact r1, ?_⟩
    subst r2
    exact List.eq_nil_of_length_eq_zero (by rw [← q3.len]; rfl)
   ·refine .inr ⟨b, β, arr, e, by rw [← hto j i q1]; exact r1, r2, by rw [← q3.len]; exact r3, RnL.fwdC hrn2 q3 r4, ?_, ?_⟩
    ·rcases r6 with r6 | r6
     ·exact (hW0 b r6).1
     ·intro hX
      have := C.xlt b hX
      have := g.fr.size
      have : w.heap.size ≤ b := r6
      omega
    ·rcases r6 with r6 | r6
     ·exact (hW0 b r6).2.1
     ·refine .inr ?_
      have := g.fr.size
      have : w.heap.size ≤ b := r6
      omega
  ·rcases g.obj i cs' q1 with ⟨r1, r2⟩ | ⟨b, β, arr, e, r1, r2, r3, r4, r5, r6⟩
   ·exact .inl ⟨by rw [hold i cs' q1]; exact r1, r2⟩
   ·have hlt := fW r2
    have hbl := hfr.block b hlt (hnW i cs' b β q1 q2 r1)
    exact .inr ⟨b, β, arr, e, by rw [hold i cs' q1]; exact r1, by rw [hbl]; exact r2, r3, RdC.carryB hcar _ _ _ (fun o y hy => by rw [eK hbl]; exact hy) r4, r5, r6⟩
 ·rcases hcase i cs1 h1 with ⟨j, c1, q1, q2, q3⟩ | ⟨q1, q2⟩ <;> rcases hcase i2 cs2 h2 with ⟨j2, c2, q1', q2', q3'⟩ | ⟨q1', q2'⟩
  ·rw [← hto j i q1] at h3
   rw [← hto j2 i2 q1'] at h4
   have := gr.sep _ _ _ _ _ _ _ (hkeep j c1 q2) (hkeep j2 c2 q2') h3 h4
   subst this
   rw [q1] at q1'; cases q1'; rfl
  ·rw [← hto j i q1] at h3
   rw [hold i2 cs2 q1'] at h4
   have hlt := hobjlt i2 cs2 b _ q1' h4
   rcases hcal j c1 b _ (hkeep j c1 q2) h3 with q | q
   ·exact (hnW i2 cs2 b _ q1' q2' h4 q).elim
   ·omega
  ·rw [hold i cs1 q1] at h3
   rw [← hto j2 i2 q1'] at h4
   have hlt := hobjlt i cs1 b _ q1 h3
   rcases hcal j2 c2 b _ (hkeep j2 c2 q2') h4 with q | q
   ·exact (hnW i cs1 b _ q1 q2 h3 q).elim
   ·omega
  ·rw [hold i cs1 q1] at h3
   rw [hold i2 cs2 q1'] at h4
   exact g.sep _ _ _ _ _ _ _ q1 q1' h3 h4
 ·have hb2 : b < w.heap.size := by have := g.fr.size; omega
  rw [hfr.block b hb2 (fun hw0 => ?_)]
  ·exact g.fr.block b hb hnw
  ·rcases (hW0 b hw0).2.1 with q | q
   ·exact hnw q
   ·omega
 ·simp only [ι', hi.2]
  exact g.fresh i hi.1
end Go.AL
namespace Go.AL
open Go.RowKit
attribute [local irreducible] bZ
set_option linter.unusedVariables false
set_option linter.unusedSimpArgs false
def IZ (P : Program) (k : FuncId) (args : List AV) (R0 : List (List Bool)) (r : AV) (hh : List (Nat × Option (List AV))) : Prop :=
 vT P k args (bU (jK R0)) (Fn 0 ⟨0, bZ + R0.length⟩) (fun r' H' => r' = r ∧ ∀ id cs, bU (hh ++ jK R0) id = some cs → H' id = some cs)
def Jd (P : Program) (k : FuncId) (args : List AV) (r : AV) (R1 : List (List Bool)) : Prop :=
 vT P k args (bU []) (Fn 0 ⟨0, bZ⟩) (fun r' H' => r' = r ∧ ∀ id cs, bU (jK R1) id = some cs → H' id = some cs)
theorem oS {hs : List (Nat × Option (List AV))} {r r' : AV} {R0 : List (List Bool)} {hh : List (Nat × Option (List AV))} (hr : r' = r) (hh' : oY hs hh) (hF : FamR R0 R0 hs hs) : r' = r ∧ ∀ id cs, bU (hh ++ jK R0) id = some cs → bU hs id = some cs := by
 refine ⟨hr, fun id cs h => ?_⟩
 rcases pT h with h | h
 ·exact nZ hh' id cs h
 ·obtain ⟨k, hk, rfl, rfl⟩ := lW h
  exact hF.get hk
theorem HS {hs : List (Nat × Option (List AV))} {r r' : AV} {R0 : List (List Bool)} (hr : r' = r) (hF : FamR R0 R0 hs hs) : r' = r ∧ ∀ id cs, bU (jK R0) id = some cs → bU hs id = some cs :=
 oS (hh := []) hr trivial hF
def Fs (b m : Nat) (j : Nat) : Option Nat := if bZ ≤ j ∧ j < bZ + m then some (b + j) else none
def Iv (n n1 : Nat) (j : Nat) : Option Nat := if j < n1 then some (n + j) else none
def Ja (n n1 : Nat) (i : Nat) : Option Nat := if n ≤ i ∧ i < n + n1 then some (i - n) else none
def I4 (b m n n1 : Nat) : Nat → Option Nat := oE (Fs b m) (Iv n n1)
theorem Cz {mpF fr : Nat → Option Nat} {j i : Nat} (h : mpF j = some i) : oE mpF fr j = some i := by unfold oE; rw [h]
theorem Cc {mpF fr : Nat → Option Nat} {j : Nat} (h : mpF j = none) : oE mpF fr j = fr j := by unfold oE; rw [h]
theorem mJ {b m k : Nat} (h : k < m) : Fs b m (k + bZ) = some (b + k + bZ) := by
 unfold Fs; rw [if_pos (by omega), Nat.add_assoc]
theorem GV {b m n n1 k : Nat} (h : k < m) : I4 b m n n1 (k + bZ) = some (b + k + bZ) := Cz (mJ h)
theorem pP {b m n n1 j : Nat} (h : j < n1) (hb : j < bZ) : I4 b m n n1 j = some (n + j) := by
 have e : Fs b m j = none := by unfold Fs; rw [if_neg (by omega)]
 refine (Cc e).trans ?_
 unfold Iv; rw [if_pos h]
theorem rn_rows {ρ : Nat → Option Nat} {b b' m w : Nat} (h : ∀ k, k < m → ρ (b + k + bZ) = some (b' + k + bZ)) : RnL ρ (flat (wP b w) (List.range m)) (flat (wP b' w) (List.range m)) :=
 RnL.flt fun k hk => by rw [List.mem_range] at hk; exact .cons (.own (h k hk)) .nil
theorem dV {m : List (Nat × Nat)} {lo : Lo} {pn : Option Nat} {b k w : Nat} (h : bZ + (b + k) ≤ lo.fb) : RnL (jI m lo pn) (flat (wP b w) (List.range k)) (flat (wP b w) (List.range k)) :=
 rn_rows fun j hj => hU (by omega) (by omega)
def Iw (ρ : Nat → Option Nat) (hh : List (Nat × Option (List AV))) : List (Nat × Option (List AV)) → Prop
 | [] => True
 | (i, none) :: l => Iw ρ hh l
 | (i, some cs') :: l => (∃ j cs, ρ j = some i ∧ bU hh j = some cs ∧ RnL ρ cs cs') ∧ Iw ρ hh l
theorem zP {ρ : Nat → Option Nat} {hh : List (Nat × Option (List AV))} : ∀ {ws : List (Nat × Option (List AV))}, Iw ρ hh ws → ∀ i cs', (i, some cs') ∈ ws → ∃ j cs, ρ j = some i ∧ bU hh j = some cs ∧ RnL ρ cs cs'
 | [], _, i, cs', h => by simp at h
 | (u, none) :: l, hw, i, cs', h => by
  simp only [Iw] at hw
  rcases List.mem_cons.1 h with h | h
  ·cases h
  ·exact zP hw i cs' h
 | (u, some c) :: l, hw, i, cs', h => by
  simp only [Iw] at hw
  rcases List.mem_cons.1 h with h | h
  ·cases h; exact hw.1
  ·exact zP hw.2 i cs' h
section
variable {P : Program} {N : Nat} {Q : Exit → AS → Prop} {all : Array Oper} {rest : List Oper} {ts : List (Nat × AV)} {hs : List (Nat × Option (List AV))} {n : Nat} {z0 : Lo} {md : Md}
variable {d : Nat} {ty : TypeId} {pos : String} {af : Array Edge}
theorem yI {k : FuncId} {args : Array Operand} {tys : Array TypeId} {avs avs0 : List AV} {R R0 : List (List Bool)} {r rr' : AV} {hh : List (Nat × Option (List AV))} (b n1 : Nat) (D : List Nat) (ws : List (Nat × Option (List AV))) [hc : CaT P k]
  (ha : evL (lk ts) args.toList = some avs) (h : IZ P k avs0 R0 r hh) (hF : FamR R R hs hs) (hb : b + R0.length ≤ R.length) (hR : ∀ k, k < R0.length → R0[k]! = R[b + k]!) (hD : ∀ k, k < R0.length → b + k + bZ ∈ D)
  (har : RnL (Fs b R0.length) avs0 avs) (hk : gR bZ hh = true) (hr : RnV (I4 b R0.length n n1) r rr') (hw : Iw (I4 b R0.length n n1) hh ws) (hM : Nat.ble (n + n1) bZ = true) (hN : Nat.blt d N = true)
  {md' : Md} [hmd : MdA md (jH args.toList ++ D.map .inr) (ws.map (fun p => .inr p.1) ++ [.inl d]) md']
  (kk : RW P N all Q md' rest ⟨(d, rr') :: ts, lE hs ws, n + n1, z0⟩) : RW P N all Q md (⟨some d, .call ⟨.value (.func k), args, tys⟩, ty, pos, af, none⟩ :: rest) ⟨ts, hs, n, z0⟩ := by
 have hM' := Nat.le_of_ble_eq_true hM
 refine jZ (rs := jH args.toList ++ D.map .inr) (ws := ws) (n' := n + n1) (out := rr') rfl (Nat.le_add_right _ _) (.inr hM') (fun C ι F T H a w K Q' hCN ag hFf g gh hK => ?_) (fun x hx => by cases hx; exact dX hN) (by simp only [wD]; rw [← hmd.pf] at kk; exact kk)
 simp only [Oper.wp, fZ hc.pf, Oper.upon]
 have hH : ∀ q, q < R0.length → H (b + q + bZ) = some (flat cB R[b + q]!) := fun q hq => by
  rw [ag.r.h _ (List.mem_map_of_mem (hD q hq))]; exact hF.get (by omega)
 have hmp : ∀ j i, Fs b R0.length j = some i → ∃ q, q < R0.length ∧ j = q + bZ ∧ i = b + q + bZ := by
  intro j i hj
  unfold Fs at hj
  split at hj
  ·cases hj; exact ⟨j - bZ, by omega, by omega, by omega⟩
  ·cases hj
 have hrh : ∀ j i, Iv n n1 j = some i → j < n1 ∧ i = n + j := by
  intro j i hj
  unfold Iv at hj
  split at hj
  ·cases hj; exact ⟨by assumption, rfl⟩
  ·cases hj
 refine (yL (fr := Iv n n1) (fi := Ja n n1) (hh := bU (hh ++ jK R0)) (H2 := j4 H ws) h (fun j j' i h1 h2 => ?_) (fun i j => ?_) (fun j i h1 => ?_) (fun j hj => ?_) gh (fun j i hj => ?_) (fun j cs hj => ?_) har (fun j i hj => ?_) hr (fun i cs' hi => ?_) (iF g (ag.l.evL.trans ha))).mono ?_
 ·obtain ⟨q, _, _, _⟩ := hmp j i h1
  obtain ⟨q', _, _, _⟩ := hmp j' i h2
  omega
 ·unfold Ja Iv
  constructor
  ·intro h1
   split at h1
   ·cases h1; rw [if_pos (by omega)]; congr 1; omega
   ·cases h1
  ·intro h1
   split at h1
   ·cases h1; rw [if_pos (by omega)]; congr 1; omega
   ·cases h1
 ·have := hrh j i h1
  unfold Fs; rw [if_neg (by omega)]
 ·have h1 : j < bZ ∨ bZ + R0.length ≤ j := hj.2
  unfold Fs; rw [if_neg (by omega)]
 ·obtain ⟨q, q1, rfl, rfl⟩ := hmp j i hj
  refine ⟨flat cB R0[q]!, flat cB R[b + q]!, ?_, hH q q1, ?_⟩
  ·rw [nN, if_pos q1]
  ·rw [hR q q1]; exact .pur (inferInstance : Pur (flat cB R[b + q]!)).pf
 ·obtain ⟨q, q1, rfl, rfl⟩ := lW hj
  exact ⟨_, mJ q1⟩
 ·obtain ⟨q1, rfl⟩ := hrh j i hj
  exact hFf _ (Nat.le_add_right _ _) (by omega)
 ·rcases r8 hi with h1 | ⟨h1, h2⟩
  ·obtain ⟨j, cs, q1, q2, q3⟩ := zP hw i cs' h1
   exact .inl ⟨j, cs, q1, ES q2, q3⟩
  ·by_cases hq : ∃ q, q < R0.length ∧ i = b + q + bZ
   ·obtain ⟨q, q1, rfl⟩ := hq
    rw [hH q q1] at h1
    cases h1
    refine .inl ⟨q + bZ, flat cB R0[q]!, GV q1, ?_, ?_⟩
    ·rw [Em (o4 (by omega) hk), nN, if_pos q1]
    ·rw [hR q q1]; exact .pur (inferInstance : Pur (flat cB R[b + q]!)).pf
   ·refine .inr ⟨h1, fun j hj => hq ?_⟩
    obtain ⟨q, q1, _, q2⟩ := hmp j i hj
    exact ⟨q, q1, q2⟩
 ·rintro e w' ⟨v, ι', rfl, g', c', hrd⟩
  refine hK ι' w' v (g.carry c') (g'.less (fun _ _ h => h) (fun j hj => ⟨hj.1, ?_⟩)).1 hrd
  unfold Ja; rw [if_neg hj.2]
theorem D0 {k : FuncId} {args : Array Operand} {tys : Array TypeId} {avs : List AV} {R R1 : List (List Bool)} {r rr' : AV} {hs' : List (Nat × Option (List AV))} {l0 : Nat} [hc : CaT P k]
  (ha : evL (lk ts) args.toList = some avs) (h : Jd P k avs r R1) (hp : cO avs = true) (hF : FamR R (R ++ R1) hs hs') (hz : z0 = ⟨l0, bZ + R.length⟩)
  (hr : RnV (fun j => if bZ ≤ j ∧ j < bZ + R1.length then some (R.length + j) else none) r rr') (hM : Nat.ble n bZ = true) (hN : Nat.blt d N = true)
  (kk : RW P N all Q .txt rest ⟨(d, rr') :: ts, hs', n, ⟨l0, bZ + (R ++ R1).length⟩⟩) : RW P N all Q .txt (⟨some d, .call ⟨.value (.func k), args, tys⟩, ty, pos, af, none⟩ :: rest) ⟨ts, hs, n, z0⟩ := by
 subst hz
 rintro C a w hCN ⟨h0, ι, g, gh⟩
 refine wpList_plain rfl (fun K hK => ?_)
 simp only [Oper.wp, fZ hc.pf, Oper.upon]
 have hM' := Nat.le_of_ble_eq_true hM
 have hrh : ∀ j i, (fun j => if bZ ≤ j ∧ j < bZ + R1.length then some (R.length + j) else none) j = some i → bZ ≤ j ∧ j < bZ + R1.length ∧ i = R.length + j := by
  intro j i hj
  dsimp only at hj
  split at hj
  ·rename_i hh; cases hj; exact ⟨hh.1, hh.2, rfl⟩
  ·cases hj
 have hrho : oE (fun _ => none) (fun j => if bZ ≤ j ∧ j < bZ + R1.length then some (R.length + j) else none) = (fun j => if bZ ≤ j ∧ j < bZ + R1.length then some (R.length + j) else none) := by funext j; rfl
 have hlen : (R ++ R1).length = R.length + R1.length := List.length_append
 refine (yL (mpF := fun _ => none) (fr := fun j => if bZ ≤ j ∧ j < bZ + R1.length then some (R.length + j) else none) (fi := fun i => if bZ + R.length ≤ i ∧ i < bZ + R.length + R1.length then some (i - R.length) else none) (hh := bU (jK R1)) (H2 := bU hs') (args' := avs)
  h (fun j j' i h1 h2 => by cases h1) (fun i j => ?_) (fun j i h1 => rfl) (fun j hj => rfl) gh (fun j i hj => by cases hj) (fun j cs hj => by simp [bU] at hj) (.pur hp) (fun j i hj => ?_) (rr' := rr') (by rw [hrho]; exact hr) (fun i cs' hi => ?_) (iF g ha)).mono ?_
 ·constructor
  ·intro h1
   split at h1
   ·cases h1; rw [if_pos (by omega)]; congr 1; omega
   ·cases h1
  ·intro h1
   split at h1
   ·cases h1; rw [if_pos (by omega)]; congr 1; omega
   ·cases h1
 ·obtain ⟨q1, q2, rfl⟩ := hrh j i hj
  exact ⟨by show n ≤ R.length + j; omega, .inr (by show bZ + R.length ≤ R.length + j; omega)⟩
 ·rcases Nat.lt_or_ge i bZ with hi2 | hi2
  ·exact .inr ⟨by rw [hF.low i hi2]; exact hi, fun j => by simp⟩
  ·obtain ⟨q, rfl⟩ : ∃ q, i = q + bZ := ⟨i - bZ, by omega⟩
   have hg := hF.symm.fam q
   rw [hi] at hg
   split at hg
   ·rename_i hq
    cases hg
    rcases Nat.lt_or_ge q R.length with hq2 | hq2
    ·refine .inr ⟨?_, fun j => by simp⟩
     have e : (R ++ R1)[q]! = R[q]! := by rw [dG _ _ hq, dG _ _ hq2, List.getElem_append_left hq2]
     rw [e]; exact hF.get hq2
    ·refine .inl ⟨(q - R.length) + bZ, flat cB R1[q - R.length]!, ?_, ?_, ?_⟩
     ·rw [hrho]
      show (if bZ ≤ q - R.length + bZ ∧ q - R.length + bZ < bZ + R1.length then some (R.length + (q - R.length + bZ)) else none) = some (q + bZ)
      rw [if_pos (by omega)]; congr 1; omega
     ·rw [nN, if_pos (by omega)]
     ·have e : (R ++ R1)[q]! = R1[q - R.length]! := by rw [dG _ _ hq, dG _ _ (by omega), List.getElem_append_right hq2]
      rw [e]; exact .pur (inferInstance : Pur (flat cB R1[q - R.length]!)).pf
   ·cases hg
 ·rintro e w' ⟨v, ι', rfl, g', c', hrd⟩
  refine hK _ _ (kk C _ _ hCN ⟨fun id hid => ?_, ι', ?_, ?_⟩)
  ·rcases h0 id hid with q | q
   ·exact .inl ⟨q.1, by have := q.2; show id < bZ + (R ++ R1).length; have h5 : id < bZ + R.length := this; omega⟩
   ·exact .inr q
  ·show TG C ι' (lk ((d, rr') :: ts)) _ _ _
   rw [kU]
   exact (g.carry c').put (hCN.symm ▸ dX hN) hrd
  ·refine (g'.less (fun _ _ h => h) (fun j hj => ?_)).1
   have h3 : n ≤ j := hj.1
   have h4 : j < bZ ∨ bZ + (R ++ R1).length ≤ j := hj.2
   refine ⟨⟨h3, ?_⟩, ?_⟩
   ·show j < bZ ∨ bZ + R.length ≤ j
    omega
   ·rw [if_neg (by omega)]
end
theorem y7 {P : Program} {k : FuncId} {fn : Func} {c : Code} {args : List AV} {R0 : List (List Bool)} {r : AV} {hh : List (Nat × Option (List AV))} (hf : P.funcs[k]? = some fn) (hb : fn.body = some c) (hN : args.length ≤ fn.ntmps)
  (h : AW P fn.ntmps c (pI P fn.results (fun r' H' => r' = r ∧ ∀ id cs, bU (hh ++ jK R0) id = some cs → H' id = some cs)) ⟨k8 0 args, jK R0, 0, ⟨0, bZ + R0.length⟩⟩) : IZ P k args R0 r hh := nG hf hb hN h
theorem En {P : Program} {k : FuncId} {fn : Func} {c : Code} {args : List AV} {R1 : List (List Bool)} {r : AV} (hf : P.funcs[k]? = some fn) (hb : fn.body = some c) (hN : args.length ≤ fn.ntmps)
  (h : AW P fn.ntmps c (pI P fn.results (fun r' H' => r' = r ∧ ∀ id cs, bU (jK R1) id = some cs → H' id = some cs)) ⟨k8 0 args, [], 0, ⟨0, bZ⟩⟩) : Jd P k args r R1 := nG hf hb hN h
end Go.AL
namespace Go.AL
open Go.RowKit
set_option linter.unusedVariables false
set_option linter.unusedSimpArgs false
theorem Le.virt {ts : List (Nat × AV)} {hs : List (Nat × Option (List AV))} {n : Nat} {z0 : Lo} (hn : n < bZ) : Le ⟨ts, hs, n, z0⟩ ⟨ts, (n, some []) :: hs, n + 1, z0⟩ := by
 rintro C a w ⟨h0, ι, g, gh⟩
 obtain ⟨g1, c1⟩ := gh.virt (id := n) ⟨Nat.le_refl _, .inl hn⟩
 have e : bU ((n, some []) :: hs) = eO (bU hs) n (some []) := yU _ _ _
 refine ⟨h0, eO ι n (some none), ?_, ?_⟩
 ·show TG C _ (lk ts) (bU ((n, some []) :: hs)) a w
  rw [e]; exact g.carry c1
 ·show HG C _ _ (bU ((n, some []) :: hs)) w
  rw [e]
  refine (g1.less (fun _ _ h => h) (fun j hj => ?_)).1
  have h1 : n + 1 ≤ j := hj.1
  exact ⟨⟨by show n ≤ j; omega, hj.2⟩, by omega⟩
theorem Le.cellsN {ts : List (Nat × AV)} {hs : List (Nat × Option (List AV))} {n : Nat} {z0 : Lo} {i q : Nat} {cs cs' cq : List AV} (hi : bU hs i = some cs) (hq : bU hs q = some cq) (hl : cs'.length = cs.length)
  (h : ∀ (w : World) (bad : Nat → Prop) (ι : Pl) (b β : Nat), (∃ p, ι q = some p) → RdC w bad ι cs b β → RdC w bad ι cs' b β) :
  Le ⟨ts, hs, n, z0⟩ ⟨ts, (i, some cs') :: hs, n, z0⟩ := by
 rintro C a w ⟨h0, ι, g, gh⟩
 have hqq : ∃ p, ι q = some p := by
  rcases gh.obj q cq hq with ⟨p1, _⟩ | ⟨_, _, _, _, p1, _⟩ <;> exact ⟨_, p1⟩
 have hk : ∀ id c, bU ((i, some cs') :: hs) id = some c → (id = i ∧ c = cs') ∨ (id ≠ i ∧ bU hs id = some c) := by
  intro id c hc
  rw [dN] at hc
  split at hc
  ·rename_i e; cases hc; exact .inl ⟨e, rfl⟩
  ·rename_i e; exact .inr ⟨fun h => e h, hc⟩
 have hk2 : ∀ id c, bU hs id = some c → ∃ c', bU ((i, some cs') :: hs) id = some c' := by
  intro id c hc
  rw [dN]
  split
  ·exact ⟨_, rfl⟩
  ·exact ⟨_, hc⟩
 have hb : aY C.X ι (bU ((i, some cs') :: hs)) = aY C.X ι (bU hs) := by
  funext b
  refine propext ⟨?_, ?_⟩
  ·rintro (h | ⟨id, c, β, h1, h2⟩)
   ·exact .inl h
   ·rcases hk id c h1 with ⟨rfl, _⟩ | ⟨_, h3⟩
    ·exact .inr ⟨_, _, _, hi, h2⟩
    ·exact .inr ⟨_, _, _, h3, h2⟩
  ·rintro (h | ⟨id, c, β, h1, h2⟩)
   ·exact .inl h
   ·obtain ⟨c', h3⟩ := hk2 id c h1
    exact .inr ⟨_, _, _, h3, h2⟩
 refine ⟨h0, ι, ⟨g.df, g.sz, fun t av ht => ?_⟩, ?_, ?_, gh.fr, gh.ex, gh.fresh⟩
 ·show ∃ y, a.tmps[t]? = some y ∧ Rd w (aY C.X ι (bU ((i, some cs') :: hs))) ι av y
  rw [hb]; exact g.tm t av ht
 ·intro id c hc
  show _ ∨ ∃ b β arr e, ι id = some (some (b, β)) ∧ w.heap[b]? = some (.cells arr e (0, 0)) ∧ β + c.length ≤ arr.size ∧ RdC w (aY C.X ι (bU ((i, some cs') :: hs))) ι c b β ∧ ¬ C.X b ∧ (C.W0 b ∨ C.w0.heap.size ≤ b)
  rw [hb]
  rcases hk id c hc with ⟨rfl, rfl⟩ | ⟨_, h3⟩
  ·rcases gh.obj _ _ hi with ⟨q1, q2⟩ | ⟨b, β, arr, e, q1, q2, q3, q4, q5⟩
   ·subst q2
    exact .inl ⟨q1, List.eq_nil_of_length_eq_zero hl⟩
   ·exact .inr ⟨b, β, arr, e, q1, q2, by rw [hl]; exact q3, h _ _ _ _ _ hqq q4, q5⟩
  ·exact gh.obj _ _ h3
 ·intro id id' c c' b β β' h1 h2 h3 h4
  obtain ⟨d1, e1⟩ : ∃ d, bU hs id = some d := by
   rcases hk id c h1 with ⟨rfl, _⟩ | ⟨_, h⟩
   ·exact ⟨_, hi⟩
   ·exact ⟨_, h⟩
  obtain ⟨d2, e2⟩ : ∃ d, bU hs id' = some d := by
   rcases hk id' c' h2 with ⟨rfl, _⟩ | ⟨_, h⟩
   ·exact ⟨_, hi⟩
   ·exact ⟨_, h⟩
  exact gh.sep id id' d1 d2 b β β' e1 e2 h3 h4
theorem u5 {w : World} {bad : Nat → Prop} {ι : Pl} {c c' : AV} (hc : ∀ y, Rd w bad ι c y → Rd w bad ι c' y) : ∀ (a : List AV) (r : List AV) (b o : Nat), RdC w bad ι (a ++ c :: r) b o → RdC w bad ι (a ++ c' :: r) b o
 | [], r, b, o, h => by
  simp only [List.nil_append, RdC] at h ⊢
  obtain ⟨⟨x, h1, h2, h3⟩, h4⟩ := h
  exact ⟨⟨x, h1, h2, hc _ h3⟩, h4⟩
 | x :: a, r, b, o, h => by
  simp only [List.cons_append, RdC] at h ⊢
  exact ⟨h.1, u5 hc a r b (o + 1) h.2⟩
theorem Le.nilCell {ts : List (Nat × AV)} {hs : List (Nat × Option (List AV))} {n : Nat} {z0 : Lo} {i : Nat} (e : Nat) (c1 : List AV) {c2 : List AV} (hi : bU hs i = some (c1 ++ .v (.slice none 0 0) :: c2)) (hin : i ≠ n) (hn : n < bZ) :
  Le ⟨ts, hs, n, z0⟩ ⟨ts, (i, some (c1 ++ .own n 0 0 e :: c2)) :: (n, some []) :: hs, n + 1, z0⟩ :=
 (Le.virt hn).trans (Le.cellsN (q := n) (cs := c1 ++ .v (.slice none 0 0) :: c2) (by rw [dN, if_neg hin]; exact hi) (by rw [dN, if_pos rfl]) (by simp) fun w bad ι b β hp hr =>
  u5 (fun y hy => by simp only [Rd] at hy ⊢; exact .inl ⟨hp, trivial, none, hy⟩) c1 c2 b β hr)
theorem Le.frzC {ts : List (Nat × AV)} {hs : List (Nat × Option (List AV))} {n : Nat} {z0 : Lo} {j i m e : Nat} (c1 : List AV) {c2 d : List AV} (hj : bU hs j = some (c1 ++ .own i 0 m e :: c2)) (hi : bU hs i = some d) (hij : j ≠ i) :
  Le ⟨ts, hs, n, z0⟩ ⟨ts, (j, some (c1 ++ .imm m d :: c2)) :: (i, none) :: hs, n, z0⟩ := by
 rintro C a w ⟨h0, ι, g, gh⟩
 have hk : ∀ id c, bU ((j, some (c1 ++ .imm m d :: c2)) :: (i, none) :: hs) id = some c → (id = j ∧ c = c1 ++ .imm m d :: c2) ∨ (id ≠ j ∧ id ≠ i ∧ bU hs id = some c) := by
  intro id c hc
  rw [dN] at hc
  split at hc
  ·rename_i e; cases hc; exact .inl ⟨e, rfl⟩
  ·rename_i e
   rw [dN] at hc
   split at hc
   ·cases hc
   ·rename_i e2; exact .inr ⟨e, e2, hc⟩
 have hk2 : ∀ id c, bU ((j, some (c1 ++ .imm m d :: c2)) :: (i, none) :: hs) id = some c → id ≠ i ∧ ∃ c', bU hs id = some c' := by
  intro id c hc
  rcases hk id c hc with ⟨rfl, _⟩ | ⟨_, h2, h3⟩
  ·exact ⟨hij, _, hj⟩
  ·exact ⟨h2, _, h3⟩
 have hbad : ∀ b, aY C.X ι (bU ((j, some (c1 ++ .imm m d :: c2)) :: (i, none) :: hs)) b → aY C.X ι (bU hs) b := by
  rintro b (h | ⟨id, c, β, h1, h2⟩)
  ·exact .inl h
  ·obtain ⟨_, c', h3⟩ := hk2 id c h1
   exact .inr ⟨id, c', β, h3, h2⟩
 have car : Carry w (aY C.X ι (bU hs)) ι w (aY C.X ι (bU ((j, some (c1 ++ .imm m d :: c2)) :: (i, none) :: hs))) ι := ⟨fun b o x h1 h2 => ⟨fun q => h1 (hbad b q), h2⟩, fun _ _ h => h, fun _ => Nat.le_refl _⟩
 have hcell : ∀ y, Rd w (aY C.X ι (bU ((j, some (c1 ++ .imm m d :: c2)) :: (i, none) :: hs))) ι (.own i 0 m e) y → Rd w (aY C.X ι (bU ((j, some (c1 ++ .imm m d :: c2)) :: (i, none) :: hs))) ι (.imm m d) y := by
  intro y hr
  simp only [Rd] at hr ⊢
  rcases hr with ⟨_, h2, a', h3⟩ | ⟨b, β, c, h1, h2, h3, h4⟩
  ·subst h2; exact ⟨a', 0, h3, .inl rfl⟩
  ·refine ⟨_, c, h2, ?_⟩
   rcases Nat.eq_zero_or_pos m with h5 | h5
   ·exact .inl h5
   ·refine .inr ⟨b, β + 0, h3, rfl, ?_⟩
    rcases gh.obj i d hi with ⟨q1, q2⟩ | ⟨b', β', arr, e', q1, q2, q3, q4, q5, q6⟩
    ·rw [h1] at q1; cases q1
    ·rw [h1] at q1; cases q1
     refine .inr ⟨?_, RdC.carryB car _ _ _ (fun o x hx => hx) q4⟩
     rintro (h | ⟨id', cs', β', r1, r2⟩)
     ·exact q5 h
     ·obtain ⟨r3, c', r4⟩ := hk2 id' cs' r1
      exact r3 (gh.sep _ _ _ _ _ _ _ r4 hi r2 h1)
 refine ⟨h0, ι, g.carry car, ⟨fun id c hc => ?_, fun id id' c c' b β β' h1 h2 h3 h4 => ?_, gh.fr, gh.ex, gh.fresh⟩⟩
 ·rcases hk id c hc with ⟨rfl, rfl⟩ | ⟨_, _, h3⟩
  ·rcases gh.obj _ _ hj with ⟨q1, q2⟩ | ⟨b, β, arr, e, q1, q2, q3, q4, q5⟩
   ·simp at q2
   ·exact .inr ⟨b, β, arr, e, q1, q2, by simpa using q3, u5 hcell c1 c2 b β (RdC.carryB car _ _ _ (fun o x hx => hx) q4), q5⟩
  ·rcases gh.obj _ _ h3 with ⟨q1, q2⟩ | ⟨b, β, arr, e, q1, q2, q3, q4, q5⟩
   ·exact .inl ⟨q1, q2⟩
   ·exact .inr ⟨b, β, arr, e, q1, q2, q3, RdC.carryB car _ _ _ (fun o x hx => hx) q4, q5⟩
 ·obtain ⟨_, d1, e1⟩ := hk2 id c h1
  obtain ⟨_, d2, e2⟩ := hk2 id' c' h2
  exact gh.sep id id' d1 d2 b β β' e1 e2 h3 h4
theorem Du {R : List (List Bool)} {hs hs' : List (Nat × Option (List AV))} {k m : Nat} (hF : FamR R R hs hs') (hk : k < R.length) (hm : m = R[k]!.length) : sCells (bU hs) 1 (mQ (.own (k + bZ) 0 m 1)) = some (m, flat cB R[k]!) := by
 subst hm
 have hl : (flat cB R[k]!).length = R[k]!.length * 1 := aK cB _
 show (bU hs (k + bZ)).bind (fun cs => if R[k]!.length * 1 ≤ (cs.drop 0).length then some (R[k]!.length, (cs.drop 0).take (R[k]!.length * 1)) else none) = _
 rw [hF.get hk, Option.bind_some, List.drop_zero, if_pos (by omega), List.take_of_length_le (by omega)]
end Go.AL
namespace Go.AL
open Go.RowKit
set_option linter.unusedVariables false
set_option linter.unusedSimpArgs false
theorem A3 {cs : List AV} {v : Nat} {c : AV} : g8 cs (0 + v * 1) [c] = cs.take v ++ c :: cs.drop (v + 1) := by
 unfold g8; simp
theorem FO {u : List (List Bool)} {v : Nat} {r : List Bool} (hv : v < u.length) : (flat hJ u).take v ++ .imm r.length (flat cB r) :: (flat hJ u).drop (v + 1) = flat hJ (u.set v r) := by
 have h := qB (xs := u) (k := v) (r := r) hv
 rw [A3] at h; exact h
theorem Le.frzRow {ts : List (Nat × AV)} {hs : List (Nat × Option (List AV))} {n : Nat} {z0 : Lo} {j q v m : Nat} {u : List (List Bool)} {r : List Bool} (hj : bU hs j = some (g8 (flat hJ u) (0 + v * 1) [.own q 0 m 1])) (hq : bU hs q = some (flat cB r)) (hm : m = r.length) (hv : v < u.length) (hjq : j ≠ q) :
  Le ⟨ts, hs, n, z0⟩ ⟨ts, (j, some (flat hJ (u.set v r))) :: (q, none) :: hs, n, z0⟩ := by
 subst hm
 rw [A3] at hj
 have h := Le.frzC (ts := ts) (n := n) (z0 := z0) ((flat hJ u).take v) hj hq hjq
 rwa [FO hv] at h
theorem Le.fdrop {ts : List (Nat × AV)} {hs : List (Nat × Option (List AV))} {n : Nat} {z0 : Lo} {k : Nat} {R : List (List Bool)} (hF : FamR R R hs hs) (hk : k < R.length) : Le ⟨ts, (k + bZ, some (flat cB R[k]!)) :: hs, n, z0⟩ ⟨ts, hs, n, z0⟩ := by
 refine Le.of (fun _ _ h => h) (fun i cs h => ?_) (Nat.le_refl _) rfl
 have h' : bU hs i = some cs := h
 show bU ((k + bZ, some (flat cB R[k]!)) :: hs) i = some cs
 rw [dN]
 split
 ·rename_i e; subst e; rw [hF.get hk] at h'; exact h'
 ·exact h'
theorem IB {i k : Nat} (hi : Nat.blt i bZ = true) : distinct [i, k + bZ] = true := by
 have h1 := dX hi
 have : Nat.beq i (k + bZ) = false := by
  cases h : Nat.beq i (k + bZ) with
  | false => rfl
  | true => have := Nat.eq_of_beq_eq_true h; omega
 simp only [distinct, List.all_cons, List.all_nil, this]; rfl
structure Hid (T : Prop) : Prop where pf : T
theorem cut {G : Prop} {T : Prop} (key : T) (main : Hid T → G) : G := main ⟨key⟩
end Go.AL
namespace Go.AL
open Go.RowKit
set_option linter.unusedVariables false
def F7 (op : BinOp) (a b : ByteArray) : Option Value :=
 match op with
 | .add => if a.size + b.size ≤ 9000000000000000000 then some (.string (a ++ b)) else none
 | .eql => some (.bool (a.toList == b.toList))
 | .neq => some (.bool (!(a.toList == b.toList)))
 | _ => none
def D3 (s : ByteArray) (l : List Int) : ByteArray := l.foldl (fun r n => r.push (UInt8.ofNat n.toNat)) s
section
variable {P : Program} {C : Ctx} {ι : Pl} {T : Nat → Option AV} {F : Nat → Prop} {H : Nat → Option (List AV)} {a : Act} {w : World} {o : Oper}
theorem F2 (g : TG C ι T H a w) {op : BinOp} {t t' : TypeId} {x y : Operand} {m n : ByteArray} {v : Value} (ho : o.op = .binOp op t x y t')
  (hx : ev T x = some (.v (.string m))) (hy : ev T y = some (.v (.string n))) (h : F7 op m n = some v) : Pu P C ι H a w o (.v v) := by
 have h1 := cX g hx
 have h2 := cX g hy
 simp only [Rd] at h1 h2
 refine ⟨v, ?_, by simp [Rd]⟩
 have hg : (eqGuard op t x y (.string m) (.string n)).run P w = .ok () w := by
  unfold eqGuard
  cases op <;> simp
 have hb : (binOp op t (.string m) (.string n)).run P w = .ok v w := by
  cases op <;> simp only [F7] at h <;> first | (cases h; done) | skip
  ·split at h
   ·rename_i hs
    cases h
    have h9 : ¬ (((m.size + n.size : Nat) : Int) > IntKind.i64.max) := by
     have : IntKind.i64.max = 9223372036854775807 := rfl
     omega
    show ((if ((m.size + n.size : Nat) : Int) > IntKind.i64.max then _ else pure (.string (m ++ n)) : Sem Value)).run P w = _
    rw [if_neg h9]; simp
   ·cases h
  all_goals (cases h; simp [binOp, Op.stringOp])
 simp only [execOp, ho, h1, h2, Sem.run_bind, hg, Result.andThen_ok, hb, Sem.run_pure]
theorem xN {bad : Nat → Prop} {k : IntKind} : ∀ {ns : List Int} {l : List Value}, RdL w bad ι (ns.map fun n => .v (.int k n)) l → l = ns.map (Value.int k)
 | [], l, h => by simp only [List.map_nil, RdL] at h; exact h
 | n :: ns, l, h => by
  simp only [List.map_cons, RdL] at h
  obtain ⟨x, l', rfl, h0, h1, h2⟩ := h
  simp only [Rd] at h1
  rw [h1, xN h2, List.map_cons]
theorem Hp (g : TG C ι T H a w) (gh : HG C ι F H w) {s t el : TypeId} {x : Operand} {av : AV} {m : Nat} {ns : List Int} (ho : o.op = .convert s t x) (hx : ev T x = some av)
  (ht : jJ P s = some el) (hu : x4 P el = some .u8) (hst : P.underlying t = some .string) (hs : sCells H 1 (mQ av) = some (m, ns.map fun n => .v (.int .u8 n))) :
  Pu P C ι H a w o (.v (.string (D3 .empty ns))) := by
 obtain ⟨ad, c, l, h1, h2, h3, h4, h5⟩ := oB gh (lZ (cX g hx)) hs
 have hl := xN h3
 have hll : ns.length = m := by have := h2; rw [hl] at this; simpa using this
 refine ⟨.string (D3 .empty ns), ?_, by simp [Rd]⟩
 have hcv : (convert s t (.slice ad m c)).run P w = (Conv.bytesToString (.slice ad m c)).run P w := run_convert_bytes_string w s t el ad m c (gM ht) (Az hu) hst
 have hrun : (Conv.bytesToString (.slice ad m c)).run P w = .ok (.string (D3 .empty ns)) w := by
  cases ad with
  | none =>
   rcases h5 with ⟨b, o', h⟩ | h
   ·cases h
   ·subst h
    have : ns = [] := List.eq_nil_of_length_eq_zero hll
    subst this
    rfl
  | some ad =>
   have hload : (loadCells ad m).run P w = .ok (ns.map (Value.int .u8)).toArray w := by
    rcases h5 with ⟨b, o', h⟩ | h
    ·cases h
     have := run_loadCells_list (P := P) w ⟨b, o', none⟩ l (fun j v hj => by rw [Addr.add_lit]; exact h4 b o' rfl j v hj)
     rw [h2, Nat.mul_one, hl] at this
     exact this
    ·subst h
     have : ns = [] := List.eq_nil_of_length_eq_zero hll
     subst this
     simp [loadCells, loadCellsFrom]
   exact run_bytesToString w ad m c ns hload
 simp only [execOp, ho, h1, Sem.run_bind, hcv, hrun, Result.andThen_ok, Sem.run_pure]
end
section
variable {P : Program} {N : Nat} {Q : Exit → AS → Prop} {all : Array Oper} {rest : List Oper} {ts : List (Nat × AV)} {hs : List (Nat × Option (List AV))} {n : Nat} {z0 : Lo} {md : Md}
variable {d : Nat} {ty : TypeId} {pos : String} {af : Array Edge}
theorem k7 {op : BinOp} {t t' : TypeId} {x y : Operand} {m m' : ByteArray} {v : Value} (hx : ev (lk ts) x = some (.v (.string m))) (hy : ev (lk ts) y = some (.v (.string m')))
  (h : F7 op m m' = some v) (hN : Nat.blt d N = true) {md' : Md} [hmd : MdA md (rO x ++ rO y) [.inl d] md'] (kk : RW P N all Q md' rest ⟨(d, .v v) :: ts, hs, n, z0⟩) : RW P N all Q md (⟨some d, .binOp op t x y t', ty, pos, af, none⟩ :: rest) ⟨ts, hs, n, z0⟩ :=
 dW rfl rfl (dX hN) (fun C ι F T H a w ag g gh => F2 g rfl (ag.l.ev.trans hx) (ag.r.ev.trans hy) h) (by rw [hmd.pf]; exact kk)
theorem Di {s t el : TypeId} {x : Operand} {av : AV} {m : Nat} (ns : List Int) [ht : SlT P s el] [hu : InT P el .u8] [hst : StT P t] (hx : ev (lk ts) x = some av)
  (hs' : sCells (bU hs) 1 (mQ av) = some (m, ns.map fun n => .v (.int .u8 n))) (hN : Nat.blt d N = true) {md' : Md} [hmd : MdA md (rO x ++ rA av) [.inl d] md'] (kk : RW P N all Q md' rest ⟨(d, .v (.string (D3 .empty ns))) :: ts, hs, n, z0⟩) :
  RW P N all Q md (⟨some d, .convert s t x, ty, pos, af, none⟩ :: rest) ⟨ts, hs, n, z0⟩ :=
 dW rfl rfl (dX hN) (fun C ι F T H a w ag g gh => Hp g gh rfl (ag.l.ev.trans hx) ht.pf hu.pf hst.pf (ag.r.sCells.trans hs')) (by rw [hmd.pf]; exact kk)
theorem oK {t : TypeId} {x i : Operand} {s : ByteArray} {k : IntKind} {m : Int} [ht : StT P t] (hx : ev (lk ts) x = some (.v (.string s)))
  (hi : ev (lk ts) i = some (.v (.int k m))) (hm : 0 ≤ m ∧ m < (s.size : Int)) (hN : Nat.blt d N = true) {md' : Md} [hmd : MdA md (rO x ++ rO i) [.inl d] md'] (kk : RW P N all Q md' rest ⟨(d, .v (.int .u8 ((s[m.toNat]!).toNat : Int))) :: ts, hs, n, z0⟩) :
  RW P N all Q md (⟨some d, .index t x i, ty, pos, af, none⟩ :: rest) ⟨ts, hs, n, z0⟩ :=
 CC (b := s[m.toNat]!) hx hi ht.pf hm.1 (by rw [getElem!_pos s m.toNat (by omega), getElem?_pos s m.toNat (by omega)]) (dX hN) (by rw [hmd.pf]; exact kk)
theorem BX {t : TypeId} {x : Operand} {lo hi : Option Operand} {s : ByteArray} {l h : Nat} [ht : StT P t] (hx : ev (lk ts) x = some (.v (.string s)))
  (hl : eF (lk ts) lo 0 = some l) (hh : eF (lk ts) hi s.size = some h) (hc : l ≤ h ∧ h ≤ s.size) (hN : Nat.blt d N = true) {md' : Md} [hmd : MdA md (rO x ++ (rB lo ++ rB hi)) [.inl d] md'] (kk : RW P N all Q md' rest ⟨(d, .v (.string (s.extract l h))) :: ts, hs, n, z0⟩) :
  RW P N all Q md (⟨some d, .slice t x lo hi none, ty, pos, af, none⟩ :: rest) ⟨ts, hs, n, z0⟩ := CS hx ht.pf hl hh hc (dX hN) (by rw [hmd.pf]; exact kk)
theorem Fo (m : Int) (h : 0 ≤ m ∧ m ≤ 255) : IntKind.u8.wrap m = m := by
 have : IntKind.u8.wrap m = m % 256 := rfl
 rw [this]; omega
theorem F5 {t t' : TypeId} {x y : Operand} {m m' : Int} (hx : ev (lk ts) x = some (.v (.int .u8 m))) (hy : ev (lk ts) y = some (.v (.int .u8 m')))
  (h : 0 ≤ m + m' ∧ m + m' ≤ 255) (hN : Nat.blt d N = true) {md' : Md} [hmd : MdA md (rO x ++ rO y) [.inl d] md'] (kk : RW P N all Q md' rest ⟨(d, .v (.int .u8 (m + m'))) :: ts, hs, n, z0⟩) : RW P N all Q md (⟨some d, .binOp .add t x y t', ty, pos, af, none⟩ :: rest) ⟨ts, hs, n, z0⟩ :=
 eZ hx hy (.inl rfl) (v := .int .u8 (m + m')) (by simp only [gQ, Fo _ h]) (dX hN) (by rw [hmd.pf]; exact kk)
theorem BG {t t' : TypeId} {x y : Operand} {m m' : Int} (hx : ev (lk ts) x = some (.v (.int .u8 m))) (hy : ev (lk ts) y = some (.v (.int .u8 m')))
  (h : 0 ≤ m - m' ∧ m - m' ≤ 255) (hN : Nat.blt d N = true) {md' : Md} [hmd : MdA md (rO x ++ rO y) [.inl d] md'] (kk : RW P N all Q md' rest ⟨(d, .v (.int .u8 (m - m'))) :: ts, hs, n, z0⟩) : RW P N all Q md (⟨some d, .binOp .sub t x y t', ty, pos, af, none⟩ :: rest) ⟨ts, hs, n, z0⟩ :=
 eZ hx hy (.inl rfl) (v := .int .u8 (m - m')) (by simp only [gQ, Fo _ h]) (dX hN) (by rw [hmd.pf]; exact kk)
theorem y3 {s t : TypeId} {x : Operand} {k' : IntKind} {m : Int} [hd : InT P t .u8] [hs' : InT P s k'] (hx : ev (lk ts) x = some (.v (.int k' m))) (h : 0 ≤ m ∧ m ≤ 255) (hN : Nat.blt d N = true) {md' : Md} [hmd : MdA md (rO x) [.inl d] md'] (kk : RW P N all Q md' rest ⟨(d, .v (.int .u8 m)) :: ts, hs, n, z0⟩) :
  RW P N all Q md (⟨some d, .convert s t x, ty, pos, af, none⟩ :: rest) ⟨ts, hs, n, z0⟩ := BM hx hd.pf hs'.pf (dX hN) (by rw [hmd.pf, Fo _ h]; exact kk)
end
theorem oQ (n : Int) : (D3 .empty [n]).size = 1 := rfl
theorem pS {a b : ByteArray} (h : a.size + b.size ≤ 9000000000000000000) : F7 .add a b = some (.string (a ++ b)) := if_pos h
end Go.AL
namespace Go.AL
def Dx (l : List Int) : ByteArray := l.foldl (fun r n => r.push (UInt8.ofNat n.toNat)) .empty
def gO (v : Int) : ByteArray := Dx [97 + v]
def zG (n : Int) : ByteArray := Dx [48 + n] ++ .empty
theorem nW (l : List UInt8) : ByteArray.size ⟨l.toArray⟩ = l.length := rfl
theorem mE (v : Int) : (gO v).size = 1 := rfl
theorem mM (v : Int) : (zG v).size = 1 := by simp [zG, Dx, ByteArray.size_append]
def pD (out : ByteArray) (k : Nat) (t : ByteArray) : ByteArray := (if 0 < k then out ++ ⟨#[59]⟩ else out) ++ t
mutual
def lB : Stmt → ByteArray
 | .mk op x y n th el =>
  if op = 1 then (gO x ++ ⟨#[61]⟩) ++ zG n
  else if op = 2 then (gO x ++ ⟨#[61, 98, 111, 120, 32]⟩) ++ zG n
  else if op = 3 then (gO x ++ ⟨#[61]⟩) ++ gO y
  else if op = 4 then (gO x ++ ⟨#[61, 38]⟩) ++ gO y
  else if op = 5 then (gO x ++ ⟨#[61, 38, 109, 117, 116, 32]⟩) ++ gO y
  else if op = 6 then (gO x ++ ⟨#[61, 42]⟩) ++ gO y
  else if op = 7 then ((⟨#[42]⟩ ++ gO x) ++ ⟨#[61]⟩) ++ gO y
  else if op = 8 then ⟨#[100, 114, 111, 112, 32]⟩ ++ gO x
  else if op = 10 then (⟨#[108, 111, 111, 112, 123]⟩ ++ lA .empty 0 th) ++ ⟨#[125]⟩
  else (((⟨#[105, 102, 123]⟩ ++ lA .empty 0 th) ++ ⟨#[125, 123]⟩) ++ lA .empty 0 el) ++ ⟨#[125]⟩
def lA (out : ByteArray) (k : Nat) : List Stmt → ByteArray
 | [] => out
 | s :: l => lA (pD out k (lB s)) (k + 1) l
end
def jB (l : List Stmt) : ByteArray := lA .empty 0 l
theorem rY : ∀ (l : List Stmt) (out : ByteArray) (k : Nat) (s : Stmt), lA out k (l ++ [s]) = pD (lA out k l) (k + l.length) (lB s)
 | [], out, k, s => by simp only [List.nil_append, lA, List.length_nil, Nat.add_zero]
 | x :: l, out, k, s => by
  simp only [List.cons_append, lA, rY l, List.length_cons]
  rw [show k + 1 + l.length = k + (l.length + 1) from by omega]
theorem qH (l : List Stmt) (k : Nat) (h : k < l.length) : jB (l.take (k + 1)) = pD (jB (l.take k)) k (lB l[k]!) := by
 rw [c7 _ _ h, jB, rY, List.length_take, Nat.min_eq_left (by omega), Nat.zero_add]; rfl
theorem Cn (s : Stmt) : lB s = 
  if s.op = 1 then (gO s.x ++ ⟨#[61]⟩) ++ zG s.n
  else if s.op = 2 then (gO s.x ++ ⟨#[61, 98, 111, 120, 32]⟩) ++ zG s.n
  else if s.op = 3 then (gO s.x ++ ⟨#[61]⟩) ++ gO s.y
  else if s.op = 4 then (gO s.x ++ ⟨#[61, 38]⟩) ++ gO s.y
  else if s.op = 5 then (gO s.x ++ ⟨#[61, 38, 109, 117, 116, 32]⟩) ++ gO s.y
  else if s.op = 6 then (gO s.x ++ ⟨#[61, 42]⟩) ++ gO s.y
  else if s.op = 7 then ((⟨#[42]⟩ ++ gO s.x) ++ ⟨#[61]⟩) ++ gO s.y
  else if s.op = 8 then ⟨#[100, 114, 111, 112, 32]⟩ ++ gO s.x
  else if s.op = 10 then (⟨#[108, 111, 111, 112, 123]⟩ ++ jB s.th) ++ ⟨#[125]⟩
  else (((⟨#[105, 102, 123]⟩ ++ jB s.th) ++ ⟨#[125, 123]⟩) ++ jB s.el) ++ ⟨#[125]⟩ := by
 cases s; rw [lB]; rfl
mutual
theorem s8 : ∀ s, (lB s).size + 1 ≤ 11 * dH s
 | .mk op x y n th el => by
  have h1 := k4 th .empty 0
  have h2 := k4 el .empty 0
  have h3 : ByteArray.size .empty = 0 := rfl
  rw [lB]
  simp only [dH]
  repeat' split
  all_goals simp only [ByteArray.size_append, nW, List.length_cons, List.length_nil, mE, mM]
  all_goals omega
theorem k4 : ∀ (l : List Stmt) (out : ByteArray) (k : Nat), (lA out k l).size ≤ out.size + 11 * bJ l
 | [], out, k => by simp only [lA, bJ]; omega
 | s :: l, out, k => by
  have h1 := s8 s
  have h2 := k4 l (pD out k (lB s)) (k + 1)
  have h3 : (pD out k (lB s)).size ≤ out.size + 1 + (lB s).size := by
   unfold pD; split <;> simp only [ByteArray.size_append, nW, List.length_cons, List.length_nil] <;> omega
  simp only [lA, bJ]
  omega
end
theorem kZ (l : List Stmt) : (jB l).size ≤ 11 * bJ l := by
 have := k4 l .empty 0
 have h3 : ByteArray.size .empty = 0 := rfl
 unfold jB; omega
theorem B5 {ts : List Int} {s : Stmt} (ht : cP ts = true) (h : fK ts s = true) : 1 ≤ s.op ∧ s.op ≤ 8 ∧ 0 ≤ s.x ∧ s.x ≤ 5 ∧ 0 ≤ s.y ∧ s.y ≤ 5 ∧ (s.op = 1 ∨ s.op = 2 → 0 ≤ s.n ∧ s.n ≤ 9) := by
 have hl := eJ ht
 have hx := fV ht s.x
 have hy := fV ht s.y
 unfold fK at h
 dsimp only at h
 repeat' split at h
 all_goals (first | (simp only [decide_eq_true_eq] at h; omega) | (simp at h; done))
end Go.AL
namespace Go.AL
theorem kT {A n : Nat} (hv : ∀ v, A.testBit v = true → v < n) : A < 2 ^ n := Nat.lt_pow_two_of_testBit _ fun v h => by
 cases hq : Nat.testBit _ v with
 | false => rfl
 | true => have := hv v hq; omega
theorem jL {A n : Nat} (hn : n ≤ 62) (hv : A < 2 ^ n) : Sm A := ⟨Nat.lt_of_lt_of_le hv (Nat.pow_le_pow_right (by decide) hn)⟩
structure FB (ts : List Int) (pts : List Pnt) (f : Flows ts pts) : Prop where
 la : f.Aa.length = pts.length
 lm : f.Am.length = pts.length
 ln : f.An.length = pts.length
 ll : f.Al.length = pts.length
 lp : f.Ap.length = pts.length
 bA : ∀ i : Nat, f.Aa[i]! < 2 ^ ts.length
 bM : ∀ i : Nat, f.Am[i]! < 2 ^ ts.length
 bN : ∀ i : Nat, f.An[i]! < 2 ^ ts.length
 bL : ∀ i : Nat, f.Al[i]! < 2 ^ ts.length
 bP : ∀ i : Nat, f.Ap[i]! < 2 ^ pts.length
 sA : ∀ i : Nat, Sm f.Aa[i]!
 sM : ∀ i : Nat, Sm f.Am[i]!
 sN : ∀ i : Nat, Sm f.An[i]!
 sL : ∀ i : Nat, Sm f.Al[i]!
 sP : ∀ i : Nat, Sm f.Ap[i]!
 rl : ∀ i, i < pts.length → (e5 f.Af i).length = 6
 rs : ∀ i, i < pts.length → ∀ z : Nat, Sm (e5 f.Af i)[z]!
 af : ∀ i, i < pts.length → GC pts f.An i = f.Al[i]!
 kp : ∀ i, i < pts.length → tF ts pts[i]! f.Al[i]! (e5 f.Af i) < 2 ^ pts.length
 lo : ∀ i, i < pts.length → tF ts pts[i]! f.Al[i]! (e5 f.Af i) &&& f.Ap[i]! < 2 ^ pts.length
 cf : ∀ i, i < pts.length → Bj ts pts f.Am f.Al f.Af f.Ap i < 2 ^ pts.length
theorem Flows.bnd {ts : List Int} {pts : List Pnt} (f : Flows ts pts) (w : WG ts pts) : FB ts pts f := by
 have hpl := w.pl
 have htl := w.tl
 have off : ∀ {A : List Nat} {n : Nat} {i : Nat}, A.length = pts.length → ¬ i < pts.length → A[i]! < 2 ^ n := fun {A n i} h hi => by
  rw [getElem!_neg A i (by omega)]; exact Nat.pow_pos (by decide)
 have bA : ∀ i : Nat, f.Aa[i]! < 2 ^ ts.length := fun i => by
  by_cases hi : i < pts.length
  ·exact kT fun v hv => ((f.ga.2 i hi v).1 hv).1
  ·exact off f.ga.1 hi
 have bM : ∀ i : Nat, f.Am[i]! < 2 ^ ts.length := fun i => by
  by_cases hi : i < pts.length
  ·exact kT fun v hv => D9 w ((f.gm.2 i hi v).1 hv)
  ·exact off f.gm.1 hi
 have bN : ∀ i : Nat, f.An[i]! < 2 ^ ts.length := fun i => by
  by_cases hi : i < pts.length
  ·exact kT fun v hv => pG w ((f.gn.2 i hi v).1 hv)
  ·exact off f.gn.1 hi
 have bL : ∀ i : Nat, f.Al[i]! < 2 ^ ts.length := fun i => by
  by_cases hi : i < pts.length
  ·exact kT fun v hv => by obtain ⟨k, _, h⟩ := (f.gl.2 i hi v).1 hv; exact pG w h
  ·exact off f.gl.1 hi
 have bP : ∀ i : Nat, f.Ap[i]! < 2 ^ pts.length := fun i => by
  by_cases hi : i < pts.length
  ·exact kT fun v hv => (nM ((f.gp.2 i hi v).1 hv)).1
  ·exact off f.gp.1 hi
 have rs : ∀ i, i < pts.length → ∀ z : Nat, (e5 f.Af i)[z]! < 2 ^ pts.length := fun i hi z => by
  by_cases hz : z < 6
  ·rw [fQ f.gf.1 hi hz]
   exact kT fun v hv => (y5 w ((f.gf.2 i z hi hz v).1 hv)).2.2
  ·rw [getElem!_neg _ z (by rw [gH f.gf.1 hi]; exact hz)]; exact Nat.pow_pos (by decide)
 have kp : ∀ i, i < pts.length → tF ts pts[i]! f.Al[i]! (e5 f.Af i) < 2 ^ pts.length := fun i hi => kT fun v hv => by
  unfold tF at hv
  rw [gC] at hv
  rcases hv with hv | ⟨z, hz, hv⟩
  ·simp at hv
  ·exact dQ (rs i hi _) hv
 have lo : ∀ i, i < pts.length → tF ts pts[i]! f.Al[i]! (e5 f.Af i) &&& f.Ap[i]! < 2 ^ pts.length := fun i hi => Nat.and_lt_two_pow _ (bP i)
 refine ⟨f.ga.1, f.gm.1, f.gn.1, f.gl.1, f.gp.1, bA, bM, bN, bL, bP, fun i => jL (by omega) (bA i), fun i => jL (by omega) (bM i), fun i => jL (by omega) (bN i), fun i => jL (by omega) (bL i), fun i => jL (by omega) (bP i),
  fun i hi => gH f.gf.1 hi, fun i hi z => jL (by omega) (rs i hi z), fun i hi => ?_, kp, lo, fun i hi => Ag w (bP i)⟩
 rw [uL f.gl (xM w f.gn), cV _ _ _ hi]
end Go.AL
namespace Go.AL
def uD (pts : List Pnt) (l : Nat) (c : Acc) : Bool := decide (c.var = pts[l]!.y) && (c.write || decide (pts[l]!.op = 5))
theorem xD {ts : List Int} {pts : List Pnt} (w : WG ts pts) (f : Flows ts pts) {i l : Nat} (hi : i < pts.length) (hl : l < pts.length) (hln : c9 pts[l]! = true) :
  (Bj ts pts f.Am f.Al f.Af f.Ap i).testBit l = ((iH ts pts[i]! (f.Am[i]!.testBit (bR pts[i]!).toNat)).any (uD pts l) && ((tF ts pts[i]! f.Al[i]! (e5 f.Af i)).testBit l && f.Ap[i]!.testBit l)) := by
 have b := f.bnd w
 have hpl := w.pl
 have hy := m7 w hl hln
 rw [Bool.eq_iff_iff]
 unfold Bj
 rw [g0 _ _ _ (jL (by omega) (b.lo i hi)), Bool.and_eq_true, List.any_eq_true, ← Nat.testBit_and]
 simp only [Nat.zero_testBit, Bool.false_eq_true, false_or]
 constructor
 ·rintro ⟨c, hc, h1, h2, h3⟩
  refine ⟨⟨c, hc, ?_⟩, h1⟩
  rw [iB] at h2
  simp only [Bool.and_eq_true, decide_eq_true_eq] at h2
  have e2 := h2.2.2
  rw [Nat.testBit_two_pow, decide_eq_true_eq] at e2
  have hcv := uZ _ w hi c hc
  unfold uD
  rw [decide_eq_true (by omega : c.var = pts[l]!.y)]
  rcases h3 with h3 | h3
  ·rw [h3]; rfl
  ·rw [decide_eq_true h3]; simp
 ·rintro ⟨⟨c, hc, h⟩, h1⟩
  unfold uD at h
  simp only [Bool.and_eq_true, Bool.or_eq_true, decide_eq_true_eq] at h
  refine ⟨c, hc, h1, ?_, h.2⟩
  rw [iB, decide_eq_true hl, hln, h.1, Nat.testBit_two_pow_self]; rfl
theorem Gl {ts : List Int} {pts : List Pnt} (w : WG ts pts) (f : Flows ts pts) {i l : Nat} (hi : i < pts.length) (h : (Bj ts pts f.Am f.Al f.Af f.Ap i).testBit l = true) : l < pts.length ∧ c9 pts[l]! = true := by
 have b := f.bnd w
 have hpl := w.pl
 unfold Bj at h
 rw [g0 _ _ _ (jL (by omega) (b.lo i hi))] at h
 rcases h with h | ⟨c, _, h1, _⟩
 ·simp at h
 ·rw [Nat.testBit_and, Bool.and_eq_true] at h1
  exact nM ((f.gp.2 i hi l).1 h1.2)
end Go.AL
namespace Go.AL
open Go.RowKit
set_option linter.unusedVariables false
section
variable {P : Program} {C : Ctx} {ι : Pl} {F : Nat → Prop} {T : Nat → Option AV} {H : Nat → Option (List AV)} {a : Act} {w : World} {o : Oper}
theorem sY (z : Array Value) : ∀ n, (Builtin.zeroCells z n).toList = (List.replicate n z.toList).flatten := fun n => by
 have := oC z n (n * z.size) rfl
 simpa [Builtin.zeroCells, madeCells] using this
end
theorem Le.cut {ts : List (Nat × AV)} {hs : List (Nat × Option (List AV))} {n : Nat} {z0 : Lo} {i : Nat} {cs : List AV} (k : Nat) (hi : bU hs i = some cs) :
  Le ⟨ts, hs, n, z0⟩ ⟨ts, (i, some (cs.take k)) :: hs, n, z0⟩ := by
 rintro C a w ⟨h0, ι, g, gh⟩
 have hσ : ∀ id c, bU ((i, some (cs.take k)) :: hs) id = some c → ∃ c0, bU hs id = some c0 ∧ (c = c0 ∨ c = c0.take k) := by
  intro id c h
  rw [dN] at h
  split at h
  ·rename_i e; subst e; cases h; exact ⟨cs, hi, .inr rfl⟩
  ·exact ⟨c, h, .inl rfl⟩
 have car : Carry w (aY C.X ι (bU hs)) ι w (aY C.X ι (bU ((i, some (cs.take k)) :: hs))) ι := by
  refine ⟨fun b o' x h1 h2 => ⟨?_, h2⟩, fun _ _ h => h, fun _ => Nat.le_refl _⟩
  rintro (h | ⟨id, c, β, q1, q2⟩)
  ·exact h1 (.inl h)
  ·obtain ⟨c0, r, _⟩ := hσ id c q1
   exact h1 (.inr ⟨id, c0, β, r, q2⟩)
 refine ⟨h0, ι, ⟨g.df, g.sz, fun t av ht => ?_⟩, ⟨fun id c h => ?_, fun id id' c c' b β β' q1 q2 q3 q4 => ?_, gh.fr, gh.ex, gh.fresh⟩⟩
 ·obtain ⟨y, hy, hr⟩ := g.tm t av ht
  exact ⟨y, hy, Rd.carry car _ _ hr⟩
 ·obtain ⟨c0, r, e⟩ := hσ id c h
  rcases gh.obj id c0 r with ⟨h1, h2⟩ | ⟨b', β', arr', e', h1, h2, h3, h4, h5, h6⟩
  ·refine .inl ⟨h1, ?_⟩
   rcases e with e | e
   ·rw [e, h2]
   ·rw [e, h2]; simp
  ·refine .inr ⟨b', β', arr', e', h1, h2, ?_, ?_, h5, h6⟩
   ·rcases e with e | e
    ·rw [e]; exact h3
    ·rw [e, List.length_take]; omega
   ·have h7 := RdC.carryB car _ _ _ (fun o x hx => hx) h4
    rcases e with e | e
    ·rw [e]; exact h7
    ·rw [e]; exact RdC.take k h7
 ·obtain ⟨_, r1, _⟩ := hσ id c q1
  obtain ⟨_, r2, _⟩ := hσ id' c' q2
  exact gh.sep _ _ _ _ _ _ _ r1 r2 q3 q4
theorem zW {hs : List (Nat × Option (List AV))} {id m e' : Nat} {u : List Int} (h : bU hs id = some (flat cI u)) (hm : m = u.length) : sCells (bU hs) 1 (mQ (.own id 0 m e')) = some (m, flat cI u) := by
 subst hm
 have hl : (flat cI u).length = u.length * 1 := aK cI u
 show ((bU hs id).bind fun cs => if u.length * 1 ≤ (cs.drop 0).length then some (u.length, (cs.drop 0).take (u.length * 1)) else none) = _
 rw [h]
 show (if u.length * 1 ≤ ((flat cI u).drop 0).length then some (u.length, ((flat cI u).drop 0).take (u.length * 1)) else none) = _
 rw [List.drop_zero, if_pos (by omega), List.take_of_length_le (by omega)]
end Go.AL
namespace Go.AL
open Go.RowKit
set_option linter.unusedVariables false
set_option linter.unusedSimpArgs false
section
variable {P : Program} {C : Ctx} {ι : Pl} {T : Nat → Option AV} {F : Nat → Prop} {H : Nat → Option (List AV)} {a : Act} {w : World} {o : Oper}
theorem o5 (g : TG C ι T H a w) {lo hi : Option Operand} {mx : Operand} {n cap l h m : Nat} (hl : eF T lo 0 = some l) (hh : eF T hi n = some h) (hm : eF T (some mx) n = some m) (his : hi.isSome = true) (hlh : l ≤ h) (hn : h ≤ m) (hc : m ≤ cap) :
  (Instr.sliceBounds true n cap (lo.map a.eval) (hi.map a.eval) (some (a.eval mx))).run P w = .ok (l, h, m) w := by
 have hl2 : (l : Int) ≤ (h : Int) := by omega
 have hm2 : (m : Int) ≤ (cap : Int) := by omega
 have hh2 : (h : Int) ≤ (m : Int) := by omega
 obtain ⟨x3, k3, e3, hx3⟩ : ∃ x k, some mx = some x ∧ a.eval x = .int k (m : Int) := by
  rcases nA g hm with ⟨e, _⟩ | h
  ·cases e
  ·exact h
 cases e3
 rcases nA g hl with ⟨rfl, rfl⟩ | ⟨x, k, rfl, hx⟩ <;> rcases nA g hh with ⟨rfl, rfl⟩ | ⟨y, k', rfl, hy⟩ <;> first | (cases his; done) | simp [Instr.sliceBounds, Instr.sliceBound, asIntOf, *]
theorem y8 (g : TG C ι T H a w) {lo hi : Option Operand} {n cap l h : Nat} (hl : eF T lo 0 = some l) (hh : eF T hi n = some h) (hlh : l ≤ h) (hn : h ≤ cap) (hc : n ≤ cap) :
  (Instr.sliceBounds true n cap (lo.map a.eval) (hi.map a.eval) none).run P w = .ok (l, h, cap) w := by
 have hc2 : (h : Int) ≤ (cap : Int) := by omega
 have hl2 : (l : Int) ≤ (h : Int) := by omega
 rcases nA g hl with ⟨rfl, rfl⟩ | ⟨x, k, rfl, hx⟩ <;> rcases nA g hh with ⟨rfl, rfl⟩ | ⟨y, k', rfl, hy⟩ <;>
  simp [Instr.sliceBounds, Instr.sliceBound, asIntOf, *]
theorem CU (g : TG C ι T H a w) {t el : TypeId} {x mx : Operand} {lo hi : Option Operand} {id off n e l h m : Nat} (ho : o.op = .slice t x lo hi (some mx)) (hx : ev T x = some (.own id off n e))
  (ht : jJ P t = some el) (he : fE P el = some e) (his : hi.isSome = true) (hl : eF T lo 0 = some l) (hh : eF T hi n = some h) (hm : eF T (some mx) n = some m) (hc : l ≤ h ∧ h ≤ m ∧ m ≤ n) : Pu P C ι H a w o (.own id (off + l * e) (h - l) e) := by
 have h1 := cX g hx
 have hu := gM ht
 simp only [Rd] at h1
 rcases h1 with ⟨⟨p, h1⟩, rfl, a', h3⟩ | ⟨b, β, c, h1, h3, h4, h5⟩
 ·have hr := o5 (P := P) (w := w) (cap := 0) g hl hh hm his hc.1 hc.2.1 hc.2.2
  have e1 : m = 0 := by omega
  have e2 : h = 0 := by omega
  have e3 : l = 0 := by omega
  subst e1 e2 e3
  refine ⟨.slice a' 0 0, ?_, ?_⟩
  ·simp [execOp, ho, h3, Instr.sliceAt, cQ hu, Instr.slice, hr, eE he]
  ·simp only [Rd]; exact .inl ⟨⟨p, h1⟩, by simp, a', rfl⟩
 ·have hr := o5 (P := P) (w := w) (cap := c) g hl hh hm his hc.1 hc.2.1 (by omega)
  by_cases h0 : m = l
  ·have e1 : h = l := by omega
   subst e1 h0
   refine ⟨.slice (some ⟨b, β + off, none⟩) 0 0, ?_, ?_⟩
   ·simp [execOp, ho, h3, Instr.sliceAt, cQ hu, Instr.slice, hr, eE he]
   ·simp only [Rd]; exact .inl ⟨⟨_, h1⟩, by simp, some ⟨b, β + off, none⟩, by simp⟩
  ·refine ⟨.slice (some ⟨b, β + (off + l * e), none⟩) (h - l) (m - l), ?_, ?_⟩
   ·simp [execOp, ho, h3, Instr.sliceAt, cQ hu, Instr.slice, hr, eE he, h0, Addr.add_lit, Nat.add_assoc]
   ·simp only [Rd]
    refine .inr ⟨b, β, m - l, h1, rfl, by omega, ?_⟩
    rw [Nat.sub_mul]
    have q1 : l * e ≤ m * e := Nat.mul_le_mul_right _ (by omega)
    have q2 : m * e ≤ c * e := Nat.mul_le_mul_right _ (by omega)
    omega
theorem Ci (g : TG C ι T H a w) {t el : TypeId} {x : Operand} {hi : Option Operand} {id off n e h : Nat} (ho : o.op = .slice t x none hi none) (hx : ev T x = some (.own id off n e))
  (ht : jJ P t = some el) (he : fE P el = some e) (hh : eF T hi n = some h) (hc : h ≤ n) (h0 : 0 < n) : Pu P C ι H a w o (.ownc id off h n e) := by
 have h1 := cX g hx
 have hu := gM ht
 simp only [Rd] at h1
 rcases h1 with ⟨_, rfl, _⟩ | ⟨b, β, c, h1, h3, h4, h5⟩
 ·omega
 ·have hr := gV (P := P) (w := w) (is := true) (cap := c) g (lo := none) rfl hh (Nat.zero_le _) hc h4
  refine ⟨.slice (some ⟨b, β + off, none⟩) h c, ?_, ?_⟩
  ·have hr' : (Instr.sliceBounds true n c none (hi.map a.eval) none).run P w = .ok (0, h, c) w := hr
   simp [execOp, ho, h3, Instr.sliceAt, cQ hu, Instr.slice, hr', eE he, Addr.add_lit]
  ·simp only [Rd]; exact ⟨b, β, c, h1, rfl, hc, h4, h5⟩
theorem Aj (g : TG C ι T H a w) {t el : TypeId} {x : Operand} {lo hi : Option Operand} {id off n k e l h : Nat} (ho : o.op = .slice t x lo hi none) (hx : ev T x = some (.ownc id off n k e))
  (ht : jJ P t = some el) (he : fE P el = some e) (hl : eF T lo 0 = some l) (hh : eF T hi n = some h) (hc : l < h ∧ h ≤ k) : Pu P C ι H a w o (.own id (off + l * e) (h - l) e) := by
 have h1 := cX g hx
 have hu := gM ht
 simp only [Rd] at h1
 obtain ⟨b, β, c, h1, h3, h4, h4', h5⟩ := h1
 have hr := y8 (P := P) (w := w) (cap := c) g hl hh (by omega) (by omega) (by omega)
 refine ⟨.slice (some ⟨b, β + (off + l * e), none⟩) (h - l) (c - l), ?_, ?_⟩
 ·simp [execOp, ho, h3, Instr.sliceAt, cQ hu, Instr.slice, hr, eE he, show ¬ c = l from by omega, Addr.add_lit, Nat.add_assoc]
 ·simp only [Rd]
  refine .inr ⟨b, β, c - l, h1, rfl, by omega, ?_⟩
  rw [Nat.sub_mul]
  have : l * e ≤ c * e := Nat.mul_le_mul_right _ (by omega)
  omega
theorem Gq (g : TG C ι T H a w) {t : TypeId} {x : Operand} {ts : Array TypeId} {el : TypeId} {id off n k e : Nat} (ho : o.op = .call ⟨.builtin .len, #[x], ts⟩) (hts : ts[0]? = some t) (hx : ev T x = some (.ownc id off n k e))
  (ht : jJ P t = some el) : Pu P C ι H a w o (.v (.int .i64 n)) := by
 have h1 := cX g hx
 have hu := gM ht
 simp only [Rd] at h1
 obtain ⟨b, β, c, h1, h3, h4, h4', h5⟩ := h1
 refine ⟨.int .i64 n, ?_, by simp only [Rd]⟩
 simp [execOp, ho, resolve, invoke, builtin, Builtin.len_, hts, h3, cQ hu, goInt]
theorem xB (gh : HG C ι F H w) {t el : TypeId} {x y : Operand} {id off n m k e : Nat} {av : AV} {cs new : List AV} {zs : List Value}
  (ho : o.op = .call ⟨.builtin .append, #[x, y], #[t, t]⟩) (hx : Rd w (aY C.X ι H) ι (.ownc id off n k e) (a.eval x)) (hy : Rd w (aY C.X ι H) ι av (a.eval y))
  (ht : jJ P t = some el) (he : fE P el = some e) (hz : nB P el = some zs)
  (hH : H id = some cs) (hs : sCells H e (mQ av) = some (m, new)) (hk : n + m ≤ k) (hl : off + n * e + new.length ≤ cs.length) :
  Ef P C ι F H a w o (.ownc id off (n + m) k e) (eO H id (some (g8 cs (off + n * e) new))) := by
 obtain ⟨i, z, h1, h2, h3, h4⟩ := mX hz
 have hu := gM ht
 have hsz := rT he h1
 obtain ⟨ad, c2, l, hy2, hll, hrl, hcell, had⟩ := oB gh (lZ hy) hs
 simp only [Rd] at hx
 obtain ⟨b, β, c, p1, p2, p3, p4, p5⟩ := hx
 have hlenx : (Builtin.lenOf (a.eval y)).run P w = .ok m w := by rw [hy2]; rfl
 have hnew : (Builtin.firstCells i.size m (a.eval y)).run P w = .ok l.toArray w := by
  rw [hy2]
  rcases had with ⟨b, o', rfl⟩ | h0
  ·rw [hsz]; exact mT hll (hcell b o' rfl) w (fun _ => rfl) m
  ·subst h0
   have : l = [] := List.eq_nil_of_length_eq_zero (by simpa using hll)
   subst this
   cases ad with
   | none => rfl
   | some ad => simp [Builtin.firstCells, loadCells, loadCellsFrom]
 obtain ⟨w', q1, q2, q3⟩ := nQ (P := P) gh hH p1 hl hrl
 have hroom : n + m ≤ c := by omega
 have hst : (storeCells ⟨b, β + off + n * i.size, none⟩ l).run P w = .ok () w' := by rw [hsz, Nat.add_assoc]; exact q1
 have hr : (Builtin.append_ #[t, t] o.type #[a.eval x, a.eval y]).run P w = .ok (.slice (some ⟨b, β + off, none⟩) (n + m) c) w' := by
  rw [p2]
  simp [Builtin.append_, cQ hu, sizeOf, typeInfo, h1, hlenx, hroom, hnew, Addr.add_lit, hst]
 refine ⟨_, .slice (some ⟨b, β + off, none⟩) (n + m) c, ι, w', ?_, .inl ⟨rfl, ?_⟩, q2, q3⟩
 ·simp [execOp, ho, resolve, invoke, builtin, hr]
 ·simp only [Rd]
  exact ⟨b, β, c, p1, rfl, hk, p4, Nat.le_trans p5 (q3.bs b)⟩
theorem yG {bad : Nat → Prop} {zs : List Value} (h : zs.all (·.oneCell') = true) : ∀ n, RdL w bad ι (List.replicate n (zs.map AV.v)).flatten (List.replicate n zs).flatten
 | 0 => by simp [RdL]
 | n + 1 => by
  rw [List.replicate_succ, List.replicate_succ, List.flatten_cons, List.flatten_cons]
  exact RdL.append (qY h) (yG h n)
theorem EV (gh : HG C ι F H w) {t el : TypeId} {x : Operand} {id off n e : Nat} {cs : List AV} {zs : List Value}
  (ho : o.op = .call ⟨.builtin .clear, #[x], #[t]⟩) (hx : Rd w (aY C.X ι H) ι (.own id off n e) (a.eval x)) (hd : o.dst = none)
  (ht : jJ P t = some el) (he : fE P el = some e) (hz : nB P el = some zs) (hze : zs.length = e)
  (hH : H id = some cs) (h0 : 0 < n) (hl : off + n * e ≤ cs.length) :
  Ef P C ι F H a w o (.tup []) (eO H id (some (g8 cs off (List.replicate n (zs.map AV.v)).flatten))) := by
 obtain ⟨i, z, h1, h2, h3, h4⟩ := mX hz
 have hu := gM ht
 have hsz := rT he h1
 simp only [Rd] at hx
 rcases hx with ⟨_, rfl, _⟩ | ⟨b, β, c, p1, p2, p3, p4⟩
 ·omega
 have hlen : ((List.replicate n (zs.map AV.v)).flatten).length = n * e := by
  rw [List.length_flatten]; simp [hze]
 obtain ⟨w', q1, q2, q3⟩ := nQ (P := P) gh hH p1 (off := off) (new := (List.replicate n (zs.map AV.v)).flatten) (by rw [hlen]; exact hl) (yG h4 n)
 have hr : (Builtin.clear_ #[t] o.type #[a.eval x]).run P w = .ok (.tuple #[]) w' := by
  rw [p2]
  cases n with
  | zero => omega
  | succ n =>
   have hzc : (Builtin.zeroCells z.cells (n + 1)).toList = (List.replicate (n + 1) zs).flatten := by rw [sY, h3]
   simp [Builtin.clear_, cQ hu, zeroValue, typeInfo, h1, h2, hzc, q1]
 refine ⟨.value (.tuple #[]), .tuple #[], ι, w', ?_, .inl ⟨rfl, ?_⟩, q2, q3⟩
 ·simp [execOp, ho, resolve, invoke, builtin, hr]
 ·simp only [Rd]; exact ⟨[], rfl, by simp [RdV]⟩
end
section
variable {P : Program} {N : Nat} {Q : Exit → AS → Prop} {all : Array Oper} {rest : List Oper} {ts : List (Nat × AV)} {hs : List (Nat × Option (List AV))} {n : Nat} {z0 : Lo} {md : Md}
variable {d : Nat} {ty : TypeId} {pos : String} {af : Array Edge}
theorem C3 {t el e : TypeId} {x hi mx : Operand} {lo : Option Operand} {id off m l h k : Nat} [ht : SlT P t el] [he : SzT P el e] (hx : ev (lk ts) x = some (.own id off m e))
  (hl : eF (lk ts) lo 0 = some l) (hh : eF (lk ts) (some hi) m = some h) (hm : eF (lk ts) (some mx) m = some k) (hc : l ≤ h ∧ h ≤ k ∧ k ≤ m) (hN : Nat.blt d N = true) {md' : Md} [hmd : MdA md (rO x ++ (rB lo ++ (rB (some hi) ++ rB (some mx)))) [.inl d] md']
  (kk : RW P N all Q md' rest ⟨(d, .own id (off + l * e) (h - l) e) :: ts, hs, n, z0⟩) : RW P N all Q md (⟨some d, .slice t x lo (some hi) (some mx), ty, pos, af, none⟩ :: rest) ⟨ts, hs, n, z0⟩ :=
 dW rfl rfl (dX hN) (fun C ι F T H a w ag g gh => CU g rfl (ag.l.ev.trans hx) ht.pf he.pf rfl (ag.r.l.bnd.trans hl) (ag.r.r.l.bnd.trans hh) (ag.r.r.r.bnd.trans hm) hc) (by rw [hmd.pf]; exact kk)
theorem Cm {t el e : TypeId} {x : Operand} {hi : Option Operand} {id off m h : Nat} [ht : SlT P t el] [he : SzT P el e] (hx : ev (lk ts) x = some (.own id off m e))
  (hh : eF (lk ts) hi m = some h) (hc : h ≤ m) (h0 : 0 < m) (hN : Nat.blt d N = true) {md' : Md} [hmd : MdA md (rO x ++ rB hi) [.inl d] md']
  (kk : RW P N all Q md' rest ⟨(d, .ownc id off h m e) :: ts, hs, n, z0⟩) : RW P N all Q md (⟨some d, .slice t x none hi none, ty, pos, af, none⟩ :: rest) ⟨ts, hs, n, z0⟩ :=
 dW rfl rfl (dX hN) (fun C ι F T H a w ag g gh => Ci g rfl (ag.l.ev.trans hx) ht.pf he.pf (ag.r.bnd.trans hh) hc h0) (by rw [hmd.pf]; exact kk)
theorem zJ {t el e : TypeId} {x : Operand} {lo hi : Option Operand} {id off m k l h : Nat} [ht : SlT P t el] [he : SzT P el e] (hx : ev (lk ts) x = some (.ownc id off m k e))
  (hl : eF (lk ts) lo 0 = some l) (hh : eF (lk ts) hi m = some h) (hc : l < h ∧ h ≤ k) (hN : Nat.blt d N = true) {md' : Md} [hmd : MdA md (rO x ++ (rB lo ++ rB hi)) [.inl d] md']
  (kk : RW P N all Q md' rest ⟨(d, .own id (off + l * e) (h - l) e) :: ts, hs, n, z0⟩) : RW P N all Q md (⟨some d, .slice t x lo hi none, ty, pos, af, none⟩ :: rest) ⟨ts, hs, n, z0⟩ :=
 dW rfl rfl (dX hN) (fun C ι F T H a w ag g gh => Aj g rfl (ag.l.ev.trans hx) ht.pf he.pf (ag.r.l.bnd.trans hl) (ag.r.r.bnd.trans hh) hc) (by rw [hmd.pf]; exact kk)
theorem GN {t el : TypeId} {x : Operand} {l : List TypeId} {id off m k e : Nat} [ht : SlT P t el] (hx : ev (lk ts) x = some (.ownc id off m k e)) (hN : Nat.blt d N = true) {md' : Md} [hmd : MdA md (rO x) [.inl d] md']
  (kk : RW P N all Q md' rest ⟨(d, .v (.int .i64 (m : Int))) :: ts, hs, n, z0⟩) : RW P N all Q md (⟨some d, .call ⟨.builtin .len, #[x], (t :: l).toArray⟩, ty, pos, af, none⟩ :: rest) ⟨ts, hs, n, z0⟩ :=
 dW rfl rfl (dX hN) (fun C ι F T H a w ag g gh => Gq g rfl (by simp) (ag.ev.trans hx) ht.pf) (by rw [hmd.pf]; exact kk)
theorem yR {t el id off m m' k e : Nat} {x y : Operand} {av : AV} {cs new cs' : List AV} {zs : List Value} [ht : SlT P t el] [he : SzT P el e] [hz : ZrT P el zs]
  (hx : ev (lk ts) x = some (.ownc id off m k e)) (hy : ev (lk ts) y = some av)
  (hH : bU hs id = some cs) (hs' : sCells (bU hs) e (mQ av) = some (m', new)) (hk : m + m' ≤ k) (hl : off + m * e + new.length ≤ cs.length)
  (hcs : g8 cs (off + m * e) new = cs') (hN : Nat.blt d N = true) {md' : Md} [hmd : MdA md (rO x ++ (rO y ++ ([.inr id] ++ rA av))) [.inr id, .inl d] md'] (kk : RW P N all Q md' rest ⟨(d, .ownc id off (m + m') k e) :: ts, (id, some cs') :: hs, n, z0⟩) :
  RW P N all Q md (⟨some d, .call ⟨.builtin .append, #[x, y], #[t, t]⟩, ty, pos, af, none⟩ :: rest) ⟨ts, hs, n, z0⟩ := by
 subst hcs
 exact wT (rs := rO x ++ (rO y ++ ([.inr id] ++ rA av))) (ws := [(id, some (g8 cs (off + m * e) new))]) (n' := n) (out := .ownc id off (m + m') k e) rfl (fun _ h => by cases h; exact dX hN) (Nat.le_refl n) (.inl rfl)
  (fun C ι F T H a w ag hF g gh => wB (xB gh rfl (cX g (ag.l.ev.trans hx)) (cX g (ag.r.l.ev.trans hy)) ht.pf he.pf hz.pf ((ag.r.r.l.h id (by simp)).trans hH) (ag.r.r.r.sCells.trans hs') hk hl)) (by
   show RW P N all Q (md.add (rO x ++ (rO y ++ ([.inr id] ++ rA av))) [.inr id, .inl d]) rest ⟨(d, .ownc id off (m + m') k e) :: ts, (id, some (g8 cs (off + m * e) new)) :: hs, n, z0⟩
   rw [hmd.pf]; exact kk)
theorem EY {t el id off m e : Nat} {x : Operand} {cs cs' : List AV} {zs : List Value} [ht : SlT P t el] [he : SzT P el e] [hz : ZrT P el zs]
  (hx : ev (lk ts) x = some (.own id off m e)) (hze : zs.length = e) (h0 : 0 < m) (hH : bU hs id = some cs) (hl : off + m * e ≤ cs.length)
  (hcs : g8 cs off (List.replicate m (zs.map AV.v)).flatten = cs') {md' : Md} [hmd : MdA md (rO x ++ [.inr id]) [.inr id] md'] (kk : RW P N all Q md' rest ⟨ts, (id, some cs') :: hs, n, z0⟩) :
  RW P N all Q md (⟨none, .call ⟨.builtin .clear, #[x], #[t]⟩, ty, pos, af, none⟩ :: rest) ⟨ts, hs, n, z0⟩ := by
 subst hcs
 exact wT (rs := rO x ++ [.inr id]) (ws := [(id, some (g8 cs off (List.replicate m (zs.map AV.v)).flatten))]) (n' := n) (out := .tup []) rfl (fun _ h => by cases h) (Nat.le_refl n) (.inl rfl)
  (fun C ι F T H a w ag hF g gh => wB (EV gh rfl (cX g (ag.l.ev.trans hx)) rfl ht.pf he.pf hz.pf hze ((ag.r.h id (by simp)).trans hH) h0 hl)) (by
   show RW P N all Q (md.add (rO x ++ [.inr id]) [.inr id]) rest ⟨ts, (id, some (g8 cs off (List.replicate m (zs.map AV.v)).flatten)) :: hs, n, z0⟩
   rw [hmd.pf]; exact kk)
theorem Le.noroom {id off m k e : Nat} (h : lk ts d = some (.ownc id off m k e)) : Le ⟨ts, hs, n, z0⟩ ⟨(d, .own id off m e) :: ts, hs, n, z0⟩ := by
 rintro C a w ⟨hlo, ι, g1, g2⟩
 refine ⟨hlo, ι, ⟨g1.df, g1.sz, fun t av ht => ?_⟩, g2⟩
 have ht' : lk ((d, .own id off m e) :: ts) t = some av := ht
 rw [kG] at ht'
 split at ht'
 ·rename_i q; subst q
  cases ht'
  obtain ⟨y, h1, h2⟩ := g1.tm t _ h
  refine ⟨y, h1, ?_⟩
  simp only [Rd] at h2 ⊢
  obtain ⟨b, β, c, p1, p2, p3, p4, p5⟩ := h2
  exact .inr ⟨b, β, c, p1, p2, by omega, p5⟩
 ·exact g1.tm t av ht'
end
end Go.AL
namespace Go.AL
def kK {α : Type} (k : Nat) (xs : List α) : List α := xs.take k ++ xs.drop (k + 1)
def rW (q : Prg) (k : Nat) : Prg := ⟨q.types, kK k q.body⟩
theorem nK {α : Type} {k : Nat} {xs : List α} (h : k < xs.length) : (kK k xs).length + 1 = xs.length := by
 unfold kK; rw [List.length_append, List.length_take, List.length_drop]; omega
end Go.AL
namespace Go.AL
open Go.RowKit
set_option linter.unusedVariables false
set_option linter.unusedSimpArgs false
section
variable {P : Program} {N : Nat} {Q : Exit → AS → Prop} {all : Array Oper} {rest : List Oper} {ts : List (Nat × AV)} {hs : List (Nat × Option (List AV))} {n : Nat} {z0 : Lo} {md : Md}
variable {d : Nat} {ty : TypeId} {pos : String} {af : Array Edge}
theorem Cp (w : World) (t el : TypeId) (hu : P.underlying t = some (.slice el)) (a : Option Addr) (m c : Nat) : (binOp .eql t (.slice a m c) (.slice none 0 0)).run P w = .ok (.bool a.isNone) w := by
 have h0 : ∀ d : Nat, (Op.equalIn (d + 1) t (.slice a m c) (.slice none 0 0)).run P w = .ok a.isNone w := fun d => by
  cases a <;> simp [Op.equalIn, cQ hu]
 have h := h0 9999
 simp only [binOp]
 simp [Op.equal, Op.maxDepth, h]
theorem Dp {t t' el : TypeId} {x : Operand} {m : Nat} {cs : List AV} [ht : SlT P t el] (hx : ev (lk ts) x = some (.imm m cs)) (hN : Nat.blt d N = true)
  (kk : ∀ b : Bool, (b = true → m = 0) → RW P N all Q .txt rest ⟨(d, .v (.bool b)) :: ts, hs, n, z0⟩) : RW P N all Q .txt (⟨some d, .binOp .eql t x (.const (.slice none 0 0)) t', ty, pos, af, none⟩ :: rest) ⟨ts, hs, n, z0⟩ := by
 rintro C a w hCN ⟨h0, ι, g, gh⟩
 refine wpList_plain rfl (fun K hK => ?_)
 have h1 := cX g hx
 simp only [Rd] at h1
 obtain ⟨a', c, h2, h3⟩ := h1
 have hu := gM ht.pf
 have hb : a'.isNone = true → m = 0 := fun hn => by
  rcases h3 with h3 | ⟨b, o, _, rfl, _⟩
  ·exact h3
  ·cases hn
 have hg : (eqGuard .eql t x (.const (.slice none 0 0)) (.slice a' m c) (.slice none 0 0)).run P w = .ok () w := by simp [eqGuard]
 have hr : (execOp a.eval ⟨some d, .binOp .eql t x (.const (.slice none 0 0)) t', ty, pos, af, none⟩).run P w = .ok (.value (.bool a'.isNone)) w := by
  have e2 : a.eval (.const (.slice none 0 0)) = .slice none 0 0 := rfl
  simp only [execOp, h2, e2, Sem.run_bind, hg, Result.andThen_ok, Cp w t el hu, Sem.run_pure]
 simp only [Oper.wp, hr, Oper.upon]
 refine hK _ _ (kk a'.isNone hb C _ _ hCN ⟨h0, ι, ?_, gh⟩)
 show TG C ι (lk ((d, AV.v (.bool a'.isNone)) :: ts)) _ _ _
 rw [kU]
 exact g.put (by have := dX hN; omega) (by simp [Rd])
end
theorem Gx {α : Type} {f : α → List AV} {e : Nat} [h : FlT f e] {xs : List α} {k : Nat} (hk : k < xs.length) : g8 (flat f xs) (0 + k * e) (flat f (xs.drop (k + 1))) = flat f (kK k xs) ++ flat f (xs.drop (xs.length - 1)) := by
 unfold g8 kK
 have hl : (flat f (xs.drop (k + 1))).length = (xs.length - (k + 1)) * e := by rw [aK f (e := e), List.length_drop]
 rw [Nat.zero_add, hl, ← Nat.add_mul, show k + (xs.length - (k + 1)) = xs.length - 1 by omega, fA f (e := e), ← cT]
 congr 1
 have h4 : flat f xs = flat f (xs.take (xs.length - 1)) ++ flat f (xs.drop (xs.length - 1)) := by rw [cT, List.take_append_drop]
 have h5 : (flat f (xs.take (xs.length - 1))).length = (xs.length - 1) * e := by rw [aK f (e := e), List.length_take, Nat.min_eq_left (by omega)]
 rw [h4, ← h5, List.drop_left]
theorem Gk {α : Type} {f : α → List AV} {e : Nat} [h : FlT f e] {xs : List α} {k : Nat} {z : List AV} (hk : k < xs.length) (hz : z.length = e) : g8 (flat f (kK k xs) ++ flat f (xs.drop (xs.length - 1))) (0 + (xs.length - 1) * e) z = flat f (kK k xs) ++ z := by
 have hd := nK hk
 have h1 : (flat f (kK k xs)).length = (xs.length - 1) * e := by rw [aK f (e := e)]; congr 1; omega
 have h2 : (flat f (xs.drop (xs.length - 1))).length = e := by rw [aK f (e := e), List.length_drop, show xs.length - (xs.length - 1) = 1 by omega, Nat.one_mul]
 unfold g8
 rw [Nat.zero_add, ← h1, List.take_left, hz, List.drop_of_length_le (by rw [List.length_append, h2]; omega), List.append_nil]
theorem Fp {α : Type} {f : α → List AV} {e : Nat} [h : FlT f e] {xs : List α} {k m : Nat} {z : List AV} (hk : k < xs.length) (hm : m = 1) (hz : z.length = e) : g8 (flat f (kK k xs) ++ flat f (xs.drop (xs.length - 1))) (0 + (xs.length - 1) * e) (List.replicate m z).flatten = flat f (kK k xs) ++ z := by
 subst hm
 have e1 : (List.replicate 1 z).flatten = z := by simp
 rw [e1]; exact Gk hk hz
theorem Bf {α : Type} {f : α → List AV} {e : Nat} [h : FlT f e] {hs : List (Nat × Option (List AV))} {xs : List α} {i k n : Nat} (hH : bU hs i = some (flat f xs)) (hn : n = xs.length - k) : sCells (bU hs) e (mQ (.own i (0 + k * e) n e)) = some (n, flat f (xs.drop k)) := by
 show ((bU hs i).bind fun cs => if n * e ≤ (cs.drop (0 + k * e)).length then some (n, (cs.drop (0 + k * e)).take (n * e)) else none) = _
 rw [hH, Option.bind_some, Nat.zero_add]
 have h1 : (flat f xs).length = xs.length * e := aK f xs
 have h3 : (flat f xs).drop (k * e) = flat f (xs.drop k) := by
  have h4 : flat f xs = flat f (xs.take k) ++ flat f (xs.drop k) := by rw [cT, List.take_append_drop]
  have h5 : (flat f (xs.take k)).length = (xs.take k).length * e := aK f _
  by_cases hk : k ≤ xs.length
  ·rw [h4, ← show (flat f (xs.take k)).length = k * e from by rw [h5, List.length_take]; congr 1; omega, List.drop_left]
  ·rw [List.drop_of_length_le (by rw [h1]; exact Nat.mul_le_mul_right _ (by omega)), List.drop_of_length_le (by omega)]; rfl
 rw [h3]
 have h2 : (flat f (xs.drop k)).length = (xs.length - k) * e := by rw [aK f (e := e), List.length_drop]
 rw [h2, hn, if_pos (Nat.le_refl _), List.take_of_length_le (by rw [h2]; exact Nat.le_refl _)]
theorem j6 {T : Nat → Option AV} {x : Operand} {dd : Nat} {k : IntKind} {m : Int} {h : Nat} (hx : ev T x = some (.v (.int k m))) (e : m = (h : Int)) : eF T (some x) dd = some h := by
 simp only [eF, hx]; rw [if_pos (by omega)]; congr 1; omega
end Go.AL
namespace Go.AL
structure Tg where
 id : Int
 uq : Bool
 deriving Inhabited, DecidableEq
structure Cl where
 val : Int
 alive : Bool
 next : Int
 stk : List Tg
 deriving Inhabited, DecidableEq
structure Pt where
 cell : Int
 tag : Int
 deriving Inhabited, DecidableEq
structure Sl where
 set : Bool
 num : Int
 ptr : Pt
 deriving Inhabited, DecidableEq
end Go.AL
namespace Go.AL
structure Mc where
 slots : List Sl
 cells : List Cl
 read : List Int
 deriving Inhabited
end Go.AL
namespace Go.AL
def Ac (ts : List Int) (pts : List Pnt) (a w : Nat) (wr : Bool) : Prop :=
 ((pts[a]!.op = 4 ∨ pts[a]!.op = 6) ∧ pts[a]!.y = (w : Int) ∧ wr = false) ∨ (pts[a]!.op = 5 ∧ pts[a]!.y = (w : Int) ∧ wr = true) ∨ ((pts[a]!.op = 7 ∨ pts[a]!.op = 8) ∧ pts[a]!.x = (w : Int) ∧ wr = true) ∨
 (pts[a]!.op = 3 ∧ Hf ts[w]! = true ∧ pts[a]!.y = (w : Int) ∧ wr = true) ∨ (bR pts[a]! = (w : Int) ∧ ts[w]! = 2 ∧ Mb ts pts (a, w) ∧ wr = true)
def Kp (ts : List Int) (pts : List Pnt) (a v : Nat) : Prop := Lv ts pts a v ∧ bR pts[a]! ≠ (v : Int) ∧ cE ts pts[a]! v ≠ 2
def Cf (ts : List Int) (pts : List Pnt) (a L : Nat) : Prop := ∃ v w wr, Kp ts pts a v ∧ Ac ts pts a w wr ∧ Dm ts pts (a, v, L) ∧ FW ts pts (a, L) ∧ pts[L]!.y = (w : Int) ∧ (wr = true ∨ pts[L]!.op = 5)
end Go.AL
namespace Go.AL
section
variable {ts : List Int} {pts : List Pnt} {a : Nat} {s : Mc}
theorem AR {f : Flows ts pts} {i : Iss} (ha : a < pts.length) (h : i ∈ Ch ts pts f.Aa f.Am f.Al f.Af f.Ap a) : i ∈ f.iss := List.mem_flatMap.2 ⟨a, List.mem_range.2 ha, h⟩
theorem Bv {x : Pnt} {v : Nat} : (hO x).testBit v = decide (bR x = (v : Int)) := by
 unfold hO
 split
 ·rw [Nat.testBit_two_pow, decide_eq_decide]; omega
 ·rw [Nat.zero_testBit]; exact (decide_eq_false (by omega)).symm
theorem HF (w : WG ts pts) (f : Flows ts pts) {L : Nat} (ha : a < pts.length) (h : Cf ts pts a L) : (⟨a, if pts[L]!.op = 5 then 3 else 2, L⟩ : Iss) ∈ f.iss := by
 obtain ⟨v, u, wr, hk, hA, hf, hp, hy, hw⟩ := h
 obtain ⟨hl, hln⟩ := nM hp
 dsimp only at hl hln
 obtain ⟨_, hvl, _⟩ := y5 w hf
 dsimp only at hvl
 have htl := w.tl
 have hpl := w.pl
 have hyw := w.y L hl
 have hx := w.x a ha
 have hya := w.y a ha
 refine AR ha (List.mem_append_right _ (List.mem_map.2 ⟨(L : Int), dK.2 ⟨L, by omega, ?_, rfl⟩, by rw [Int.toNat_natCast]⟩))
 rw [xD w f ha hl hln, Bool.and_eq_true, Bool.and_eq_true]
 refine ⟨List.any_eq_true.2 ?_, ?_, (f.gp.2 a ha L).2 hp⟩
 ·have near : ∀ c : Acc, c.var = (u : Int) → c.write = wr → uD pts L c = true := fun c h1 h2 => by
   unfold uD
   rw [h1, h2, hy, decide_eq_true rfl, Bool.true_and]
   rcases hw with h | h
   ·rw [h]; rfl
   ·rw [decide_eq_true h]; simp
  unfold iH
  rcases hA with ⟨h, e, e2⟩ | ⟨h, e, e2⟩ | ⟨h, e, e2⟩ | ⟨h, ht, e, e2⟩ | ⟨h, ht, hm, e2⟩
  ·exact ⟨⟨pts[a]!.y, false⟩, List.mem_append_left _ (by rw [if_pos h]; simp), near _ e e2.symm⟩
  ·exact ⟨⟨pts[a]!.y, true⟩, List.mem_append_left _ (by rw [if_neg (by omega), if_pos h]; simp), near _ e e2.symm⟩
  ·exact ⟨⟨pts[a]!.x, true⟩, List.mem_append_left _ (by rw [if_neg (by omega), if_neg (by omega), if_pos h]; simp), near _ e e2.symm⟩
  ·refine ⟨⟨pts[a]!.y, true⟩, List.mem_append_left _ ?_, near _ e e2.symm⟩
   rw [if_neg (by omega), if_neg (by omega), if_neg (by omega), if_pos ⟨h, by rw [e, Int.toNat_natCast]; exact ht⟩]; simp
  ·refine ⟨⟨bR pts[a]!, true⟩, List.mem_append_right _ ?_, near _ h e2.symm⟩
   rw [if_pos ⟨by omega, by rw [h, Int.toNat_natCast]; exact ht, by rw [h, Int.toNat_natCast]; exact (f.gm.2 a ha u).2 hm⟩]; simp
 ·unfold tF
  rw [gC]
  refine .inr ⟨(v : Int), dK.2 ⟨v, by omega, ?_, rfl⟩, ?_⟩
  ·rw [dC, (f.gl.2 a ha v).2 hk.1, Bool.true_and, Nat.testBit_or, dM, Bv, decide_eq_false hk.2.1]
   have : decide (cE ts pts[a]! v ∈ ([2] : List Int)) = false := decide_eq_false (by simpa using hk.2.2)
   rw [this]; simp
  ·rw [Int.toNat_natCast, fQ f.gf.1 ha (by omega)]
   exact (f.gf.2 a v ha (by omega) L).2 hf
end
end Go.AL
namespace Go.AL
def eX {α : Type} (k : Nat) (x : α) (xs : List α) : List α := xs.take k ++ x :: xs.drop k
def iK (v : Int) : Stmt := .mk 8 v 0 0 [] []
theorem sK {α : Type} {k : Nat} {x : α} {xs : List α} : (eX k x xs).length = xs.length + 1 := by
 unfold eX; rw [List.length_append, List.length_cons, List.length_take, List.length_drop]; omega
theorem CX {α : Type} {k : Nat} {x y : α} {xs : List α} (h : k ≤ xs.length) : eX k x (eX k y xs) = xs.take k ++ x :: y :: xs.drop k := by
 have e : (xs.take k).length = k := by rw [List.length_take]; omega
 unfold eX
 rw [List.take_append_of_le_length (by omega), List.take_of_length_le (by omega), List.drop_append_of_le_length (by omega), List.drop_of_length_le (by omega), List.nil_append]
theorem B0 {α : Type} {k : Nat} {x : α} {xs : List α} (h : k ≤ xs.length) : (eX k x xs).take k = xs.take k := by
 have e : (xs.take k).length = k := by rw [List.length_take]; omega
 unfold eX
 rw [List.take_append_of_le_length (by omega), List.take_of_length_le (by omega)]
theorem B2 {α : Type} {k : Nat} {x : α} {xs : List α} (h : k ≤ xs.length) : kK k (eX k x xs) = xs := by
 have e : (xs.take k).length = k := by rw [List.length_take]; omega
 unfold kK
 rw [B0 h]
 unfold eX
 rw [List.drop_append, List.drop_of_length_le (by omega), e, show k + 1 - k = 1 by omega, List.nil_append, List.drop_succ_cons, List.drop_zero, List.take_append_drop]
theorem GI {ts : List Int} {b : List Stmt} {k : Nat} {v w : Int} (h : k ≤ b.length) :
  ∃ B : List Pnt, aR ⟨ts, eX k (iK v) (eX k (iK w) b)⟩ = gF 0 (b.take k) ++ ⟨8, v, 0, 0, [((dL (b.take k) : Nat) : Int) + 1]⟩ :: ⟨8, w, 0, 0, [((dL (b.take k) + 1 : Nat) : Int) + 1]⟩ :: B := by
 refine ⟨gF (dL (b.take k) + 1 + 1) (b.drop k) ++ [⟨11, 0, 0, 0, []⟩], ?_⟩
 unfold aR
 dsimp only
 rw [CX h, m8, Nat.zero_add, gF, gF, iK, iK, zD, zD, nD, nD, if_neg (by decide), if_neg (by decide), if_neg (by decide), if_neg (by decide)]
 simp
theorem B3 {ts : List Int} {b : List Stmt} {k v : Nat} (h : k ≤ b.length) (hv : v < ts.length) (w : WG ts (aR ⟨ts, eX k (iK v) (eX k (iK v) b)⟩)) (f : Flows ts (aR ⟨ts, eX k (iK v) (eX k (iK v) b)⟩)) : f.iss ≠ [] := by
 obtain ⟨B, e⟩ := GI (ts := ts) (v := v) (w := v) h
 revert w f
 rw [e]
 intro w f hn
 have hl : (gF 0 (b.take k)).length = dL (b.take k) := cS _ _
 generalize hA : gF 0 (b.take k) = A at w f hn hl
 generalize ha : dL (b.take k) = a at w f hn hl
 have p0 : (A ++ (⟨8, v, 0, 0, [(a : Int) + 1]⟩ : Pnt) :: ⟨8, v, 0, 0, [((a + 1 : Nat) : Int) + 1]⟩ :: B)[a]! = ⟨8, v, 0, 0, [(a : Int) + 1]⟩ := by
  rw [← hl]; simp
 have p1 : (A ++ (⟨8, v, 0, 0, [(a : Int) + 1]⟩ : Pnt) :: ⟨8, v, 0, 0, [((a + 1 : Nat) : Int) + 1]⟩ :: B)[a + 1]! = ⟨8, v, 0, 0, [((a + 1 : Nat) : Int) + 1]⟩ := by
  rw [← hl]; simp
 have hlen : a + 1 < (A ++ (⟨8, v, 0, 0, [(a : Int) + 1]⟩ : Pnt) :: ⟨8, v, 0, 0, [((a + 1 : Nat) : Int) + 1]⟩ :: B).length := by
  rw [List.length_append, List.length_cons, List.length_cons]; omega
 have u2 : ∀ n : List Int, cE ts ⟨8, v, 0, 0, n⟩ v = 2 := fun n => by simp [cE]
 have s2 : ∀ n : List Int, bR ⟨8, v, 0, 0, n⟩ = -1 := fun n => by simp [bR]
 have na : Na ts (A ++ (⟨8, v, 0, 0, [(a : Int) + 1]⟩ : Pnt) :: ⟨8, v, 0, 0, [((a + 1 : Nat) : Int) + 1]⟩ :: B) (a + 1, v) :=
  .base ⟨hv, .inr ⟨a, ⟨by omega, by rw [p0]; simp⟩, by rw [p0]; exact u2 _, by rw [p0, s2]; dsimp only; omega⟩⟩
 have htl := w.tl
 have : (⟨((a + 1 : Nat) : Int), 1, v⟩ : Iss) ∈ f.iss := by
  refine AR hlen (List.mem_append_left _ (List.mem_map.2 ⟨(v : Int), dK.2 ⟨v, by omega, ?_, rfl⟩, rfl⟩))
  rw [dC, dM, decide_eq_true hv, Bool.true_and, Bool.and_eq_true]
  refine ⟨decide_eq_true (by rw [p1, u2]; simp), ?_⟩
  have := f.ga.2 (a + 1) hlen v
  cases q : f.Aa[a + 1]!.testBit v with
  | false => rfl
  | true => exact absurd na (this.1 q).2
 rw [hn] at this
 exact absurd this (List.not_mem_nil)
end Go.AL
namespace Go.AL
section
variable {ts ts' : List Int} {pts : List Pnt} {σ : Nat → Nat}
theorem IF {x : Pnt} (h : c9 x = true) : x.op = 4 ∨ x.op = 5 := by
 unfold c9 at h; simpa using h
end
end Go.AL
namespace Go.AL
section
variable {ts ts' : List Int} {pts : List Pnt} {σ : Nat → Nat}
theorem H7 (w : WG ts pts) (f : Flows ts pts) {a l : Nat} (ha : a < pts.length) (h : (Bj ts pts f.Am f.Al f.Af f.Ap a).testBit l = true) : Cf ts pts a l := by
 obtain ⟨hl, hln⟩ := Gl w f ha h
 have ho := IF hln
 have hyl := (w.y l hl).2 (by omega) (by omega)
 have hy0 := (w.y l hl).1
 have htl := w.tl
 rw [xD w f ha hl hln, Bool.and_eq_true, Bool.and_eq_true] at h
 obtain ⟨h1, h2, h3⟩ := h
 obtain ⟨c, hc, hn⟩ := List.any_eq_true.1 h1
 unfold uD at hn
 rw [Bool.and_eq_true, decide_eq_true_eq] at hn
 obtain ⟨hv, hw⟩ := hn
 have hp := (f.gp.2 a ha l).1 h3
 unfold tF at h2
 rw [gC] at h2
 rcases h2 with h2 | ⟨z, hz, h2⟩
 ·simp at h2
 obtain ⟨v, _, hb, rfl⟩ := dK.1 hz
 rw [dC, Nat.testBit_or, dM, Bv] at hb
 simp only [Bool.and_eq_true, Bool.not_eq_true', Bool.or_eq_false_iff] at hb
 obtain ⟨b1, b2, b3⟩ := hb
 have hvl : v < ts.length := by obtain ⟨k, _, q⟩ := (f.gl.2 a ha v).1 b1; exact pG w q
 rw [Int.toNat_natCast, fQ f.gf.1 ha (by omega)] at h2
 have hk : Kp ts pts a v := by
  refine ⟨(f.gl.2 a ha v).1 b1, by simpa using b3, ?_⟩
  rw [decide_eq_true hvl, Bool.true_and] at b2
  simpa using b2
 have hf := (f.gf.2 a v ha (by omega) l).1 h2
 refine ⟨v, pts[l]!.y.toNat, c.write, hk, ?_, hf, hp, by omega, by simpa using hw⟩
 unfold iH at hc
 have ec : ∀ (x : Int) (b : Bool), c = ⟨x, b⟩ → x = ((pts[l]!.y.toNat : Nat) : Int) ∧ c.write = b := fun x b e => by
  rw [e] at hv ⊢; dsimp only at hv ⊢; exact ⟨by omega, rfl⟩
 rcases List.mem_append.1 hc with hc | hc
 ·split at hc
  ·rename_i q; obtain ⟨e1, e2⟩ := ec _ _ (List.mem_singleton.1 hc); exact .inl ⟨q, e1, e2⟩
  ·split at hc
   ·rename_i q; obtain ⟨e1, e2⟩ := ec _ _ (List.mem_singleton.1 hc); exact .inr (.inl ⟨q, e1, e2⟩)
   ·split at hc
    ·rename_i q; obtain ⟨e1, e2⟩ := ec _ _ (List.mem_singleton.1 hc); exact .inr (.inr (.inl ⟨q, e1, e2⟩))
    ·split at hc
     ·rename_i q; obtain ⟨e1, e2⟩ := ec _ _ (List.mem_singleton.1 hc)
      refine .inr (.inr (.inr (.inl ⟨q.1, ?_, e1, e2⟩)))
      have := q.2; rw [e1, Int.toNat_natCast] at this; exact this
     ·cases hc
 ·split at hc
  ·rename_i q; obtain ⟨e1, e2⟩ := ec _ _ (List.mem_singleton.1 hc)
   obtain ⟨q1, q2, q3⟩ := q
   rw [e1, Int.toNat_natCast] at q2 q3
   exact .inr (.inr (.inr (.inr ⟨e1, q2, (f.gm.2 a ha _).1 q3, e2⟩)))
  ·cases hc
end
end Go.AL
namespace Go.AL
section
variable {ts : List Int} {pts : List Pnt}
structure NoI (ts : List Int) (pts : List Pnt) : Prop where
 u : ∀ a v, a < pts.length → v < ts.length → cE ts pts[a]! (v : Nat) ≠ 0 → ¬ Na ts pts (a, v)
 c : ∀ a L, a < pts.length → ¬ Cf ts pts a L
theorem NoI.iff (w : WG ts pts) (f : Flows ts pts) : f.iss = [] ↔ NoI ts pts := by
 have htl := w.tl
 constructor
 ·intro h
  refine ⟨fun a v ha hv hu hn => ?_, fun a L ha hc => ?_⟩
  ·have : (⟨(a : Int), 1, (v : Int)⟩ : Iss) ∈ f.iss := by
    refine AR ha (List.mem_append_left _ (List.mem_map.2 ⟨(v : Int), dK.2 ⟨v, by omega, ?_, rfl⟩, rfl⟩))
    rw [dC, dM, decide_eq_true hv, Bool.true_and, Bool.and_eq_true]
    have hb := qM ts pts[a]! (v : Int)
    refine ⟨decide_eq_true ?_, ?_⟩
    ·simp only [List.mem_cons, List.not_mem_nil, or_false]; omega
    ·cases q : f.Aa[a]!.testBit v with
     | false => rfl
     | true => exact absurd hn ((f.ga.2 a ha v).1 q).2
   rw [h] at this; cases this
  ·have := HF w f ha hc
   rw [h] at this; cases this
 ·intro h
  apply List.eq_nil_iff_forall_not_mem.2
  intro i hi
  obtain ⟨a, ha, h1⟩ := List.mem_flatMap.1 hi
  rw [List.mem_range] at ha
  rcases List.mem_append.1 h1 with h1 | h1
  ·obtain ⟨z, hz, _⟩ := List.mem_map.1 h1
   obtain ⟨v, _, hb, _⟩ := dK.1 hz
   rw [dC, dM, Bool.and_eq_true, Bool.and_eq_true] at hb
   obtain ⟨⟨b1, b2⟩, b3⟩ := hb
   have hv := of_decide_eq_true b1
   refine h.u a v ha hv ?_ ?_
   ·intro q; rw [q] at b2; simp at b2
   ·apply Classical.byContradiction; intro hn
    rw [(f.ga.2 a ha v).2 ⟨hv, hn⟩] at b3; cases b3
  ·obtain ⟨z, hz, _⟩ := List.mem_map.1 h1
   obtain ⟨v, _, hb, _⟩ := dK.1 hz
   exact h.c a v ha (H7 w f ha hb)
end
end Go.AL
