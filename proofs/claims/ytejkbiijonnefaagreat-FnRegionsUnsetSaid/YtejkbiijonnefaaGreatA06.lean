/-
  A part of the proofs over this program: rules and contracts of its functions (the rules).
-/
import Derived.Test.YtejkbiijonnefaaGreatA05
import Derived.Laws.BytesString
import Derived.Laws.StructEq
set_option linter.unusedVariables false
set_option linter.unusedSimpArgs false
namespace Go.AL
open Go.RowKit
set_option linter.unusedVariables false
set_option linter.unusedSimpArgs false

mutual
theorem RnV.bw {w : World} {ρ : Nat → Option Nat} {bad bad' : Nat → Prop} {ι ι' : Pl} (h : ∀ i i', ρ i = some i' → ι i = ι' i') (hc : ∀ b, bad b → bad' b) : ∀ {v v' : AV}, RnV ρ v v' → ∀ {y : Value}, Rd w bad' ι' v' y → Rd w bad ι v y
  | _, _, .pur hp, y, k => Rd.pur _ y hp (Rd.carry (⟨fun b o x h1 h2 => ⟨fun q => h1 (hc b q), h2⟩, fun _ _ h => h, fun _ => Nat.le_refl _⟩ : Carry w bad' ι' w bad ι') _ _ k)
  | _, _, .own hi, y, k => by simp only [Rd, h _ _ hi] at k ⊢; exact k
  | _, _, .optr hi, y, k => by simp only [Rd, h _ _ hi] at k ⊢; exact k
  | _, _, .imm (cs := cs) (cs' := cs') hl, y, k => by
    have hlen := RnL.len hl
    simp only [Rd] at k ⊢
    obtain ⟨a, c, rfl, k⟩ := k
    refine ⟨a, c, rfl, ?_⟩
    rcases k with k | ⟨b, o, hn, rfl, k⟩
    · exact .inl k
    · refine .inr ⟨b, o, hn, rfl, ?_⟩
      rcases k with k | ⟨hb, k⟩
      · subst k; exact .inl (List.eq_nil_of_length_eq_zero (by rw [hlen]; rfl))
      · exact .inr ⟨fun q => hb (hc b q), RnL.bwC h hc hl k⟩
  | _, _, .agg hl, y, k => by
    simp only [Rd] at k ⊢
    obtain ⟨l, h1, h2⟩ := k
    exact ⟨l, h1, RnL.bwL h hc hl h2⟩
  | _, _, .tup hl, y, k => by
    simp only [Rd] at k ⊢
    obtain ⟨l, h1, h2⟩ := k
    exact ⟨l, h1, RnL.bwV h hc hl h2⟩
theorem RnL.bwL {w : World} {ρ : Nat → Option Nat} {bad bad' : Nat → Prop} {ι ι' : Pl} (h : ∀ i i', ρ i = some i' → ι i = ι' i') (hc : ∀ b, bad b → bad' b) : ∀ {v v' : List AV}, RnL ρ v v' → ∀ {y : List Value}, RdL w bad' ι' v' y → RdL w bad ι v y
  | _, _, .pur hp, y, k => RdL.pur _ y hp (RdL.carry (⟨fun b o x h1 h2 => ⟨fun q => h1 (hc b q), h2⟩, fun _ _ h => h, fun _ => Nat.le_refl _⟩ : Carry w bad' ι' w bad ι') _ _ k)
  | _, _, .nil, y, k => by simpa only [RdL] using k
  | _, _, .cons h1 h2, y, k => by
    simp only [RdL] at k ⊢
    obtain ⟨x, l', q0, q1, q2, q3⟩ := k
    exact ⟨x, l', q0, q1, RnV.bw h hc h1 q2, RnL.bwL h hc h2 q3⟩
theorem RnL.bwV {w : World} {ρ : Nat → Option Nat} {bad bad' : Nat → Prop} {ι ι' : Pl} (h : ∀ i i', ρ i = some i' → ι i = ι' i') (hc : ∀ b, bad b → bad' b) : ∀ {v v' : List AV}, RnL ρ v v' → ∀ {y : List Value}, RdV w bad' ι' v' y → RdV w bad ι v y
  | _, _, .pur hp, y, k => RdV.pur _ y hp (RdV.carry (⟨fun b o x h1 h2 => ⟨fun q => h1 (hc b q), h2⟩, fun _ _ h => h, fun _ => Nat.le_refl _⟩ : Carry w bad' ι' w bad ι') _ _ k)
  | _, _, .nil, y, k => by simpa only [RdV] using k
  | _, _, .cons h1 h2, y, k => by
    simp only [RdV] at k ⊢
    obtain ⟨x, l', q0, q2, q3⟩ := k
    exact ⟨x, l', q0, RnV.bw h hc h1 q2, RnL.bwV h hc h2 q3⟩
theorem RnL.bwC {w : World} {ρ : Nat → Option Nat} {bad bad' : Nat → Prop} {ι ι' : Pl} (h : ∀ i i', ρ i = some i' → ι i = ι' i') (hc : ∀ b, bad b → bad' b) : ∀ {v v' : List AV}, RnL ρ v v' → ∀ {b o : Nat}, RdC w bad' ι' v' b o → RdC w bad ι v b o
  | _, _, .pur hp, b, o, k => RdC.pur _ b o hp (RdC.carryB (⟨fun b o x h1 h2 => ⟨fun q => h1 (hc b q), h2⟩, fun _ _ h => h, fun _ => Nat.le_refl _⟩ : Carry w bad' ι' w bad ι') _ _ _ (fun o x hx => hx) k)
  | _, _, .nil, b, o, k => by simp only [RdC]
  | _, _, .cons h1 h2, b, o, k => by
    simp only [RdC] at k ⊢
    obtain ⟨⟨x, q1, q2, q3⟩, q4⟩ := k
    exact ⟨⟨x, q1, q2, RnV.bw h hc h1 q3⟩, RnL.bwC h hc h2 q4⟩
end
theorem RnL.app {ρ : Nat → Option Nat} : ∀ {a a' b b' : List AV}, RnL ρ a a' → RnL ρ b b' → RnL ρ (a ++ b) (a' ++ b')
  | [], a', b, b', ha, hb => by
    have := ha.len
    cases a' with
    | nil => exact hb
    | cons _ _ => simp at this
  | c :: cs, _, b, b', .pur hp, hb => by
    simp only [pursB, Bool.and_eq_true] at hp
    exact .cons (.pur hp.1) (RnL.app (.pur hp.2) hb)
  | c :: cs, _, b, b', .cons h1 h2, hb => .cons h1 (RnL.app h2 hb)
theorem RnL.flt {ρ : Nat → Option Nat} {α : Type} {f f' : α → List AV} : ∀ {xs : List α}, (∀ x ∈ xs, RnL ρ (f x) (f' x)) → RnL ρ (flat f xs) (flat f' xs)
  | [], _ => .nil
  | x :: xs, h => by
    have h1 := h x (List.mem_cons_self)
    have h2 := RnL.flt (f := f) (f' := f') (xs := xs) (fun y hy => h y (List.mem_cons_of_mem _ hy))
    simp only [flat, List.flatMap_cons] at h2 ⊢
    exact h1.app h2

theorem Le.renG (ρ : Nat → Option Nat) {ts ts' : List (Nat × AV)} {hs hs' : List (Nat × Option (List AV))} {n n' : Nat} {lo lo' : Lo} (hlo : lo'.lo = lo.lo) (hfb : lo.fb ≤ lo'.fb)
    (hid : ∀ id, id < lo.lo ∨ (big ≤ id ∧ id < lo.fb) → ρ id = some id) (hinj : ∀ a b c, ρ a = some c → ρ b = some c → a = b) (hfr : ∀ id, Fn n' lo' id → ρ id = none)
    (h1 : ∀ t v, lk ts' t = some v → ∃ v0, lk ts t = some v0 ∧ RnV ρ v v0) (h2 : ∀ id cs, lkH hs' id = some cs → ∃ j cs0, ρ id = some j ∧ lkH hs j = some cs0 ∧ RnL ρ cs cs0) :
    Le ⟨ts, hs, n, lo⟩ ⟨ts', hs', n', lo'⟩ := by
  rintro C a w ⟨h0, ι, g, gh⟩
  let ι' : Pl := fun id => match ρ id with | some j => ι j | none => none
  have hto : ∀ id j, ρ id = some j → ι' id = ι j := fun id j h => by simp only [ι', h]
  have hbad : ∀ b, badOf C.X ι' (lkH hs') b → badOf C.X ι (lkH hs) b := by
    rintro b (h | ⟨id, cs, β, q1, q2⟩)
    · exact .inl h
    · obtain ⟨j, cs0, q3, q4, _⟩ := h2 id cs q1
      rw [hto _ _ q3] at q2
      exact .inr ⟨j, cs0, β, q4, q2⟩
  refine ⟨fun id h => ?_, ι', ⟨g.df, g.sz, fun t v ht => ?_⟩, ⟨fun id cs h => ?_, fun id id' cs cs' b β β' q1 q2 q3 q4 => ?_, gh.fr, fun id p hp => ?_, fun id hid' => ?_⟩⟩
  · have h' : lo.lo ≤ id := by rw [← hlo]; exact h
    rcases h0 id h' with q | q
    · exact .inl ⟨q.1, Nat.lt_of_lt_of_le q.2 hfb⟩
    · exact .inr q
  · obtain ⟨v0, q1, q2⟩ := h1 t v ht
    obtain ⟨y, q3, q4⟩ := g.tm t v0 q1
    exact ⟨y, q3, RnV.bw hto hbad q2 q4⟩
  · obtain ⟨j, cs0, q3, q4, q5⟩ := h2 id cs h
    rcases gh.obj j cs0 q4 with ⟨p1, p2⟩ | ⟨b, β, arr, e, p1, p2, p3, p4, p5, p6⟩
    · refine .inl ⟨by rw [hto _ _ q3]; exact p1, ?_⟩
      subst p2; exact List.eq_nil_of_length_eq_zero (by rw [q5.len]; rfl)
    · exact .inr ⟨b, β, arr, e, by rw [hto _ _ q3]; exact p1, p2, by rw [q5.len]; exact p3, RnL.bwC hto hbad q5 p4, p5, p6⟩
  · obtain ⟨j, c1, r1, r2, _⟩ := h2 id cs q1
    obtain ⟨j', c2, r3, r4, _⟩ := h2 id' cs' q2
    rw [hto _ _ r1] at q3
    rw [hto _ _ r3] at q4
    have := gh.sep _ _ _ _ _ _ _ r2 r4 q3 q4
    subst this
    exact hinj _ _ _ r1 r3
  · have : ρ id = some id := by
      refine hid id ?_
      rcases Nat.lt_or_ge id lo.lo with q | q
      · exact .inl q
      · rcases h0 id q with q1 | q1
        · exact .inr q1
        · rw [q1] at hp; cases hp
    rw [hto _ _ this]; exact gh.ex id p hp
  · have := hfr id hid'
    simp only [ι', this]

def rhoF (m : List (Nat × Nat)) (lo : Lo) (pn : Option Nat) (id : Nat) : Option Nat :=
  if id < lo.lo then some id else if big ≤ id then (if id < lo.fb then some id else if id = lo.fb then pn else none) else lkI m id
theorem rhoF_big {m : List (Nat × Nat)} {lo : Lo} {pn : Option Nat} {id : Nat} (h1 : big ≤ id) (h2 : id < lo.fb) : rhoF m lo pn id = some id := by
  unfold rhoF; split
  · rfl
  · simp [h1, h2]
def rnT (ρ : Nat → Option Nat) (l : List (Nat × AV)) : List (Nat × AV) → Prop
  | [] => True
  | (t, v) :: l' => (∃ v0, lk l t = some v0 ∧ RnV ρ v v0) ∧ rnT ρ l l'
def rnHs (ρ : Nat → Option Nat) (l : List (Nat × Option (List AV))) : List (Nat × Option (List AV)) → Prop
  | [] => True
  | (t, none) :: l' => rnHs ρ l l'
  | (t, some cs) :: l' => (∃ j cs0, ρ t = some j ∧ lkH l j = some cs0 ∧ RnL ρ cs cs0) ∧ rnHs ρ l l'
theorem rnT_ok {ρ : Nat → Option Nat} {l : List (Nat × AV)} : ∀ {l' : List (Nat × AV)}, rnT ρ l l' → ∀ t v, lk l' t = some v → ∃ v0, lk l t = some v0 ∧ RnV ρ v v0
  | [], _, t, v, h => by simp [lk] at h
  | (u, x) :: l', hr, t, v, h => by
    simp only [rnT] at hr
    simp only [lk_c] at h
    split at h
    · rename_i e; subst e; cases h; exact hr.1
    · exact rnT_ok hr.2 t v h
theorem lkH_app {a b : List (Nat × Option (List AV))} {u : Nat} {c : List AV} : lkH (a ++ b) u = some c → lkH a u = some c ∨ lkH b u = some c := by
  induction a with
  | nil => exact fun h => .inr h
  | cons x a ih =>
    obtain ⟨t, v⟩ := x
    rw [List.cons_append, lkH_c, lkH_c]
    split
    · exact fun h => .inl h
    · exact ih
theorem lkH_appL {a b : List (Nat × Option (List AV))} {u : Nat} {c : List AV} (h : lkH a u = some c) : lkH (a ++ b) u = some c := by
  induction a with
  | nil => simp [lkH] at h
  | cons x a ih =>
    obtain ⟨t, v⟩ := x
    rw [List.cons_append]
    rw [lkH_c] at h ⊢
    split
    · rename_i e; rw [if_pos e] at h; exact h
    · rename_i e; rw [if_neg e] at h; exact ih h
theorem lkH_appR {a b : List (Nat × Option (List AV))} {u : Nat} (h : keysLt u a = true) : lkH (a ++ b) u = lkH b u := by
  induction a with
  | nil => rfl
  | cons x a ih =>
    obtain ⟨t, v⟩ := x
    simp only [keysLt, Bool.and_eq_true] at h
    rw [List.cons_append, lkH_c, if_neg (by have := ltb h.1; omega)]
    exact ih h.2
theorem keysLt_mono {n m : Nat} (h : n ≤ m) : ∀ {a : List (Nat × Option (List AV))}, keysLt n a = true → keysLt m a = true
  | [], _ => rfl
  | (t, v) :: a, k => by
    simp only [keysLt, Bool.and_eq_true] at k ⊢
    exact ⟨by have := ltb k.1; simp [Nat.blt]; omega, keysLt_mono h k.2⟩
theorem rnHs_ok {ρ : Nat → Option Nat} {l : List (Nat × Option (List AV))} : ∀ {l' : List (Nat × Option (List AV))}, rnHs ρ l l' → ∀ t cs, lkH l' t = some cs →
    ∃ j cs0, ρ t = some j ∧ lkH l j = some cs0 ∧ RnL ρ cs cs0
  | [], _, t, v, h => by simp [lkH] at h
  | (u, none) :: l', hr, t, v, h => by
    simp only [rnHs] at hr
    simp only [lkH_c] at h
    split at h
    · cases h
    · exact rnHs_ok hr t v h
  | (u, some x) :: l', hr, t, v, h => by
    simp only [rnHs] at hr
    simp only [lkH_c] at h
    split at h
    · rename_i e; subst e; cases h; exact hr.1
    · exact rnHs_ok hr.2 t v h
theorem rhoF_cs {m : List (Nat × Nat)} {lo : Lo} {pn : Option Nat} {n' : Nat} (hm : okI lo.lo n' m = true) {a c : Nat} (h : rhoF m lo pn a = some c) :
    (a < lo.lo ∧ c = a) ∨ (lo.lo ≤ a ∧ big ≤ a ∧ a < lo.fb ∧ c = a) ∨ (lo.lo ≤ a ∧ big ≤ a ∧ a = lo.fb ∧ pn = some c) ∨ (lo.lo ≤ a ∧ a < big ∧ a < n' ∧ lo.lo ≤ c ∧ c < big ∧ lkI m a = some c) := by
  unfold rhoF at h
  split at h
  · cases h; exact .inl ⟨by assumption, rfl⟩
  · split at h
    · split at h
      · cases h; exact .inr (.inl ⟨by omega, by assumption, by assumption, rfl⟩)
      · split at h
        · exact .inr (.inr (.inl ⟨by omega, by assumption, by assumption, h⟩))
        · cases h
    · have := okI_mem hm _ _ h
      exact .inr (.inr (.inr ⟨by omega, by omega, by omega, by omega, by omega, h⟩))
theorem Le.renF (m : List (Nat × Nat)) (pn : Option Nat) {ts ts' : List (Nat × AV)} {hs hs' : List (Nat × Option (List AV))} {n n' : Nat} {lo lo' : Lo} (hm : okI lo.lo n' m = true) (hn : lo.lo ≤ n') (hlo : lo'.lo = lo.lo)
    (hfb : lo'.fb = lo.fb + (if pn.isSome then 1 else 0)) (hp : ∀ b, pn = some b → lo.lo ≤ b ∧ b < big ∧ ∀ a, lkI m a ≠ some b)
    (h1 : ∀ t v, lk ts' t = some v → ∃ v0, lk ts t = some v0 ∧ RnV (rhoF m lo pn) v v0) (h2 : ∀ id cs, lkH hs' id = some cs → ∃ j cs0, rhoF m lo pn id = some j ∧ lkH hs j = some cs0 ∧ RnL (rhoF m lo pn) cs cs0) :
    Le ⟨ts, hs, n, lo⟩ ⟨ts', hs', n', lo'⟩ := by
  refine Le.renG (rhoF m lo pn) hlo (by rw [hfb]; omega) (fun id h => ?_) (fun a b c ha hb => ?_) (fun id h => ?_) h1 h2
  · rcases h with h | h
    · unfold rhoF; rw [if_pos h]
    · exact rhoF_big h.1 h.2
  · rcases rhoF_cs hm ha with a1 | a1 | a1 | a1 <;> rcases rhoF_cs hm hb with b1 | b1 | b1 | b1
    all_goals try omega
    · have := hp c b1.2.2.2; omega
    · have := hp c b1.2.2.2; omega
    · have := hp c a1.2.2.2; omega
    · have := hp c a1.2.2.2; omega
    · exact absurd b1.2.2.2.2.2 ((hp c a1.2.2.2).2.2 b)
    · exact absurd a1.2.2.2.2.2 ((hp c b1.2.2.2).2.2 a)
    · exact okI_inj hm _ _ _ a1.2.2.2.2.2 b1.2.2.2.2.2
  · cases hc : rhoF m lo pn id with
    | none => rfl
    | some c =>
      have h3 : n' ≤ id := h.1
      have h4 : id < big ∨ lo'.fb ≤ id := h.2
      rcases rhoF_cs hm hc with a1 | a1 | a1 | a1
      · omega
      · omega
      · rw [a1.2.2.2] at hfb; simp at hfb; omega
      · omega
theorem Le.renF0 (m : List (Nat × Nat)) {R : List (List Bool)} {ts ts' : List (Nat × AV)} {hs lits : List (Nat × Option (List AV))} {n n' : Nat} {lo : Lo} {l0 : Nat} (hF : FamR R R hs hs) (hz : lo = ⟨l0, big + R.length⟩) (hm : okI l0 n' m = true) (hn : l0 ≤ n')
    (h1 : rnT (rhoF m lo none) ts ts') (h2 : rnHs (rhoF m lo none) hs lits) : Le ⟨ts, hs, n, lo⟩ ⟨ts', lits ++ famB R, n', ⟨l0, big + R.length⟩⟩ := by
  subst hz
  refine Le.renF m none hm hn rfl rfl (fun b h => by cases h) (rnT_ok h1) (fun id cs h => ?_)
  rcases lkH_app h with h | h
  · exact rnHs_ok h2 id cs h
  · obtain ⟨k, hk, rfl, rfl⟩ := lkH_fam' h
    exact ⟨_, _, rhoF_big (by omega) (by show k + big < big + R.length; omega), hF.get hk, .pur (inferInstance : Pur (flat cB R[k]!)).pf⟩
theorem Le.renF1 (m : List (Nat × Nat)) (b : Nat) {r : List Bool} {R R' : List (List Bool)} {ts ts' : List (Nat × AV)} {hs lits : List (Nat × Option (List AV))} {n n' : Nat} {lo : Lo} {l0 : Nat} (hF : FamR R R hs hs) (hz : lo = ⟨l0, big + R.length⟩) (hm : okI l0 n' m = true) (hn : l0 ≤ n')
    (hlb : l0 ≤ big) (hb : l0 ≤ b ∧ b < big ∧ (m.all fun p => !Nat.beq p.2 b) = true) (hr : lkH hs b = some (flat cB r)) (hR : R' = R ++ [r])
    (h1 : rnT (rhoF m lo (some b)) ts ts') (h2 : rnHs (rhoF m lo (some b)) hs lits) : Le ⟨ts, hs, n, lo⟩ ⟨ts', lits ++ famB R', n', ⟨l0, big + R'.length⟩⟩ := by
  subst hz hR
  refine Le.renF m (some b) hm hn rfl (by show big + (R ++ [r]).length = big + R.length + 1; simp [Nat.add_assoc]) (fun b' h => ?_) (rnT_ok h1) (fun id cs h => ?_)
  · cases h
    refine ⟨hb.1, hb.2.1, fun a ha => ?_⟩
    have := lkI_mem ha
    have h3 := hb.2.2
    rw [List.all_eq_true] at h3
    have := h3 _ this
    simp at this
  · rcases lkH_app h with h | h
    · exact rnHs_ok h2 id cs h
    · obtain ⟨k, hk, rfl, rfl⟩ := lkH_fam' h
      rw [List.length_append, List.length_singleton] at hk
      rcases Nat.lt_or_ge k R.length with hk2 | hk2
      · have e : (R ++ [r])[k]! = R[k]! := by rw [getB _ _ (by simp; omega), getB _ _ hk2, List.getElem_append_left hk2]
        exact ⟨_, _, rhoF_big (by omega) (by show k + big < big + R.length; omega), hF.get hk2, by rw [e]; exact .pur (inferInstance : Pur (flat cB R[k]!)).pf⟩
      · have e : k = R.length := by omega
        subst e
        have e2 : (R ++ [r])[R.length]! = r := by rw [getB _ _ (by simp)]; simp
        refine ⟨b, flat cB r, ?_, hr, ?_⟩
        · unfold rhoF
          rw [if_neg (by show ¬ R.length + big < l0; omega), if_pos (by omega), if_neg (by show ¬ R.length + big < big + R.length; omega), if_pos (by show R.length + big = big + R.length; omega)]
        · rw [e2]; exact .pur (inferInstance : Pur (flat cB r)).pf
end Go.AL

namespace Go.AL
open Go.RowKit
set_option linter.unusedVariables false
set_option linter.unusedSimpArgs false

section
variable {P : Program} {N : Nat} {Q : Exit → AS → Prop}
theorem Le.litF {ts ts' : List (Nat × AV)} {hs lits : List (Nat × Option (List AV))} {n n' : Nat} {z0 z1 : Lo} {R : List (List Bool)} (h1 : subT ts ts') (h2 : subH hs lits) (h3 : n ≤ n') (hF : FamR R R hs hs) (hz : z0 = z1) :
    Le ⟨ts, hs, n, z0⟩ ⟨ts', lits ++ famB R, n', z1⟩ := by
  refine Le.of (subT_ok h1) (fun i c h => ?_) h3 hz
  rcases lkH_app h with h | h
  · exact subH_ok h2 i c h
  · obtain ⟨k, hk, rfl, rfl⟩ := lkH_fam' h
    exact hF.get hk
theorem aw_loopF {σ : Type} {c : Code} {ts : List (Nat × AV)} {hs : List (Nat × Option (List AV))} {n : Nat} {z0 : Lo} (l0 : Nat) (Rf : σ → List (List Bool)) (ks : List Nat) (kt : List (Nat × AV)) (js : List Nat) (kh : List (Nat × Option (List AV)))
    (ot : σ → List (Nat × AV)) (oh : σ → List (Nat × Option (List AV))) (p : σ → Prop) (μ : σ → Nat) (i0 : σ) (h0 : p i0) (hk : selT ks ts = kt) (hj : selH js hs = kh)
    (h1 : subT ts (ot i0)) (h2 : subH hs (oh i0)) (hF : FamR (Rf i0) (Rf i0) hs hs) (hz : z0 = ⟨l0, big + (Rf i0).length⟩)
    (round : ∀ i, p i → AW P N c (thenQ (fun s' => ∃ j, p j ∧ μ j < μ i ∧ Le s' ⟨ot j ++ kt, (oh j ++ kh) ++ famB (Rf j), n, ⟨l0, big + (Rf j).length⟩⟩) Q) ⟨ot i ++ kt, (oh i ++ kh) ++ famB (Rf i), n, ⟨l0, big + (Rf i).length⟩⟩) :
    AW P N (.loop c) Q ⟨ts, hs, n, z0⟩ := by
  subst hk hj
  exact aw_loop p (fun i => ⟨ot i ++ selT ks ts, (oh i ++ selH js hs) ++ famB (Rf i), n, ⟨l0, big + (Rf i).length⟩⟩) μ ⟨i0, h0, Le.litF (subT_append h1 (selT_sub ks)) (subH_append h2 (selH_sub js)) (Nat.le_refl _) hF hz⟩ round
end

def GCalls (P : Program) (k : FuncId) (args : List AV) (H0 : Nat → Option (List AV)) (F0 : Nat → Prop) (Q : AV → (Nat → Option (List AV)) → Prop) : Prop :=
  ∀ (C : Ctx) (ι : Pl) (w : World) (vals : List Value), C.w0 = w → C.ι0 = ι → HG C ι F0 H0 w → RdV w (badOf C.X ι H0) ι args vals →
    Calls P k vals.toArray w (fun e w' => ∃ v r H' ι', e = .returned v ∧ Q r H' ∧ Rd w' (badOf C.X ι' H') ι' r v ∧ HG C ι' (fun _ => False) H' w')
theorem gcalls_of_aw {P : Program} {k : FuncId} {fn : Func} {c : Code} {args : List AV} {H0 : List (Nat × Option (List AV))} {n fb : Nat} {Q : AV → (Nat → Option (List AV)) → Prop} (hf : P.funcs[k]? = some fn) (hb : fn.body = some c)
    (hN : args.length ≤ fn.ntmps) (h : AW P fn.ntmps c (retQ P fn.results Q) ⟨argTs 0 args, H0, n, ⟨n, fb⟩⟩) : GCalls P k args (lkH H0) (Fn n ⟨n, fb⟩) Q := by
  intro C ι w vals hw hι g hr
  refine calls_of_wp hf hb ?_
  let C' : Ctx := { C with N := fn.ntmps }
  have hlen := RdV.length hr
  have g' : HG C' ι (Fn n ⟨n, fb⟩) (lkH H0) w := ⟨g.obj, g.sep, g.fr, g.ex, g.fresh⟩
  have gt : TG C' ι (lk (argTs 0 args)) (lkH H0) { tmps := vals.toArray ++ Array.replicate (fn.ntmps - vals.toArray.size) undef, defers := [] } w := by
    refine ⟨rfl, by simp [C', hlen]; omega, fun t av ht => ?_⟩
    obtain ⟨y, _, h1, h2⟩ := lk_argTs hr ht
    refine ⟨y, ?_, h2⟩
    have hlt : t < vals.length := by
      rcases Nat.lt_or_ge t vals.length with q | q
      · exact q
      · rw [List.getElem?_eq_none (by simpa using q)] at h1; cases h1
    rw [Array.getElem?_append_left (by simpa using hlt)]
    simpa using h1
  refine wp_mono (h C' _ w rfl ⟨fun id hid => ?_, ι, gt, g'⟩) ?_
  · by_cases q : big ≤ id ∧ id < fb
    · exact .inl q
    · refine .inr ?_
      show C.ι0 id = none
      rw [hι]
      exact g.fresh id ⟨hid, by show id < big ∨ fb ≤ id; omega⟩
  rintro e a' w' ⟨s1, ⟨he, s', l, hle, hres, hQ⟩, hg⟩
  obtain ⟨_, ι', g1, g2⟩ := hle C' a' w' hg
  obtain ⟨ys, h1, h2⟩ := resL_ok (P := P) g1 g2 hres
  have hres' : (results fn a'.tmps).run P w' = .ok (if h : ys.toArray.size = 1 then ys.toArray[0] else .tuple ys.toArray) w' := by
    have hr1 : results fn a'.tmps = (do let vs ← fn.results.mapM (resS a'); pure (if h : vs.size = 1 then vs[0] else .tuple vs)) := by
      unfold results
      congr 1
    rw [hr1, Array.mapM_eq_mapM_toList, Sem.run_bind, Sem.run_map, h1]
    simp only [Result.andThen_ok, Sem.run_pure]
  have g3 : HG C ι' (fun _ => False) (lkH s'.hs) w' := ⟨g2.obj, g2.sep, g2.fr, g2.ex, fun _ h => h.elim⟩
  rcases he with rfl | rfl
  · exact ⟨g1.df, _, hres', _, _, _, ι', rfl, hQ, oneOf_ok h2, g3⟩
  · exact ⟨g1.df, _, hres', _, _, _, ι', rfl, hQ, oneOf_ok h2, g3⟩

def rhoG (mpF fr : Nat → Option Nat) (j : Nat) : Option Nat := match mpF j with | some i => some i | none => fr j
theorem call_gen {P : Program} {k : FuncId} {args args' : List AV} {H0 hh : Nat → Option (List AV)} {F0 : Nat → Prop} {mpF fr fi : Nat → Option Nat} {r rr' : AV} {H2 : Nat → Option (List AV)}
    (h : GCalls P k args H0 F0 (fun r' H' => r' = r ∧ ∀ j cs, hh j = some cs → H' j = some cs)) (hmi : ∀ j j' i, mpF j = some i → mpF j' = some i → j = j') (hfi : ∀ i j, fi i = some j ↔ fr j = some i) (hmf : ∀ j i, fr j = some i → mpF j = none) (hF0 : ∀ j, F0 j → mpF j = none)
    {C : Ctx} {ι : Pl} {F : Nat → Prop} {H : Nat → Option (List AV)} {w : World} (g : HG C ι F H w)
    (hH0 : ∀ j i, mpF j = some i → ∃ cs cs', H0 j = some cs ∧ H i = some cs' ∧ RnL mpF cs cs') (hH1 : ∀ j cs, H0 j = some cs → ∃ i, mpF j = some i)
    (ha : RnL mpF args args') (hF : ∀ j i, fr j = some i → F i) (hr : RnV (rhoG mpF fr) r rr')
    (hw : ∀ i cs', H2 i = some cs' → (∃ j cs, rhoG mpF fr j = some i ∧ hh j = some cs ∧ RnL (rhoG mpF fr) cs cs') ∨ (H i = some cs' ∧ ∀ j, mpF j ≠ some i))
    {vals : List Value} (hv : RdV w (badOf C.X ι H) ι args' vals) :
    Calls P k vals.toArray w (fun e w' => ∃ v ι', e = .returned v ∧ HG C ι' (fun j => F j ∧ fi j = none) H2 w' ∧ Carry w (badOf C.X ι H) ι w' (badOf C.X ι' H2) ι' ∧ Rd w' (badOf C.X ι' H2) ι' rr' v) := by
  let W0 : Nat → Prop := fun b => ∃ (j i β : Nat), mpF j = some i ∧ ι i = some (some (b, β))
  let Xc : Nat → Prop := fun b => badOf C.X ι H b ∧ ¬ W0 b
  let ιc : Pl := fun j => match mpF j with | some i => ι i | none => none
  let C' : Ctx := { N := 0, w0 := w, W0 := W0, X := Xc, ι0 := ιc, xlt := fun b hb => g.bad_lt b hb.1 }
  have hW0 : ∀ b, W0 b → ¬ C.X b ∧ (C.W0 b ∨ C.w0.heap.size ≤ b) ∧ badOf C.X ι H b := by
    rintro b ⟨j, i, β, h1, h2⟩
    obtain ⟨cs, cs', q1, q2, q3⟩ := hH0 j i h1
    rcases g.obj i cs' q2 with ⟨q, _⟩ | ⟨b', β', arr, e, q, q4, q5, q6, q7, q8⟩
    · rw [q] at h2; cases h2
    · rw [q] at h2; cases h2; exact ⟨q7, q8, .inr ⟨i, cs', _, q2, q⟩⟩
  have hnone : ∀ i j, fi i = some j → ι i = none := fun i j h1 => g.fresh i (hF j i ((hfi i j).1 h1))
  have hιc : ∀ j i, mpF j = some i → ιc j = ι i := fun j i h => by simp only [ιc, h]
  have hbadc : ∀ b, badOf Xc ιc H0 b → badOf C.X ι H b := by
    rintro b (⟨h1, _⟩ | ⟨j, cs, β, h1, h2⟩)
    · exact h1
    · obtain ⟨i, hi⟩ := hH1 j cs h1
      rw [hιc j i hi] at h2
      exact (hW0 b ⟨j, _, β, hi, h2⟩).2.2
  have hbadc2 : ∀ b, badOf C.X ι H b → badOf Xc ιc H0 b := by
    intro b hb
    by_cases hw0 : W0 b
    · obtain ⟨j, i, β, h1, h2⟩ := hw0
      obtain ⟨cs, cs', q1, q2, q3⟩ := hH0 j i h1
      exact .inr ⟨j, cs, β, q1, by rw [hιc j i h1]; exact h2⟩
    · exact .inl ⟨hb, hw0⟩
  have gc : HG C' ιc F0 H0 w := by
    refine ⟨fun j cs hj => ?_, fun j j' cs cs' b β β' h1 h2 h3 h4 => ?_, Fr.refl _ _, fun _ _ h => h, fun j hj => ?_⟩
    · obtain ⟨i, hi⟩ := hH1 j cs hj
      obtain ⟨cs1, cs', q1, q2, q3⟩ := hH0 j _ hi
      rw [hj] at q1; cases q1
      rcases g.obj _ cs' q2 with ⟨q4, q5⟩ | ⟨b', β', arr, e, q4, q5, q6, q7, q8, q9⟩
      · refine .inl ⟨by rw [hιc j i hi]; exact q4, ?_⟩
        subst q5
        exact List.eq_nil_of_length_eq_zero (by rw [q3.len]; rfl)
      · have hw0 : W0 b' := ⟨j, _, β', hi, q4⟩
        exact .inr ⟨b', β', arr, e, by rw [hιc j i hi]; exact q4, q5, by rw [q3.len]; exact q6, RnL.bwC hιc hbadc q3 q7, fun hx => hx.2 hw0, .inl hw0⟩
    · obtain ⟨i, hi⟩ := hH1 j cs h1
      obtain ⟨i', hi'⟩ := hH1 j' cs' h2
      obtain ⟨_, c1, _, q2, _⟩ := hH0 j _ hi
      obtain ⟨_, c2, _, q2', _⟩ := hH0 j' _ hi'
      rw [hιc j i hi] at h3
      rw [hιc j' i' hi'] at h4
      have := g.sep _ _ _ _ _ _ _ q2 q2' h3 h4
      exact hmi j j' i hi (by rw [hi', this])
    · show ιc j = none
      simp only [ιc, hF0 j hj]
  have hvc : RdV w (badOf C'.X ιc H0) ιc args vals := RnL.bwV hιc hbadc ha hv
  refine (h C' ιc w vals rfl rfl gc hvc).mono ?_
  rintro e w' ⟨v, r0, H', ιr, rfl, ⟨rfl, hkeep⟩, hrd, gr⟩
  let ι' : Pl := fun i => match fi i with | some j => ιr j | none => ι i
  have hmpf : ∀ (j i : Nat), mpF j = some i → fi i = none := by
    intro j i hj
    cases hq : fi i with
    | none => rfl
    | some j2 =>
      obtain ⟨cs, cs', q1, q2, q3⟩ := hH0 j i hj
      rcases g.obj i cs' q2 with ⟨q, _⟩ | ⟨_, _, _, _, q, _⟩ <;> (rw [hnone i _ hq] at q; cases q)
  have hιr : ∀ (j i : Nat), mpF j = some i → ιr j = ι i := by
    intro j i hj
    obtain ⟨cs, cs', q1, q2, q3⟩ := hH0 j i hj
    have : ∃ q, ι i = some q := by
      rcases g.obj i cs' q2 with ⟨q, _⟩ | ⟨_, _, _, _, q, _⟩
      · exact ⟨_, q⟩
      · exact ⟨_, q⟩
    obtain ⟨q, hq⟩ := this
    rw [hq]
    exact gr.ex j q (by show ιc j = some q; rw [hιc j i hj]; exact hq)
  have hρ1 : ∀ j i, rhoG mpF fr j = some i → (mpF j = some i) ∨ (mpF j = none ∧ fr j = some i) := by
    intro j i hj
    unfold rhoG at hj
    split at hj
    · cases hj; exact .inl (by assumption)
    · exact .inr ⟨by assumption, hj⟩
  have hto : ∀ j i, rhoG mpF fr j = some i → ιr j = ι' i := by
    intro j i hj
    rcases hρ1 j i hj with h2 | ⟨h1, h2⟩
    · rw [hιr j i h2]; simp only [ι', hmpf j i h2]
    · simp only [ι', (hfi i j).2 h2]
  have hcase := hw
  have hold : ∀ i cs', H i = some cs' → ι' i = ι i := by
    intro i cs' hi
    simp only [ι']
    cases hq : fi i with
    | none => rfl
    | some j2 => rcases g.obj i cs' hi with ⟨q, _⟩ | ⟨_, _, _, _, q, _⟩ <;> (rw [hnone i _ hq] at q; cases q)
  have hnW : ∀ (i : Nat) cs' b β, H i = some cs' → (∀ j, mpF j ≠ some i) → ι i = some (some (b, β)) → ¬ W0 b := by
    rintro i cs' b β hi hm hb ⟨j, i2, β2, q1, q2⟩
    obtain ⟨cs, c2, _, q3, _⟩ := hH0 j i2 q1
    have := g.sep _ _ _ _ _ _ _ hi q3 hb q2
    subst this
    exact hm j q1
  have hobjlt : ∀ i cs' b β, H i = some cs' → ι i = some (some (b, β)) → b < w.heap.size := fun i cs' b β hi hb => g.bad_lt b (.inr ⟨i, cs', β, hi, hb⟩)
  have hcal : ∀ j cs b β, H' j = some cs → ιr j = some (some (b, β)) → W0 b ∨ w.heap.size ≤ b := by
    intro j cs b β hj hb
    rcases gr.obj j cs hj with ⟨q, _⟩ | ⟨b', β', arr, e, q, q4, q5, q6, q7, q8⟩
    · rw [q] at hb; cases hb
    · rw [q] at hb; cases hb; exact q8
  have hbad : ∀ b, badOf C.X ι' H2 b → badOf C.X ι H b ∨ w.heap.size ≤ b := by
    rintro b (h1 | ⟨i, cs', β, h1, h2⟩)
    · exact .inl (.inl h1)
    · rcases hcase i cs' h1 with ⟨j, cs, q1, q2, q3⟩ | ⟨q1, q2⟩
      · rw [← hto j i q1] at h2
        rcases hcal j cs b β (hkeep j cs q2) h2 with q | q
        · exact .inl (hW0 b q).2.2
        · exact .inr q
      · rw [hold i cs' q1] at h2; exact .inl (.inr ⟨i, cs', β, q1, h2⟩)
  have hfr := gr.fr
  have hcar : Carry w (badOf C.X ι H) ι w' (badOf C.X ι' H2) ι' := by
    refine ⟨fun b o y h1 h2 => ?_, fun i q hq => ?_, hfr.bs⟩
    · have hlt := lt_of_cell h2
      refine ⟨fun hb => ?_, ?_⟩
      · rcases hbad b hb with h | h
        · exact h1 h
        · omega
      · rw [cell?_heap (hfr.block b hlt (fun hw0 => h1 (hW0 b hw0).2.2))]; exact h2
    · simp only [ι']
      cases hq2 : fi i with
      | none => exact hq
      | some j2 => rw [hnone i _ hq2] at hq; cases hq
  have hrn2 : RnH w' (rhoG mpF fr) (badOf C'.X ιr H') ιr (badOf C.X ι' H2) ι' := by
    refine ⟨⟨fun b o y h1 h2 => ⟨fun hb => h1 ?_, h2⟩, fun _ _ h => h, fun _ => Nat.le_refl _⟩, fun j i hj => hto j i hj⟩
    rcases hb with hb | ⟨i, cs', β, q1, q2⟩
    · exact .inl ⟨.inl hb, fun hw0 => (hW0 b hw0).1 hb⟩
    · rcases hcase i cs' q1 with ⟨j, cs, r1, r2, r3⟩ | ⟨r1, r2⟩
      · rw [← hto j i r1] at q2
        exact .inr ⟨j, cs, β, hkeep j cs r2, q2⟩
      · rw [hold i cs' r1] at q2
        exact .inl ⟨.inr ⟨i, cs', β, r1, q2⟩, hnW i cs' b β r1 r2 q2⟩
  refine ⟨v, ι', rfl, ⟨fun i cs' hi => ?_, fun i i2 cs1 cs2 b β β' h1 h2 h3 h4 => ?_, ⟨hfr.os.trans g.fr.os, hfr.tape.trans g.fr.tape, hfr.output.trans g.fr.output, Nat.le_trans g.fr.size hfr.size, fun b hb hnw => ?_, fun b => Nat.le_trans (g.fr.bs b) (hfr.bs b)⟩, fun i q hq => hcar.pl i q (g.ex i q hq), fun i hi => ?_⟩, hcar, RnV.fwd hrn2 hr hrd⟩
  · rcases hcase i cs' hi with ⟨j, cs, q1, q2, q3⟩ | ⟨q1, q2⟩
    · rcases gr.obj j cs (hkeep j cs q2) with ⟨r1, r2⟩ | ⟨b, β, arr, e, r1, r2, r3, r4, r5, r6⟩
      · refine .inl ⟨by rw [← hto j i q1]; exact r1, ?_⟩
        subst r2
        exact List.eq_nil_of_length_eq_zero (by rw [← q3.len]; rfl)
      · refine .inr ⟨b, β, arr, e, by rw [← hto j i q1]; exact r1, r2, by rw [← q3.len]; exact r3, RnL.fwdC hrn2 q3 r4, ?_, ?_⟩
        · rcases r6 with r6 | r6
          · exact (hW0 b r6).1
          · intro hX
            have := C.xlt b hX
            have := g.fr.size
            have : w.heap.size ≤ b := r6
            omega
        · rcases r6 with r6 | r6
          · exact (hW0 b r6).2.1
          · refine .inr ?_
            have := g.fr.size
            have : w.heap.size ≤ b := r6
            omega
    · rcases g.obj i cs' q1 with ⟨r1, r2⟩ | ⟨b, β, arr, e, r1, r2, r3, r4, r5, r6⟩
      · exact .inl ⟨by rw [hold i cs' q1]; exact r1, r2⟩
      · have hlt := lt_of_heap r2
        have hbl := hfr.block b hlt (hnW i cs' b β q1 q2 r1)
        exact .inr ⟨b, β, arr, e, by rw [hold i cs' q1]; exact r1, by rw [hbl]; exact r2, r3, RdC.carryB hcar _ _ _ (fun o y hy => by rw [cell?_heap hbl]; exact hy) r4, r5, r6⟩
  · rcases hcase i cs1 h1 with ⟨j, c1, q1, q2, q3⟩ | ⟨q1, q2⟩ <;> rcases hcase i2 cs2 h2 with ⟨j2, c2, q1', q2', q3'⟩ | ⟨q1', q2'⟩
    · rw [← hto j i q1] at h3
      rw [← hto j2 i2 q1'] at h4
      have := gr.sep _ _ _ _ _ _ _ (hkeep j c1 q2) (hkeep j2 c2 q2') h3 h4
      subst this
      rw [q1] at q1'; cases q1'; rfl
    · rw [← hto j i q1] at h3
      rw [hold i2 cs2 q1'] at h4
      have hlt := hobjlt i2 cs2 b _ q1' h4
      rcases hcal j c1 b _ (hkeep j c1 q2) h3 with q | q
      · exact (hnW i2 cs2 b _ q1' q2' h4 q).elim
      · omega
    · rw [hold i cs1 q1] at h3
      rw [← hto j2 i2 q1'] at h4
      have hlt := hobjlt i cs1 b _ q1 h3
      rcases hcal j2 c2 b _ (hkeep j2 c2 q2') h4 with q | q
      · exact (hnW i cs1 b _ q1 q2 h3 q).elim
      · omega
    · rw [hold i cs1 q1] at h3
      rw [hold i2 cs2 q1'] at h4
      exact g.sep _ _ _ _ _ _ _ q1 q1' h3 h4
  · have hb2 : b < w.heap.size := by have := g.fr.size; omega
    rw [hfr.block b hb2 (fun hw0 => ?_)]
    · exact g.fr.block b hb hnw
    · rcases (hW0 b hw0).2.1 with q | q
      · exact hnw q
      · omega
  · simp only [ι', hi.2]
    exact g.fresh i hi.1
end Go.AL

namespace Go.AL
open Go.RowKit
attribute [local irreducible] big
set_option linter.unusedVariables false
set_option linter.unusedSimpArgs false

def FCt (P : Program) (k : FuncId) (args : List AV) (R0 : List (List Bool)) (r : AV) (hh : List (Nat × Option (List AV))) : Prop :=
  GCalls P k args (lkH (famB R0)) (Fn 0 ⟨0, big + R0.length⟩) (fun r' H' => r' = r ∧ ∀ id cs, lkH (hh ++ famB R0) id = some cs → H' id = some cs)
def GCt (P : Program) (k : FuncId) (args : List AV) (r : AV) (R1 : List (List Bool)) : Prop :=
  GCalls P k args (lkH []) (Fn 0 ⟨0, big⟩) (fun r' H' => r' = r ∧ ∀ id cs, lkH (famB R1) id = some cs → H' id = some cs)
theorem fc_ret {hs : List (Nat × Option (List AV))} {r r' : AV} {R0 : List (List Bool)} {hh : List (Nat × Option (List AV))} (hr : r' = r) (hh' : subH hs hh) (hF : FamR R0 R0 hs hs) : r' = r ∧ ∀ id cs, lkH (hh ++ famB R0) id = some cs → lkH hs id = some cs := by
  refine ⟨hr, fun id cs h => ?_⟩
  rcases lkH_app h with h | h
  · exact subH_ok hh' id cs h
  · obtain ⟨k, hk, rfl, rfl⟩ := lkH_fam' h
    exact hF.get hk
theorem gc_ret {hs : List (Nat × Option (List AV))} {r r' : AV} {R0 : List (List Bool)} (hr : r' = r) (hF : FamR R0 R0 hs hs) : r' = r ∧ ∀ id cs, lkH (famB R0) id = some cs → lkH hs id = some cs :=
  fc_ret (hh := []) hr trivial hF
def mpC (b m : Nat) (j : Nat) : Option Nat := if big ≤ j ∧ j < big + m then some (b + j) else none
def frC (n n1 : Nat) (j : Nat) : Option Nat := if j < n1 then some (n + j) else none
def fiC (n n1 : Nat) (i : Nat) : Option Nat := if n ≤ i ∧ i < n + n1 then some (i - n) else none
def rhC (b m n n1 : Nat) : Nat → Option Nat := rhoG (mpC b m) (frC n n1)
theorem rhoG_some {mpF fr : Nat → Option Nat} {j i : Nat} (h : mpF j = some i) : rhoG mpF fr j = some i := by unfold rhoG; rw [h]
theorem rhoG_none {mpF fr : Nat → Option Nat} {j : Nat} (h : mpF j = none) : rhoG mpF fr j = fr j := by unfold rhoG; rw [h]
theorem mpC_big {b m k : Nat} (h : k < m) : mpC b m (k + big) = some (b + k + big) := by
  unfold mpC; rw [if_pos (by omega), Nat.add_assoc]
theorem rhC_big {b m n n1 k : Nat} (h : k < m) : rhC b m n n1 (k + big) = some (b + k + big) := rhoG_some (mpC_big h)
theorem rhC_lit {b m n n1 j : Nat} (h : j < n1) (hb : j < big) : rhC b m n n1 j = some (n + j) := by
  have e : mpC b m j = none := by unfold mpC; rw [if_neg (by omega)]
  refine (rhoG_none e).trans ?_
  unfold frC; rw [if_pos h]
theorem rn_rows {ρ : Nat → Option Nat} {b b' m w : Nat} (h : ∀ k, k < m → ρ (b + k + big) = some (b' + k + big)) : RnL ρ (flat (cRw b w) (List.range m)) (flat (cRw b' w) (List.range m)) :=
  RnL.flt fun k hk => by rw [List.mem_range] at hk; exact .cons (.own (h k hk)) .nil
theorem rn_rowsF {m : List (Nat × Nat)} {lo : Lo} {pn : Option Nat} {b k w : Nat} (h : big + (b + k) ≤ lo.fb) : RnL (rhoF m lo pn) (flat (cRw b w) (List.range k)) (flat (cRw b w) (List.range k)) :=
  rn_rows fun j hj => rhoF_big (by omega) (by omega)
def wsF (ρ : Nat → Option Nat) (hh : List (Nat × Option (List AV))) : List (Nat × Option (List AV)) → Prop
  | [] => True
  | (i, none) :: l => wsF ρ hh l
  | (i, some cs') :: l => (∃ j cs, ρ j = some i ∧ lkH hh j = some cs ∧ RnL ρ cs cs') ∧ wsF ρ hh l
theorem wsF_ok {ρ : Nat → Option Nat} {hh : List (Nat × Option (List AV))} : ∀ {ws : List (Nat × Option (List AV))}, wsF ρ hh ws → ∀ i cs', (i, some cs') ∈ ws → ∃ j cs, ρ j = some i ∧ lkH hh j = some cs ∧ RnL ρ cs cs'
  | [], _, i, cs', h => by simp at h
  | (u, none) :: l, hw, i, cs', h => by
    simp only [wsF] at hw
    rcases List.mem_cons.1 h with h | h
    · cases h
    · exact wsF_ok hw i cs' h
  | (u, some c) :: l, hw, i, cs', h => by
    simp only [wsF] at hw
    rcases List.mem_cons.1 h with h | h
    · cases h; exact hw.1
    · exact wsF_ok hw.2 i cs' h
section
variable {P : Program} {N : Nat} {Q : Exit → AS → Prop} {all : Array Oper} {rest : List Oper} {ts : List (Nat × AV)} {hs : List (Nat × Option (List AV))} {n : Nat} {z0 : Lo} {md : Md}
variable {d : Nat} {ty : TypeId} {pos : String} {af : Array Edge}
theorem rx_fcall {k : FuncId} {args : Array Operand} {tys : Array TypeId} {avs avs0 : List AV} {R R0 : List (List Bool)} {r rr' : AV} {hh : List (Nat × Option (List AV))} (b n1 : Nat) (D : List Nat) (ws : List (Nat × Option (List AV))) [hc : CaT P k]
    (ha : evL (lk ts) args.toList = some avs) (h : FCt P k avs0 R0 r hh) (hF : FamR R R hs hs) (hb : b + R0.length ≤ R.length) (hR : ∀ k, k < R0.length → R0[k]! = R[b + k]!) (hD : ∀ k, k < R0.length → b + k + big ∈ D)
    (har : RnL (mpC b R0.length) avs0 avs) (hk : keysLt big hh = true) (hr : RnV (rhC b R0.length n n1) r rr') (hw : wsF (rhC b R0.length n n1) hh ws) (hM : Nat.ble (n + n1) big = true) (hN : Nat.blt d N = true)
    {md' : Md} [hmd : MdA md (rOs args.toList ++ D.map .inr) (ws.map (fun p => .inr p.1) ++ [.inl d]) md']
    (kk : RW P N all Q md' rest ⟨(d, rr') :: ts, wrH hs ws, n + n1, z0⟩) : RW P N all Q md (⟨some d, .call ⟨.value (.func k), args, tys⟩, ty, pos, af, none⟩ :: rest) ⟨ts, hs, n, z0⟩ := by
  have hM' := Nat.le_of_ble_eq_true hM
  refine rw_step (rs := rOs args.toList ++ D.map .inr) (ws := ws) (n' := n + n1) (out := rr') rfl (Nat.le_add_right _ _) (.inr hM') (fun C ι F T H a w K Q' hCN ag hFf g gh hK => ?_) (fun x hx => by cases hx; exact ltb hN) (by simp only [wD]; rw [← hmd.pf] at kk; exact kk)
  simp only [Oper.wp, exec_call hc.pf, Oper.upon]
  have hH : ∀ q, q < R0.length → H (b + q + big) = some (flat cB R[b + q]!) := fun q hq => by
    rw [ag.r.h _ (List.mem_map_of_mem (hD q hq))]; exact hF.get (by omega)
  have hmp : ∀ j i, mpC b R0.length j = some i → ∃ q, q < R0.length ∧ j = q + big ∧ i = b + q + big := by
    intro j i hj
    unfold mpC at hj
    split at hj
    · cases hj; exact ⟨j - big, by omega, by omega, by omega⟩
    · cases hj
  have hrh : ∀ j i, frC n n1 j = some i → j < n1 ∧ i = n + j := by
    intro j i hj
    unfold frC at hj
    split at hj
    · cases hj; exact ⟨by assumption, rfl⟩
    · cases hj
  refine (call_gen (fr := frC n n1) (fi := fiC n n1) (hh := lkH (hh ++ famB R0)) (H2 := updL H ws) h (fun j j' i h1 h2 => ?_) (fun i j => ?_) (fun j i h1 => ?_) (fun j hj => ?_) gh (fun j i hj => ?_) (fun j cs hj => ?_) har (fun j i hj => ?_) hr (fun i cs' hi => ?_) (evL_ok g (ag.l.evL.trans ha))).mono ?_
  · obtain ⟨q, _, _, _⟩ := hmp j i h1
    obtain ⟨q', _, _, _⟩ := hmp j' i h2
    omega
  · unfold fiC frC
    constructor
    · intro h1
      split at h1
      · cases h1; rw [if_pos (by omega)]; congr 1; omega
      · cases h1
    · intro h1
      split at h1
      · cases h1; rw [if_pos (by omega)]; congr 1; omega
      · cases h1
  · have := hrh j i h1
    unfold mpC; rw [if_neg (by omega)]
  · have h1 : j < big ∨ big + R0.length ≤ j := hj.2
    unfold mpC; rw [if_neg (by omega)]
  · obtain ⟨q, q1, rfl, rfl⟩ := hmp j i hj
    refine ⟨flat cB R0[q]!, flat cB R[b + q]!, ?_, hH q q1, ?_⟩
    · rw [lkH_fam, if_pos q1]
    · rw [hR q q1]; exact .pur (inferInstance : Pur (flat cB R[b + q]!)).pf
  · obtain ⟨q, q1, rfl, rfl⟩ := lkH_fam' hj
    exact ⟨_, mpC_big q1⟩
  · obtain ⟨q1, rfl⟩ := hrh j i hj
    exact hFf _ (Nat.le_add_right _ _) (by omega)
  · rcases updL_mem hi with h1 | ⟨h1, h2⟩
    · obtain ⟨j, cs, q1, q2, q3⟩ := wsF_ok hw i cs' h1
      exact .inl ⟨j, cs, q1, lkH_appL q2, q3⟩
    · by_cases hq : ∃ q, q < R0.length ∧ i = b + q + big
      · obtain ⟨q, q1, rfl⟩ := hq
        rw [hH q q1] at h1
        cases h1
        refine .inl ⟨q + big, flat cB R0[q]!, rhC_big q1, ?_, ?_⟩
        · rw [lkH_appR (keysLt_mono (by omega) hk), lkH_fam, if_pos q1]
        · rw [hR q q1]; exact .pur (inferInstance : Pur (flat cB R[b + q]!)).pf
      · refine .inr ⟨h1, fun j hj => hq ?_⟩
        obtain ⟨q, q1, _, q2⟩ := hmp j i hj
        exact ⟨q, q1, q2⟩
  · rintro e w' ⟨v, ι', rfl, g', c', hrd⟩
    refine hK ι' w' v (g.carry c') (g'.less (fun _ _ h => h) (fun j hj => ⟨hj.1, ?_⟩)).1 hrd
    unfold fiC; rw [if_neg hj.2]
theorem rx_gcall {k : FuncId} {args : Array Operand} {tys : Array TypeId} {avs : List AV} {R R1 : List (List Bool)} {r rr' : AV} {hs' : List (Nat × Option (List AV))} {l0 : Nat} [hc : CaT P k]
    (ha : evL (lk ts) args.toList = some avs) (h : GCt P k avs r R1) (hp : pursB avs = true) (hF : FamR R (R ++ R1) hs hs') (hz : z0 = ⟨l0, big + R.length⟩)
    (hr : RnV (fun j => if big ≤ j ∧ j < big + R1.length then some (R.length + j) else none) r rr') (hM : Nat.ble n big = true) (hN : Nat.blt d N = true)
    (kk : RW P N all Q .txt rest ⟨(d, rr') :: ts, hs', n, ⟨l0, big + (R ++ R1).length⟩⟩) : RW P N all Q .txt (⟨some d, .call ⟨.value (.func k), args, tys⟩, ty, pos, af, none⟩ :: rest) ⟨ts, hs, n, z0⟩ := by
  subst hz
  rintro C a w hCN ⟨h0, ι, g, gh⟩
  refine wpList_plain rfl (fun K hK => ?_)
  simp only [Oper.wp, exec_call hc.pf, Oper.upon]
  have hM' := Nat.le_of_ble_eq_true hM
  have hrh : ∀ j i, (fun j => if big ≤ j ∧ j < big + R1.length then some (R.length + j) else none) j = some i → big ≤ j ∧ j < big + R1.length ∧ i = R.length + j := by
    intro j i hj
    dsimp only at hj
    split at hj
    · rename_i hh; cases hj; exact ⟨hh.1, hh.2, rfl⟩
    · cases hj
  have hrho : rhoG (fun _ => none) (fun j => if big ≤ j ∧ j < big + R1.length then some (R.length + j) else none) = (fun j => if big ≤ j ∧ j < big + R1.length then some (R.length + j) else none) := by funext j; rfl
  have hlen : (R ++ R1).length = R.length + R1.length := List.length_append
  refine (call_gen (mpF := fun _ => none) (fr := fun j => if big ≤ j ∧ j < big + R1.length then some (R.length + j) else none) (fi := fun i => if big + R.length ≤ i ∧ i < big + R.length + R1.length then some (i - R.length) else none) (hh := lkH (famB R1)) (H2 := lkH hs') (args' := avs)
    h (fun j j' i h1 h2 => by cases h1) (fun i j => ?_) (fun j i h1 => rfl) (fun j hj => rfl) gh (fun j i hj => by cases hj) (fun j cs hj => by simp [lkH] at hj) (.pur hp) (fun j i hj => ?_) (rr' := rr') (by rw [hrho]; exact hr) (fun i cs' hi => ?_) (evL_ok g ha)).mono ?_
  · constructor
    · intro h1
      split at h1
      · cases h1; rw [if_pos (by omega)]; congr 1; omega
      · cases h1
    · intro h1
      split at h1
      · cases h1; rw [if_pos (by omega)]; congr 1; omega
      · cases h1
  · obtain ⟨q1, q2, rfl⟩ := hrh j i hj
    exact ⟨by show n ≤ R.length + j; omega, .inr (by show big + R.length ≤ R.length + j; omega)⟩
  · rcases Nat.lt_or_ge i big with hi2 | hi2
    · exact .inr ⟨by rw [hF.low i hi2]; exact hi, fun j => by simp⟩
    · obtain ⟨q, rfl⟩ : ∃ q, i = q + big := ⟨i - big, by omega⟩
      have hg := hF.symm.fam q
      rw [hi] at hg
      split at hg
      · rename_i hq
        cases hg
        rcases Nat.lt_or_ge q R.length with hq2 | hq2
        · refine .inr ⟨?_, fun j => by simp⟩
          have e : (R ++ R1)[q]! = R[q]! := by rw [getB _ _ hq, getB _ _ hq2, List.getElem_append_left hq2]
          rw [e]; exact hF.get hq2
        · refine .inl ⟨(q - R.length) + big, flat cB R1[q - R.length]!, ?_, ?_, ?_⟩
          · rw [hrho]
            show (if big ≤ q - R.length + big ∧ q - R.length + big < big + R1.length then some (R.length + (q - R.length + big)) else none) = some (q + big)
            rw [if_pos (by omega)]; congr 1; omega
          · rw [lkH_fam, if_pos (by omega)]
          · have e : (R ++ R1)[q]! = R1[q - R.length]! := by rw [getB _ _ hq, getB _ _ (by omega), List.getElem_append_right hq2]
            rw [e]; exact .pur (inferInstance : Pur (flat cB R1[q - R.length]!)).pf
      · cases hg
  · rintro e w' ⟨v, ι', rfl, g', c', hrd⟩
    refine hK _ _ (kk C _ _ hCN ⟨fun id hid => ?_, ι', ?_, ?_⟩)
    · rcases h0 id hid with q | q
      · exact .inl ⟨q.1, by have := q.2; show id < big + (R ++ R1).length; have h5 : id < big + R.length := this; omega⟩
      · exact .inr q
    · show TG C ι' (lk ((d, rr') :: ts)) _ _ _
      rw [lk_cons]
      exact (g.carry c').put (hCN.symm ▸ ltb hN) hrd
    · refine (g'.less (fun _ _ h => h) (fun j hj => ?_)).1
      have h3 : n ≤ j := hj.1
      have h4 : j < big ∨ big + (R ++ R1).length ≤ j := hj.2
      refine ⟨⟨h3, ?_⟩, ?_⟩
      · show j < big ∨ big + R.length ≤ j
        omega
      · rw [if_neg (by omega)]
end
theorem fc_of_aw {P : Program} {k : FuncId} {fn : Func} {c : Code} {args : List AV} {R0 : List (List Bool)} {r : AV} {hh : List (Nat × Option (List AV))} (hf : P.funcs[k]? = some fn) (hb : fn.body = some c) (hN : args.length ≤ fn.ntmps)
    (h : AW P fn.ntmps c (retQ P fn.results (fun r' H' => r' = r ∧ ∀ id cs, lkH (hh ++ famB R0) id = some cs → H' id = some cs)) ⟨argTs 0 args, famB R0, 0, ⟨0, big + R0.length⟩⟩) : FCt P k args R0 r hh := gcalls_of_aw hf hb hN h
theorem gc_of_aw {P : Program} {k : FuncId} {fn : Func} {c : Code} {args : List AV} {R1 : List (List Bool)} {r : AV} (hf : P.funcs[k]? = some fn) (hb : fn.body = some c) (hN : args.length ≤ fn.ntmps)
    (h : AW P fn.ntmps c (retQ P fn.results (fun r' H' => r' = r ∧ ∀ id cs, lkH (famB R1) id = some cs → H' id = some cs)) ⟨argTs 0 args, [], 0, ⟨0, big⟩⟩) : GCt P k args r R1 := gcalls_of_aw hf hb hN h
end Go.AL

namespace Go.AL
open Go.RowKit
set_option linter.unusedVariables false
set_option linter.unusedSimpArgs false
theorem Le.virt {ts : List (Nat × AV)} {hs : List (Nat × Option (List AV))} {n : Nat} {z0 : Lo} (hn : n < big) : Le ⟨ts, hs, n, z0⟩ ⟨ts, (n, some []) :: hs, n + 1, z0⟩ := by
  rintro C a w ⟨h0, ι, g, gh⟩
  obtain ⟨g1, c1⟩ := gh.virt (id := n) ⟨Nat.le_refl _, .inl hn⟩
  have e : lkH ((n, some []) :: hs) = upd (lkH hs) n (some []) := lkH_cons _ _ _
  refine ⟨h0, upd ι n (some none), ?_, ?_⟩
  · show TG C _ (lk ts) (lkH ((n, some []) :: hs)) a w
    rw [e]; exact g.carry c1
  · show HG C _ _ (lkH ((n, some []) :: hs)) w
    rw [e]
    refine (g1.less (fun _ _ h => h) (fun j hj => ?_)).1
    have h1 : n + 1 ≤ j := hj.1
    exact ⟨⟨by show n ≤ j; omega, hj.2⟩, by omega⟩
theorem Le.cellsN {ts : List (Nat × AV)} {hs : List (Nat × Option (List AV))} {n : Nat} {z0 : Lo} {i q : Nat} {cs cs' cq : List AV} (hi : lkH hs i = some cs) (hq : lkH hs q = some cq) (hl : cs'.length = cs.length)
    (h : ∀ (w : World) (bad : Nat → Prop) (ι : Pl) (b β : Nat), (∃ p, ι q = some p) → RdC w bad ι cs b β → RdC w bad ι cs' b β) :
    Le ⟨ts, hs, n, z0⟩ ⟨ts, (i, some cs') :: hs, n, z0⟩ := by
  rintro C a w ⟨h0, ι, g, gh⟩
  have hqq : ∃ p, ι q = some p := by
    rcases gh.obj q cq hq with ⟨p1, _⟩ | ⟨_, _, _, _, p1, _⟩ <;> exact ⟨_, p1⟩
  have hk : ∀ id c, lkH ((i, some cs') :: hs) id = some c → (id = i ∧ c = cs') ∨ (id ≠ i ∧ lkH hs id = some c) := by
    intro id c hc
    rw [lkH_c] at hc
    split at hc
    · rename_i e; cases hc; exact .inl ⟨e, rfl⟩
    · rename_i e; exact .inr ⟨fun h => e h, hc⟩
  have hk2 : ∀ id c, lkH hs id = some c → ∃ c', lkH ((i, some cs') :: hs) id = some c' := by
    intro id c hc
    rw [lkH_c]
    split
    · exact ⟨_, rfl⟩
    · exact ⟨_, hc⟩
  have hb : badOf C.X ι (lkH ((i, some cs') :: hs)) = badOf C.X ι (lkH hs) := by
    funext b
    refine propext ⟨?_, ?_⟩
    · rintro (h | ⟨id, c, β, h1, h2⟩)
      · exact .inl h
      · rcases hk id c h1 with ⟨rfl, _⟩ | ⟨_, h3⟩
        · exact .inr ⟨_, _, _, hi, h2⟩
        · exact .inr ⟨_, _, _, h3, h2⟩
    · rintro (h | ⟨id, c, β, h1, h2⟩)
      · exact .inl h
      · obtain ⟨c', h3⟩ := hk2 id c h1
        exact .inr ⟨_, _, _, h3, h2⟩
  refine ⟨h0, ι, ⟨g.df, g.sz, fun t av ht => ?_⟩, ?_, ?_, gh.fr, gh.ex, gh.fresh⟩
  · show ∃ y, a.tmps[t]? = some y ∧ Rd w (badOf C.X ι (lkH ((i, some cs') :: hs))) ι av y
    rw [hb]; exact g.tm t av ht
  · intro id c hc
    show _ ∨ ∃ b β arr e, ι id = some (some (b, β)) ∧ w.heap[b]? = some (.cells arr e (0, 0)) ∧ β + c.length ≤ arr.size ∧ RdC w (badOf C.X ι (lkH ((i, some cs') :: hs))) ι c b β ∧ ¬ C.X b ∧ (C.W0 b ∨ C.w0.heap.size ≤ b)
    rw [hb]
    rcases hk id c hc with ⟨rfl, rfl⟩ | ⟨_, h3⟩
    · rcases gh.obj _ _ hi with ⟨q1, q2⟩ | ⟨b, β, arr, e, q1, q2, q3, q4, q5⟩
      · subst q2
        exact .inl ⟨q1, List.eq_nil_of_length_eq_zero hl⟩
      · exact .inr ⟨b, β, arr, e, q1, q2, by rw [hl]; exact q3, h _ _ _ _ _ hqq q4, q5⟩
    · exact gh.obj _ _ h3
  · intro id id' c c' b β β' h1 h2 h3 h4
    obtain ⟨d1, e1⟩ : ∃ d, lkH hs id = some d := by
      rcases hk id c h1 with ⟨rfl, _⟩ | ⟨_, h⟩
      · exact ⟨_, hi⟩
      · exact ⟨_, h⟩
    obtain ⟨d2, e2⟩ : ∃ d, lkH hs id' = some d := by
      rcases hk id' c' h2 with ⟨rfl, _⟩ | ⟨_, h⟩
      · exact ⟨_, hi⟩
      · exact ⟨_, h⟩
    exact gh.sep id id' d1 d2 b β β' e1 e2 h3 h4
theorem RdC_mid {w : World} {bad : Nat → Prop} {ι : Pl} {c c' : AV} (hc : ∀ y, Rd w bad ι c y → Rd w bad ι c' y) : ∀ (a : List AV) (r : List AV) (b o : Nat), RdC w bad ι (a ++ c :: r) b o → RdC w bad ι (a ++ c' :: r) b o
  | [], r, b, o, h => by
    simp only [List.nil_append, RdC] at h ⊢
    obtain ⟨⟨x, h1, h2, h3⟩, h4⟩ := h
    exact ⟨⟨x, h1, h2, hc _ h3⟩, h4⟩
  | x :: a, r, b, o, h => by
    simp only [List.cons_append, RdC] at h ⊢
    exact ⟨h.1, RdC_mid hc a r b (o + 1) h.2⟩
theorem Le.nilCell {ts : List (Nat × AV)} {hs : List (Nat × Option (List AV))} {n : Nat} {z0 : Lo} {i : Nat} (e : Nat) (c1 : List AV) {c2 : List AV} (hi : lkH hs i = some (c1 ++ .v (.slice none 0 0) :: c2)) (hin : i ≠ n) (hn : n < big) :
    Le ⟨ts, hs, n, z0⟩ ⟨ts, (i, some (c1 ++ .own n 0 0 e :: c2)) :: (n, some []) :: hs, n + 1, z0⟩ :=
  (Le.virt hn).trans (Le.cellsN (q := n) (cs := c1 ++ .v (.slice none 0 0) :: c2) (by rw [lkH_c, if_neg hin]; exact hi) (by rw [lkH_c, if_pos rfl]) (by simp) fun w bad ι b β hp hr =>
    RdC_mid (fun y hy => by simp only [Rd] at hy ⊢; exact .inl ⟨hp, trivial, none, hy⟩) c1 c2 b β hr)
theorem Le.frzC {ts : List (Nat × AV)} {hs : List (Nat × Option (List AV))} {n : Nat} {z0 : Lo} {j i m e : Nat} (c1 : List AV) {c2 d : List AV} (hj : lkH hs j = some (c1 ++ .own i 0 m e :: c2)) (hi : lkH hs i = some d) (hij : j ≠ i) :
    Le ⟨ts, hs, n, z0⟩ ⟨ts, (j, some (c1 ++ .imm m d :: c2)) :: (i, none) :: hs, n, z0⟩ := by
  rintro C a w ⟨h0, ι, g, gh⟩
  have hk : ∀ id c, lkH ((j, some (c1 ++ .imm m d :: c2)) :: (i, none) :: hs) id = some c → (id = j ∧ c = c1 ++ .imm m d :: c2) ∨ (id ≠ j ∧ id ≠ i ∧ lkH hs id = some c) := by
    intro id c hc
    rw [lkH_c] at hc
    split at hc
    · rename_i e; cases hc; exact .inl ⟨e, rfl⟩
    · rename_i e
      rw [lkH_c] at hc
      split at hc
      · cases hc
      · rename_i e2; exact .inr ⟨e, e2, hc⟩
  have hk2 : ∀ id c, lkH ((j, some (c1 ++ .imm m d :: c2)) :: (i, none) :: hs) id = some c → id ≠ i ∧ ∃ c', lkH hs id = some c' := by
    intro id c hc
    rcases hk id c hc with ⟨rfl, _⟩ | ⟨_, h2, h3⟩
    · exact ⟨hij, _, hj⟩
    · exact ⟨h2, _, h3⟩
  have hbad : ∀ b, badOf C.X ι (lkH ((j, some (c1 ++ .imm m d :: c2)) :: (i, none) :: hs)) b → badOf C.X ι (lkH hs) b := by
    rintro b (h | ⟨id, c, β, h1, h2⟩)
    · exact .inl h
    · obtain ⟨_, c', h3⟩ := hk2 id c h1
      exact .inr ⟨id, c', β, h3, h2⟩
  have car : Carry w (badOf C.X ι (lkH hs)) ι w (badOf C.X ι (lkH ((j, some (c1 ++ .imm m d :: c2)) :: (i, none) :: hs))) ι := ⟨fun b o x h1 h2 => ⟨fun q => h1 (hbad b q), h2⟩, fun _ _ h => h, fun _ => Nat.le_refl _⟩
  have hcell : ∀ y, Rd w (badOf C.X ι (lkH ((j, some (c1 ++ .imm m d :: c2)) :: (i, none) :: hs))) ι (.own i 0 m e) y → Rd w (badOf C.X ι (lkH ((j, some (c1 ++ .imm m d :: c2)) :: (i, none) :: hs))) ι (.imm m d) y := by
    intro y hr
    simp only [Rd] at hr ⊢
    rcases hr with ⟨_, h2, a', h3⟩ | ⟨b, β, c, h1, h2, h3, h4⟩
    · subst h2; exact ⟨a', 0, h3, .inl rfl⟩
    · refine ⟨_, c, h2, ?_⟩
      rcases Nat.eq_zero_or_pos m with h5 | h5
      · exact .inl h5
      · refine .inr ⟨b, β + 0, h3, rfl, ?_⟩
        rcases gh.obj i d hi with ⟨q1, q2⟩ | ⟨b', β', arr, e', q1, q2, q3, q4, q5, q6⟩
        · rw [h1] at q1; cases q1
        · rw [h1] at q1; cases q1
          refine .inr ⟨?_, RdC.carryB car _ _ _ (fun o x hx => hx) q4⟩
          rintro (h | ⟨id', cs', β', r1, r2⟩)
          · exact q5 h
          · obtain ⟨r3, c', r4⟩ := hk2 id' cs' r1
            exact r3 (gh.sep _ _ _ _ _ _ _ r4 hi r2 h1)
  refine ⟨h0, ι, g.carry car, ⟨fun id c hc => ?_, fun id id' c c' b β β' h1 h2 h3 h4 => ?_, gh.fr, gh.ex, gh.fresh⟩⟩
  · rcases hk id c hc with ⟨rfl, rfl⟩ | ⟨_, _, h3⟩
    · rcases gh.obj _ _ hj with ⟨q1, q2⟩ | ⟨b, β, arr, e, q1, q2, q3, q4, q5⟩
      · simp at q2
      · exact .inr ⟨b, β, arr, e, q1, q2, by simpa using q3, RdC_mid hcell c1 c2 b β (RdC.carryB car _ _ _ (fun o x hx => hx) q4), q5⟩
    · rcases gh.obj _ _ h3 with ⟨q1, q2⟩ | ⟨b, β, arr, e, q1, q2, q3, q4, q5⟩
      · exact .inl ⟨q1, q2⟩
      · exact .inr ⟨b, β, arr, e, q1, q2, q3, RdC.carryB car _ _ _ (fun o x hx => hx) q4, q5⟩
  · obtain ⟨_, d1, e1⟩ := hk2 id c h1
    obtain ⟨_, d2, e2⟩ := hk2 id' c' h2
    exact gh.sep id id' d1 d2 b β β' e1 e2 h3 h4
theorem sC_fam {R : List (List Bool)} {hs hs' : List (Nat × Option (List AV))} {k m : Nat} (hF : FamR R R hs hs') (hk : k < R.length) (hm : m = R[k]!.length) : sCells (lkH hs) 1 (kAV (.own (k + big) 0 m 1)) = some (m, flat cB R[k]!) := by
  subst hm
  have hl : (flat cB R[k]!).length = R[k]!.length * 1 := flat_length cB _
  show (lkH hs (k + big)).bind (fun cs => if R[k]!.length * 1 ≤ (cs.drop 0).length then some (R[k]!.length, (cs.drop 0).take (R[k]!.length * 1)) else none) = _
  rw [hF.get hk, Option.bind_some, List.drop_zero, if_pos (by omega), List.take_of_length_le (by omega)]
end Go.AL

namespace Go.AL
open Go.RowKit
set_option linter.unusedVariables false
set_option linter.unusedSimpArgs false
theorem spl_one {cs : List AV} {v : Nat} {c : AV} : spl cs (0 + v * 1) [c] = cs.take v ++ c :: cs.drop (v + 1) := by
  unfold spl; simp
theorem rowsSet {u : List (List Bool)} {v : Nat} {r : List Bool} (hv : v < u.length) : (flat cBB u).take v ++ .imm r.length (flat cB r) :: (flat cBB u).drop (v + 1) = flat cBB (u.set v r) := by
  have h := st_rows (xs := u) (k := v) (r := r) hv
  rw [spl_one] at h; exact h
theorem Le.frzRow {ts : List (Nat × AV)} {hs : List (Nat × Option (List AV))} {n : Nat} {z0 : Lo} {j q v m : Nat} {u : List (List Bool)} {r : List Bool} (hj : lkH hs j = some (spl (flat cBB u) (0 + v * 1) [.own q 0 m 1])) (hq : lkH hs q = some (flat cB r)) (hm : m = r.length) (hv : v < u.length) (hjq : j ≠ q) :
    Le ⟨ts, hs, n, z0⟩ ⟨ts, (j, some (flat cBB (u.set v r))) :: (q, none) :: hs, n, z0⟩ := by
  subst hm
  rw [spl_one] at hj
  have h := Le.frzC (ts := ts) (n := n) (z0 := z0) ((flat cBB u).take v) hj hq hjq
  rwa [rowsSet hv] at h
theorem Le.fdrop {ts : List (Nat × AV)} {hs : List (Nat × Option (List AV))} {n : Nat} {z0 : Lo} {k : Nat} {R : List (List Bool)} (hF : FamR R R hs hs) (hk : k < R.length) : Le ⟨ts, (k + big, some (flat cB R[k]!)) :: hs, n, z0⟩ ⟨ts, hs, n, z0⟩ := by
  refine Le.of (fun _ _ h => h) (fun i cs h => ?_) (Nat.le_refl _) rfl
  have h' : lkH hs i = some cs := h
  show lkH ((k + big, some (flat cB R[k]!)) :: hs) i = some cs
  rw [lkH_c]
  split
  · rename_i e; subst e; rw [hF.get hk] at h'; exact h'
  · exact h'
theorem dist2 {i k : Nat} (hi : Nat.blt i big = true) : distinct [i, k + big] = true := by
  have h1 := ltb hi
  have : Nat.beq i (k + big) = false := by
    cases h : Nat.beq i (k + big) with
    | false => rfl
    | true => have := Nat.eq_of_beq_eq_true h; omega
  simp only [distinct, List.all_cons, List.all_nil, this]; rfl
structure Hid (T : Prop) : Prop where pf : T
theorem cut {G : Prop} {T : Prop} (key : T) (main : Hid T → G) : G := main ⟨key⟩
end Go.AL

namespace Go.AL
open Go.RowKit
set_option linter.unusedVariables false
def sbin (op : BinOp) (a b : ByteArray) : Option Value :=
  match op with
  | .add => if a.size + b.size ≤ 9000000000000000000 then some (.string (a ++ b)) else none
  | .eql => some (.bool (a.toList == b.toList))
  | .neq => some (.bool (!(a.toList == b.toList)))
  | _ => none
def bytF (s : ByteArray) (l : List Int) : ByteArray := l.foldl (fun r n => r.push (UInt8.ofNat n.toNat)) s
section
variable {P : Program} {C : Ctx} {ι : Pl} {T : Nat → Option AV} {F : Nat → Prop} {H : Nat → Option (List AV)} {a : Act} {w : World} {o : Oper}
theorem pu_sbin (g : TG C ι T H a w) {op : BinOp} {t t' : TypeId} {x y : Operand} {m n : ByteArray} {v : Value} (ho : o.op = .binOp op t x y t')
    (hx : ev T x = some (.v (.string m))) (hy : ev T y = some (.v (.string n))) (h : sbin op m n = some v) : Pu P C ι H a w o (.v v) := by
  have h1 := ev_ok g hx
  have h2 := ev_ok g hy
  simp only [Rd] at h1 h2
  refine ⟨v, ?_, by simp [Rd]⟩
  have hg : (eqGuard op t x y (.string m) (.string n)).run P w = .ok () w := by
    unfold eqGuard
    cases op <;> simp
  have hb : (binOp op t (.string m) (.string n)).run P w = .ok v w := by
    cases op <;> simp only [sbin] at h <;> first | (cases h; done) | skip
    · split at h
      · rename_i hs
        cases h
        have h9 : ¬ (((m.size + n.size : Nat) : Int) > IntKind.i64.max) := by
          have : IntKind.i64.max = 9223372036854775807 := rfl
          omega
        show ((if ((m.size + n.size : Nat) : Int) > IntKind.i64.max then _ else pure (.string (m ++ n)) : Sem Value)).run P w = _
        rw [if_neg h9]; simp
      · cases h
    all_goals (cases h; simp [binOp, Op.stringOp])
  simp only [execOp, ho, h1, h2, Sem.run_bind, hg, Result.andThen_ok, hb, Sem.run_pure]
theorem RdL_ints {bad : Nat → Prop} {k : IntKind} : ∀ {ns : List Int} {l : List Value}, RdL w bad ι (ns.map fun n => .v (.int k n)) l → l = ns.map (Value.int k)
  | [], l, h => by simp only [List.map_nil, RdL] at h; exact h
  | n :: ns, l, h => by
    simp only [List.map_cons, RdL] at h
    obtain ⟨x, l', rfl, h0, h1, h2⟩ := h
    simp only [Rd] at h1
    rw [h1, RdL_ints h2, List.map_cons]
theorem pu_b2s (g : TG C ι T H a w) (gh : HG C ι F H w) {s t el : TypeId} {x : Operand} {av : AV} {m : Nat} {ns : List Int} (ho : o.op = .convert s t x) (hx : ev T x = some av)
    (ht : slOf P s = some el) (hu : inOf P el = some .u8) (hst : P.underlying t = some .string) (hs : sCells H 1 (kAV av) = some (m, ns.map fun n => .v (.int .u8 n))) :
    Pu P C ι H a w o (.v (.string (bytF .empty ns))) := by
  obtain ⟨ad, c, l, h1, h2, h3, h4, h5⟩ := sCells_ok gh (Rd_kAV (ev_ok g hx)) hs
  have hl := RdL_ints h3
  have hll : ns.length = m := by have := h2; rw [hl] at this; simpa using this
  refine ⟨.string (bytF .empty ns), ?_, by simp [Rd]⟩
  have hcv : (convert s t (.slice ad m c)).run P w = (Conv.bytesToString (.slice ad m c)).run P w := run_convert_bytes_string w s t el ad m c (slOf_u ht) (inOf_u hu) hst
  have hrun : (Conv.bytesToString (.slice ad m c)).run P w = .ok (.string (bytF .empty ns)) w := by
    cases ad with
    | none =>
      rcases h5 with ⟨b, o', h⟩ | h
      · cases h
      · subst h
        have : ns = [] := List.eq_nil_of_length_eq_zero hll
        subst this
        rfl
    | some ad =>
      have hload : (loadCells ad m).run P w = .ok (ns.map (Value.int .u8)).toArray w := by
        rcases h5 with ⟨b, o', h⟩ | h
        · cases h
          have := run_loadCells_list (P := P) w ⟨b, o', none⟩ l (fun j v hj => by rw [Addr.add_lit]; exact h4 b o' rfl j v hj)
          rw [h2, Nat.mul_one, hl] at this
          exact this
        · subst h
          have : ns = [] := List.eq_nil_of_length_eq_zero hll
          subst this
          simp [loadCells, loadCellsFrom]
      exact run_bytesToString w ad m c ns hload
  simp only [execOp, ho, h1, Sem.run_bind, hcv, hrun, Result.andThen_ok, Sem.run_pure]
end
class Eq3 (P : Program) (t : Nat) : Prop where
  g : P.eqGuardType P.depth t = false
  e : ∀ (a b c a' b' c' : Int) (w : World), (Op.equalIn 10000 t (.agg #[.int .i64 a, .int .i64 b, .int .i64 c]) (.agg #[.int .i64 a', .int .i64 b', .int .i64 c'])).run P w = .ok (a == a' && (b == b' && c == c')) w
def e3bin (op : BinOp) (b : Bool) : Option Value :=
  match op with
  | .eql => some (.bool b)
  | .neq => some (.bool (!b))
  | _ => none
section
variable {P : Program} {C : Ctx} {ι : Pl} {T : Nat → Option AV} {F : Nat → Prop} {H : Nat → Option (List AV)} {a : Act} {w : World} {o : Oper}
theorem pu_eq3 (g : TG C ι T H a w) {op : BinOp} {t t' : TypeId} {x y : Operand} {m1 m2 m3 n1 n2 n3 : Int} {v : Value} (he : Eq3 P t) (ho : o.op = .binOp op t x y t')
    (hx : ev T x = some (.agg [.v (.int .i64 m1), .v (.int .i64 m2), .v (.int .i64 m3)])) (hy : ev T y = some (.agg [.v (.int .i64 n1), .v (.int .i64 n2), .v (.int .i64 n3)]))
    (h : e3bin op (m1 == n1 && (m2 == n2 && m3 == n3)) = some v) : Pu P C ι H a w o (.v v) := by
  have key : ∀ (z : Operand) (k1 k2 k3 : Int), ev T z = some (.agg [.v (.int .i64 k1), .v (.int .i64 k2), .v (.int .i64 k3)]) → a.eval z = .agg #[.int .i64 k1, .int .i64 k2, .int .i64 k3] := by
    intro z k1 k2 k3 hz
    have h1 := ev_ok g hz
    simp only [Rd] at h1
    obtain ⟨l, h2, h3⟩ := h1
    have h4 := RdL_ints (ns := [k1, k2, k3]) (k := .i64) h3
    rw [h2, h4]; rfl
  refine ⟨v, ?_, by simp [Rd]⟩
  have hb : (binOp op t (.agg #[.int .i64 m1, .int .i64 m2, .int .i64 m3]) (.agg #[.int .i64 n1, .int .i64 n2, .int .i64 n3])).run P w = .ok v w := by
    cases op <;> simp only [e3bin] at h <;> cases h
    · rw [run_eql_struct, he.e]; rfl
    · rw [run_neq_struct, he.e]; rfl
  simp only [execOp, ho, key x _ _ _ hx, key y _ _ _ hy, Sem.run_bind, run_eqGuard_agg w op t x y _ _ he.g, Result.andThen_ok, hb, Sem.run_pure]
end
section
variable {P : Program} {N : Nat} {Q : Exit → AS → Prop} {all : Array Oper} {rest : List Oper} {ts : List (Nat × AV)} {hs : List (Nat × Option (List AV))} {n : Nat} {z0 : Lo} {md : Md}
variable {d : Nat} {ty : TypeId} {pos : String} {af : Array Edge}
theorem rx_sbin {op : BinOp} {t t' : TypeId} {x y : Operand} {m m' : ByteArray} {v : Value} (hx : ev (lk ts) x = some (.v (.string m))) (hy : ev (lk ts) y = some (.v (.string m')))
    (h : sbin op m m' = some v) (hN : Nat.blt d N = true) {md' : Md} [hmd : MdA md (rO x ++ rO y) [.inl d] md'] (kk : RW P N all Q md' rest ⟨(d, .v v) :: ts, hs, n, z0⟩) : RW P N all Q md (⟨some d, .binOp op t x y t', ty, pos, af, none⟩ :: rest) ⟨ts, hs, n, z0⟩ :=
  rw_pu rfl rfl (ltb hN) (fun C ι F T H a w ag g gh => pu_sbin g rfl (ag.l.ev.trans hx) (ag.r.ev.trans hy) h) (by rw [hmd.pf]; exact kk)
theorem rx_eq3 {op : BinOp} {t t' : TypeId} {x y : Operand} {m1 m2 m3 n1 n2 n3 : Int} {v : Value} [he : Eq3 P t] (hx : ev (lk ts) x = some (.agg [.v (.int .i64 m1), .v (.int .i64 m2), .v (.int .i64 m3)])) (hy : ev (lk ts) y = some (.agg [.v (.int .i64 n1), .v (.int .i64 n2), .v (.int .i64 n3)]))
    (h : e3bin op (m1 == n1 && (m2 == n2 && m3 == n3)) = some v) (hN : Nat.blt d N = true) {md' : Md} [hmd : MdA md (rO x ++ rO y) [.inl d] md'] (kk : RW P N all Q md' rest ⟨(d, .v v) :: ts, hs, n, z0⟩) : RW P N all Q md (⟨some d, .binOp op t x y t', ty, pos, af, none⟩ :: rest) ⟨ts, hs, n, z0⟩ :=
  rw_pu rfl rfl (ltb hN) (fun C ι F T H a w ag g gh => pu_eq3 g he rfl (ag.l.ev.trans hx) (ag.r.ev.trans hy) h) (by rw [hmd.pf]; exact kk)
theorem rx_b2s {s t el : TypeId} {x : Operand} {av : AV} {m : Nat} (ns : List Int) [ht : SlT P s el] [hu : InT P el .u8] [hst : StT P t] (hx : ev (lk ts) x = some av)
    (hs' : sCells (lkH hs) 1 (kAV av) = some (m, ns.map fun n => .v (.int .u8 n))) (hN : Nat.blt d N = true) {md' : Md} [hmd : MdA md (rO x ++ rA av) [.inl d] md'] (kk : RW P N all Q md' rest ⟨(d, .v (.string (bytF .empty ns))) :: ts, hs, n, z0⟩) :
    RW P N all Q md (⟨some d, .convert s t x, ty, pos, af, none⟩ :: rest) ⟨ts, hs, n, z0⟩ :=
  rw_pu rfl rfl (ltb hN) (fun C ι F T H a w ag g gh => pu_b2s g gh rfl (ag.l.ev.trans hx) ht.pf hu.pf hst.pf (ag.r.sCells.trans hs')) (by rw [hmd.pf]; exact kk)
theorem rx_indexS {t : TypeId} {x i : Operand} {s : ByteArray} {k : IntKind} {m : Int} [ht : StT P t] (hx : ev (lk ts) x = some (.v (.string s)))
    (hi : ev (lk ts) i = some (.v (.int k m))) (hm : 0 ≤ m ∧ m < (s.size : Int)) (hN : Nat.blt d N = true) {md' : Md} [hmd : MdA md (rO x ++ rO i) [.inl d] md'] (kk : RW P N all Q md' rest ⟨(d, .v (.int .u8 ((s[m.toNat]!).toNat : Int))) :: ts, hs, n, z0⟩) :
    RW P N all Q md (⟨some d, .index t x i, ty, pos, af, none⟩ :: rest) ⟨ts, hs, n, z0⟩ :=
  rw_indexS (b := s[m.toNat]!) hx hi ht.pf hm.1 (by rw [getElem!_pos s m.toNat (by omega), getElem?_pos s m.toNat (by omega)]) (ltb hN) (by rw [hmd.pf]; exact kk)
theorem rx_sliceS {t : TypeId} {x : Operand} {lo hi : Option Operand} {s : ByteArray} {l h : Nat} [ht : StT P t] (hx : ev (lk ts) x = some (.v (.string s)))
    (hl : bndA (lk ts) lo 0 = some l) (hh : bndA (lk ts) hi s.size = some h) (hc : l ≤ h ∧ h ≤ s.size) (hN : Nat.blt d N = true) {md' : Md} [hmd : MdA md (rO x ++ (rB lo ++ rB hi)) [.inl d] md'] (kk : RW P N all Q md' rest ⟨(d, .v (.string (s.extract l h))) :: ts, hs, n, z0⟩) :
    RW P N all Q md (⟨some d, .slice t x lo hi none, ty, pos, af, none⟩ :: rest) ⟨ts, hs, n, z0⟩ := rw_sliceS hx ht.pf hl hh hc (ltb hN) (by rw [hmd.pf]; exact kk)
theorem u8_in (m : Int) (h : 0 ≤ m ∧ m ≤ 255) : IntKind.u8.wrap m = m := by
  have : IntKind.u8.wrap m = m % 256 := rfl
  rw [this]; omega
theorem rx_addU {t t' : TypeId} {x y : Operand} {m m' : Int} (hx : ev (lk ts) x = some (.v (.int .u8 m))) (hy : ev (lk ts) y = some (.v (.int .u8 m')))
    (h : 0 ≤ m + m' ∧ m + m' ≤ 255) (hN : Nat.blt d N = true) {md' : Md} [hmd : MdA md (rO x ++ rO y) [.inl d] md'] (kk : RW P N all Q md' rest ⟨(d, .v (.int .u8 (m + m'))) :: ts, hs, n, z0⟩) : RW P N all Q md (⟨some d, .binOp .add t x y t', ty, pos, af, none⟩ :: rest) ⟨ts, hs, n, z0⟩ :=
  rw_ibin hx hy (.inl rfl) (v := .int .u8 (m + m')) (by simp only [ibin, u8_in _ h]) (ltb hN) (by rw [hmd.pf]; exact kk)
theorem rx_subU {t t' : TypeId} {x y : Operand} {m m' : Int} (hx : ev (lk ts) x = some (.v (.int .u8 m))) (hy : ev (lk ts) y = some (.v (.int .u8 m')))
    (h : 0 ≤ m - m' ∧ m - m' ≤ 255) (hN : Nat.blt d N = true) {md' : Md} [hmd : MdA md (rO x ++ rO y) [.inl d] md'] (kk : RW P N all Q md' rest ⟨(d, .v (.int .u8 (m - m'))) :: ts, hs, n, z0⟩) : RW P N all Q md (⟨some d, .binOp .sub t x y t', ty, pos, af, none⟩ :: rest) ⟨ts, hs, n, z0⟩ :=
  rw_ibin hx hy (.inl rfl) (v := .int .u8 (m - m')) (by simp only [ibin, u8_in _ h]) (ltb hN) (by rw [hmd.pf]; exact kk)
theorem rx_convU {s t : TypeId} {x : Operand} {k' : IntKind} {m : Int} [hd : InT P t .u8] [hs' : InT P s k'] (hx : ev (lk ts) x = some (.v (.int k' m))) (h : 0 ≤ m ∧ m ≤ 255) (hN : Nat.blt d N = true) {md' : Md} [hmd : MdA md (rO x) [.inl d] md'] (kk : RW P N all Q md' rest ⟨(d, .v (.int .u8 m)) :: ts, hs, n, z0⟩) :
    RW P N all Q md (⟨some d, .convert s t x, ty, pos, af, none⟩ :: rest) ⟨ts, hs, n, z0⟩ := rw_conv hx hd.pf hs'.pf (ltb hN) (by rw [hmd.pf, u8_in _ h]; exact kk)
end
theorem bytF_size (n : Int) : (bytF .empty [n]).size = 1 := rfl
theorem sadd_ok {a b : ByteArray} (h : a.size + b.size ≤ 9000000000000000000) : sbin .add a b = some (.string (a ++ b)) := if_pos h
end Go.AL

namespace Go.AL
def bytF' (l : List Int) : ByteArray := l.foldl (fun r n => r.push (UInt8.ofNat n.toNat)) .empty
def letF (v : Int) : ByteArray := bytF' [97 + v]
def decF (n : Int) : ByteArray := bytF' [48 + n] ++ .empty
theorem bsz_lit (l : List UInt8) : ByteArray.size ⟨l.toArray⟩ = l.length := rfl
theorem letF_size (v : Int) : (letF v).size = 1 := rfl
theorem decF_size (v : Int) : (decF v).size = 1 := by simp [decF, bytF', ByteArray.size_append]
def joinF (out : ByteArray) (k : Nat) (t : ByteArray) : ByteArray := (if 0 < k then out ++ ⟨#[59]⟩ else out) ++ t
mutual
def textS : Stmt → ByteArray
  | .mk op x y n th el =>
    if op = 1 then (letF x ++ ⟨#[61]⟩) ++ decF n
    else if op = 2 then (letF x ++ ⟨#[61, 98, 111, 120, 32]⟩) ++ decF n
    else if op = 3 then (letF x ++ ⟨#[61]⟩) ++ letF y
    else if op = 4 then (letF x ++ ⟨#[61, 38]⟩) ++ letF y
    else if op = 5 then (letF x ++ ⟨#[61, 38, 109, 117, 116, 32]⟩) ++ letF y
    else if op = 6 then (letF x ++ ⟨#[61, 42]⟩) ++ letF y
    else if op = 7 then ((⟨#[42]⟩ ++ letF x) ++ ⟨#[61]⟩) ++ letF y
    else if op = 8 then ⟨#[100, 114, 111, 112, 32]⟩ ++ letF x
    else if op = 10 then (⟨#[108, 111, 111, 112, 123]⟩ ++ textA .empty 0 th) ++ ⟨#[125]⟩
    else (((⟨#[105, 102, 123]⟩ ++ textA .empty 0 th) ++ ⟨#[125, 123]⟩) ++ textA .empty 0 el) ++ ⟨#[125]⟩
def textA (out : ByteArray) (k : Nat) : List Stmt → ByteArray
  | [] => out
  | s :: l => textA (joinF out k (textS s)) (k + 1) l
end
def textL (l : List Stmt) : ByteArray := textA .empty 0 l
theorem textA_snoc : ∀ (l : List Stmt) (out : ByteArray) (k : Nat) (s : Stmt), textA out k (l ++ [s]) = joinF (textA out k l) (k + l.length) (textS s)
  | [], out, k, s => by simp only [List.nil_append, textA, List.length_nil, Nat.add_zero]
  | x :: l, out, k, s => by
    simp only [List.cons_append, textA, textA_snoc l, List.length_cons]
    rw [show k + 1 + l.length = k + (l.length + 1) from by omega]
theorem textL_succ (l : List Stmt) (k : Nat) (h : k < l.length) : textL (l.take (k + 1)) = joinF (textL (l.take k)) k (textS l[k]!) := by
  rw [take_succB _ _ h, textL, textA_snoc, List.length_take, Nat.min_eq_left (by omega), Nat.zero_add]; rfl
theorem textS_def (s : Stmt) : textS s = 
    if s.op = 1 then (letF s.x ++ ⟨#[61]⟩) ++ decF s.n
    else if s.op = 2 then (letF s.x ++ ⟨#[61, 98, 111, 120, 32]⟩) ++ decF s.n
    else if s.op = 3 then (letF s.x ++ ⟨#[61]⟩) ++ letF s.y
    else if s.op = 4 then (letF s.x ++ ⟨#[61, 38]⟩) ++ letF s.y
    else if s.op = 5 then (letF s.x ++ ⟨#[61, 38, 109, 117, 116, 32]⟩) ++ letF s.y
    else if s.op = 6 then (letF s.x ++ ⟨#[61, 42]⟩) ++ letF s.y
    else if s.op = 7 then ((⟨#[42]⟩ ++ letF s.x) ++ ⟨#[61]⟩) ++ letF s.y
    else if s.op = 8 then ⟨#[100, 114, 111, 112, 32]⟩ ++ letF s.x
    else if s.op = 10 then (⟨#[108, 111, 111, 112, 123]⟩ ++ textL s.th) ++ ⟨#[125]⟩
    else (((⟨#[105, 102, 123]⟩ ++ textL s.th) ++ ⟨#[125, 123]⟩) ++ textL s.el) ++ ⟨#[125]⟩ := by
  cases s; rw [textS]; rfl
mutual
theorem textS_size : ∀ s, (textS s).size + 1 ≤ 11 * cntS s
  | .mk op x y n th el => by
    have h1 := textA_size th .empty 0
    have h2 := textA_size el .empty 0
    have h3 : ByteArray.size .empty = 0 := rfl
    rw [textS]
    simp only [cntS]
    repeat' split
    all_goals simp only [ByteArray.size_append, bsz_lit, List.length_cons, List.length_nil, letF_size, decF_size]
    all_goals omega
theorem textA_size : ∀ (l : List Stmt) (out : ByteArray) (k : Nat), (textA out k l).size ≤ out.size + 11 * cntL l
  | [], out, k => by simp only [textA, cntL]; omega
  | s :: l, out, k => by
    have h1 := textS_size s
    have h2 := textA_size l (joinF out k (textS s)) (k + 1)
    have h3 : (joinF out k (textS s)).size ≤ out.size + 1 + (textS s).size := by
      unfold joinF; split <;> simp only [ByteArray.size_append, bsz_lit, List.length_cons, List.length_nil] <;> omega
    simp only [textA, cntL]
    omega
end
theorem textL_size (l : List Stmt) : (textL l).size ≤ 11 * cntL l := by
  have := textA_size l .empty 0
  have h3 : ByteArray.size .empty = 0 := rfl
  unfold textL; omega
theorem simple_bd {ts : List Int} {s : Stmt} (ht : typesOk ts = true) (h : simpleF ts s = true) : 1 ≤ s.op ∧ s.op ≤ 8 ∧ 0 ≤ s.x ∧ s.x ≤ 5 ∧ 0 ≤ s.y ∧ s.y ≤ 5 ∧ (s.op = 1 ∨ s.op = 2 → 0 ≤ s.n ∧ s.n ≤ 9) := by
  have hl := typesOk_len ht
  have hx := typeAt_pos ht s.x
  have hy := typeAt_pos ht s.y
  unfold simpleF at h
  dsimp only at h
  repeat' split at h
  all_goals (first | (simp only [decide_eq_true_eq] at h; omega) | (simp at h; done))
end Go.AL

namespace Go.AL
structure IsOk (nt np : Nat) (x : Iss) : Prop where
  p0 : 0 ≤ x.point
  p1 : x.point < np
  k : (x.kind = 1 ∧ 0 ≤ x.with_ ∧ x.with_ < nt) ∨ ((x.kind = 2 ∨ x.kind = 3) ∧ 0 ≤ x.with_ ∧ x.with_ < np)
theorem spP_len (ts : List Int) (pts : List Pnt) (Aa : List Nat) (cf : List Bool) (i : Nat) : (spP ts pts Aa cf i).length ≤ ts.length + pts.length := by
  unfold spP
  rw [List.length_append, List.length_map, List.length_map]
  have h1 := List.length_filter_le (spU ts pts Aa i) (List.range ts.length)
  have h2 := List.length_filter_le (fun (l : Nat) => cf[l]!) (List.range pts.length)
  rw [List.length_range] at h1 h2
  omega
theorem iss_len {ts : List Int} {pts : List Pnt} (w : WG ts pts) (f : Flows ts pts) : ∀ n, n ≤ pts.length → (issF ts pts f.Aa f.Am f.Al f.Af f.Ap n).length ≤ n * (ts.length + pts.length)
  | 0, _ => by simp [issF]
  | n + 1, h => by
    have h1 := iss_len w f n (by omega)
    have h2 := spP_len ts pts f.Aa (spC ts pts f.Am f.Al f.Af f.Ap n) n
    rw [spP_eq w f (by omega)] at h2
    rw [issF_succ, List.length_append, Nat.succ_mul]
    omega
theorem iss_len' {ts : List Int} {pts : List Pnt} (w : WG ts pts) (f : Flows ts pts) : f.iss.length ≤ 100000 := by
  have h := iss_len w f pts.length (Nat.le_refl _)
  have h1 := w.tl
  have h2 := w.pl
  have h3 : pts.length * (ts.length + pts.length) ≤ 61 * 67 := Nat.mul_le_mul (by omega) (by omega)
  exact Nat.le_trans h (Nat.le_trans h3 (by decide))
end Go.AL

namespace Go.AL
structure Lon where
  point : Int
  unique : Bool
  var : Int
  deriving Inhabited, DecidableEq
def unB (ts : List Int) (pts : List Pnt) (Aa : List Nat) (i : Nat) : Bool := decide (anl (wS ts pts[i]! [1, 2, 3]) Aa[i]! ≠ 0)
def unL (ts : List Int) (pts : List Pnt) (Aa : List Nat) (k : Nat) : List Int := ((List.range k).filter (unB ts pts Aa)).map (fun (l : Nat) => (l : Int))
theorem unL_hit {ts : List Int} {pts : List Pnt} {Aa : List Nat} {k : Nat} (h : unB ts pts Aa k = true) : unL ts pts Aa (k + 1) = unL ts pts Aa k ++ [(k : Int)] := by
  unfold unL; rw [filt_succ, if_pos h, List.map_append]; rfl
theorem unL_skip {ts : List Int} {pts : List Pnt} {Aa : List Nat} {k : Nat} (h : unB ts pts Aa k = false) : unL ts pts Aa (k + 1) = unL ts pts Aa k := by
  unfold unL; rw [filt_succ, if_neg (by rw [h]; decide), List.append_nil]
end Go.AL

namespace Go.AL
theorem lt_bits {A n : Nat} (hv : ∀ v, A.testBit v = true → v < n) : A < 2 ^ n := Nat.lt_pow_two_of_testBit _ fun v h => by
  cases hq : Nat.testBit _ v with
  | false => rfl
  | true => have := hv v hq; omega
theorem sm_bits {A n : Nat} (hn : n ≤ 62) (hv : A < 2 ^ n) : Sm A := ⟨Nat.lt_of_lt_of_le hv (Nat.pow_le_pow_right (by decide) hn)⟩
structure FB (ts : List Int) (pts : List Pnt) (f : Flows ts pts) : Prop where
  la : f.Aa.length = pts.length
  lm : f.Am.length = pts.length
  ln : f.An.length = pts.length
  ll : f.Al.length = pts.length
  lp : f.Ap.length = pts.length
  bA : ∀ i : Nat, f.Aa[i]! < 2 ^ ts.length
  bM : ∀ i : Nat, f.Am[i]! < 2 ^ ts.length
  bN : ∀ i : Nat, f.An[i]! < 2 ^ ts.length
  bL : ∀ i : Nat, f.Al[i]! < 2 ^ ts.length
  bP : ∀ i : Nat, f.Ap[i]! < 2 ^ pts.length
  sA : ∀ i : Nat, Sm f.Aa[i]!
  sM : ∀ i : Nat, Sm f.Am[i]!
  sN : ∀ i : Nat, Sm f.An[i]!
  sL : ∀ i : Nat, Sm f.Al[i]!
  sP : ∀ i : Nat, Sm f.Ap[i]!
  rl : ∀ i, i < pts.length → (row6 f.Af i).length = 6
  rs : ∀ i, i < pts.length → ∀ z : Nat, Sm (row6 f.Af i)[z]!
  af : ∀ i, i < pts.length → afF pts f.An i = f.Al[i]!
  kp : ∀ i, i < pts.length → kpF ts pts[i]! f.Al[i]! (row6 f.Af i) < 2 ^ pts.length
  lo : ∀ i, i < pts.length → kpF ts pts[i]! f.Al[i]! (row6 f.Af i) &&& f.Ap[i]! < 2 ^ pts.length
  cf : ∀ i, i < pts.length → cfN ts pts f.Am f.Al f.Af f.Ap i < 2 ^ pts.length
theorem Flows.bnd {ts : List Int} {pts : List Pnt} (f : Flows ts pts) (w : WG ts pts) : FB ts pts f := by
  have hpl := w.pl
  have htl := w.tl
  have off : ∀ {A : List Nat} {n : Nat} {i : Nat}, A.length = pts.length → ¬ i < pts.length → A[i]! < 2 ^ n := fun {A n i} h hi => by
    rw [getElem!_neg A i (by omega)]; exact Nat.pow_pos (by decide)
  have bA : ∀ i : Nat, f.Aa[i]! < 2 ^ ts.length := fun i => by
    by_cases hi : i < pts.length
    · exact lt_bits fun v hv => ((f.ga.2 i hi v).1 hv).1
    · exact off f.ga.1 hi
  have bM : ∀ i : Nat, f.Am[i]! < 2 ^ ts.length := fun i => by
    by_cases hi : i < pts.length
    · exact lt_bits fun v hv => Mb_lt w ((f.gm.2 i hi v).1 hv)
    · exact off f.gm.1 hi
  have bN : ∀ i : Nat, f.An[i]! < 2 ^ ts.length := fun i => by
    by_cases hi : i < pts.length
    · exact lt_bits fun v hv => Nd_lt w ((f.gn.2 i hi v).1 hv)
    · exact off f.gn.1 hi
  have bL : ∀ i : Nat, f.Al[i]! < 2 ^ ts.length := fun i => by
    by_cases hi : i < pts.length
    · exact lt_bits fun v hv => by obtain ⟨k, _, h⟩ := (f.gl.2 i hi v).1 hv; exact Nd_lt w h
    · exact off f.gl.1 hi
  have bP : ∀ i : Nat, f.Ap[i]! < 2 ^ pts.length := fun i => by
    by_cases hi : i < pts.length
    · exact lt_bits fun v hv => (Pl_ln ((f.gp.2 i hi v).1 hv)).1
    · exact off f.gp.1 hi
  have rs : ∀ i, i < pts.length → ∀ z : Nat, (row6 f.Af i)[z]! < 2 ^ pts.length := fun i hi z => by
    by_cases hz : z < 6
    · rw [row6_at f.gf.1 hi hz]
      exact lt_bits fun v hv => (Fr_lt w ((f.gf.2 i z hi hz v).1 hv)).2.2
    · rw [getElem!_neg _ z (by rw [row6_len f.gf.1 hi]; exact hz)]; exact Nat.pow_pos (by decide)
  have kp : ∀ i, i < pts.length → kpF ts pts[i]! f.Al[i]! (row6 f.Af i) < 2 ^ pts.length := fun i hi => lt_bits fun v hv => by
    unfold kpF at hv
    rw [testBit_orL] at hv
    rcases hv with hv | ⟨z, hz, hv⟩
    · simp at hv
    · exact lt_of_bits (rs i hi _) hv
  have lo : ∀ i, i < pts.length → kpF ts pts[i]! f.Al[i]! (row6 f.Af i) &&& f.Ap[i]! < 2 ^ pts.length := fun i hi => Nat.and_lt_two_pow _ (bP i)
  refine ⟨f.ga.1, f.gm.1, f.gn.1, f.gl.1, f.gp.1, bA, bM, bN, bL, bP, fun i => sm_bits (by omega) (bA i), fun i => sm_bits (by omega) (bM i), fun i => sm_bits (by omega) (bN i), fun i => sm_bits (by omega) (bL i), fun i => sm_bits (by omega) (bP i),
    fun i hi => row6_len f.gf.1 hi, fun i hi z => sm_bits (by omega) (rs i hi z), fun i hi => ?_, kp, lo, fun i hi => cfN_lt w (bP i)⟩
  rw [goodL_ext f.gl (goodL_of w f.gn), mapR_get _ _ _ hi]
end Go.AL

namespace Go.AL
end Go.AL

namespace Go.AL
end Go.AL

namespace Go.AL
end Go.AL

namespace Go.AL
open Go.RowKit
set_option linter.unusedVariables false
section
variable {P : Program} {C : Ctx} {ι : Pl} {F : Nat → Prop} {T : Nat → Option AV} {H : Nat → Option (List AV)} {a : Act} {w : World} {o : Oper}
end
section
variable {P : Program} {N : Nat} {Q : Exit → AS → Prop} {all : Array Oper} {rest : List Oper} {ts : List (Nat × AV)} {hs : List (Nat × Option (List AV))} {n : Nat} {z0 : Lo} {md : Md}
variable {d : Nat} {ty : TypeId} {pos : String} {af : Array Edge}
end
theorem Le.cut {ts : List (Nat × AV)} {hs : List (Nat × Option (List AV))} {n : Nat} {z0 : Lo} {i : Nat} {cs : List AV} (k : Nat) (hi : lkH hs i = some cs) :
    Le ⟨ts, hs, n, z0⟩ ⟨ts, (i, some (cs.take k)) :: hs, n, z0⟩ := by
  rintro C a w ⟨h0, ι, g, gh⟩
  have hσ : ∀ id c, lkH ((i, some (cs.take k)) :: hs) id = some c → ∃ c0, lkH hs id = some c0 ∧ (c = c0 ∨ c = c0.take k) := by
    intro id c h
    rw [lkH_c] at h
    split at h
    · rename_i e; subst e; cases h; exact ⟨cs, hi, .inr rfl⟩
    · exact ⟨c, h, .inl rfl⟩
  have car : Carry w (badOf C.X ι (lkH hs)) ι w (badOf C.X ι (lkH ((i, some (cs.take k)) :: hs))) ι := by
    refine ⟨fun b o' x h1 h2 => ⟨?_, h2⟩, fun _ _ h => h, fun _ => Nat.le_refl _⟩
    rintro (h | ⟨id, c, β, q1, q2⟩)
    · exact h1 (.inl h)
    · obtain ⟨c0, r, _⟩ := hσ id c q1
      exact h1 (.inr ⟨id, c0, β, r, q2⟩)
  refine ⟨h0, ι, ⟨g.df, g.sz, fun t av ht => ?_⟩, ⟨fun id c h => ?_, fun id id' c c' b β β' q1 q2 q3 q4 => ?_, gh.fr, gh.ex, gh.fresh⟩⟩
  · obtain ⟨y, hy, hr⟩ := g.tm t av ht
    exact ⟨y, hy, Rd.carry car _ _ hr⟩
  · obtain ⟨c0, r, e⟩ := hσ id c h
    rcases gh.obj id c0 r with ⟨h1, h2⟩ | ⟨b', β', arr', e', h1, h2, h3, h4, h5, h6⟩
    · refine .inl ⟨h1, ?_⟩
      rcases e with e | e
      · rw [e, h2]
      · rw [e, h2]; simp
    · refine .inr ⟨b', β', arr', e', h1, h2, ?_, ?_, h5, h6⟩
      · rcases e with e | e
        · rw [e]; exact h3
        · rw [e, List.length_take]; omega
      · have h7 := RdC.carryB car _ _ _ (fun o x hx => hx) h4
        rcases e with e | e
        · rw [e]; exact h7
        · rw [e]; exact RdC.take k h7
  · obtain ⟨_, r1, _⟩ := hσ id c q1
    obtain ⟨_, r2, _⟩ := hσ id' c' q2
    exact gh.sep _ _ _ _ _ _ _ r1 r2 q3 q4
section
variable {P : Program} {N : Nat} {Q : Exit → AS → Prop} {all : Array Oper} {rest : List Oper} {ts : List (Nat × AV)} {hs : List (Nat × Option (List AV))} {n : Nat} {z0 : Lo}
variable {d : Nat} {ty : TypeId} {pos : String} {af : Array Edge}
theorem rx_makeFuncFrzN {fn : Go.Fn} {cs : Array Operand} {i : Nat} {cc c : List AV} (t : Nat) (hx : lk ts t = some (.optr i 0)) (hH : lkH hs i = some cc) (hc : evL (lk ((t, .iptr cc) :: ts)) cs.toList = some c) (hN : Nat.blt d N = true)
    (kk : RW P N all Q .txt rest ⟨(d, .clos fn [] c) :: (t, .iptr cc) :: ts, (i, none) :: hs, n, z0⟩) : RW P N all Q .txt (⟨some d, .makeFunc fn #[] cs, ty, pos, af, none⟩ :: rest) ⟨ts, hs, n, z0⟩ :=
  rw_le (rx_makeFunc (f := []) (c := c) rfl hc hN (md' := .txt) kk) (Le.frzP hx hH)
end
section
variable {P : Program} {N : Nat} {Q : Exit → AS → Prop} {all : Array Oper} {rest : List Oper} {ts : List (Nat × AV)} {hs : List (Nat × Option (List AV))} {n : Nat} {z0 : Lo} {md : Md}
variable {d : Nat} {ty : TypeId} {pos : String} {af : Array Edge}
end
end Go.AL

namespace Go.AL
structure Bnd where
  var : Int
  loan : Int
  src : Int
  deriving Inhabited, DecidableEq
def cBnd (b : Bnd) : List AV := [iv b.var, iv b.loan, iv b.src]
instance : FlT cBnd 3 := ⟨fun s => rfl⟩
instance : FE cBnd (fun b => [iv b.var, iv b.loan, iv b.src]) := ⟨fun _ => rfl⟩
instance (s : Bnd) : Pur (cBnd s) := ⟨rfl⟩
theorem app_bnd {xs : List Bnd} {m : Nat} {a b c : Int} (hm : m = xs.length) : ((flat cBnd xs).drop 0).take (m * 3) ++ [iv a, iv b, iv c] = flat cBnd (xs ++ [⟨a, b, c⟩]) := app_flat hm rfl
structure WT (ts : List Int) (pts : List Pnt) : Prop where
  mv : ∀ i, i < pts.length → pts[i]!.op = 3 → ts[pts[i]!.x.toNat]! = ts[pts[i]!.y.toNat]! ∧ pts[i]!.x ≠ pts[i]!.y
  ln : ∀ i, i < pts.length → pts[i]!.op = 4 ∨ pts[i]!.op = 5 → isRef ts[pts[i]!.x.toNat]! = true ∧ pts[i]!.x ≠ pts[i]!.y
def PtY (ts : List Int) (x : Pnt) : Prop := (x.op = 3 → ts[x.x.toNat]! = ts[x.y.toNat]! ∧ x.x ≠ x.y) ∧ (x.op = 4 ∨ x.op = 5 → isRef ts[x.x.toNat]! = true ∧ x.x ≠ x.y)
theorem typeAt_get {ts : List Int} {v : Int} (h : 0 < typeAt ts v) : typeAt ts v = ts[v.toNat]! := by
  unfold typeAt at h ⊢
  split at h
  · rename_i c; rw [if_pos c]
  · omega
theorem simple_ty {ts : List Int} {s : Stmt} (h : simpleF ts s = true) : (s.op = 3 → ts[s.x.toNat]! = ts[s.y.toNat]! ∧ s.x ≠ s.y) ∧ (s.op = 4 ∨ s.op = 5 → isRef ts[s.x.toNat]! = true ∧ s.x ≠ s.y) := by
  unfold simpleF at h
  dsimp only at h
  refine ⟨fun h3 => ?_, fun h4 => ?_⟩
  · rw [h3] at h
    simp only [show ¬ (3 : Int) = 1 by decide, show ¬ (3 : Int) = 2 by decide, if_false, if_true] at h
    split at h
    · cases h
    · simp only [decide_eq_true_eq] at h
      refine ⟨?_, h.2.2⟩
      rw [← typeAt_get h.2.1, h.1, typeAt_get (by omega)]
  · rcases h4 with h4 | h4 <;> rw [h4] at h
    · simp only [show ¬ (4 : Int) = 1 by decide, show ¬ (4 : Int) = 2 by decide, show ¬ (4 : Int) = 3 by decide, if_false, if_true] at h
      split at h
      · cases h
      · simp only [decide_eq_true_eq] at h
        refine ⟨?_, h.2.2⟩
        rw [← typeAt_get (by omega), h.1]; rfl
    · simp only [show ¬ (5 : Int) = 1 by decide, show ¬ (5 : Int) = 2 by decide, show ¬ (5 : Int) = 3 by decide, show ¬ (5 : Int) = 4 by decide, if_false, if_true] at h
      split at h
      · cases h
      · simp only [decide_eq_true_eq] at h
        refine ⟨?_, h.2.2⟩
        rw [← typeAt_get (by omega), h.1]; rfl
theorem PtY.no {ts : List Int} {x : Pnt} (h : 9 ≤ x.op) : PtY ts x := ⟨fun e => by omega, fun e => by omega⟩
mutual
theorem ptS_ty {ts : List Int} : ∀ (s : Stmt) (d b : Nat), okS ts d s = true → ∀ x ∈ ptS b s, PtY ts x
  | .mk op x y n th el, d, b, h => by
    simp only [okS] at h
    split at h
    · rename_i hop
      simp only [Bool.and_eq_true] at h
      have hs := simple_ty h.2
      simp only [Stmt.op, Stmt.x, Stmt.y] at hs
      simp only [ptS, hop.1, hop.2, if_false, List.mem_singleton]
      rintro z rfl
      exact hs
    · rename_i hop
      cases d with
      | zero => cases h
      | succ d =>
        simp only [Bool.and_eq_true, decide_eq_true_eq] at h
        obtain ⟨⟨⟨_, _⟩, h1⟩, h2⟩ := h
        by_cases h9 : op = 9
        · subst h9
          simp only [ptS, if_true, List.mem_append, List.mem_singleton]
          rintro z (((rfl | hz) | rfl) | hz)
          · exact PtY.no (by simp)
          · exact ptL_ty th d (b + 1) h1 z hz
          · exact PtY.no (by simp)
          · exact ptL_ty el d (b + 2 + npL th) h2 z hz
        · have h10 : op = 10 := by omega
          subst h10
          simp only [ptS, if_true, show ((10 : Int) = 9) = False by simp, if_false, List.mem_append, List.mem_singleton]
          rintro z ((rfl | hz) | rfl)
          · exact PtY.no (by simp)
          · exact ptL_ty th d (b + 1) h1 z hz
          · exact PtY.no (by simp)
theorem ptL_ty {ts : List Int} : ∀ (l : List Stmt) (d b : Nat), okL ts d l = true → ∀ x ∈ ptL b l, PtY ts x
  | [], d, b, h => by simp [ptL]
  | s :: l, d, b, h => by
    simp only [okL, Bool.and_eq_true] at h
    simp only [ptL, List.mem_append]
    rintro x (hx | hx)
    · exact ptS_ty s d b h.1 x hx
    · exact ptL_ty l d (b + npS s) h.2 x hx
end
theorem WT.of_valid {p : Prg} (h : validF p = true) : WT p.types (ptsF p) := by
  unfold validF at h
  simp only [Bool.and_eq_true, decide_eq_true_eq] at h
  obtain ⟨⟨_, hl⟩, _⟩ := h
  have key : ∀ i, i < (ptsF p).length → PtY p.types (ptsF p)[i]! := by
    intro i hi
    have hm := getB_mem _ i hi
    unfold ptsF at hm
    rw [List.mem_append, List.mem_singleton] at hm
    rcases hm with hm | hm
    · exact ptL_ty p.body 4 0 hl _ hm
    · unfold ptsF; rw [hm]; exact PtY.no (by simp)
  exact ⟨fun i hi => (key i hi).1, fun i hi => (key i hi).2⟩
def bnP (ts : List Int) (pts : List Pnt) (i : Nat) : List Bnd :=
  (if isLn pts[i]! = true then [⟨pts[i]!.x, i, -1⟩] else []) ++ (if (isLn pts[i]! = true ∨ pts[i]!.op = 3) ∧ isRef ts[pts[i]!.y.toNat]! = true then [⟨pts[i]!.x, -1, pts[i]!.y⟩] else [])
def bnF (ts : List Int) (pts : List Pnt) (k : Nat) : List Bnd := (List.range k).flatMap (bnP ts pts)
theorem bnF_succ (ts : List Int) (pts : List Pnt) (k : Nat) : bnF ts pts (k + 1) = bnF ts pts k ++ bnP ts pts k := by
  unfold bnF; rw [List.range_succ, List.flatMap_append]; simp
theorem bnP_len (ts : List Int) (pts : List Pnt) (i : Nat) : (bnP ts pts i).length ≤ 2 := by
  unfold bnP; split <;> split <;> simp
theorem bnF_len (ts : List Int) (pts : List Pnt) : ∀ k, (bnF ts pts k).length ≤ 2 * k
  | 0 => by simp [bnF]
  | k + 1 => by
    rw [bnF_succ, List.length_append]
    have := bnF_len ts pts k
    have := bnP_len ts pts k
    omega
theorem mem_bnF {ts : List Int} {pts : List Pnt} {k : Nat} {b : Bnd} : b ∈ bnF ts pts k ↔ ∃ i, i < k ∧ b ∈ bnP ts pts i := by
  unfold bnF; rw [List.mem_flatMap]; simp
structure BOk (nt n : Nat) (b : Bnd) : Prop where
  v : 0 ≤ b.var ∧ b.var < nt
  k : (0 ≤ b.loan ∧ b.loan < n ∧ b.src = -1) ∨ (b.loan = -1 ∧ 0 ≤ b.src ∧ b.src < nt ∧ b.src ≠ b.var)
theorem bn_ok {ts : List Int} {pts : List Pnt} (w : WG ts pts) (t : WT ts pts) {b : Bnd} (h : b ∈ bnF ts pts pts.length) : BOk ts.length pts.length b := by
  obtain ⟨i, hi, hb⟩ := mem_bnF.1 h
  unfold bnP at hb
  have hx := w.x i hi
  have hy := w.y i hi
  rcases List.mem_append.1 hb with hb | hb
  · split at hb
    · rename_i hl
      have := isLn_op hl
      rw [List.mem_singleton] at hb; subst hb
      exact ⟨⟨hx.1, hx.2 (by omega)⟩, .inl ⟨by dsimp only; omega, by dsimp only; omega, rfl⟩⟩
    · simp at hb
  · split at hb
    · rename_i hl
      have h3 : pts[i]!.op = 3 ∨ pts[i]!.op = 4 ∨ pts[i]!.op = 5 := by
        rcases hl.1 with h | h
        · exact .inr (isLn_op h)
        · exact .inl h
      rw [List.mem_singleton] at hb; subst hb
      refine ⟨⟨hx.1, hx.2 (by omega)⟩, .inr ⟨rfl, hy.1, hy.2 (by omega) (by omega), fun e => ?_⟩⟩
      dsimp only at e
      rcases h3 with h | h
      · exact (t.mv i hi h).2 e.symm
      · exact (t.ln i hi h).2 e.symm
    · simp at hb
def Rg (ts : List Int) (pts : List Pnt) (a : Nat × Nat) : Prop := Clo (fun a : Nat × Nat => ∃ b, b ∈ bnF ts pts pts.length ∧ b.var = (a.1 : Int) ∧ b.loan = (a.2 : Int))
  (fun a c => c.2 = a.2 ∧ ∃ b, b ∈ bnF ts pts pts.length ∧ b.src = (a.1 : Int) ∧ b.var = (c.1 : Int)) a
theorem Rg_lt {ts : List Int} {pts : List Pnt} (w : WG ts pts) (t : WT ts pts) {a : Nat × Nat} (h : Rg ts pts a) : a.1 < ts.length ∧ a.2 < pts.length := by
  induction h with
  | @base a h =>
    obtain ⟨b, hb, h1, h2⟩ := h
    have hk := bn_ok w t hb
    have := hk.v
    rcases hk.k with h | h <;> exact ⟨by omega, by omega⟩
  | @step a c _ r ih =>
    obtain ⟨e, b, hb, h1, h2⟩ := r
    have := (bn_ok w t hb).v
    exact ⟨by omega, by rw [e]; exact ih.2⟩
def GoodG (ts : List Int) (pts : List Pnt) (A : List Nat) : Prop := A.length = 6 ∧ ∀ v, v < 6 → ∀ l, A[v]!.testBit l = true ↔ Rg ts pts (v, l)
theorem GoodG.exist {ts : List Int} {pts : List Pnt} (w : WG ts pts) (t : WT ts pts) : ∃ A, GoodG ts pts A := by
  obtain ⟨A, h1, h2⟩ := ex_bits 6 pts.length (fun v l => Rg ts pts (v, l)) (fun v l _ h => (Rg_lt w t h).2)
  exact ⟨A, h1, h2⟩
end Go.AL

namespace Go.AL
def rgS (A : List Nat) (b : Bnd) : Nat := if b.src < 0 then A[b.var.toNat]! ||| 2 ^ b.loan.toNat else A[b.var.toNat]! ||| A[b.src.toNat]!
def rgT (s : List Nat × Bool) (b : Bnd) : List Nat × Bool := if rgS s.1 b ≠ s.1[b.var.toNat]! then (s.1.set b.var.toNat (rgS s.1 b), true) else s
structure SRg (ts : List Int) (pts : List Pnt) (A : List Nat) : Prop where
  l : A.length = 6
  b : ∀ v : Nat, A[v]! < 2 ^ pts.length
  s : ∀ v : Nat, ∀ l, A[v]!.testBit l = true → Rg ts pts (v, l)
theorem SRg.rep (ts : List Int) (pts : List Pnt) : SRg ts pts (List.replicate 6 0) := by
  have h : ∀ v : Nat, (List.replicate 6 0)[v]! = 0 := fun v => by
    by_cases hv : v < 6
    · exact rep_get _ _ _ hv
    · rw [getElem!_neg _ v (by simpa using hv)]; rfl
  exact ⟨by simp, fun v => by rw [h]; exact Nat.pow_pos (by decide), fun v l hl => by rw [h] at hl; simp at hl⟩
theorem or_lt_ne {a b : Nat} (h : a ||| b ≠ a) : a < a ||| b := by
  have := Nat.left_le_or (n := a) (m := b)
  omega
theorem rgS_ok {ts : List Int} {pts : List Pnt} (w : WG ts pts) (t : WT ts pts) {A : List Nat} (S : SRg ts pts A) {b : Bnd} (hb : b ∈ bnF ts pts pts.length) :
    rgS A b < 2 ^ pts.length ∧ (∀ l, (rgS A b).testBit l = true → Rg ts pts (b.var.toNat, l)) ∧ ∃ y, rgS A b = A[b.var.toNat]! ||| y := by
  have ok := bn_ok w t hb
  have hv := ok.v
  unfold rgS
  rcases ok.k with ⟨h1, h2, h3⟩ | ⟨h1, h2, h3, _⟩
  · rw [if_pos (by omega)]
    refine ⟨Nat.or_lt_two_pow (S.b _) (Nat.pow_lt_pow_right (by decide) (by omega)), fun l hl => ?_, _, rfl⟩
    rw [Nat.testBit_or, Bool.or_eq_true] at hl
    rcases hl with hl | hl
    · exact S.s _ l hl
    · rw [Nat.testBit_two_pow] at hl
      have hl := of_decide_eq_true hl
      exact .base ⟨b, hb, by dsimp only; omega, by dsimp only; omega⟩
  · rw [if_neg (by omega)]
    refine ⟨Nat.or_lt_two_pow (S.b _) (S.b _), fun l hl => ?_, _, rfl⟩
    rw [Nat.testBit_or, Bool.or_eq_true] at hl
    rcases hl with hl | hl
    · exact S.s _ l hl
    · exact .step (a := (b.src.toNat, l)) (S.s _ l hl) ⟨rfl, b, hb, by dsimp only; omega, by dsimp only; omega⟩
theorem rgT_law {ts : List Int} {pts : List Pnt} (w : WG ts pts) (t : WT ts pts) (A : List Nat) (c : Bool) (b : Bnd) (hb : b ∈ bnF ts pts pts.length) (S : SRg ts pts A) :
    SRg ts pts (rgT (A, c) b).1 ∧ ((rgT (A, c) b = (A, c) ∧ rgS A b = A[b.var.toNat]!) ∨ ((rgT (A, c) b).2 = true ∧ sumL ((rgT (A, c) b).1.map (fun x => 2 ^ pts.length - x)) < sumL (A.map (fun x => 2 ^ pts.length - x)))) := by
  obtain ⟨h1, h2, y, h3⟩ := rgS_ok w t S hb
  have ok := bn_ok w t hb
  have hv := ok.v
  have htl := w.tl
  have hl := S.l
  unfold rgT
  dsimp only
  by_cases hc : rgS A b ≠ A[b.var.toNat]!
  · rw [if_pos hc]
    refine ⟨⟨by rw [List.length_set]; exact hl, fun v => ?_, fun v l hb' => ?_⟩, .inr ⟨rfl, ?_⟩⟩
    · rw [set_get]; split
      · exact h1
      · exact S.b v
    · rw [set_get] at hb'; split at hb'
      · rename_i e; rw [← e.1]; exact h2 l hb'
      · exact S.s v l hb'
    · have e1 := sumL_set (fun x => 2 ^ pts.length - x) A b.var.toNat (rgS A b) (by omega)
      have e2 : A[b.var.toNat]! < rgS A b := by rw [h3] at hc ⊢; exact or_lt_ne hc
      dsimp only at e1 ⊢
      omega
  · rw [if_neg hc]
    exact ⟨S, .inl ⟨rfl, Classical.not_not.1 hc⟩⟩
def ClG (ts : List Int) (pts : List Pnt) (A : List Nat) : Prop := ∀ b ∈ bnF ts pts pts.length, rgS A b = A[b.var.toNat]!
theorem rgF_law {ts : List Int} {pts : List Pnt} (w : WG ts pts) (t : WT ts pts) (A : List Nat) (c : Bool) (S : SRg ts pts A) :
    SRg ts pts ((bnF ts pts pts.length).foldl rgT (A, c)).1 ∧ (((bnF ts pts pts.length).foldl rgT (A, c) = (A, c) ∧ ClG ts pts A) ∨ (((bnF ts pts pts.length).foldl rgT (A, c)).2 = true ∧ sumL (((bnF ts pts pts.length).foldl rgT (A, c)).1.map (fun x => 2 ^ pts.length - x)) < sumL (A.map (fun x => 2 ^ pts.length - x)))) :=
  fold_law rgT (fun b s => rgS s b = s[b.var.toNat]!) (fun s => sumL (s.map (fun x => 2 ^ pts.length - x))) (SRg ts pts) (bnF ts pts pts.length) (fun s c' b hb hs => rgT_law w t s c' b hb hs) A c S
theorem or_bit {a b : Nat} (h : a ||| b = a) {l : Nat} (hl : b.testBit l = true) : a.testBit l = true := by
  have : (a ||| b).testBit l = true := by rw [Nat.testBit_or, hl, Bool.or_true]
  rwa [h] at this
theorem goodG_of {ts : List Int} {pts : List Pnt} (w : WG ts pts) (t : WT ts pts) {A : List Nat} (S : SRg ts pts A) (hC : ClG ts pts A) : GoodG ts pts A := by
  refine ⟨S.l, fun v hv l => ⟨S.s v l, fun h => ?_⟩⟩
  have key : ∀ a : Nat × Nat, Rg ts pts a → A[a.1]!.testBit a.2 = true := by
    refine Clo.sub ?_ ?_
    · rintro ⟨v, l⟩ ⟨b, hb, h1, h2⟩
      have hc := hC b hb
      have ok := bn_ok w t hb
      dsimp only at h1 h2 ⊢
      unfold rgS at hc
      rcases ok.k with ⟨k1, k2, k3⟩ | ⟨k1, _⟩
      · rw [if_pos (by omega)] at hc
        have e1 : b.var.toNat = v := by omega
        have e2 : b.loan.toNat = l := by omega
        rw [e1, e2] at hc
        exact or_bit hc (by rw [Nat.testBit_two_pow]; simp)
      · omega
    · rintro ⟨v, l⟩ ⟨v', l'⟩ hh ⟨e, b, hb, h1, h2⟩
      have hc := hC b hb
      dsimp only at e h1 h2 hh ⊢
      subst e
      unfold rgS at hc
      rw [if_neg (by omega)] at hc
      have e1 : b.var.toNat = v' := by omega
      have e2 : b.src.toNat = v := by omega
      rw [e1, e2] at hc
      exact or_bit hc hh
  exact key (v, l) h
theorem goodG_ext {ts : List Int} {pts : List Pnt} {A B : List Nat} (h1 : GoodG ts pts A) (h2 : GoodG ts pts B) : A = B := by
  refine ext_get (by rw [h1.1, h2.1]) fun v hv => ?_
  rw [h1.1] at hv
  apply Nat.eq_of_testBit_eq
  intro l
  rw [Bool.eq_iff_iff, h1.2 v hv l, h2.2 v hv l]
end Go.AL

namespace Go.AL
def rgR (R : List (List Bool)) (b : Bnd) : List (List Bool) :=
  if 0 ≤ b.loan then R.set b.var.toNat (R[b.var.toNat]!.set b.loan.toNat true) else R.set b.var.toNat (addB R[b.var.toNat]! R[b.src.toNat]!)
def rdR (L : List Bnd) (R : List (List Bool)) : Nat → List (List Bool)
  | 0 => R
  | k + 1 => L.foldl rgR (rdR L R k)
structure SRr (ts : List Int) (pts : List Pnt) (R : List (List Bool)) : Prop where
  l : R.length = ts.length
  r : ∀ v, v < ts.length → R[v]!.length = pts.length
  s : ∀ v, v < ts.length → ∀ l, l < pts.length → R[v]![l]! = true → Rg ts pts (v, l)
def cntG (nt l : Nat) (R : List (List Bool)) : Nat := sumF (fun v => if R[v]![l]! = true then 1 else 0) nt
def CbG (l : Nat) (R : List (List Bool)) (b : Bnd) : Prop := (b.loan = (l : Int) → R[b.var.toNat]![l]! = true) ∧ (0 ≤ b.src → R[b.src.toNat]![l]! = true → R[b.var.toNat]![l]! = true)
theorem SRr.rep (ts : List Int) (pts : List Pnt) : SRr ts pts (List.replicate ts.length (List.replicate pts.length false)) := by
  refine ⟨by simp, fun v hv => by rw [rep_get _ _ _ hv]; simp, fun v hv l hl h => ?_⟩
  rw [rep_get _ _ _ hv, rep_get _ _ _ hl] at h; cases h
theorem col_good {ts : List Int} {pts : List Pnt} {R : List (List Bool)} (S : SRr ts pts R) {l : Nat} (hl : l < pts.length) (hC : ∀ b ∈ bnF ts pts pts.length, CbG l R b) : ∀ v, v < ts.length → (R[v]![l]! = true ↔ Rg ts pts (v, l)) := fun v hv => by
  refine ⟨S.s v hv l hl, fun h => ?_⟩
  have key : ∀ a : Nat × Nat, Rg ts pts a → a.2 = l → R[a.1]![l]! = true := by
    intro a ha
    induction ha with
    | @base a h =>
      intro e
      obtain ⟨b, hb, h1, h2⟩ := h
      have := (hC b hb).1 (by omega)
      rwa [show b.var.toNat = a.1 by omega] at this
    | @step a c _ r ih =>
      intro e
      obtain ⟨e1, b, hb, h1, h2⟩ := r
      have := (hC b hb).2 (by omega) (by rw [show b.src.toNat = a.1 by omega]; exact ih (by omega))
      rwa [show b.var.toNat = c.1 by omega] at this
  exact key (v, l) h rfl
section
variable {ts : List Int} {pts : List Pnt} (w : WG ts pts) (t : WT ts pts)
include w t
theorem rgR_ok {R : List (List Bool)} (S : SRr ts pts R) {b : Bnd} (hb : b ∈ bnF ts pts pts.length) :
    SRr ts pts (rgR R b) ∧ (∀ v, v < ts.length → ∀ l, l < pts.length → R[v]![l]! = true → (rgR R b)[v]![l]! = true) ∧
    ∀ l, l < pts.length → ((∀ v, v < ts.length → (rgR R b)[v]![l]! = R[v]![l]!) ∧ CbG l R b) ∨ cntG ts.length l R < cntG ts.length l (rgR R b) := by
  have ok := bn_ok w t hb
  have hv := ok.v
  have hl := S.l
  have hvl : b.var.toNat < ts.length := by omega
  have hrl := S.r _ hvl
  -- the new row, bit by bit
  obtain ⟨row, e, hlen, hbit⟩ : ∃ row, rgR R b = R.set b.var.toNat row ∧ row.length = pts.length ∧ ∀ l, l < pts.length → (row[l]! = true ↔ (R[b.var.toNat]![l]! = true ∨ b.loan = (l : Int) ∨ (0 ≤ b.src ∧ R[b.src.toNat]![l]! = true))) := by
    unfold rgR
    rcases ok.k with ⟨h1, h2, h3⟩ | ⟨h1, h2, h3, _⟩
    · rw [if_pos h1]
      refine ⟨_, rfl, by rw [List.length_set]; exact hrl, fun l hl => ?_⟩
      rw [set_get]
      by_cases q : b.loan.toNat = l
      · rw [if_pos ⟨q, by omega⟩]; exact ⟨fun _ => .inr (.inl (by omega)), fun _ => rfl⟩
      · rw [if_neg (by omega)]
        exact ⟨.inl, fun h => by rcases h with h | h | h; exact h; omega; omega⟩
    · rw [if_neg (by omega)]
      have hsl := S.r b.src.toNat (by omega)
      refine ⟨_, rfl, by rw [addB_len]; exact hrl, fun l hl => ?_⟩
      rw [addB_get _ _ _ (by omega), decide_eq_true (by omega : l < R[b.src.toNat]!.length), Bool.true_and, Bool.or_eq_true]
      exact ⟨fun h => h.elim .inl (fun h => .inr (.inr ⟨h2, h⟩)), fun h => by rcases h with h | h | h; exact .inl h; omega; exact .inr h.2⟩
  have hget : ∀ v, (rgR R b)[v]! = if v = b.var.toNat then row else R[v]! := fun v => by
    rw [e, set_get]
    by_cases q : b.var.toNat = v
    · rw [if_pos ⟨q, by omega⟩, if_pos q.symm]
    · rw [if_neg (by omega), if_neg (fun h => q h.symm)]
  have hmono : ∀ v, v < ts.length → ∀ l, l < pts.length → R[v]![l]! = true → (rgR R b)[v]![l]! = true := fun v _ l hl h => by
    rw [hget]; split
    · rename_i q; subst q; exact (hbit l hl).2 (.inl h)
    · exact h
  refine ⟨⟨by rw [e, List.length_set]; exact hl, fun v hv => ?_, fun v hv l hl h => ?_⟩, hmono, fun l hl => ?_⟩
  · rw [hget]; split
    · exact hlen
    · exact S.r v hv
  · rw [hget] at h; split at h
    · rename_i q; subst q
      rcases (hbit l hl).1 h with h | h | ⟨h1, h2⟩
      · exact S.s _ hv l hl h
      · exact .base ⟨b, hb, by dsimp only; omega, h⟩
      · have hk : b.src.toNat < ts.length := by rcases ok.k with h | h <;> omega
        exact .step (a := (b.src.toNat, l)) (S.s _ hk l hl h2) ⟨rfl, b, hb, by dsimp only; omega, by dsimp only; omega⟩
    · exact S.s v hv l hl h
  · by_cases hc : R[b.var.toNat]![l]! = row[l]!
    · refine .inl ⟨fun v hv => ?_, fun h => ?_, fun h1 h2 => ?_⟩
      · rw [hget]; split
        · rename_i q; subst q; exact hc.symm
        · rfl
      · rw [hc]; exact (hbit l hl).2 (.inr (.inl h))
      · rw [hc]; exact (hbit l hl).2 (.inr (.inr ⟨h1, h2⟩))
    · refine .inr (sumF_lt _ (fun v hv => ?_) ⟨b.var.toNat, hvl, ?_⟩)
      · have := hmono v hv l hl
        by_cases q : R[v]![l]! = true
        · rw [if_pos q, if_pos (this q)]; exact Nat.le_refl _
        · rw [if_neg q]; exact Nat.zero_le _
      · have h0 : R[b.var.toNat]![l]! ≠ true := fun h => hc (by rw [h, (hbit l hl).2 (.inl h)])
        have h1 : row[l]! = true := by
          cases q : row[l]! with
          | true => rfl
          | false => exfalso; cases q2 : R[b.var.toNat]![l]! with
            | true => exact h0 q2
            | false => exact hc (by rw [q, q2])
        have h2 := hget b.var.toNat
        rw [if_pos rfl] at h2
        rw [if_neg h0, h2, if_pos h1]; exact Nat.one_pos
theorem rgFold_ok : ∀ (L : List Bnd), (∀ b ∈ L, b ∈ bnF ts pts pts.length) → ∀ R, SRr ts pts R →
    SRr ts pts (L.foldl rgR R) ∧ (∀ v, v < ts.length → ∀ l, l < pts.length → R[v]![l]! = true → (L.foldl rgR R)[v]![l]! = true) ∧
    ∀ l, l < pts.length → ((∀ v, v < ts.length → (L.foldl rgR R)[v]![l]! = R[v]![l]!) ∧ ∀ b ∈ L, CbG l R b) ∨ cntG ts.length l R < cntG ts.length l (L.foldl rgR R)
  | [], _, R, S => ⟨S, fun _ _ _ _ h => h, fun l hl => .inl ⟨fun _ _ => rfl, by simp⟩⟩
  | b :: L, hL, R, S => by
    obtain ⟨S1, m1, c1⟩ := rgR_ok w t S (hL b List.mem_cons_self)
    obtain ⟨S2, m2, c2⟩ := rgFold_ok L (fun x hx => hL x (List.mem_cons_of_mem _ hx)) (rgR R b) S1
    rw [List.foldl_cons]
    refine ⟨S2, fun v hv l hl h => m2 v hv l hl (m1 v hv l hl h), fun l hl => ?_⟩
    have le : ∀ {R R' : List (List Bool)}, (∀ v, v < ts.length → R[v]![l]! = true → R'[v]![l]! = true) → cntG ts.length l R ≤ cntG ts.length l R' := fun {R R'} h => sumF_le _ fun v hv => by
      by_cases q : R[v]![l]! = true
      · rw [if_pos q, if_pos (h v hv q)]; exact Nat.le_refl _
      · rw [if_neg q]; exact Nat.zero_le _
    rcases c1 l hl with ⟨d1, d2⟩ | d
    · rcases c2 l hl with ⟨e1, e2⟩ | e
      · refine .inl ⟨fun v hv => by rw [e1 v hv, d1 v hv], fun x hx => ?_⟩
        rcases List.mem_cons.1 hx with rfl | hx
        · exact d2
        · have ok := bn_ok w t (hL x (List.mem_cons_of_mem _ hx))
          have hv := ok.v
          have h3 := e2 x hx
          refine ⟨fun h => by rw [← d1 _ (by omega)]; exact h3.1 h, fun h1 h2 => ?_⟩
          have hk : x.src.toNat < ts.length := by rcases ok.k with h | h <;> omega
          rw [← d1 _ (by omega)]
          exact h3.2 h1 (by rw [d1 _ hk]; exact h2)
      · have := le (R := R) (R' := rgR R b) (fun v hv h => m1 v hv l hl h)
        exact .inr (by omega)
    · have := le (R := rgR R b) (R' := L.foldl rgR (rgR R b)) (fun v hv h => m2 v hv l hl h)
      exact .inr (by omega)
theorem rounds_ok (R0 : List (List Bool)) (S0 : SRr ts pts R0) : ∀ k, SRr ts pts (rdR (bnF ts pts pts.length) R0 k) ∧ ∀ l, l < pts.length →
    ((∀ v, v < ts.length → ((rdR (bnF ts pts pts.length) R0 k)[v]![l]! = true ↔ Rg ts pts (v, l))) ∨ k ≤ cntG ts.length l (rdR (bnF ts pts pts.length) R0 k))
  | 0 => ⟨S0, fun l _ => .inr (Nat.zero_le _)⟩
  | k + 1 => by
    obtain ⟨S, h⟩ := rounds_ok R0 S0 k
    obtain ⟨S2, m2, c2⟩ := rgFold_ok w t _ (fun b hb => hb) _ S
    refine ⟨S2, fun l hl => ?_⟩
    have hup : (∀ v, v < ts.length → ((rdR (bnF ts pts pts.length) R0 k)[v]![l]! = true ↔ Rg ts pts (v, l))) → ∀ v, v < ts.length → ((rdR (bnF ts pts pts.length) R0 (k + 1))[v]![l]! = true ↔ Rg ts pts (v, l)) := fun g v hv =>
      ⟨S2.s v hv l hl, fun hr => m2 v hv l hl ((g v hv).2 hr)⟩
    rcases c2 l hl with ⟨_, hC⟩ | hgrow
    · exact .inl (hup (col_good S hl hC))
    · rcases h l hl with g | g
      · exact .inl (hup g)
      · exact .inr (by show k + 1 ≤ cntG ts.length l ((bnF ts pts pts.length).foldl rgR (rdR (bnF ts pts pts.length) R0 k)); omega)
def rgB (nt n : Nat) (A : List Nat) : List (List Bool) := (List.range nt).map fun (v : Nat) => (List.range n).map fun (l : Nat) => A[v]!.testBit l
theorem rounds_end (R0 : List (List Bool)) (S0 : SRr ts pts R0) {A : List Nat} (hA : GoodG ts pts A) : rdR (bnF ts pts pts.length) R0 (ts.length + 1) = rgB ts.length pts.length A := by
  obtain ⟨S, h⟩ := rounds_ok w t R0 S0 (ts.length + 1)
  have htl := w.tl
  refine ext_get (by rw [S.l]; simp [rgB]) fun v hv => ?_
  rw [S.l] at hv
  unfold rgB
  rw [mapR_get _ _ _ hv]
  refine ext_get (by rw [S.r v hv]; simp) fun l hl => ?_
  rw [S.r v hv] at hl
  rw [mapR_get _ _ _ hl, Bool.eq_iff_iff, hA.2 v (by omega) l]
  have hcnt : cntG ts.length l (rdR (bnF ts pts pts.length) R0 (ts.length + 1)) ≤ ts.length := by
    have := sumF_le (f := fun v => if (rdR (bnF ts pts pts.length) R0 (ts.length + 1))[v]![l]! = true then 1 else 0) (g := fun _ => 1) ts.length (fun i _ => by split <;> omega)
    rw [sumF_one] at this
    exact this
  rcases h l hl with g | g
  · exact g v hv
  · omega
end
end Go.AL

namespace Go.AL
def cst6 (n : Nat) (A : List Nat) : List Nat := (List.replicate n A).flatten
theorem cst6_len (A : List Nat) (h : A.length = 6) : ∀ n, (cst6 n A).length = n * 6
  | 0 => rfl
  | n + 1 => by unfold cst6; rw [List.replicate_succ, List.flatten_cons, List.length_append]; have := cst6_len A h n; unfold cst6 at this; omega
theorem cst6_row (A : List Nat) (h : A.length = 6) : ∀ n i, i < n → row6 (cst6 n A) i = A
  | n + 1, 0, _ => by
    unfold row6 cst6; rw [List.replicate_succ, List.flatten_cons, Nat.zero_mul, List.drop_zero, ← h, List.take_left]
  | n + 1, i + 1, hi => by
    have := cst6_row A h n i (by omega)
    unfold row6 cst6 at this ⊢
    rw [List.replicate_succ, List.flatten_cons, show (i + 1) * 6 = A.length + i * 6 by omega, List.drop_append, List.drop_eq_nil_of_le (by omega), List.nil_append, show A.length + i * 6 - A.length = i * 6 by omega]
    exact this
def regF (p : Prg) (f : Flows p.types (ptsF p)) (A : List Nat) : List Iss := issF p.types (ptsF p) f.Aa f.Am f.Al (cst6 (ptsF p).length A) f.Ap (ptsF p).length
section
variable {ts : List Int} {pts : List Pnt}
theorem bn_ln {l : Nat} (hl : l < pts.length) (h : isLn pts[l]! = true) : (⟨pts[l]!.x, l, -1⟩ : Bnd) ∈ bnF ts pts pts.length :=
  mem_bnF.2 ⟨l, hl, by unfold bnP; rw [if_pos h]; simp⟩
theorem bn_mv {i : Nat} (hi : i < pts.length) (h : (isLn pts[i]! = true ∨ pts[i]!.op = 3) ∧ isRef ts[pts[i]!.y.toNat]! = true) : (⟨pts[i]!.x, -1, pts[i]!.y⟩ : Bnd) ∈ bnF ts pts pts.length :=
  mem_bnF.2 ⟨i, hi, by unfold bnP; rw [if_pos h]; simp⟩
theorem setAt_ln {x : Pnt} (h : isLn x = true ∨ x.op = 3) : setAt x = x.x := by
  unfold setAt
  rw [if_pos]
  rcases h with h | h
  · have := isLn_op h; omega
  · omega
theorem Fr_Rg (w : WG ts pts) (t : WT ts pts) {a : Nat × Nat × Nat} (h : Fr' ts pts a) : isRef ts[a.2.1]! = true ∧ Rg ts pts (a.2.1, a.2.2) := by
  induction h with
  | @base a h =>
    obtain ⟨e, h1, h2⟩ := h
    rw [setAt_ln (.inl h1)] at h2
    have h3 := (t.ln _ e.1 (isLn_op h1)).1
    rw [show pts[a.2.2]!.x.toNat = a.2.1 by omega] at h3
    exact ⟨h3, .base ⟨_, bn_ln e.1 h1, h2, rfl⟩⟩
  | @step a b _ r ih =>
    obtain ⟨e, e1, h⟩ := r
    rcases h with ⟨_, h2, _⟩ | ⟨h1, h2, h3⟩
    · rw [h2, e]; exact ih
    · have hk : isLn pts[a.1]! = true ∨ pts[a.1]!.op = 3 := h3.imp (·.1) id
      rw [setAt_ln hk] at h1
      have hy : pts[a.1]!.y.toNat = a.2.1 := by omega
      have hx : pts[a.1]!.x.toNat = b.2.1 := by omega
      have href : isRef ts[pts[a.1]!.y.toNat]! = true := by rw [hy]; exact ih.1
      refine ⟨?_, .step (a := (a.2.1, a.2.2)) ih.2 ⟨e, _, bn_mv e1.1 ⟨hk, href⟩, h2.symm, h1⟩⟩
      rcases hk with hk | hk
      · have h4 := (t.ln _ e1.1 (isLn_op hk)).1; rw [hx] at h4; exact h4
      · have h4 := (t.mv _ e1.1 hk).1; rw [hx] at h4; rw [h4]; exact href
theorem kp_mono {x : Pnt} {live : Nat} {f g : List Nat} (h : ∀ v : Nat, ∀ l, f[v]!.testBit l = true → g[v]!.testBit l = true) {l : Nat} (hl : (kpF ts x live f).testBit l = true) : (kpF ts x live g).testBit l = true := by
  unfold kpF at hl ⊢
  rw [testBit_orL] at hl ⊢
  rcases hl with h1 | ⟨z, hz, h1⟩
  · exact .inl h1
  · exact .inr ⟨_, hz, h _ l h1⟩
theorem cf_mono (w : WG ts pts) (f : Flows ts pts) {Af' : List Nat} {i : Nat} (h : ∀ v : Nat, ∀ l, (row6 f.Af i)[v]!.testBit l = true → (row6 Af' i)[v]!.testBit l = true) {l : Nat} (hl : (cfN ts pts f.Am f.Al f.Af f.Ap i).testBit l = true) : (cfN ts pts f.Am f.Al Af' f.Ap i).testBit l = true := by
  have b := f.bnd w
  have hpl := w.pl
  have hs : ∀ K : Nat, Sm (K &&& f.Ap[i]!) := fun K => sm_bits (n := pts.length) (by omega) (Nat.and_lt_two_pow _ (b.bP i))
  unfold cfN at hl ⊢
  rw [testBit_agF _ _ _ (hs _)] at hl ⊢
  rcases hl with hl | ⟨c, hc, h1, h2⟩
  · exact .inl hl
  · refine .inr ⟨c, hc, ?_, h2⟩
    rw [Nat.testBit_and, Bool.and_eq_true] at h1 ⊢
    exact ⟨kp_mono h h1.1, h1.2⟩
theorem row_mono (w : WG ts pts) (t : WT ts pts) (f : Flows ts pts) {A : List Nat} (hA : GoodG ts pts A) {i : Nat} (hi : i < pts.length) (v l : Nat) (h : (row6 f.Af i)[v]!.testBit l = true) : (row6 (cst6 pts.length A) i)[v]!.testBit l = true := by
  rw [cst6_row A hA.1 _ i hi]
  by_cases hv : v < 6
  · rw [row6_at f.gf.1 hi hv] at h
    exact (hA.2 v hv l).2 (Fr_Rg w t ((f.gf.2 i v hi hv l).1 h)).2
  · rw [getElem!_neg _ v (by rw [row6_len f.gf.1 hi]; exact hv)] at h; simp at h
theorem reg_sub (w : WG ts pts) (t : WT ts pts) (f : Flows ts pts) {A : List Nat} (hA : GoodG ts pts A) (x : Iss) (hx : x ∈ f.iss) : x ∈ issF ts pts f.Aa f.Am f.Al (cst6 pts.length A) f.Ap pts.length := by
  unfold Flows.iss issF at hx
  unfold issF
  obtain ⟨i, hi, h⟩ := List.mem_flatMap.1 hx
  have hin := List.mem_range.1 hi
  refine List.mem_flatMap.2 ⟨i, hi, ?_⟩
  unfold issP at h ⊢
  rcases List.mem_append.1 h with h | h
  · exact List.mem_append.2 (.inl h)
  · obtain ⟨z, hz, rfl⟩ := List.mem_map.1 h
    obtain ⟨l, h1, h2, rfl⟩ := mem_bitsI.1 hz
    exact List.mem_append.2 (.inr (List.mem_map.2 ⟨_, mem_bitsI.2 ⟨l, h1, cf_mono w f (row_mono w t f hA hin) h2, rfl⟩, rfl⟩))
theorem bitsI_mono {A B : Nat} (h : ∀ l, A.testBit l = true → B.testBit l = true) : (bitsI A).length ≤ (bitsI B).length := by
  unfold bitsI
  rw [List.length_map, List.length_map, ← List.countP_eq_length_filter, ← List.countP_eq_length_filter]
  exact List.countP_mono_left fun l _ h2 => h l h2
theorem reg_len (w : WG ts pts) (t : WT ts pts) (f : Flows ts pts) {A : List Nat} (hA : GoodG ts pts A) : ∀ n, n ≤ pts.length → (issF ts pts f.Aa f.Am f.Al f.Af f.Ap n).length ≤ (issF ts pts f.Aa f.Am f.Al (cst6 pts.length A) f.Ap n).length
  | 0, _ => by
    have e : ∀ Af : List Nat, issF ts pts f.Aa f.Am f.Al Af f.Ap 0 = [] := fun _ => rfl
    rw [e, e]; exact Nat.le_refl _
  | n + 1, h => by
    have h1 := reg_len w t f hA n (by omega)
    have h2 := bitsI_mono fun l hl => cf_mono w f (row_mono w t f hA (show n < pts.length by omega)) hl
    have e : ∀ Af : List Nat, (issP ts pts f.Aa f.Am f.Al Af f.Ap n).length = (bitsI (anl (wS ts pts[n]! [1, 2, 3]) f.Aa[n]!)).length + (bitsI (cfN ts pts f.Am f.Al Af f.Ap n)).length := fun Af => by
      unfold issP issU issC
      rw [List.length_append, List.length_map, List.length_map]
    rw [issF_succ, issF_succ, List.length_append, List.length_append, e, e]
    omega
theorem issF_bd (Aa Am Al Af Ap : List Nat) : ∀ n, (issF ts pts Aa Am Al Af Ap n).length ≤ n * 124
  | 0 => Nat.le_refl _
  | n + 1 => by
    have h1 := issF_bd Aa Am Al Af Ap n
    rw [issF_succ, List.length_append]
    unfold issP issU issC
    rw [List.length_append, List.length_map, List.length_map]
    have := bitsI_len (anl (wS ts pts[n]! [1, 2, 3]) Aa[n]!)
    have := bitsI_len (cfN ts pts Am Al Af Ap n)
    omega
theorem un_of {Aa Am Al Af Ap : List Nat} {n : Nat} {x : Iss} (hx : x ∈ issF ts pts Aa Am Al Af Ap n) (h1 : x.kind = 1) : x.point ∈ unL ts pts Aa n := by
  unfold issF at hx
  obtain ⟨i, hi, h⟩ := List.mem_flatMap.1 hx
  unfold issP at h
  rcases List.mem_append.1 h with h | h
  · obtain ⟨v, hv, rfl⟩ := List.mem_map.1 h
    obtain ⟨l, _, h2, rfl⟩ := mem_bitsI.1 hv
    refine List.mem_map.2 ⟨i, List.mem_filter.2 ⟨hi, ?_⟩, rfl⟩
    unfold unB
    rw [decide_eq_true_eq]
    intro e
    rw [e] at h2
    simp at h2
  · obtain ⟨v, _, rfl⟩ := List.mem_map.1 h
    dsimp only at h1
    split at h1 <;> cases h1
end
end Go.AL
namespace Go.AL
theorem rgB_flB (nt n : Nat) (A Ap : List Nat) (hA : A.length = 6) (hnt : nt ≤ 6) {i : Nat} (hi : i < n) : (flB nt n (cst6 n A) Ap i).1 = rgB nt n A := by
  unfold flB rgB
  dsimp only
  refine List.map_congr_left fun v hv => List.map_congr_left fun l hl => ?_
  have hv := List.mem_range.1 hv
  rw [← row6_at (cst6_len A hA n) hi (by omega : v < 6), cst6_row A hA n i hi]
theorem rgB_len (nt n : Nat) (A : List Nat) : (rgB nt n A).length = nt := by simp [rgB]
theorem rgB_row (nt n : Nat) (A : List Nat) {v : Nat} (hv : v < nt) : (rgB nt n A)[v]!.length = n := by
  unfold rgB; rw [mapR_get _ _ _ hv]; simp
end Go.AL
namespace Go.AL
def eqI (a b : Iss) : Bool := a.point == b.point && (a.kind == b.kind && a.with_ == b.with_)
theorem eqI_iff (a b : Iss) : eqI a b = true ↔ a = b := by
  unfold eqI
  simp only [Bool.and_eq_true, beq_iff_eq]
  constructor
  · rintro ⟨h1, h2, h3⟩; cases a; cases b; simp only at h1 h2 h3; rw [h1, h2, h3]
  · rintro rfl; exact ⟨rfl, rfl, rfl⟩
end Go.AL

namespace Go.AL
open Go.RowKit
set_option linter.unusedVariables false
set_option linter.unusedSimpArgs false
theorem Le.fset2 {ts : List (Nat × AV)} {hs hs' : List (Nat × Option (List AV))} {n : Nat} {z0 : Lo} {k j : Nat} {r : List Bool} {R : List (List Bool)} (hF : FamR R (R.set k r) hs hs') (hk : k < R.length) (hj : j < R.length) (hkj : k ≠ j) :
    Le ⟨ts, (j + big, some (flat cB R[j]!)) :: (k + big, some (flat cB r)) :: hs, n, z0⟩ ⟨ts, hs', n, z0⟩ := by
  refine Le.of (fun _ _ h => h) (fun i cs h => ?_) (Nat.le_refl _) rfl
  have h' : lkH hs' i = some cs := h
  show lkH ((j + big, some (flat cB R[j]!)) :: (k + big, some (flat cB r)) :: hs) i = some cs
  rcases Nat.lt_or_ge i big with hi | hi
  · rw [lkH_c, if_neg (by omega), lkH_c, if_neg (by omega), hF.low i hi]; exact h'
  · obtain ⟨q, rfl⟩ : ∃ q, i = q + big := ⟨i - big, by omega⟩
    rw [hF.symm.fam] at h'
    split at h'
    · rename_i hq
      rw [List.length_set] at hq
      rw [set_getB] at h'
      rw [lkH_c]
      by_cases e : q = j
      · subst e
        rw [if_neg (fun q => hkj q.1)] at h'; rw [if_pos rfl]; exact h'
      · rw [if_neg (by omega), lkH_c]
        by_cases e2 : q = k
        · subst e2; rw [if_pos ⟨rfl, hk⟩] at h'; rw [if_pos rfl]; exact h'
        · rw [if_neg (fun z => e2 z.1.symm)] at h'
          rw [if_neg (by omega), hF.get hq]; exact h'
    · cases h'
theorem dist3 {j k : Nat} (h : k ≠ j) : distinct [k + big, j + big] = true := by
  have : Nat.beq (k + big) (j + big) = false := by
    cases h2 : Nat.beq (k + big) (j + big) with
    | false => rfl
    | true => have := Nat.eq_of_beq_eq_true h2; omega
  simp only [distinct, List.all_cons, List.all_nil, this]; rfl
end Go.AL

namespace Go.AL
theorem bqs : (∀ a b : Bool, ((a && b) = true) = (a = true ∧ b = true)) ∧ (∀ a b : Bool, ((a && b) = false) ↔ (a = false ∨ b = false)) ∧ (∀ a b : Bool, ((a || b) = true) = (a = true ∨ b = true)) ∧ (∀ a b : Bool, ((a || b) = false) ↔ (a = false ∧ b = false)) ∧
    (∀ (p : Prop) [Decidable p], (decide p = true) = p) ∧ (∀ (p : Prop) [Decidable p], (decide p = false) ↔ ¬ p) ∧ (∀ a : Bool, ((!a) = true) ↔ a = false) ∧ (∀ a : Bool, ((!a) = false) ↔ a = true) ∧ ((!true) = false) ∧ ((!false) = true) ∧ (∀ a b : Int, ¬ a < b ↔ b ≤ a) ∧ (∀ a b : Int, ¬ a ≤ b ↔ b < a) :=
  ⟨fun a b => Bool.and_eq_true a b, fun a b => Bool.and_eq_false_iff, fun a b => Bool.or_eq_true a b, fun a b => Bool.or_eq_false_iff, fun p _ => by simp, fun p _ => decide_eq_false_iff_not, fun a => by simp, fun a => by simp, rfl, rfl, fun _ _ => Int.not_lt, fun _ _ => Int.not_le⟩
theorem lns : (∀ {α : Type} (a b : List α), (a ++ b).length = a.length + b.length) ∧ (∀ {α : Type} (a : α) (b : List α), (a :: b).length = b.length + 1) ∧ (∀ {α : Type}, ([] : List α).length = 0) ∧ (∀ {α : Type} (a : List α) (i : Nat) (x : α), (a.set i x).length = a.length) ∧ (∀ {α : Type} (i : Nat) (a : List α), (a.take i).length = min i a.length) ∧
    (∀ {α β : Type} (f : α → β) (a : List α), (a.map f).length = a.length) ∧ (∀ {α : Type} (n : Nat) (a : α), (List.replicate n a).length = n) ∧ (∀ (l : List Stmt) (b : Nat), (ptL b l).length = npL l) ∧ (∀ n : Nat, n * 1 = n) ∧ (∀ n : Nat, 0 + n = n) ∧ (∀ n : Nat, n + 0 = n) :=
  ⟨fun _ _ => List.length_append, fun _ _ => rfl, rfl, fun _ _ _ => List.length_set, fun _ _ => List.length_take, fun _ _ => List.length_map _, fun _ _ => List.length_replicate, ptL_len, Nat.mul_one, Nat.zero_add, Nat.add_zero⟩
theorem ex3 {α : Type} {p q r : α → Prop} (x : α) (h3 : r x) (h1 : p x) (h2 : q x) : ∃ x, p x ∧ q x ∧ r x := ⟨x, h1, h2, h3⟩
end Go.AL
