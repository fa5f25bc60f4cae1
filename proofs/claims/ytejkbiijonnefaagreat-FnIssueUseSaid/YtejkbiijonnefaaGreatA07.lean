/-
  A part of the proofs over this program: rules and contracts of its functions (the rules).
-/
import Derived.Test.YtejkbiijonnefaaGreatA06
set_option linter.unusedVariables false
set_option linter.unusedSimpArgs false
namespace Go.AL
theorem bsW_no {W : Nat → List Nat} {U : Nat → Bool} {i : Nat} (h : U i = false ∨ W i = []) : bsW W U (i + 1) = bsW W U i := by
  rw [bsW, if_neg]
  rintro ⟨h1, h2, _⟩
  rcases h with h | h
  · rw [h] at h1; cases h1
  · exact h2 h
theorem bsW_new {W : Nat → List Nat} {U : Nat → Bool} {i : Nat} (h1 : U i = true) (h2 : W i ≠ []) (h3 : (bsW W U i).1 < 0 ∨ (W i).length < (bsW W U i).2.length) : bsW W U (i + 1) = ((i : Int), W i) := by
  rw [bsW, if_pos ⟨h1, h2, h3⟩]
theorem bsW_old {W : Nat → List Nat} {U : Nat → Bool} {i : Nat} (h3 : 0 ≤ (bsW W U i).1) (h4 : (bsW W U i).2.length ≤ (W i).length) : bsW W U (i + 1) = bsW W U i := by
  rw [bsW, if_neg]
  rintro ⟨_, _, h5⟩
  omega
theorem wyW_pos {pts : List Pnt} {f x : Nat} (w : ∀ i, i < pts.length → ∀ k ∈ pts[i]!.next, 0 ≤ k ∧ k < pts.length) (hf : f < pts.length) (h : 0 ≤ lkW (enW pts f) x) : wyW pts f x ≠ [] := (wyW_ne w hf).2 ((enW_iff w hf x).1 h)
theorem wyW_neg {pts : List Pnt} {f x : Nat} (h : lkW (enW pts f) x < 0) : wyW pts f x = [] := by unfold wyW; rw [if_neg (by omega)]
theorem chW_len {pts : List Pnt} {f : Nat} {E : List (Nat × Nat)} (I : BI pts f E) : ∀ n R x, R.length ≤ n → R <:+ E.reverse → x ∈ R.map (·.1) → (chW f R x).length ≤ R.length + 1
  | n, R, x, hn, hR, hx => by
    obtain ⟨a, R', _, h2, h3, h4, h5⟩ := chW_step I hR hx
    rw [h4]
    unfold cfW
    by_cases e : a = f
    · rw [if_pos e]; simp; omega
    · rw [if_neg e]
      cases n with
      | zero => omega
      | succ n =>
        have := chW_len I n R' a (by omega) h2 (h5 e)
        rw [List.length_append, List.length_singleton]; omega
theorem wyW_len {pts : List Pnt} {f x : Nat} (w : ∀ i, i < pts.length → ∀ k ∈ pts[i]!.next, 0 ≤ k ∧ k < pts.length) (hf : f < pts.length) : (wyW pts f x).length ≤ pts.length + 1 := by
  unfold wyW
  split
  · rename_i h
    have I : BI pts f (enW pts f) := bfW_I w hf _
    have := chW_len I _ _ _ (Nat.le_refl _) (List.suffix_refl _) (by rw [List.map_reverse, List.mem_reverse]; exact lkW_some.1 h : x ∈ (enW pts f).reverse.map (·.1))
    have h2 := (I.le w).1
    rw [List.length_reverse] at this; omega
  · simp
theorem useW_any (ts : List Int) (pts : List Pnt) (Af : List Nat) (loan i : Nat) (hn : ts.length ≤ 6) : ((bitsI (wS ts pts[i]! [1, 2, 3])).any fun v => (row6 Af i)[v.toNat]!.testBit loan) = useW ts pts Af loan i := by
  rw [Bool.eq_iff_iff, List.any_eq_true]
  unfold useW
  rw [List.any_eq_true]
  constructor
  · rintro ⟨z, hz, h2⟩
    obtain ⟨v, h3, h4, rfl⟩ := mem_bitsI.1 hz
    rw [testBit_wS] at h4
    simp only [Bool.and_eq_true, decide_eq_true_eq] at h4
    refine ⟨v, List.mem_range.2 h4.1, ?_⟩
    rw [Int.toNat_natCast] at h2
    rw [h2, Bool.and_true, decide_eq_true_eq]
    intro h0; rw [h0] at h4; simp at h4
  · rintro ⟨v, hv, h2⟩
    simp only [Bool.and_eq_true, decide_eq_true_eq, List.mem_range] at h2 hv
    have := useAt_bd ts pts[i]! v
    refine ⟨(v : Int), mem_bitsI.2 ⟨v, by omega, ?_, rfl⟩, by rw [Int.toNat_natCast]; exact h2.2⟩
    rw [testBit_wS]
    simp only [Bool.and_eq_true, decide_eq_true_eq, List.mem_cons, List.not_mem_nil, or_false]
    omega
end Go.AL

namespace Go.AL
structure RI (pts : List Pnt) (a : Nat) (F : List Bool) (T : List Int) : Prop where
  len : F.length = pts.length
  src : ∀ k ∈ pts[a]!.next, F[k.toNat]! = true ∨ k ∈ T
  cl : ∀ i, i < pts.length → F[i]! = true → ∀ k ∈ pts[i]!.next, F[k.toNat]! = true ∨ k ∈ T
  snd : ∀ i, i < pts.length → F[i]! = true → Wy pts a i
  tw : ∀ k ∈ T, 0 ≤ k ∧ k < pts.length ∧ Wy pts a k.toNat
def muR (F : List Bool) (T : List Int) : Nat := 3 * F.countP (fun b => !b) + T.length
theorem RI.start {pts : List Pnt} {a : Nat} (w : ∀ i, i < pts.length → ∀ k ∈ pts[i]!.next, 0 ≤ k ∧ k < pts.length) (ha : a < pts.length) : RI pts a (List.replicate pts.length false) pts[a]!.next := by
  have h0 : ∀ i, (List.replicate pts.length false)[i]! = true → False := fun i h => by
    by_cases hi : i < pts.length
    · rw [getB _ i (by simpa using hi)] at h; simp at h
    · rw [getElem!_neg _ i (by simpa using hi)] at h; cases h
  exact ⟨by simp, fun k hk => .inr hk, fun i hi h => (h0 i h).elim, fun i hi h => (h0 i h).elim, fun k hk =>
    ⟨(w a ha k hk).1, (w a ha k hk).2, .base ⟨ha, by rw [Int.toNat_of_nonneg (w a ha k hk).1]; exact hk⟩⟩⟩
theorem RI.vis {pts : List Pnt} {a : Nat} {F : List Bool} {T T' : List Int} {k : Int} (I : RI pts a F T) (h1 : ∀ x ∈ T, x = k ∨ x ∈ T') (h2 : ∀ x ∈ T', x ∈ T) (hF : F[k.toNat]! = true) : RI pts a F T' := by
  have key : ∀ x, F[x.toNat]! = true ∨ x ∈ T → F[x.toNat]! = true ∨ x ∈ T' := fun x h => by
    rcases h with h | h
    · exact .inl h
    · rcases h1 x h with rfl | h
      · exact .inl hF
      · exact .inr h
  exact ⟨I.len, fun x hx => key x (I.src x hx), fun i hi h x hx => key x (I.cl i hi h x hx), I.snd, fun x hx => I.tw x (h2 x hx)⟩
theorem RI.new {pts : List Pnt} {a : Nat} (w : ∀ i, i < pts.length → ∀ k ∈ pts[i]!.next, 0 ≤ k ∧ k < pts.length) {F : List Bool} {T T' : List Int} {k : Int} (I : RI pts a F T) (hk : k ∈ T) (h1 : ∀ x ∈ T, x = k ∨ x ∈ T') (h2 : ∀ x ∈ pts[k.toNat]!.next, x ∈ T') (h3 : ∀ x ∈ T', x ∈ T ∨ x ∈ pts[k.toNat]!.next) :
    RI pts a (F.set k.toNat true) T' := by
  have hkl := I.tw k hk
  have hl := I.len
  have mono : ∀ i : Nat, F[i]! = true → (F.set k.toNat true)[i]! = true := fun i h => by
    rw [set_get]; split
    · rfl
    · exact h
  have hkk : (F.set k.toNat true)[k.toNat]! = true := by rw [set_get, if_pos ⟨rfl, by omega⟩]
  have key : ∀ x, F[x.toNat]! = true ∨ x ∈ T → (F.set k.toNat true)[x.toNat]! = true ∨ x ∈ T' := fun x h => by
    rcases h with h | h
    · exact .inl (mono _ h)
    · rcases h1 x h with rfl | h
      · exact .inl hkk
      · exact .inr h
  have hold : ∀ i, (F.set k.toNat true)[i]! = true → i = k.toNat ∨ F[i]! = true := fun i h => by
    rw [set_get] at h; split at h
    · rename_i e; exact .inl e.1.symm
    · exact .inr h
  refine ⟨by rw [List.length_set]; exact hl, fun x hx => key x (I.src x hx), fun i hi h x hx => ?_, fun i hi h => ?_, fun x hx => ?_⟩
  · rcases hold i h with rfl | h
    · exact .inr (h2 x hx)
    · exact key x (I.cl i hi h x hx)
  · rcases hold i h with rfl | h
    · exact hkl.2.2
    · exact I.snd i hi h
  · rcases h3 x hx with h | h
    · exact I.tw x h
    · have := w _ (by omega) x h
      exact ⟨this.1, this.2, .step hkl.2.2 ⟨by omega, by rw [Int.toNat_of_nonneg this.1]; exact h⟩⟩
theorem RI.fin {pts : List Pnt} {a : Nat} {F F0 : List Bool} (I : RI pts a F []) (hF : GoodR pts a F0) (w : ∀ i, i < pts.length → ∀ k ∈ pts[i]!.next, 0 ≤ k ∧ k < pts.length) : F = F0 := by
  refine ext_get (by rw [I.len, hF.l]) fun i hi => ?_
  rw [I.len] at hi
  rw [Bool.eq_iff_iff, hF.g i hi]
  refine ⟨I.snd i hi, fun h => ?_⟩
  have := Clo.sub (T := fun k => F[k]! = true) (fun k he => ?_) (fun x y hx he => ?_) i h
  · exact this
  · rcases I.src _ he.2 with h | h
    · simpa using h
    · cases h
  · rcases I.cl x he.1 hx _ he.2 with h | h
    · simpa using h
    · cases h
theorem muR_set {F : List Bool} {k : Nat} (hk : k < F.length) (h : F[k]! = false) (T : List Int) : muR (F.set k true) T + 3 = muR F T := by
  unfold muR
  have h1 : F[k] = false := by rw [← getB F k hk]; exact h
  have h2 : 0 < F.countP (fun b => !b) := List.countP_pos_iff.2 ⟨F[k], List.getElem_mem hk, by rw [h1]; rfl⟩
  rw [List.countP_set hk, h1]; simp; omega
theorem muR_len (F : List Bool) (T : List Int) : T.length ≤ muR F T := by unfold muR; omega
theorem muR_app (F : List Bool) (T S : List Int) : muR F (T ++ S) = muR F T + S.length := by unfold muR; rw [List.length_append]; omega
theorem muR_start {n : Nat} {T : List Int} (hn : n ≤ 61) (hT : T.length ≤ 2) : muR (List.replicate n false) T ≤ 200 := by
  unfold muR
  have : (List.replicate n false).countP (fun b => !b) ≤ n := Nat.le_trans List.countP_le_length (by simp)
  omega
end Go.AL

namespace Go.AL
theorem adsW_app (E : List (Nat × Nat)) (a : Nat) (A B : List Int) : adsW E a (A ++ B) = adsW (adsW E a A) a B := by unfold adsW; rw [List.foldl_append]
theorem adsW_take (E : List (Nat × Nat)) (a : Nat) (L : List Int) (k : Nat) : adsW E a (L.take k) <+: adsW E a L := by
  have : adsW E a L = adsW (adsW E a (L.take k)) a (L.drop k) := by rw [← adsW_app, List.take_append_drop]
  rw [this]; exact adsW_pre _ _ _
theorem bfW_step {pts : List Pnt} {f h a : Nat} (hlt : h < (quW f (bfW pts f h)).length) (ha : a = (quW f (bfW pts f h))[h]!) : bfW pts f (h + 1) = adsW (bfW pts f h) a pts[a]!.next := by
  rw [bfW, if_pos hlt, ← ha]
theorem cN'_app (a b : List Nat) : cN' (a ++ b) = cN' a ++ cN' b := by unfold cN'; simp
theorem cut_ints {T : List Int} {m : Nat} : (flat cI T).take m = flat cI (T.take m) := by
  have := flat_take cI (e := 1) T m; rw [Nat.mul_one] at this; exact this
theorem last_mem {T : List Int} {m : Nat} (hm : m = T.length) (h : 0 < m) : T[m - 1]! ∈ T ∧ ∀ x ∈ T, x = T[m - 1]! ∨ x ∈ T.take (m - 1) := by
  subst hm
  refine ⟨getB_mem _ _ (by omega), fun x hx => ?_⟩
  have e : T = T.take (T.length - 1) ++ [T[T.length - 1]!] := by
    rw [← take_succB T _ (by omega), show T.length - 1 + 1 = T.length by omega, List.take_length]
  rw [e] at hx
  rcases List.mem_append.1 hx with h | h
  · exact .inr h
  · exact .inl (List.mem_singleton.1 h)
theorem bsW_len {W : Nat → List Nat} {U : Nat → Bool} {m : Nat} (h : ∀ j, (W j).length ≤ m) (i : Nat) : (bsW W U i).2.length ≤ m := by
  rcases bsW_inv W U i with ⟨_, e⟩ | ⟨j, _, _, _, e, _⟩
  · rw [e]; exact Nat.zero_le _
  · rw [e]; exact h j
theorem bsW_last {pts : List Pnt} {f : Nat} (w : ∀ i, i < pts.length → ∀ k ∈ pts[i]!.next, 0 ≤ k ∧ k < pts.length) (hf : f < pts.length) {U : Nat → Bool} {i : Nat} {bl : List Int} (hbl : bl = cN' (bsW (wyW pts f) U i).2) (h0 : bl.length ≠ 0) :
    bl[((bl.length : Int) - 1).toNat]! = (bsW (wyW pts f) U i).1 ∧ 0 ≤ (bsW (wyW pts f) U i).1 := by
  rcases bsW_inv (wyW pts f) U i with ⟨_, e⟩ | ⟨j, _, e1, _, e, hn⟩
  · rw [hbl, e] at h0; exact absurd rfl h0
  · refine ⟨?_, by omega⟩
    obtain ⟨T, hT⟩ := wyW_ends w hf ((enW_iff w hf j).2 ((wyW_ne w hf).1 hn))
    rw [e1]
    have eb : bl = cN' (f :: T) ++ [(j : Int)] := by rw [hbl, e, hT, ← List.cons_append, cN'_app]; rfl
    have el : ((bl.length : Int) - 1).toNat = (cN' (f :: T)).length := by rw [eb]; simp
    rw [el, eb, app_get, if_neg (by omega), Nat.sub_self]; rfl
theorem bsW_pos {W : Nat → List Nat} {U : Nat → Bool} {i : Nat} : ((bsW W U i).1 < 0 ∧ (bsW W U i).2.length = 0) ∨ (0 ≤ (bsW W U i).1 ∧ 0 < (bsW W U i).2.length) := by
  rcases bsW_inv W U i with ⟨e1, e⟩ | ⟨j, _, e1, _, e, hn⟩
  · rw [e, e1]; exact .inl ⟨by decide, rfl⟩
  · rw [e, e1]; exact .inr ⟨by omega, List.length_pos_iff.2 hn⟩
end Go.AL

namespace Go.AL
theorem Rch.wy {pts : List Pnt} (r : Rch pts) : ∀ n t, t ≤ n → 0 < t → t < pts.length → Wy pts 0 t
  | n, t, hn, h0, ht => by
    obtain ⟨j, hj, e⟩ := r t h0 ht
    by_cases hz : j = 0
    · subst hz; exact .base e
    · cases n with
      | zero => omega
      | succ n => exact .step (r.wy n j (by omega) (by omega) e.1) e
def toW (pts : List Pnt) (t : Nat) : List Nat := if t = 0 then [0] else wyW pts 0 t
theorem toW_cons {pts : List Pnt} (w : ∀ i, i < pts.length → ∀ k ∈ pts[i]!.next, 0 ≤ k ∧ k < pts.length) (r : Rch pts) {t : Nat} (ht : t < pts.length) : ∃ T, toW pts t = 0 :: T := by
  unfold toW
  by_cases h : t = 0
  · rw [if_pos h]; exact ⟨[], rfl⟩
  · rw [if_neg h]
    obtain ⟨T, e⟩ := wyW_ends w (by omega) ((enW_iff w (by omega) t).2 (r.wy t t (Nat.le_refl _) (by omega) ht))
    exact ⟨_, e⟩
theorem toW_len {pts : List Pnt} (w : ∀ i, i < pts.length → ∀ k ∈ pts[i]!.next, 0 ≤ k ∧ k < pts.length) (h0 : 0 < pts.length) (t : Nat) : (toW pts t).length ≤ pts.length + 1 := by
  unfold toW; split
  · simp
  · exact wyW_len w h0
end Go.AL

namespace Go.AL
theorem app_last {A : List Int} {B : List Int} {z : Int} (h : A = B ++ [z]) : A[((A.length : Int) - 1).toNat]! = z ∧ 0 < A.length := by
  subst h
  refine ⟨?_, by simp⟩
  have : (((B ++ [z]).length : Int) - 1).toNat = B.length := by simp
  rw [this, app_get, if_neg (by omega), Nat.sub_self]; rfl
theorem way_ends {pts : List Pnt} (w : ∀ i, i < pts.length → ∀ k ∈ pts[i]!.next, 0 ≤ k ∧ k < pts.length) (r : Rch pts) {l a u : Nat} (ha : a < pts.length) (hl : l < pts.length) (h3 : wyW pts a u ≠ []) (X : List Int) :
    (cN' (toW pts l) ++ X ++ (cN' (wyW pts a u)).drop 1)[0]! = 0 ∧ ∃ B, cN' (toW pts l) ++ X ++ (cN' (wyW pts a u)).drop 1 = B ++ [(u : Int)] := by
  obtain ⟨T, hT⟩ := toW_cons w r hl
  obtain ⟨S, hS⟩ := wyW_ends w ha ((enW_iff w ha u).2 ((wyW_ne w ha).1 h3))
  constructor
  · rw [hT]; rfl
  · refine ⟨cN' (toW pts l) ++ X ++ cN' S, ?_⟩
    have e : (cN' (wyW pts a u)).drop 1 = cN' S ++ [(u : Int)] := by rw [hS]; show cN' (S ++ [u]) = _; rw [cN'_app]; rfl
    rw [e]; simp
end Go.AL

namespace Go.AL
theorem bqs : (∀ a b : Bool, ((a && b) = true) = (a = true ∧ b = true)) ∧ (∀ a b : Bool, ((a && b) = false) ↔ (a = false ∨ b = false)) ∧ (∀ a b : Bool, ((a || b) = true) = (a = true ∨ b = true)) ∧ (∀ a b : Bool, ((a || b) = false) ↔ (a = false ∧ b = false)) ∧
    (∀ (p : Prop) [Decidable p], (decide p = true) = p) ∧ (∀ (p : Prop) [Decidable p], (decide p = false) ↔ ¬ p) ∧ (∀ a : Bool, ((!a) = true) ↔ a = false) ∧ (∀ a : Bool, ((!a) = false) ↔ a = true) ∧ ((!true) = false) ∧ ((!false) = true) ∧ (∀ a b : Int, ¬ a < b ↔ b ≤ a) ∧ (∀ a b : Int, ¬ a ≤ b ↔ b < a) :=
  ⟨fun a b => Bool.and_eq_true a b, fun a b => Bool.and_eq_false_iff, fun a b => Bool.or_eq_true a b, fun a b => Bool.or_eq_false_iff, fun p _ => by simp, fun p _ => decide_eq_false_iff_not, fun a => by simp, fun a => by simp, rfl, rfl, fun _ _ => Int.not_lt, fun _ _ => Int.not_le⟩
theorem lns : (∀ {α : Type} (a b : List α), (a ++ b).length = a.length + b.length) ∧ (∀ {α : Type} (a : α) (b : List α), (a :: b).length = b.length + 1) ∧ (∀ {α : Type}, ([] : List α).length = 0) ∧ (∀ {α : Type} (a : List α) (i : Nat) (x : α), (a.set i x).length = a.length) ∧ (∀ {α : Type} (i : Nat) (a : List α), (a.take i).length = min i a.length) ∧
    (∀ {α β : Type} (f : α → β) (a : List α), (a.map f).length = a.length) ∧ (∀ {α : Type} (n : Nat) (a : α), (List.replicate n a).length = n) ∧ (∀ (l : List Stmt) (b : Nat), (ptL b l).length = npL l) ∧ (∀ n : Nat, n * 1 = n) ∧ (∀ n : Nat, 0 + n = n) ∧ (∀ n : Nat, n + 0 = n) :=
  ⟨fun _ _ => List.length_append, fun _ _ => rfl, rfl, fun _ _ _ => List.length_set, fun _ _ => List.length_take, fun _ _ => List.length_map _, fun _ _ => List.length_replicate, ptL_len, Nat.mul_one, Nat.zero_add, Nat.add_zero⟩
theorem ex3 {α : Type} {p q r : α → Prop} (x : α) (h3 : r x) (h1 : p x) (h2 : q x) : ∃ x, p x ∧ q x ∧ r x := ⟨x, h1, h2, h3⟩
end Go.AL
