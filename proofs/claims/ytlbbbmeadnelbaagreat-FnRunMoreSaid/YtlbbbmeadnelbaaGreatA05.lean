/-
  A part of the proofs over this program: rules and contracts of its functions (the rules).
-/
import Derived.Test.YtlbbbmeadnelbaaGreatA04
import Derived.Laws.BytesString
import Derived.Laws.StructEq
set_option linter.unusedVariables false
set_option linter.unusedSimpArgs false
namespace Go.AL
def wiV (fa fb : List (List Bool)) (i v : Nat) : Bool := !fa[v]![i]! || fb[v]![i]!
def wiI (fa fb : List (List Bool)) (pa pb : List Bool) (i : Nat) : Bool := (!pa[i]! || pb[i]!) && (List.range fa.length).all (wiV fa fb i)
def wiB (fa fb : List (List Bool)) (pa pb : List Bool) : Bool := (List.range pa.length).all (wiI fa fb pa pb)
theorem wiB_iff (fa fb : List (List Bool)) (pa pb : List Bool) : wiB fa fb pa pb = true ↔ ∀ l, l < pa.length → (pa[l]! = true → pb[l]! = true) ∧ ∀ v, v < fa.length → fa[v]![l]! = true → fb[v]![l]! = true := by
  unfold wiB wiI wiV
  simp only [List.all_eq_true, List.mem_range, Bool.and_eq_true, Bool.or_eq_true, Bool.not_eq_true']
  constructor
  · intro h l hl
    obtain ⟨h1, h2⟩ := h l hl
    refine ⟨fun hp => ?_, fun v hv hf => ?_⟩
    · rcases h1 with h1 | h1
      · rw [h1] at hp; cases hp
      · exact h1
    · rcases h2 v hv with h3 | h3
      · rw [h3] at hf; cases hf
      · exact h3
  · intro h l hl
    obtain ⟨h1, h2⟩ := h l hl
    refine ⟨?_, fun v hv => ?_⟩
    · cases hp : pa[l]! with
      | false => exact .inl rfl
      | true => exact .inr (h1 hp)
    · cases hp : fa[v]![l]! with
      | false => exact .inl rfl
      | true => exact .inr (h2 v hv hp)
def valB (ts : List Int) (pts : List Pnt) (i : Nat) (fr : List (List Bool)) : List Bool :=
  (List.range pts.length).map fun (l : Nat) => if pts[i]!.op = 3 then fr[pts[i]!.y.toNat]![l]! else isLn pts[i]! && (decide (l = i) || (isRef ts[pts[i]!.y.toNat]! && fr[pts[i]!.y.toNat]![l]!))
def afR (ts : List Int) (pts : List Pnt) (i : Nat) (fr : List (List Bool)) : List (List Bool) :=
  (List.range ts.length).map fun (v : Nat) => if setAt pts[i]! = (v : Int) then valB ts pts i fr else if useAt ts pts[i]! v = 2 then List.replicate pts.length false else fr[v]!
def afQ (ts : List Int) (pts : List Pnt) (i : Nat) (pl : List Bool) : List Bool :=
  (List.range pts.length).map fun (l : Nat) => (isLn pts[i]! && decide (l = i)) || (pl[l]! && !(isLn pts[l]! && (decide (useAt ts pts[i]! pts[l]!.y = 2) || decide (setAt pts[i]! = pts[l]!.y))))
theorem valB_len (ts : List Int) (pts : List Pnt) (i : Nat) (fr : List (List Bool)) : (valB ts pts i fr).length = pts.length := by simp [valB]
theorem afR_len (ts : List Int) (pts : List Pnt) (i : Nat) (fr : List (List Bool)) : (afR ts pts i fr).length = ts.length := by simp [afR]
theorem afQ_len (ts : List Int) (pts : List Pnt) (i : Nat) (pl : List Bool) : (afQ ts pts i pl).length = pts.length := by simp [afQ]
theorem valB_get (ts : List Int) (pts : List Pnt) (i : Nat) (fr : List (List Bool)) (l : Nat) (h : l < pts.length) : (valB ts pts i fr)[l]! = if pts[i]!.op = 3 then fr[pts[i]!.y.toNat]![l]! else isLn pts[i]! && (decide (l = i) || (isRef ts[pts[i]!.y.toNat]! && fr[pts[i]!.y.toNat]![l]!)) := mapR_get _ _ _ h
theorem afR_get (ts : List Int) (pts : List Pnt) (i : Nat) (fr : List (List Bool)) (v : Nat) (h : v < ts.length) : (afR ts pts i fr)[v]! = if setAt pts[i]! = (v : Int) then valB ts pts i fr else if useAt ts pts[i]! v = 2 then List.replicate pts.length false else fr[v]! := mapR_get _ _ _ h
theorem afQ_get (ts : List Int) (pts : List Pnt) (i : Nat) (pl : List Bool) (l : Nat) (h : l < pts.length) : (afQ ts pts i pl)[l]! = ((isLn pts[i]! && decide (l = i)) || (pl[l]! && !(isLn pts[l]! && (decide (useAt ts pts[i]! pts[l]!.y = 2) || decide (setAt pts[i]! = pts[l]!.y))))) := mapR_get _ _ _ h
theorem get_lt {b : List Bool} {l : Nat} (h : b[l]! = true) : l < b.length := by
  apply Classical.byContradiction; intro hc
  rw [getElem!_neg b l hc] at h; cases h
def rwF (nv : Nat) (R : List (List Bool)) (n : Nat) : List (List Bool) := (R.drop (n * (nv + 1))).take nv
def rwP (nv : Nat) (R : List (List Bool)) (n : Nat) : List Bool := R[n * (nv + 1) + nv]!
theorem rwF_get {nv N n v : Nat} {R : List (List Bool)} (hl : R.length = N * (nv + 1)) (hn : n < N) (hv : v < nv) : (rwF nv R n)[v]! = R[n * (nv + 1) + v]! := by
  have h1 : (n + 1) * (nv + 1) ≤ N * (nv + 1) := Nat.mul_le_mul_right _ hn
  rw [Nat.add_mul, Nat.one_mul] at h1
  unfold rwF
  rw [getB _ _ (by rw [List.length_take, List.length_drop]; omega), getB _ _ (by omega), List.getElem_take, List.getElem_drop]
theorem ix_lt {nv N n v : Nat} (hn : n < N) (hv : v < nv + 1) : n * (nv + 1) + v < N * (nv + 1) := by
  have h1 : (n + 1) * (nv + 1) ≤ N * (nv + 1) := Nat.mul_le_mul_right _ hn
  rw [Nat.add_mul, Nat.one_mul] at h1
  omega
structure FSd (ts : List Int) (pts : List Pnt) (R : List (List Bool)) : Prop where
  lo : R.length = pts.length * (ts.length + 1)
  ro : ∀ q, q < R.length → R[q]!.length = pts.length
  f : ∀ n v l, n < pts.length → v < ts.length → R[n * (ts.length + 1) + v]![l]! = true → Fr' ts pts (n, v, l)
  p : ∀ n l, n < pts.length → R[n * (ts.length + 1) + ts.length]![l]! = true → Pl' ts pts (n, l)
theorem FSd.aft {ts : List Int} {pts : List Pnt} (w : WG ts pts) {R : List (List Bool)} (h : FSd ts pts R) {i n : Nat} (e : edge pts i n) :
    (∀ v l, v < ts.length → (afR ts pts i (rwF ts.length R i))[v]![l]! = true → Fr' ts pts (n, v, l)) ∧ (∀ l, (afQ ts pts i (rwP ts.length R i))[l]! = true → Pl' ts pts (n, l)) := by
  have hi := e.1
  have hfr : ∀ v l, v < ts.length → (rwF ts.length R i)[v]![l]! = true → Fr' ts pts (i, v, l) := fun v l hv hr => by
    rw [rwF_get h.lo hi hv] at hr; exact h.f i v l hi hv hr
  refine ⟨fun v l hv hr => ?_, fun l hr => ?_⟩
  · rw [afR_get _ _ _ _ _ hv] at hr
    split at hr
    · rename_i hs
      have hl := get_lt hr
      rw [valB_len] at hl
      rw [valB_get _ _ _ _ _ hl] at hr
      have hy := w.y i hi
      split at hr
      · rename_i h3
        have hyv : pts[i]!.y.toNat < ts.length := by omega
        exact .step (hfr _ l hyv hr) ⟨rfl, e, .inr ⟨hs, by show ((pts[i]!.y.toNat : Nat) : Int) = pts[i]!.y; omega, .inr h3⟩⟩
      · simp only [Bool.and_eq_true, Bool.or_eq_true, decide_eq_true_eq] at hr
        obtain ⟨h1, h2⟩ := hr
        have hop := isLn_op h1
        rcases h2 with rfl | ⟨h2, h3⟩
        · exact .base ⟨e, h1, hs⟩
        · have hyv : pts[i]!.y.toNat < ts.length := by omega
          exact .step (hfr _ l hyv h3) ⟨rfl, e, .inr ⟨hs, by show ((pts[i]!.y.toNat : Nat) : Int) = pts[i]!.y; omega, .inl ⟨h1, h2⟩⟩⟩
    · rename_i hs
      split at hr
      · have hl := get_lt hr
        rw [List.length_replicate] at hl
        rw [rep_get _ _ _ hl] at hr; cases hr
      · rename_i h2
        exact .step (hfr v l hv hr) ⟨rfl, e, .inl ⟨hs, rfl, h2⟩⟩
  · have hl := get_lt hr
    rw [afQ_len] at hl
    rw [afQ_get _ _ _ _ _ hl] at hr
    simp only [Bool.and_eq_true, Bool.or_eq_true, decide_eq_true_eq, Bool.not_eq_true', Bool.and_eq_false_iff, Bool.or_eq_false_iff, decide_eq_false_iff_not] at hr
    rcases hr with ⟨h1, rfl⟩ | ⟨h1, h2⟩
    · exact .base ⟨e, h1⟩
    · have hP := h.p i l hi h1
      rcases h2 with h2 | ⟨h2, h3⟩
      · rw [(Pl_ln hP).2] at h2; cases h2
      · exact .step hP ⟨rfl, e, h2, h3⟩
def jnR (R : List (List Bool)) (b nv : Nat) (fa : List (List Bool)) (pa : List Bool) (v : Nat) : List (List Bool) :=
  (List.range R.length).map fun (q : Nat) => if q = b + nv then addB R[q]! pa else if b ≤ q ∧ q < b + v then addB R[q]! fa[q - b]! else R[q]!
theorem jnR_len (R : List (List Bool)) (b nv : Nat) (fa : List (List Bool)) (pa : List Bool) (v : Nat) : (jnR R b nv fa pa v).length = R.length := by simp [jnR]
theorem jnR_get (R : List (List Bool)) (b nv : Nat) (fa : List (List Bool)) (pa : List Bool) (v q : Nat) (h : q < R.length) : (jnR R b nv fa pa v)[q]! = if q = b + nv then addB R[q]! pa else if b ≤ q ∧ q < b + v then addB R[q]! fa[q - b]! else R[q]! := mapR_get _ _ _ h
def fcS (ts : List Int) (pts : List Pnt) (R : List (List Bool)) : Nat := fcR pts.length (pts.length * (ts.length + 1)) R
structure FS (ts : List Int) (pts : List Pnt) (R0 R : List (List Bool)) (c : Bool) (D : Nat → Nat → Prop) : Prop where
  d : FSd ts pts R
  dec : c = true → fcS ts pts R < fcS ts pts R0
  same : c = false → R = R0 ∧ ∀ i k, i < pts.length → k < pts[i]!.next.length → D i k →
    wiB (afR ts pts i (rwF ts.length R i)) (rwF ts.length R (pts[i]!.next[k]!).toNat) (afQ ts pts i (rwP ts.length R i)) (rwP ts.length R (pts[i]!.next[k]!).toNat) = true
theorem FS.mono {ts : List Int} {pts : List Pnt} {R0 R : List (List Bool)} {c : Bool} {D D' : Nat → Nat → Prop} (h : FS ts pts R0 R c D) (k : ∀ i k, i < pts.length → k < pts[i]!.next.length → D' i k → D i k) : FS ts pts R0 R c D' :=
  ⟨h.d, h.dec, fun hc => ⟨(h.same hc).1, fun i q hi hq hd => (h.same hc).2 i q hi hq (k i q hi hq hd)⟩⟩
theorem FS.skip {ts : List Int} {pts : List Pnt} {R0 R R1 : List (List Bool)} {c : Bool} {D D' : Nat → Nat → Prop} (h : FS ts pts R0 R c D) {i k : Nat} (h1 : c = false → R = R1)
    (hw : wiB (afR ts pts i (rwF ts.length R1 i)) (rwF ts.length R (pts[i]!.next[k]!).toNat) (afQ ts pts i (rwP ts.length R1 i)) (rwP ts.length R (pts[i]!.next[k]!).toNat) = true)
    (hD : ∀ i' k', i' < pts.length → k' < pts[i']!.next.length → D' i' k' → D i' k' ∨ (i' = i ∧ k' = k)) : FS ts pts R0 R c D' :=
  ⟨h.d, h.dec, fun hc => ⟨(h.same hc).1, fun i' q hi hq hd => by
    rcases hD i' q hi hq hd with h2 | ⟨rfl, rfl⟩
    · exact (h.same hc).2 i' q hi hq h2
    · have := h1 hc; subst this; exact hw⟩⟩
theorem FS.hit {ts : List Int} {pts : List Pnt} (w : WG ts pts) {R0 R R1 : List (List Bool)} {c : Bool} {D : Nat → Nat → Prop} (D' : Nat → Nat → Prop) (h : FS ts pts R0 R c D) (h1 : FSd ts pts R1) {i k : Nat} (hi : i < pts.length) (hk : k < pts[i]!.next.length)
    (hw : wiB (afR ts pts i (rwF ts.length R1 i)) (rwF ts.length R (pts[i]!.next[k]!).toNat) (afQ ts pts i (rwP ts.length R1 i)) (rwP ts.length R (pts[i]!.next[k]!).toNat) = false) :
    FS ts pts R0 (jnR R ((pts[i]!.next[k]!).toNat * (ts.length + 1)) ts.length (afR ts pts i (rwF ts.length R1 i)) (afQ ts pts i (rwP ts.length R1 i)) ts.length) true D' := by
  have e := idx_edge w hi hk
  have hn := edge_lt w e
  obtain ⟨hf, hp⟩ := h1.aft w e
  generalize hnn : (pts[i]!.next[k]!).toNat = n at *
  have hlo := h.d.lo
  have hix : n * (ts.length + 1) + ts.length < R.length := by rw [hlo]; exact ix_lt hn (by omega)
  have hlen : ∀ q, q < R.length → (jnR R (n * (ts.length + 1)) ts.length (afR ts pts i (rwF ts.length R1 i)) (afQ ts pts i (rwP ts.length R1 i)) ts.length)[q]!.length = pts.length := by
    intro q hq
    rw [jnR_get _ _ _ _ _ _ _ hq]
    split
    · rw [addB_len]; exact h.d.ro q hq
    · split
      · rw [addB_len]; exact h.d.ro q hq
      · exact h.d.ro q hq
  have hmul : ∀ a b : Nat, a * (ts.length + 1) + ts.length = b * (ts.length + 1) + ts.length → a = b := fun a b q => Nat.eq_of_mul_eq_mul_right (Nat.succ_pos ts.length) (Nat.add_right_cancel q)
  have hmono : ∀ q, q < R.length → ∀ l, l < pts.length → R[q]![l]! = true → (jnR R (n * (ts.length + 1)) ts.length (afR ts pts i (rwF ts.length R1 i)) (afQ ts pts i (rwP ts.length R1 i)) ts.length)[q]![l]! = true := by
    intro q hq l hl hr
    have hro := h.d.ro q hq
    rw [jnR_get _ _ _ _ _ _ _ hq]
    split
    · rw [addB_get _ _ _ (by omega), hr]; rfl
    · split
      · rw [addB_get _ _ _ (by omega), hr]; rfl
      · exact hr
  refine ⟨⟨by rw [jnR_len]; exact hlo, fun q hq => by rw [jnR_len] at hq; exact hlen q hq, fun m v l hm hv hr => ?_, fun m l hm hr => ?_⟩, fun _ => ?_, fun hc => by cases hc⟩
  · have hq : m * (ts.length + 1) + v < R.length := by rw [hlo]; exact ix_lt hm (by omega)
    have hl := get_lt hr
    rw [hlen _ hq] at hl
    rw [jnR_get _ _ _ _ _ _ _ hq] at hr
    split at hr
    · rename_i q
      exfalso
      rcases Nat.lt_trichotomy m n with h3 | h3 | h3
      · have : (m + 1) * (ts.length + 1) ≤ n * (ts.length + 1) := Nat.mul_le_mul_right _ h3
        rw [Nat.add_mul, Nat.one_mul] at this; omega
      · subst h3; omega
      · have : (n + 1) * (ts.length + 1) ≤ m * (ts.length + 1) := Nat.mul_le_mul_right _ h3
        rw [Nat.add_mul, Nat.one_mul] at this; omega
    · split at hr
      · rename_i q
        have hmn : m = n := by
          rcases Nat.lt_trichotomy m n with h3 | h3 | h3
          · have : (m + 1) * (ts.length + 1) ≤ n * (ts.length + 1) := Nat.mul_le_mul_right _ h3
            rw [Nat.add_mul, Nat.one_mul] at this; omega
          · exact h3
          · have : (n + 1) * (ts.length + 1) ≤ m * (ts.length + 1) := Nat.mul_le_mul_right _ h3
            rw [Nat.add_mul, Nat.one_mul] at this; omega
        subst hmn
        rw [Nat.add_sub_cancel_left, addB_get _ _ _ (by rw [h.d.ro _ hq]; exact hl)] at hr
        simp only [Bool.or_eq_true, Bool.and_eq_true] at hr
        rcases hr with hr | ⟨_, hr⟩
        · exact h.d.f _ v l hm hv hr
        · exact hf v l hv hr
      · exact h.d.f m v l hm hv hr
  · have hq : m * (ts.length + 1) + ts.length < R.length := by rw [hlo]; exact ix_lt hm (by omega)
    have hl := get_lt hr
    rw [hlen _ hq] at hl
    rw [jnR_get _ _ _ _ _ _ _ hq] at hr
    split at hr
    · rename_i q
      have := hmul _ _ q
      subst this
      rw [addB_get _ _ _ (by rw [h.d.ro _ hq]; exact hl)] at hr
      simp only [Bool.or_eq_true, Bool.and_eq_true] at hr
      rcases hr with hr | ⟨_, hr⟩
      · exact h.d.p _ l hm hr
      · exact hp l hr
    · split at hr
      · rename_i q
        exfalso
        rcases Nat.lt_trichotomy m n with h3 | h3 | h3
        · have : (m + 1) * (ts.length + 1) ≤ n * (ts.length + 1) := Nat.mul_le_mul_right _ h3
          rw [Nat.add_mul, Nat.one_mul] at this; omega
        · subst h3; omega
        · have : (n + 1) * (ts.length + 1) ≤ m * (ts.length + 1) := Nat.mul_le_mul_right _ h3
          rw [Nat.add_mul, Nat.one_mul] at this; omega
      · exact h.d.p m l hm hr
  · -- one more entry
    have hlt : fcS ts pts (jnR R (n * (ts.length + 1)) ts.length (afR ts pts i (rwF ts.length R1 i)) (afQ ts pts i (rwP ts.length R1 i)) ts.length) < fcS ts pts R := by
      have hc2 : ¬ ∀ l, l < (afQ ts pts i (rwP ts.length R1 i)).length → ((afQ ts pts i (rwP ts.length R1 i))[l]! = true → (rwP ts.length R n)[l]! = true) ∧ ∀ v, v < (afR ts pts i (rwF ts.length R1 i)).length → (afR ts pts i (rwF ts.length R1 i))[v]![l]! = true → (rwF ts.length R n)[v]![l]! = true := by
        intro hall
        rw [(wiB_iff _ _ _ _).2 hall] at hw; cases hw
      apply Classical.byContradiction
      intro hnl
      refine hc2 fun l hl => ?_
      rw [afQ_len] at hl
      have hmon := fun q (hq : q < pts.length * (ts.length + 1)) => cntF_mono (nv := pts.length) (hmono q (by omega))
      refine ⟨fun ha => ?_, fun v hv ha => ?_⟩
      · apply Classical.byContradiction
        intro hb
        rw [Bool.not_eq_true] at hb
        unfold rwP at hb
        refine hnl (fcR_lt hmon (i := n * (ts.length + 1) + ts.length) (by omega) (cntF_lt (hmono _ hix) hl hb ?_))
        rw [jnR_get _ _ _ _ _ _ _ hix, if_pos rfl, addB_get _ _ _ (by rw [h.d.ro _ hix]; exact hl), ha, afQ_len, decide_eq_true hl]; simp
      · rw [afR_len] at hv
        have hq : n * (ts.length + 1) + v < R.length := by rw [hlo]; exact ix_lt hn (by omega)
        apply Classical.byContradiction
        intro hb
        rw [Bool.not_eq_true, rwF_get hlo hn hv] at hb
        refine hnl (fcR_lt hmon (i := n * (ts.length + 1) + v) (by omega) (cntF_lt (hmono _ hq) hl hb ?_))
        rw [jnR_get _ _ _ _ _ _ _ hq, if_neg (by omega), if_pos (by omega), Nat.add_sub_cancel_left, addB_get _ _ _ (by rw [h.d.ro _ hq]; exact hl), ha]
        rw [decide_eq_true (get_lt ha)]; simp
    cases hc : c with
    | true => have := h.dec hc; omega
    | false => rw [← (h.same hc).1]; exact hlt
structure FH (ts : List Int) (pts : List Pnt) (R : List (List Bool)) (c : Bool) : Prop where
  d : FSd ts pts R
  cl : c = false → ∀ i k, i < pts.length → k < pts[i]!.next.length →
    wiB (afR ts pts i (rwF ts.length R i)) (rwF ts.length R (pts[i]!.next[k]!).toNat) (afQ ts pts i (rwP ts.length R i)) (rwP ts.length R (pts[i]!.next[k]!).toNat) = true
def DF (j kk : Nat) (i k : Nat) : Prop := i < j ∨ (i = j ∧ k < kk)
theorem FH.start {ts : List Int} {pts : List Pnt} {R : List (List Bool)} {c : Bool} (h : FH ts pts R c) : FS ts pts R R false (DF 0 0) :=
  ⟨h.d, fun hc => (by cases hc), fun _ => ⟨rfl, fun i k hi hk hd => by unfold DF at hd; omega⟩⟩
def muF (ts : List Int) (pts : List Pnt) (R : List (List Bool)) (c : Bool) : Nat := 2 * fcS ts pts R + (if c = true then 1 else 0)
theorem FS.fin {ts : List Int} {pts : List Pnt} {R0 R : List (List Bool)} {c : Bool} {j : Nat} (hz : pts.length ≤ j) (h : FS ts pts R0 R c (DF j 0)) : FH ts pts R c ∧ muF ts pts R c < muF ts pts R0 true := by
  refine ⟨⟨h.d, fun hc i k hi hk => (h.same hc).2 i k hi hk (.inl (by omega))⟩, ?_⟩
  unfold muF
  cases hc : c with
  | true => have := h.dec hc; simp only [if_true]; omega
  | false => rw [(h.same hc).1]; simp
end Go.AL

namespace Go.AL
end Go.AL

namespace Go.AL
open Go.RowKit
set_option linter.unusedVariables false
set_option linter.unusedSimpArgs false

def famB (R : List (List Bool)) : List (Nat × Option (List AV)) := (List.range R.length).map fun k => (k + big, some (flat cB R[k]!))

inductive FamR (R R' : List (List Bool)) : List (Nat × Option (List AV)) → List (Nat × Option (List AV)) → Prop
  | here : FamR R R' (famB R) (famB R')
  | cons {t : Nat} {v : Option (List AV)} {l l' : List (Nat × Option (List AV))} : Nat.blt t big = true → FamR R R' l l' → FamR R R' ((t, v) :: l) ((t, v) :: l')
theorem FamR.nil : FamR [] [] [] [] := FamR.here
theorem FamR.symm {R R' : List (List Bool)} {hs hs' : List (Nat × Option (List AV))} (h : FamR R R' hs hs') : FamR R' R hs' hs := by
  induction h with
  | here => exact .here
  | cons ht _ ih => exact .cons ht ih
section
variable {P : Program} {N : Nat} {Q : Exit → AS → Prop} {all : Array Oper} {rest : List Oper} {ts : List (Nat × AV)} {hs : List (Nat × Option (List AV))} {n : Nat} {z0 : Lo} {md : Md}
variable {d : Nat} {ty : TypeId} {pos : String} {af : Array Edge}
end
mutual
inductive Ld (D : List Nat) (H : Nat → Option (List AV)) : AV → AV → Prop
  | pur {v : AV} : v.pur = true → Ld D H v v
  | own {id m e : Nat} {cs cs' : List AV} : id ∈ D → H id = some cs → LdL D H cs cs' → Ld D H (.own id 0 m e) (.imm m cs')
  | optr {id : Nat} {cs cs' : List AV} : id ∈ D → H id = some cs → LdL D H cs cs' → Ld D H (.optr id 0) (.iptr cs')
  | imm {m : Nat} {cs cs' : List AV} : LdL D H cs cs' → Ld D H (.imm m cs) (.imm m cs')
  | agg {cs cs' : List AV} : LdL D H cs cs' → Ld D H (.agg cs) (.agg cs')
inductive LdL (D : List Nat) (H : Nat → Option (List AV)) : List AV → List AV → Prop
  | pur {v : List AV} : pursB v = true → LdL D H v v
  | nil : LdL D H [] []
  | cons {c c' : AV} {cs cs' : List AV} : Ld D H c c' → LdL D H cs cs' → LdL D H (c :: cs) (c' :: cs')
end
mutual
theorem Ld.agr {D : List Nat} {H H' : Nat → Option (List AV)} (h : ∀ id ∈ D, H id = H' id) : ∀ {v v' : AV}, Ld D H v v' → Ld D H' v v'
  | _, _, .pur hp => .pur hp
  | _, _, .own h1 h2 h3 => .own h1 (by rw [← h _ h1]; exact h2) (LdL.agr h h3)
  | _, _, .optr h1 h2 h3 => .optr h1 (by rw [← h _ h1]; exact h2) (LdL.agr h h3)
  | _, _, .imm h3 => .imm (LdL.agr h h3)
  | _, _, .agg h3 => .agg (LdL.agr h h3)
theorem LdL.agr {D : List Nat} {H H' : Nat → Option (List AV)} (h : ∀ id ∈ D, H id = H' id) : ∀ {v v' : List AV}, LdL D H v v' → LdL D H' v v'
  | _, _, .pur hp => .pur hp
  | _, _, .nil => .nil
  | _, _, .cons h1 h2 => .cons (Ld.agr h h1) (LdL.agr h h2)
end
mutual
theorem Ld.purR {D : List Nat} {H : Nat → Option (List AV)} : ∀ {v v' : AV}, Ld D H v v' → v'.pur = true
  | _, _, .pur hp => hp
  | _, _, .own h1 h2 h3 => LdL.purR h3
  | _, _, .optr h1 h2 h3 => LdL.purR h3
  | _, _, .imm h3 => LdL.purR h3
  | _, _, .agg h3 => LdL.purR h3
theorem LdL.purR {D : List Nat} {H : Nat → Option (List AV)} : ∀ {v v' : List AV}, LdL D H v v' → pursB v' = true
  | _, _, .pur hp => hp
  | _, _, .nil => rfl
  | _, _, .cons h1 h2 => by simp only [pursB, Ld.purR h1, LdL.purR h2, Bool.and_self]
end
theorem LdL.len {D : List Nat} {H : Nat → Option (List AV)} : ∀ {v v' : List AV}, LdL D H v v' → v.length = v'.length
  | _, _, .pur hp => rfl
  | _, _, .nil => rfl
  | _, _, .cons h1 h2 => by simp [LdL.len h2]
mutual
theorem Ld.ok {C : Ctx} {ι : Pl} {F : Nat → Prop} {D : List Nat} {H : Nat → Option (List AV)} {w : World} (g : HG C ι F H w) : ∀ {v v' : AV}, Ld D H v v' → ∀ {y : Value}, Rd w (badOf C.X ι H) ι v y → Rd w C.X (fun _ => none) v' y
  | _, _, .pur hp, y, k => Rd.pur _ y hp (Rd.carry (⟨fun b o x h1 h2 => ⟨fun q => h1 (.inl q), h2⟩, fun _ _ h => h, fun _ => Nat.le_refl _⟩ : Carry w (badOf C.X ι H) ι w C.X ι) _ _ k)
  | _, _, .own (id := id) (m := m) h1 h2 h3, y, k => by
    have hlen := LdL.len h3
    simp only [Rd] at k ⊢
    rcases k with ⟨_, rfl, a, rfl⟩ | ⟨b, β, c, q1, rfl, q2, q3⟩
    · exact ⟨a, 0, rfl, .inl rfl⟩
    · rcases g.obj id _ h2 with ⟨p1, _⟩ | ⟨b', β', arr, e', p1, p2, p3, p4, p5, p6⟩
      · rw [p1] at q1; cases q1
      · rw [p1] at q1; cases q1
        exact ⟨_, c, rfl, .inr ⟨b, β + 0, q2, rfl, .inr ⟨p5, LdL.okC g h3 p4⟩⟩⟩
  | _, _, .optr (id := id) h1 h2 h3, y, k => by
    simp only [Rd] at k ⊢
    obtain ⟨b, β, q1, rfl⟩ := k
    rcases g.obj id _ h2 with ⟨p1, _⟩ | ⟨b', β', arr, e', p1, p2, p3, p4, p5, p6⟩
    · rw [p1] at q1; cases q1
    · rw [p1] at q1; cases q1
      exact ⟨b, β + 0, rfl, .inr ⟨p5, LdL.okC g h3 p4⟩⟩
  | _, _, .imm (cs := cs) (cs' := cs') h3, y, k => by
    have hlen := LdL.len h3
    simp only [Rd] at k ⊢
    obtain ⟨a, c, rfl, k⟩ := k
    refine ⟨a, c, rfl, ?_⟩
    rcases k with k | ⟨b, o, hn, rfl, k⟩
    · exact .inl k
    · refine .inr ⟨b, o, hn, rfl, ?_⟩
      rcases k with k | ⟨hb, k⟩
      · subst k; exact .inl (List.eq_nil_of_length_eq_zero (by rw [← hlen]; rfl))
      · exact .inr ⟨fun q => hb (.inl q), LdL.okC g h3 k⟩
  | _, _, .agg h3, y, k => by
    simp only [Rd] at k ⊢
    obtain ⟨l, h1, h2⟩ := k
    exact ⟨l, h1, LdL.okL g h3 h2⟩
theorem LdL.okC {C : Ctx} {ι : Pl} {F : Nat → Prop} {D : List Nat} {H : Nat → Option (List AV)} {w : World} (g : HG C ι F H w) : ∀ {v v' : List AV}, LdL D H v v' → ∀ {b o : Nat}, RdC w (badOf C.X ι H) ι v b o → RdC w C.X (fun _ => none) v' b o
  | _, _, .pur hp, b, o, k => RdC.pur _ b o hp (RdC.carryB (⟨fun b o x h1 h2 => ⟨fun q => h1 (.inl q), h2⟩, fun _ _ h => h, fun _ => Nat.le_refl _⟩ : Carry w (badOf C.X ι H) ι w C.X ι) _ _ _ (fun o x hx => hx) k)
  | _, _, .nil, b, o, k => by simp only [RdC]
  | _, _, .cons h1 h2, b, o, k => by
    simp only [RdC] at k ⊢
    obtain ⟨⟨x, q1, q2, q3⟩, q4⟩ := k
    exact ⟨⟨x, q1, q2, Ld.ok g h1 q3⟩, LdL.okC g h2 q4⟩
theorem LdL.okL {C : Ctx} {ι : Pl} {F : Nat → Prop} {D : List Nat} {H : Nat → Option (List AV)} {w : World} (g : HG C ι F H w) : ∀ {v v' : List AV}, LdL D H v v' → ∀ {y : List Value}, RdL w (badOf C.X ι H) ι v y → RdL w C.X (fun _ => none) v' y
  | _, _, .pur hp, y, k => RdL.pur _ y hp (RdL.carry (⟨fun b o x h1 h2 => ⟨fun q => h1 (.inl q), h2⟩, fun _ _ h => h, fun _ => Nat.le_refl _⟩ : Carry w (badOf C.X ι H) ι w C.X ι) _ _ k)
  | _, _, .nil, y, k => by simpa only [RdL] using k
  | _, _, .cons h1 h2, y, k => by
    simp only [RdL] at k ⊢
    obtain ⟨x, l', q0, q1, q2, q3⟩ := k
    exact ⟨x, l', q0, q1, Ld.ok g h1 q2, LdL.okL g h2 q3⟩
end
theorem LdL.okV {C : Ctx} {ι : Pl} {F : Nat → Prop} {D : List Nat} {H : Nat → Option (List AV)} {w : World} (g : HG C ι F H w) : ∀ {v v' : List AV}, LdL D H v v' → ∀ {y : List Value}, RdV w (badOf C.X ι H) ι v y → RdV w C.X (fun _ => none) v' y
  | _, _, .pur hp, y, k => RdV.pur _ y hp (RdV.carry (⟨fun b o x h1 h2 => ⟨fun q => h1 (.inl q), h2⟩, fun _ _ h => h, fun _ => Nat.le_refl _⟩ : Carry w (badOf C.X ι H) ι w C.X ι) _ _ k)
  | _, _, .nil, y, k => by simpa only [RdV] using k
  | _, _, .cons h1 h2, y, k => by
    simp only [RdV] at k ⊢
    obtain ⟨x, l', q0, q2, q3⟩ := k
    exact ⟨x, l', q0, Ld.ok g h1 q2, LdL.okV g h2 q3⟩
theorem LdL.flt {D : List Nat} {H : Nat → Option (List AV)} {α : Type} {f f' : α → List AV} : ∀ {xs : List α}, (∀ x ∈ xs, LdL D H (f x) (f' x)) → LdL D H (flat f xs) (flat f' xs)
  | [], _ => .nil
  | x :: xs, h => by
    have h1 := h x (List.mem_cons_self)
    have h2 := LdL.flt (f := f) (f' := f') (xs := xs) (fun y hy => h y (List.mem_cons_of_mem _ hy))
    have app : ∀ {a a' b b' : List AV}, LdL D H a a' → LdL D H b b' → LdL D H (a ++ b) (a' ++ b') := by
      intro a a' b b' ha hb
      induction a generalizing a' with
      | nil =>
        have := LdL.len ha
        cases a' with
        | nil => exact hb
        | cons _ _ => simp at this
      | cons c cs ih =>
        cases ha with
        | pur hp =>
          simp only [pursB, Bool.and_eq_true] at hp
          exact .cons (.pur hp.1) (ih (.pur hp.2))
        | cons q1 q2 => exact .cons q1 (ih q2)
    simp only [Go.AL.flat, List.flatMap_cons] at h2 ⊢
    exact app h1 h2
section
variable {P : Program} {N : Nat} {Q : Exit → AS → Prop} {all : Array Oper} {rest : List Oper} {ts : List (Nat × AV)} {hs : List (Nat × Option (List AV))} {n : Nat} {z0 : Lo} {md : Md}
variable {d : Nat} {ty : TypeId} {pos : String} {af : Array Edge}
theorem rx_lendG {k : FuncId} {args : Array Operand} {tys : Array TypeId} {avs avs2 : List AV} {r : AV} (D : List Nat) [hc : CaT P k] (ha : evL (lk ts) args.toList = some avs) (hl : LdL D (lkH hs) avs avs2) (h : PC P k avs2 (fun x => x = r)) (hfr : r.free = true) (hN : Nat.blt d N = true)
    {md' : Md} [hmd : MdA md (rOs args.toList ++ D.map .inr) [.inl d] md'] (kk : RW P N all Q md' rest ⟨(d, r) :: ts, hs, n, z0⟩) : RW P N all Q md (⟨some d, .call ⟨.value (.func k), args, tys⟩, ty, pos, af, none⟩ :: rest) ⟨ts, hs, n, z0⟩ := by
  refine rw_step (rs := rOs args.toList ++ D.map .inr) (ws := []) (n' := n) (out := r) rfl (Nat.le_refl _) (.inl rfl) (fun C ι F T H a w K Q' hCN ag hF g gh hK => ?_) (fun x hx => by cases hx; exact ltb hN) (by rw [← hmd.pf] at kk; exact kk)
  simp only [Oper.wp, exec_call hc.pf, Oper.upon]
  have hl' : LdL D H avs avs2 := hl.agr fun id hid => (ag.r.h id (List.mem_map_of_mem hid)).symm
  have hv := hl'.okV gh (evL_ok g (ag.l.evL.trans ha))
  let C' : Ctx := { N := 0, w0 := w, W0 := fun _ => False, X := C.X, ι0 := fun _ => none, xlt := fun b hb => Nat.lt_of_lt_of_le (C.xlt b hb) gh.fr.size }
  have hbad : ∀ b, badOf C'.X (fun _ => none) (lkH []) b ↔ C.X b := fun b => ⟨fun h => (by rcases h with h | ⟨id, cs, β, h1, h2⟩ <;> first | exact h | cases h2), fun h => Or.inl h⟩
  have g' : HG C' (fun _ => none) (fun j => 0 ≤ j) (lkH []) w :=
    ⟨fun id cs h => by simp [lkH] at h, fun id id' cs cs' b β β' h => by simp [lkH] at h, Fr.refl _ _, fun _ _ h => h, fun _ _ => rfl⟩
  have hcar : Carry w C.X (fun _ => none) w (badOf C'.X (fun _ => none) (lkH [])) (fun _ => none) := ⟨fun b o x h1 h2 => ⟨fun h => h1 ((hbad b).1 h), h2⟩, fun _ _ h => h, fun _ => Nat.le_refl _⟩
  refine (h C' _ w _ rfl rfl g' (RdV.carry hcar _ _ hv)).mono ?_
  rintro e w' ⟨v, r', H', ι', rfl, ⟨rfl, _⟩, h4, h5⟩
  obtain ⟨g2, c2⟩ := gh.ext h5.fr
  exact hK ι w' v (g.carry c2) (g2.less (fun _ _ h => h) (fun j hj => hj.1)).1 (Rd.free _ _ hfr h4)
end
end Go.AL

namespace Go.AL
open Go.RowKit
set_option linter.unusedVariables false
set_option linter.unusedSimpArgs false

mutual
theorem RnV.bw {w : World} {ρ : Nat → Option Nat} {bad bad' : Nat → Prop} {ι ι' : Pl} (h : ∀ i i', ρ i = some i' → ι i = ι' i') (hc : ∀ b, bad b → bad' b) : ∀ {v v' : AV}, RnV ρ v v' → ∀ {y : Value}, Rd w bad' ι' v' y → Rd w bad ι v y
  | _, _, .pur hp, y, k => Rd.pur _ y hp (Rd.carry (⟨fun b o x h1 h2 => ⟨fun q => h1 (hc b q), h2⟩, fun _ _ h => h, fun _ => Nat.le_refl _⟩ : Carry w bad' ι' w bad ι') _ _ k)
  | _, _, .own hi, y, k => by simp only [Rd, h _ _ hi] at k ⊢; exact k
  | _, _, .optr hi, y, k => by simp only [Rd, h _ _ hi] at k ⊢; exact k
  | _, _, .imm (cs := cs) (cs' := cs') hl, y, k => by
    have hlen := RnL.len hl
    simp only [Rd] at k ⊢
    obtain ⟨a, c, rfl, k⟩ := k
    refine ⟨a, c, rfl, ?_⟩
    rcases k with k | ⟨b, o, hn, rfl, k⟩
    · exact .inl k
    · refine .inr ⟨b, o, hn, rfl, ?_⟩
      rcases k with k | ⟨hb, k⟩
      · subst k; exact .inl (List.eq_nil_of_length_eq_zero (by rw [hlen]; rfl))
      · exact .inr ⟨fun q => hb (hc b q), RnL.bwC h hc hl k⟩
  | _, _, .agg hl, y, k => by
    simp only [Rd] at k ⊢
    obtain ⟨l, h1, h2⟩ := k
    exact ⟨l, h1, RnL.bwL h hc hl h2⟩
  | _, _, .tup hl, y, k => by
    simp only [Rd] at k ⊢
    obtain ⟨l, h1, h2⟩ := k
    exact ⟨l, h1, RnL.bwV h hc hl h2⟩
theorem RnL.bwL {w : World} {ρ : Nat → Option Nat} {bad bad' : Nat → Prop} {ι ι' : Pl} (h : ∀ i i', ρ i = some i' → ι i = ι' i') (hc : ∀ b, bad b → bad' b) : ∀ {v v' : List AV}, RnL ρ v v' → ∀ {y : List Value}, RdL w bad' ι' v' y → RdL w bad ι v y
  | _, _, .pur hp, y, k => RdL.pur _ y hp (RdL.carry (⟨fun b o x h1 h2 => ⟨fun q => h1 (hc b q), h2⟩, fun _ _ h => h, fun _ => Nat.le_refl _⟩ : Carry w bad' ι' w bad ι') _ _ k)
  | _, _, .nil, y, k => by simpa only [RdL] using k
  | _, _, .cons h1 h2, y, k => by
    simp only [RdL] at k ⊢
    obtain ⟨x, l', q0, q1, q2, q3⟩ := k
    exact ⟨x, l', q0, q1, RnV.bw h hc h1 q2, RnL.bwL h hc h2 q3⟩
theorem RnL.bwV {w : World} {ρ : Nat → Option Nat} {bad bad' : Nat → Prop} {ι ι' : Pl} (h : ∀ i i', ρ i = some i' → ι i = ι' i') (hc : ∀ b, bad b → bad' b) : ∀ {v v' : List AV}, RnL ρ v v' → ∀ {y : List Value}, RdV w bad' ι' v' y → RdV w bad ι v y
  | _, _, .pur hp, y, k => RdV.pur _ y hp (RdV.carry (⟨fun b o x h1 h2 => ⟨fun q => h1 (hc b q), h2⟩, fun _ _ h => h, fun _ => Nat.le_refl _⟩ : Carry w bad' ι' w bad ι') _ _ k)
  | _, _, .nil, y, k => by simpa only [RdV] using k
  | _, _, .cons h1 h2, y, k => by
    simp only [RdV] at k ⊢
    obtain ⟨x, l', q0, q2, q3⟩ := k
    exact ⟨x, l', q0, RnV.bw h hc h1 q2, RnL.bwV h hc h2 q3⟩
theorem RnL.bwC {w : World} {ρ : Nat → Option Nat} {bad bad' : Nat → Prop} {ι ι' : Pl} (h : ∀ i i', ρ i = some i' → ι i = ι' i') (hc : ∀ b, bad b → bad' b) : ∀ {v v' : List AV}, RnL ρ v v' → ∀ {b o : Nat}, RdC w bad' ι' v' b o → RdC w bad ι v b o
  | _, _, .pur hp, b, o, k => RdC.pur _ b o hp (RdC.carryB (⟨fun b o x h1 h2 => ⟨fun q => h1 (hc b q), h2⟩, fun _ _ h => h, fun _ => Nat.le_refl _⟩ : Carry w bad' ι' w bad ι') _ _ _ (fun o x hx => hx) k)
  | _, _, .nil, b, o, k => by simp only [RdC]
  | _, _, .cons h1 h2, b, o, k => by
    simp only [RdC] at k ⊢
    obtain ⟨⟨x, q1, q2, q3⟩, q4⟩ := k
    exact ⟨⟨x, q1, q2, RnV.bw h hc h1 q3⟩, RnL.bwC h hc h2 q4⟩
end
theorem RnL.app {ρ : Nat → Option Nat} : ∀ {a a' b b' : List AV}, RnL ρ a a' → RnL ρ b b' → RnL ρ (a ++ b) (a' ++ b')
  | [], a', b, b', ha, hb => by
    have := ha.len
    cases a' with
    | nil => exact hb
    | cons _ _ => simp at this
  | c :: cs, _, b, b', .pur hp, hb => by
    simp only [pursB, Bool.and_eq_true] at hp
    exact .cons (.pur hp.1) (RnL.app (.pur hp.2) hb)
  | c :: cs, _, b, b', .cons h1 h2, hb => .cons h1 (RnL.app h2 hb)
theorem RnL.flt {ρ : Nat → Option Nat} {α : Type} {f f' : α → List AV} : ∀ {xs : List α}, (∀ x ∈ xs, RnL ρ (f x) (f' x)) → RnL ρ (flat f xs) (flat f' xs)
  | [], _ => .nil
  | x :: xs, h => by
    have h1 := h x (List.mem_cons_self)
    have h2 := RnL.flt (f := f) (f' := f') (xs := xs) (fun y hy => h y (List.mem_cons_of_mem _ hy))
    simp only [flat, List.flatMap_cons] at h2 ⊢
    exact h1.app h2

end Go.AL

namespace Go.AL
open Go.RowKit
set_option linter.unusedVariables false
set_option linter.unusedSimpArgs false

section
variable {P : Program} {N : Nat} {Q : Exit → AS → Prop}
end

end Go.AL

namespace Go.AL
open Go.RowKit
attribute [local irreducible] big
set_option linter.unusedVariables false
set_option linter.unusedSimpArgs false

section
variable {P : Program} {N : Nat} {Q : Exit → AS → Prop} {all : Array Oper} {rest : List Oper} {ts : List (Nat × AV)} {hs : List (Nat × Option (List AV))} {n : Nat} {z0 : Lo} {md : Md}
variable {d : Nat} {ty : TypeId} {pos : String} {af : Array Edge}
end
end Go.AL

namespace Go.AL
open Go.RowKit
set_option linter.unusedVariables false
set_option linter.unusedSimpArgs false
theorem Le.virt {ts : List (Nat × AV)} {hs : List (Nat × Option (List AV))} {n : Nat} {z0 : Lo} (hn : n < big) : Le ⟨ts, hs, n, z0⟩ ⟨ts, (n, some []) :: hs, n + 1, z0⟩ := by
  rintro C a w ⟨h0, ι, g, gh⟩
  obtain ⟨g1, c1⟩ := gh.virt (id := n) ⟨Nat.le_refl _, .inl hn⟩
  have e : lkH ((n, some []) :: hs) = upd (lkH hs) n (some []) := lkH_cons _ _ _
  refine ⟨h0, upd ι n (some none), ?_, ?_⟩
  · show TG C _ (lk ts) (lkH ((n, some []) :: hs)) a w
    rw [e]; exact g.carry c1
  · show HG C _ _ (lkH ((n, some []) :: hs)) w
    rw [e]
    refine (g1.less (fun _ _ h => h) (fun j hj => ?_)).1
    have h1 : n + 1 ≤ j := hj.1
    exact ⟨⟨by show n ≤ j; omega, hj.2⟩, by omega⟩
theorem Le.cellsN {ts : List (Nat × AV)} {hs : List (Nat × Option (List AV))} {n : Nat} {z0 : Lo} {i q : Nat} {cs cs' cq : List AV} (hi : lkH hs i = some cs) (hq : lkH hs q = some cq) (hl : cs'.length = cs.length)
    (h : ∀ (w : World) (bad : Nat → Prop) (ι : Pl) (b β : Nat), (∃ p, ι q = some p) → RdC w bad ι cs b β → RdC w bad ι cs' b β) :
    Le ⟨ts, hs, n, z0⟩ ⟨ts, (i, some cs') :: hs, n, z0⟩ := by
  rintro C a w ⟨h0, ι, g, gh⟩
  have hqq : ∃ p, ι q = some p := by
    rcases gh.obj q cq hq with ⟨p1, _⟩ | ⟨_, _, _, _, p1, _⟩ <;> exact ⟨_, p1⟩
  have hk : ∀ id c, lkH ((i, some cs') :: hs) id = some c → (id = i ∧ c = cs') ∨ (id ≠ i ∧ lkH hs id = some c) := by
    intro id c hc
    rw [lkH_c] at hc
    split at hc
    · rename_i e; cases hc; exact .inl ⟨e, rfl⟩
    · rename_i e; exact .inr ⟨fun h => e h, hc⟩
  have hk2 : ∀ id c, lkH hs id = some c → ∃ c', lkH ((i, some cs') :: hs) id = some c' := by
    intro id c hc
    rw [lkH_c]
    split
    · exact ⟨_, rfl⟩
    · exact ⟨_, hc⟩
  have hb : badOf C.X ι (lkH ((i, some cs') :: hs)) = badOf C.X ι (lkH hs) := by
    funext b
    refine propext ⟨?_, ?_⟩
    · rintro (h | ⟨id, c, β, h1, h2⟩)
      · exact .inl h
      · rcases hk id c h1 with ⟨rfl, _⟩ | ⟨_, h3⟩
        · exact .inr ⟨_, _, _, hi, h2⟩
        · exact .inr ⟨_, _, _, h3, h2⟩
    · rintro (h | ⟨id, c, β, h1, h2⟩)
      · exact .inl h
      · obtain ⟨c', h3⟩ := hk2 id c h1
        exact .inr ⟨_, _, _, h3, h2⟩
  refine ⟨h0, ι, ⟨g.df, g.sz, fun t av ht => ?_⟩, ?_, ?_, gh.fr, gh.ex, gh.fresh⟩
  · show ∃ y, a.tmps[t]? = some y ∧ Rd w (badOf C.X ι (lkH ((i, some cs') :: hs))) ι av y
    rw [hb]; exact g.tm t av ht
  · intro id c hc
    show _ ∨ ∃ b β arr e, ι id = some (some (b, β)) ∧ w.heap[b]? = some (.cells arr e (0, 0)) ∧ β + c.length ≤ arr.size ∧ RdC w (badOf C.X ι (lkH ((i, some cs') :: hs))) ι c b β ∧ ¬ C.X b ∧ (C.W0 b ∨ C.w0.heap.size ≤ b)
    rw [hb]
    rcases hk id c hc with ⟨rfl, rfl⟩ | ⟨_, h3⟩
    · rcases gh.obj _ _ hi with ⟨q1, q2⟩ | ⟨b, β, arr, e, q1, q2, q3, q4, q5⟩
      · subst q2
        exact .inl ⟨q1, List.eq_nil_of_length_eq_zero hl⟩
      · exact .inr ⟨b, β, arr, e, q1, q2, by rw [hl]; exact q3, h _ _ _ _ _ hqq q4, q5⟩
    · exact gh.obj _ _ h3
  · intro id id' c c' b β β' h1 h2 h3 h4
    obtain ⟨d1, e1⟩ : ∃ d, lkH hs id = some d := by
      rcases hk id c h1 with ⟨rfl, _⟩ | ⟨_, h⟩
      · exact ⟨_, hi⟩
      · exact ⟨_, h⟩
    obtain ⟨d2, e2⟩ : ∃ d, lkH hs id' = some d := by
      rcases hk id' c' h2 with ⟨rfl, _⟩ | ⟨_, h⟩
      · exact ⟨_, hi⟩
      · exact ⟨_, h⟩
    exact gh.sep id id' d1 d2 b β β' e1 e2 h3 h4
theorem RdC_mid {w : World} {bad : Nat → Prop} {ι : Pl} {c c' : AV} (hc : ∀ y, Rd w bad ι c y → Rd w bad ι c' y) : ∀ (a : List AV) (r : List AV) (b o : Nat), RdC w bad ι (a ++ c :: r) b o → RdC w bad ι (a ++ c' :: r) b o
  | [], r, b, o, h => by
    simp only [List.nil_append, RdC] at h ⊢
    obtain ⟨⟨x, h1, h2, h3⟩, h4⟩ := h
    exact ⟨⟨x, h1, h2, hc _ h3⟩, h4⟩
  | x :: a, r, b, o, h => by
    simp only [List.cons_append, RdC] at h ⊢
    exact ⟨h.1, RdC_mid hc a r b (o + 1) h.2⟩
theorem Le.nilCell {ts : List (Nat × AV)} {hs : List (Nat × Option (List AV))} {n : Nat} {z0 : Lo} {i : Nat} (e : Nat) (c1 : List AV) {c2 : List AV} (hi : lkH hs i = some (c1 ++ .v (.slice none 0 0) :: c2)) (hin : i ≠ n) (hn : n < big) :
    Le ⟨ts, hs, n, z0⟩ ⟨ts, (i, some (c1 ++ .own n 0 0 e :: c2)) :: (n, some []) :: hs, n + 1, z0⟩ :=
  (Le.virt hn).trans (Le.cellsN (q := n) (cs := c1 ++ .v (.slice none 0 0) :: c2) (by rw [lkH_c, if_neg hin]; exact hi) (by rw [lkH_c, if_pos rfl]) (by simp) fun w bad ι b β hp hr =>
    RdC_mid (fun y hy => by simp only [Rd] at hy ⊢; exact .inl ⟨hp, trivial, none, hy⟩) c1 c2 b β hr)
theorem Le.frzC {ts : List (Nat × AV)} {hs : List (Nat × Option (List AV))} {n : Nat} {z0 : Lo} {j i m e : Nat} (c1 : List AV) {c2 d : List AV} (hj : lkH hs j = some (c1 ++ .own i 0 m e :: c2)) (hi : lkH hs i = some d) (hij : j ≠ i) :
    Le ⟨ts, hs, n, z0⟩ ⟨ts, (j, some (c1 ++ .imm m d :: c2)) :: (i, none) :: hs, n, z0⟩ := by
  rintro C a w ⟨h0, ι, g, gh⟩
  have hk : ∀ id c, lkH ((j, some (c1 ++ .imm m d :: c2)) :: (i, none) :: hs) id = some c → (id = j ∧ c = c1 ++ .imm m d :: c2) ∨ (id ≠ j ∧ id ≠ i ∧ lkH hs id = some c) := by
    intro id c hc
    rw [lkH_c] at hc
    split at hc
    · rename_i e; cases hc; exact .inl ⟨e, rfl⟩
    · rename_i e
      rw [lkH_c] at hc
      split at hc
      · cases hc
      · rename_i e2; exact .inr ⟨e, e2, hc⟩
  have hk2 : ∀ id c, lkH ((j, some (c1 ++ .imm m d :: c2)) :: (i, none) :: hs) id = some c → id ≠ i ∧ ∃ c', lkH hs id = some c' := by
    intro id c hc
    rcases hk id c hc with ⟨rfl, _⟩ | ⟨_, h2, h3⟩
    · exact ⟨hij, _, hj⟩
    · exact ⟨h2, _, h3⟩
  have hbad : ∀ b, badOf C.X ι (lkH ((j, some (c1 ++ .imm m d :: c2)) :: (i, none) :: hs)) b → badOf C.X ι (lkH hs) b := by
    rintro b (h | ⟨id, c, β, h1, h2⟩)
    · exact .inl h
    · obtain ⟨_, c', h3⟩ := hk2 id c h1
      exact .inr ⟨id, c', β, h3, h2⟩
  have car : Carry w (badOf C.X ι (lkH hs)) ι w (badOf C.X ι (lkH ((j, some (c1 ++ .imm m d :: c2)) :: (i, none) :: hs))) ι := ⟨fun b o x h1 h2 => ⟨fun q => h1 (hbad b q), h2⟩, fun _ _ h => h, fun _ => Nat.le_refl _⟩
  have hcell : ∀ y, Rd w (badOf C.X ι (lkH ((j, some (c1 ++ .imm m d :: c2)) :: (i, none) :: hs))) ι (.own i 0 m e) y → Rd w (badOf C.X ι (lkH ((j, some (c1 ++ .imm m d :: c2)) :: (i, none) :: hs))) ι (.imm m d) y := by
    intro y hr
    simp only [Rd] at hr ⊢
    rcases hr with ⟨_, h2, a', h3⟩ | ⟨b, β, c, h1, h2, h3, h4⟩
    · subst h2; exact ⟨a', 0, h3, .inl rfl⟩
    · refine ⟨_, c, h2, ?_⟩
      rcases Nat.eq_zero_or_pos m with h5 | h5
      · exact .inl h5
      · refine .inr ⟨b, β + 0, h3, rfl, ?_⟩
        rcases gh.obj i d hi with ⟨q1, q2⟩ | ⟨b', β', arr, e', q1, q2, q3, q4, q5, q6⟩
        · rw [h1] at q1; cases q1
        · rw [h1] at q1; cases q1
          refine .inr ⟨?_, RdC.carryB car _ _ _ (fun o x hx => hx) q4⟩
          rintro (h | ⟨id', cs', β', r1, r2⟩)
          · exact q5 h
          · obtain ⟨r3, c', r4⟩ := hk2 id' cs' r1
            exact r3 (gh.sep _ _ _ _ _ _ _ r4 hi r2 h1)
  refine ⟨h0, ι, g.carry car, ⟨fun id c hc => ?_, fun id id' c c' b β β' h1 h2 h3 h4 => ?_, gh.fr, gh.ex, gh.fresh⟩⟩
  · rcases hk id c hc with ⟨rfl, rfl⟩ | ⟨_, _, h3⟩
    · rcases gh.obj _ _ hj with ⟨q1, q2⟩ | ⟨b, β, arr, e, q1, q2, q3, q4, q5⟩
      · simp at q2
      · exact .inr ⟨b, β, arr, e, q1, q2, by simpa using q3, RdC_mid hcell c1 c2 b β (RdC.carryB car _ _ _ (fun o x hx => hx) q4), q5⟩
    · rcases gh.obj _ _ h3 with ⟨q1, q2⟩ | ⟨b, β, arr, e, q1, q2, q3, q4, q5⟩
      · exact .inl ⟨q1, q2⟩
      · exact .inr ⟨b, β, arr, e, q1, q2, q3, RdC.carryB car _ _ _ (fun o x hx => hx) q4, q5⟩
  · obtain ⟨_, d1, e1⟩ := hk2 id c h1
    obtain ⟨_, d2, e2⟩ := hk2 id' c' h2
    exact gh.sep id id' d1 d2 b β β' e1 e2 h3 h4
end Go.AL

namespace Go.AL
open Go.RowKit
set_option linter.unusedVariables false
set_option linter.unusedSimpArgs false
theorem spl_one {cs : List AV} {v : Nat} {c : AV} : spl cs (0 + v * 1) [c] = cs.take v ++ c :: cs.drop (v + 1) := by
  unfold spl; simp
structure Hid (T : Prop) : Prop where pf : T
theorem cut {G : Prop} {T : Prop} (key : T) (main : Hid T → G) : G := main ⟨key⟩
end Go.AL

namespace Go.AL
open Go.RowKit
set_option linter.unusedVariables false
def sbin (op : BinOp) (a b : ByteArray) : Option Value :=
  match op with
  | .add => if a.size + b.size ≤ 9000000000000000000 then some (.string (a ++ b)) else none
  | .eql => some (.bool (a.toList == b.toList))
  | .neq => some (.bool (!(a.toList == b.toList)))
  | _ => none
def bytF (s : ByteArray) (l : List Int) : ByteArray := l.foldl (fun r n => r.push (UInt8.ofNat n.toNat)) s
section
variable {P : Program} {C : Ctx} {ι : Pl} {T : Nat → Option AV} {F : Nat → Prop} {H : Nat → Option (List AV)} {a : Act} {w : World} {o : Oper}
theorem pu_sbin (g : TG C ι T H a w) {op : BinOp} {t t' : TypeId} {x y : Operand} {m n : ByteArray} {v : Value} (ho : o.op = .binOp op t x y t')
    (hx : ev T x = some (.v (.string m))) (hy : ev T y = some (.v (.string n))) (h : sbin op m n = some v) : Pu P C ι H a w o (.v v) := by
  have h1 := ev_ok g hx
  have h2 := ev_ok g hy
  simp only [Rd] at h1 h2
  refine ⟨v, ?_, by simp [Rd]⟩
  have hg : (eqGuard op t x y (.string m) (.string n)).run P w = .ok () w := by
    unfold eqGuard
    cases op <;> simp
  have hb : (binOp op t (.string m) (.string n)).run P w = .ok v w := by
    cases op <;> simp only [sbin] at h <;> first | (cases h; done) | skip
    · split at h
      · rename_i hs
        cases h
        have h9 : ¬ (((m.size + n.size : Nat) : Int) > IntKind.i64.max) := by
          have : IntKind.i64.max = 9223372036854775807 := rfl
          omega
        show ((if ((m.size + n.size : Nat) : Int) > IntKind.i64.max then _ else pure (.string (m ++ n)) : Sem Value)).run P w = _
        rw [if_neg h9]; simp
      · cases h
    all_goals (cases h; simp [binOp, Op.stringOp])
  simp only [execOp, ho, h1, h2, Sem.run_bind, hg, Result.andThen_ok, hb, Sem.run_pure]
theorem RdL_ints {bad : Nat → Prop} {k : IntKind} : ∀ {ns : List Int} {l : List Value}, RdL w bad ι (ns.map fun n => .v (.int k n)) l → l = ns.map (Value.int k)
  | [], l, h => by simp only [List.map_nil, RdL] at h; exact h
  | n :: ns, l, h => by
    simp only [List.map_cons, RdL] at h
    obtain ⟨x, l', rfl, h0, h1, h2⟩ := h
    simp only [Rd] at h1
    rw [h1, RdL_ints h2, List.map_cons]
theorem pu_b2s (g : TG C ι T H a w) (gh : HG C ι F H w) {s t el : TypeId} {x : Operand} {av : AV} {m : Nat} {ns : List Int} (ho : o.op = .convert s t x) (hx : ev T x = some av)
    (ht : slOf P s = some el) (hu : inOf P el = some .u8) (hst : P.underlying t = some .string) (hs : sCells H 1 (kAV av) = some (m, ns.map fun n => .v (.int .u8 n))) :
    Pu P C ι H a w o (.v (.string (bytF .empty ns))) := by
  obtain ⟨ad, c, l, h1, h2, h3, h4, h5⟩ := sCells_ok gh (Rd_kAV (ev_ok g hx)) hs
  have hl := RdL_ints h3
  have hll : ns.length = m := by have := h2; rw [hl] at this; simpa using this
  refine ⟨.string (bytF .empty ns), ?_, by simp [Rd]⟩
  have hcv : (convert s t (.slice ad m c)).run P w = (Conv.bytesToString (.slice ad m c)).run P w := run_convert_bytes_string w s t el ad m c (slOf_u ht) (inOf_u hu) hst
  have hrun : (Conv.bytesToString (.slice ad m c)).run P w = .ok (.string (bytF .empty ns)) w := by
    cases ad with
    | none =>
      rcases h5 with ⟨b, o', h⟩ | h
      · cases h
      · subst h
        have : ns = [] := List.eq_nil_of_length_eq_zero hll
        subst this
        rfl
    | some ad =>
      have hload : (loadCells ad m).run P w = .ok (ns.map (Value.int .u8)).toArray w := by
        rcases h5 with ⟨b, o', h⟩ | h
        · cases h
          have := run_loadCells_list (P := P) w ⟨b, o', none⟩ l (fun j v hj => by rw [Addr.add_lit]; exact h4 b o' rfl j v hj)
          rw [h2, Nat.mul_one, hl] at this
          exact this
        · subst h
          have : ns = [] := List.eq_nil_of_length_eq_zero hll
          subst this
          simp [loadCells, loadCellsFrom]
      exact run_bytesToString w ad m c ns hload
  simp only [execOp, ho, h1, Sem.run_bind, hcv, hrun, Result.andThen_ok, Sem.run_pure]
end
class Eq3 (P : Program) (t : Nat) : Prop where
  g : P.eqGuardType P.depth t = false
  e : ∀ (a b c a' b' c' : Int) (w : World), (Op.equalIn 10000 t (.agg #[.int .i64 a, .int .i64 b, .int .i64 c]) (.agg #[.int .i64 a', .int .i64 b', .int .i64 c'])).run P w = .ok (a == a' && (b == b' && c == c')) w
section
variable {P : Program} {C : Ctx} {ι : Pl} {T : Nat → Option AV} {F : Nat → Prop} {H : Nat → Option (List AV)} {a : Act} {w : World} {o : Oper}
end
section
variable {P : Program} {N : Nat} {Q : Exit → AS → Prop} {all : Array Oper} {rest : List Oper} {ts : List (Nat × AV)} {hs : List (Nat × Option (List AV))} {n : Nat} {z0 : Lo} {md : Md}
variable {d : Nat} {ty : TypeId} {pos : String} {af : Array Edge}
theorem rx_sbin {op : BinOp} {t t' : TypeId} {x y : Operand} {m m' : ByteArray} {v : Value} (hx : ev (lk ts) x = some (.v (.string m))) (hy : ev (lk ts) y = some (.v (.string m')))
    (h : sbin op m m' = some v) (hN : Nat.blt d N = true) {md' : Md} [hmd : MdA md (rO x ++ rO y) [.inl d] md'] (kk : RW P N all Q md' rest ⟨(d, .v v) :: ts, hs, n, z0⟩) : RW P N all Q md (⟨some d, .binOp op t x y t', ty, pos, af, none⟩ :: rest) ⟨ts, hs, n, z0⟩ :=
  rw_pu rfl rfl (ltb hN) (fun C ι F T H a w ag g gh => pu_sbin g rfl (ag.l.ev.trans hx) (ag.r.ev.trans hy) h) (by rw [hmd.pf]; exact kk)
theorem rx_b2s {s t el : TypeId} {x : Operand} {av : AV} {m : Nat} (ns : List Int) [ht : SlT P s el] [hu : InT P el .u8] [hst : StT P t] (hx : ev (lk ts) x = some av)
    (hs' : sCells (lkH hs) 1 (kAV av) = some (m, ns.map fun n => .v (.int .u8 n))) (hN : Nat.blt d N = true) {md' : Md} [hmd : MdA md (rO x ++ rA av) [.inl d] md'] (kk : RW P N all Q md' rest ⟨(d, .v (.string (bytF .empty ns))) :: ts, hs, n, z0⟩) :
    RW P N all Q md (⟨some d, .convert s t x, ty, pos, af, none⟩ :: rest) ⟨ts, hs, n, z0⟩ :=
  rw_pu rfl rfl (ltb hN) (fun C ι F T H a w ag g gh => pu_b2s g gh rfl (ag.l.ev.trans hx) ht.pf hu.pf hst.pf (ag.r.sCells.trans hs')) (by rw [hmd.pf]; exact kk)
theorem rx_indexS {t : TypeId} {x i : Operand} {s : ByteArray} {k : IntKind} {m : Int} [ht : StT P t] (hx : ev (lk ts) x = some (.v (.string s)))
    (hi : ev (lk ts) i = some (.v (.int k m))) (hm : 0 ≤ m ∧ m < (s.size : Int)) (hN : Nat.blt d N = true) {md' : Md} [hmd : MdA md (rO x ++ rO i) [.inl d] md'] (kk : RW P N all Q md' rest ⟨(d, .v (.int .u8 ((s[m.toNat]!).toNat : Int))) :: ts, hs, n, z0⟩) :
    RW P N all Q md (⟨some d, .index t x i, ty, pos, af, none⟩ :: rest) ⟨ts, hs, n, z0⟩ :=
  rw_indexS (b := s[m.toNat]!) hx hi ht.pf hm.1 (by rw [getElem!_pos s m.toNat (by omega), getElem?_pos s m.toNat (by omega)]) (ltb hN) (by rw [hmd.pf]; exact kk)
theorem rx_sliceS {t : TypeId} {x : Operand} {lo hi : Option Operand} {s : ByteArray} {l h : Nat} [ht : StT P t] (hx : ev (lk ts) x = some (.v (.string s)))
    (hl : bndA (lk ts) lo 0 = some l) (hh : bndA (lk ts) hi s.size = some h) (hc : l ≤ h ∧ h ≤ s.size) (hN : Nat.blt d N = true) {md' : Md} [hmd : MdA md (rO x ++ (rB lo ++ rB hi)) [.inl d] md'] (kk : RW P N all Q md' rest ⟨(d, .v (.string (s.extract l h))) :: ts, hs, n, z0⟩) :
    RW P N all Q md (⟨some d, .slice t x lo hi none, ty, pos, af, none⟩ :: rest) ⟨ts, hs, n, z0⟩ := rw_sliceS hx ht.pf hl hh hc (ltb hN) (by rw [hmd.pf]; exact kk)
theorem u8_in (m : Int) (h : 0 ≤ m ∧ m ≤ 255) : IntKind.u8.wrap m = m := by
  have : IntKind.u8.wrap m = m % 256 := rfl
  rw [this]; omega
theorem rx_addU {t t' : TypeId} {x y : Operand} {m m' : Int} (hx : ev (lk ts) x = some (.v (.int .u8 m))) (hy : ev (lk ts) y = some (.v (.int .u8 m')))
    (h : 0 ≤ m + m' ∧ m + m' ≤ 255) (hN : Nat.blt d N = true) {md' : Md} [hmd : MdA md (rO x ++ rO y) [.inl d] md'] (kk : RW P N all Q md' rest ⟨(d, .v (.int .u8 (m + m'))) :: ts, hs, n, z0⟩) : RW P N all Q md (⟨some d, .binOp .add t x y t', ty, pos, af, none⟩ :: rest) ⟨ts, hs, n, z0⟩ :=
  rw_ibin hx hy (.inl rfl) (v := .int .u8 (m + m')) (by simp only [ibin, u8_in _ h]) (ltb hN) (by rw [hmd.pf]; exact kk)
theorem rx_subU {t t' : TypeId} {x y : Operand} {m m' : Int} (hx : ev (lk ts) x = some (.v (.int .u8 m))) (hy : ev (lk ts) y = some (.v (.int .u8 m')))
    (h : 0 ≤ m - m' ∧ m - m' ≤ 255) (hN : Nat.blt d N = true) {md' : Md} [hmd : MdA md (rO x ++ rO y) [.inl d] md'] (kk : RW P N all Q md' rest ⟨(d, .v (.int .u8 (m - m'))) :: ts, hs, n, z0⟩) : RW P N all Q md (⟨some d, .binOp .sub t x y t', ty, pos, af, none⟩ :: rest) ⟨ts, hs, n, z0⟩ :=
  rw_ibin hx hy (.inl rfl) (v := .int .u8 (m - m')) (by simp only [ibin, u8_in _ h]) (ltb hN) (by rw [hmd.pf]; exact kk)
theorem rx_convU {s t : TypeId} {x : Operand} {k' : IntKind} {m : Int} [hd : InT P t .u8] [hs' : InT P s k'] (hx : ev (lk ts) x = some (.v (.int k' m))) (h : 0 ≤ m ∧ m ≤ 255) (hN : Nat.blt d N = true) {md' : Md} [hmd : MdA md (rO x) [.inl d] md'] (kk : RW P N all Q md' rest ⟨(d, .v (.int .u8 m)) :: ts, hs, n, z0⟩) :
    RW P N all Q md (⟨some d, .convert s t x, ty, pos, af, none⟩ :: rest) ⟨ts, hs, n, z0⟩ := rw_conv hx hd.pf hs'.pf (ltb hN) (by rw [hmd.pf, u8_in _ h]; exact kk)
end
theorem bytF_size (n : Int) : (bytF .empty [n]).size = 1 := rfl
theorem sadd_ok {a b : ByteArray} (h : a.size + b.size ≤ 9000000000000000000) : sbin .add a b = some (.string (a ++ b)) := if_pos h
end Go.AL

namespace Go.AL
def bytF' (l : List Int) : ByteArray := l.foldl (fun r n => r.push (UInt8.ofNat n.toNat)) .empty
def letF (v : Int) : ByteArray := bytF' [97 + v]
def decF (n : Int) : ByteArray := bytF' [48 + n] ++ .empty
theorem bsz_lit (l : List UInt8) : ByteArray.size ⟨l.toArray⟩ = l.length := rfl
theorem letF_size (v : Int) : (letF v).size = 1 := rfl
theorem decF_size (v : Int) : (decF v).size = 1 := by simp [decF, bytF', ByteArray.size_append]
def joinF (out : ByteArray) (k : Nat) (t : ByteArray) : ByteArray := (if 0 < k then out ++ ⟨#[59]⟩ else out) ++ t
mutual
def textS : Stmt → ByteArray
  | .mk op x y n th el =>
    if op = 1 then (letF x ++ ⟨#[61]⟩) ++ decF n
    else if op = 2 then (letF x ++ ⟨#[61, 98, 111, 120, 32]⟩) ++ decF n
    else if op = 3 then (letF x ++ ⟨#[61]⟩) ++ letF y
    else if op = 4 then (letF x ++ ⟨#[61, 38]⟩) ++ letF y
    else if op = 5 then (letF x ++ ⟨#[61, 38, 109, 117, 116, 32]⟩) ++ letF y
    else if op = 6 then (letF x ++ ⟨#[61, 42]⟩) ++ letF y
    else if op = 7 then ((⟨#[42]⟩ ++ letF x) ++ ⟨#[61]⟩) ++ letF y
    else if op = 8 then ⟨#[100, 114, 111, 112, 32]⟩ ++ letF x
    else if op = 10 then (⟨#[108, 111, 111, 112, 123]⟩ ++ textA .empty 0 th) ++ ⟨#[125]⟩
    else (((⟨#[105, 102, 123]⟩ ++ textA .empty 0 th) ++ ⟨#[125, 123]⟩) ++ textA .empty 0 el) ++ ⟨#[125]⟩
def textA (out : ByteArray) (k : Nat) : List Stmt → ByteArray
  | [] => out
  | s :: l => textA (joinF out k (textS s)) (k + 1) l
end
def textL (l : List Stmt) : ByteArray := textA .empty 0 l
theorem textA_snoc : ∀ (l : List Stmt) (out : ByteArray) (k : Nat) (s : Stmt), textA out k (l ++ [s]) = joinF (textA out k l) (k + l.length) (textS s)
  | [], out, k, s => by simp only [List.nil_append, textA, List.length_nil, Nat.add_zero]
  | x :: l, out, k, s => by
    simp only [List.cons_append, textA, textA_snoc l, List.length_cons]
    rw [show k + 1 + l.length = k + (l.length + 1) from by omega]
theorem textL_succ (l : List Stmt) (k : Nat) (h : k < l.length) : textL (l.take (k + 1)) = joinF (textL (l.take k)) k (textS l[k]!) := by
  rw [take_succB _ _ h, textL, textA_snoc, List.length_take, Nat.min_eq_left (by omega), Nat.zero_add]; rfl
theorem textS_def (s : Stmt) : textS s = 
    if s.op = 1 then (letF s.x ++ ⟨#[61]⟩) ++ decF s.n
    else if s.op = 2 then (letF s.x ++ ⟨#[61, 98, 111, 120, 32]⟩) ++ decF s.n
    else if s.op = 3 then (letF s.x ++ ⟨#[61]⟩) ++ letF s.y
    else if s.op = 4 then (letF s.x ++ ⟨#[61, 38]⟩) ++ letF s.y
    else if s.op = 5 then (letF s.x ++ ⟨#[61, 38, 109, 117, 116, 32]⟩) ++ letF s.y
    else if s.op = 6 then (letF s.x ++ ⟨#[61, 42]⟩) ++ letF s.y
    else if s.op = 7 then ((⟨#[42]⟩ ++ letF s.x) ++ ⟨#[61]⟩) ++ letF s.y
    else if s.op = 8 then ⟨#[100, 114, 111, 112, 32]⟩ ++ letF s.x
    else if s.op = 10 then (⟨#[108, 111, 111, 112, 123]⟩ ++ textL s.th) ++ ⟨#[125]⟩
    else (((⟨#[105, 102, 123]⟩ ++ textL s.th) ++ ⟨#[125, 123]⟩) ++ textL s.el) ++ ⟨#[125]⟩ := by
  cases s; rw [textS]; rfl
mutual
theorem textS_size : ∀ s, (textS s).size + 1 ≤ 11 * cntS s
  | .mk op x y n th el => by
    have h1 := textA_size th .empty 0
    have h2 := textA_size el .empty 0
    have h3 : ByteArray.size .empty = 0 := rfl
    rw [textS]
    simp only [cntS]
    repeat' split
    all_goals simp only [ByteArray.size_append, bsz_lit, List.length_cons, List.length_nil, letF_size, decF_size]
    all_goals omega
theorem textA_size : ∀ (l : List Stmt) (out : ByteArray) (k : Nat), (textA out k l).size ≤ out.size + 11 * cntL l
  | [], out, k => by simp only [textA, cntL]; omega
  | s :: l, out, k => by
    have h1 := textS_size s
    have h2 := textA_size l (joinF out k (textS s)) (k + 1)
    have h3 : (joinF out k (textS s)).size ≤ out.size + 1 + (textS s).size := by
      unfold joinF; split <;> simp only [ByteArray.size_append, bsz_lit, List.length_cons, List.length_nil] <;> omega
    simp only [textA, cntL]
    omega
end
theorem textL_size (l : List Stmt) : (textL l).size ≤ 11 * cntL l := by
  have := textA_size l .empty 0
  have h3 : ByteArray.size .empty = 0 := rfl
  unfold textL; omega
theorem simple_bd {ts : List Int} {s : Stmt} (ht : typesOk ts = true) (h : simpleF ts s = true) : 1 ≤ s.op ∧ s.op ≤ 8 ∧ 0 ≤ s.x ∧ s.x ≤ 5 ∧ 0 ≤ s.y ∧ s.y ≤ 5 ∧ (s.op = 1 ∨ s.op = 2 → 0 ≤ s.n ∧ s.n ≤ 9) := by
  have hl := typesOk_len ht
  have hx := typeAt_pos ht s.x
  have hy := typeAt_pos ht s.y
  unfold simpleF at h
  dsimp only at h
  repeat' split at h
  all_goals (first | (simp only [decide_eq_true_eq] at h; omega) | (simp at h; done))
end Go.AL

namespace Go.AL
structure IsOk (nt np : Nat) (x : Iss) : Prop where
  p0 : 0 ≤ x.point
  p1 : x.point < np
  k : (x.kind = 1 ∧ 0 ≤ x.with_ ∧ x.with_ < nt) ∨ ((x.kind = 2 ∨ x.kind = 3) ∧ 0 ≤ x.with_ ∧ x.with_ < np)
end Go.AL

namespace Go.AL
structure Lon where
  point : Int
  unique : Bool
  var : Int
  deriving Inhabited, DecidableEq
def cLon (p : Lon) : List AV := [iv p.point, bv p.unique, iv p.var]
instance : FlT cLon 3 := ⟨fun s => rfl⟩
instance (s : Lon) : Pur (cLon s) := ⟨rfl⟩
def lnOf (pts : List Pnt) (l : Nat) : Lon := ⟨l, decide (pts[l]!.op = 5), pts[l]!.y⟩
def lnL (pts : List Pnt) (k : Nat) : List Lon := ((List.range k).filter (fun l => isLn pts[l]!)).map (lnOf pts)
theorem lnL_hit {pts : List Pnt} {k : Nat} (h : isLn pts[k]! = true) : lnL pts (k + 1) = lnL pts k ++ [lnOf pts k] := by
  unfold lnL; rw [filt_succ, if_pos h, List.map_append]; rfl
theorem lnL_skip {pts : List Pnt} {k : Nat} (h : isLn pts[k]! = false) : lnL pts (k + 1) = lnL pts k := by
  unfold lnL; rw [filt_succ, if_neg (by rw [h]; decide), List.append_nil]
theorem app_lon {xs : List Lon} {m : Nat} {a : Int} {b : Bool} {c : Int} (hm : m = xs.length) : ((flat cLon xs).drop 0).take (m * 3) ++ [iv a, bv b, iv c] = flat cLon (xs ++ [⟨a, b, c⟩]) := app_flat hm rfl
theorem lnL_len (pts : List Pnt) (k : Nat) : (lnL pts k).length ≤ k := by
  unfold lnL; rw [List.length_map]; exact Nat.le_trans (List.length_filter_le _ _) (by simp)
def unB (ts : List Int) (pts : List Pnt) (Aa : List Nat) (i : Nat) : Bool := decide (anl (wS ts pts[i]! [1, 2, 3]) Aa[i]! ≠ 0)
def unL (ts : List Int) (pts : List Pnt) (Aa : List Nat) (k : Nat) : List Int := ((List.range k).filter (unB ts pts Aa)).map (fun (l : Nat) => (l : Int))
theorem unL_hit {ts : List Int} {pts : List Pnt} {Aa : List Nat} {k : Nat} (h : unB ts pts Aa k = true) : unL ts pts Aa (k + 1) = unL ts pts Aa k ++ [(k : Int)] := by
  unfold unL; rw [filt_succ, if_pos h, List.map_append]; rfl
theorem unL_skip {ts : List Int} {pts : List Pnt} {Aa : List Nat} {k : Nat} (h : unB ts pts Aa k = false) : unL ts pts Aa (k + 1) = unL ts pts Aa k := by
  unfold unL; rw [filt_succ, if_neg (by rw [h]; decide), List.append_nil]
end Go.AL

namespace Go.AL
theorem lt_bits {A n : Nat} (hv : ∀ v, A.testBit v = true → v < n) : A < 2 ^ n := Nat.lt_pow_two_of_testBit _ fun v h => by
  cases hq : Nat.testBit _ v with
  | false => rfl
  | true => have := hv v hq; omega
theorem sm_bits {A n : Nat} (hn : n ≤ 62) (hv : A < 2 ^ n) : Sm A := ⟨Nat.lt_of_lt_of_le hv (Nat.pow_le_pow_right (by decide) hn)⟩
structure FB (ts : List Int) (pts : List Pnt) (f : Flows ts pts) : Prop where
  la : f.Aa.length = pts.length
  lm : f.Am.length = pts.length
  ln : f.An.length = pts.length
  ll : f.Al.length = pts.length
  lp : f.Ap.length = pts.length
  bA : ∀ i : Nat, f.Aa[i]! < 2 ^ ts.length
  bM : ∀ i : Nat, f.Am[i]! < 2 ^ ts.length
  bN : ∀ i : Nat, f.An[i]! < 2 ^ ts.length
  bL : ∀ i : Nat, f.Al[i]! < 2 ^ ts.length
  bP : ∀ i : Nat, f.Ap[i]! < 2 ^ pts.length
  sA : ∀ i : Nat, Sm f.Aa[i]!
  sM : ∀ i : Nat, Sm f.Am[i]!
  sN : ∀ i : Nat, Sm f.An[i]!
  sL : ∀ i : Nat, Sm f.Al[i]!
  sP : ∀ i : Nat, Sm f.Ap[i]!
  rl : ∀ i, i < pts.length → (row6 f.Af i).length = 6
  rs : ∀ i, i < pts.length → ∀ z : Nat, Sm (row6 f.Af i)[z]!
  af : ∀ i, i < pts.length → afF pts f.An i = f.Al[i]!
  kp : ∀ i, i < pts.length → kpF ts pts[i]! f.Al[i]! (row6 f.Af i) < 2 ^ pts.length
  lo : ∀ i, i < pts.length → kpF ts pts[i]! f.Al[i]! (row6 f.Af i) &&& f.Ap[i]! < 2 ^ pts.length
  cf : ∀ i, i < pts.length → cfN ts pts f.Am f.Al f.Af f.Ap i < 2 ^ pts.length
theorem Flows.bnd {ts : List Int} {pts : List Pnt} (f : Flows ts pts) (w : WG ts pts) : FB ts pts f := by
  have hpl := w.pl
  have htl := w.tl
  have off : ∀ {A : List Nat} {n : Nat} {i : Nat}, A.length = pts.length → ¬ i < pts.length → A[i]! < 2 ^ n := fun {A n i} h hi => by
    rw [getElem!_neg A i (by omega)]; exact Nat.pow_pos (by decide)
  have bA : ∀ i : Nat, f.Aa[i]! < 2 ^ ts.length := fun i => by
    by_cases hi : i < pts.length
    · exact lt_bits fun v hv => ((f.ga.2 i hi v).1 hv).1
    · exact off f.ga.1 hi
  have bM : ∀ i : Nat, f.Am[i]! < 2 ^ ts.length := fun i => by
    by_cases hi : i < pts.length
    · exact lt_bits fun v hv => Mb_lt w ((f.gm.2 i hi v).1 hv)
    · exact off f.gm.1 hi
  have bN : ∀ i : Nat, f.An[i]! < 2 ^ ts.length := fun i => by
    by_cases hi : i < pts.length
    · exact lt_bits fun v hv => Nd_lt w ((f.gn.2 i hi v).1 hv)
    · exact off f.gn.1 hi
  have bL : ∀ i : Nat, f.Al[i]! < 2 ^ ts.length := fun i => by
    by_cases hi : i < pts.length
    · exact lt_bits fun v hv => by obtain ⟨k, _, h⟩ := (f.gl.2 i hi v).1 hv; exact Nd_lt w h
    · exact off f.gl.1 hi
  have bP : ∀ i : Nat, f.Ap[i]! < 2 ^ pts.length := fun i => by
    by_cases hi : i < pts.length
    · exact lt_bits fun v hv => (Pl_ln ((f.gp.2 i hi v).1 hv)).1
    · exact off f.gp.1 hi
  have rs : ∀ i, i < pts.length → ∀ z : Nat, (row6 f.Af i)[z]! < 2 ^ pts.length := fun i hi z => by
    by_cases hz : z < 6
    · rw [row6_at f.gf.1 hi hz]
      exact lt_bits fun v hv => (Fr_lt w ((f.gf.2 i z hi hz v).1 hv)).2.2
    · rw [getElem!_neg _ z (by rw [row6_len f.gf.1 hi]; exact hz)]; exact Nat.pow_pos (by decide)
  have kp : ∀ i, i < pts.length → kpF ts pts[i]! f.Al[i]! (row6 f.Af i) < 2 ^ pts.length := fun i hi => lt_bits fun v hv => by
    unfold kpF at hv
    rw [testBit_orL] at hv
    rcases hv with hv | ⟨z, hz, hv⟩
    · simp at hv
    · exact lt_of_bits (rs i hi _) hv
  have lo : ∀ i, i < pts.length → kpF ts pts[i]! f.Al[i]! (row6 f.Af i) &&& f.Ap[i]! < 2 ^ pts.length := fun i hi => Nat.and_lt_two_pow _ (bP i)
  refine ⟨f.ga.1, f.gm.1, f.gn.1, f.gl.1, f.gp.1, bA, bM, bN, bL, bP, fun i => sm_bits (by omega) (bA i), fun i => sm_bits (by omega) (bM i), fun i => sm_bits (by omega) (bN i), fun i => sm_bits (by omega) (bL i), fun i => sm_bits (by omega) (bP i),
    fun i hi => row6_len f.gf.1 hi, fun i hi z => sm_bits (by omega) (rs i hi z), fun i hi => ?_, kp, lo, fun i hi => cfN_lt w (bP i)⟩
  rw [goodL_ext f.gl (goodL_of w f.gn), mapR_get _ _ _ hi]
end Go.AL

namespace Go.AL
end Go.AL

namespace Go.AL
open Go.RowKit
set_option linter.unusedVariables false
section
variable {P : Program} {C : Ctx} {ι : Pl} {F : Nat → Prop} {T : Nat → Option AV} {H : Nat → Option (List AV)} {a : Act} {w : World} {o : Oper}
theorem zeroCells_list (z : Array Value) : ∀ n, (Builtin.zeroCells z n).toList = (List.replicate n z.toList).flatten := fun n => by
  have := made_list z n (n * z.size) rfl
  simpa [Builtin.zeroCells, madeCells] using this
end
section
variable {P : Program} {N : Nat} {Q : Exit → AS → Prop} {all : Array Oper} {rest : List Oper} {ts : List (Nat × AV)} {hs : List (Nat × Option (List AV))} {n : Nat} {z0 : Lo} {md : Md}
variable {d : Nat} {ty : TypeId} {pos : String} {af : Array Edge}
end
theorem Le.cut {ts : List (Nat × AV)} {hs : List (Nat × Option (List AV))} {n : Nat} {z0 : Lo} {i : Nat} {cs : List AV} (k : Nat) (hi : lkH hs i = some cs) :
    Le ⟨ts, hs, n, z0⟩ ⟨ts, (i, some (cs.take k)) :: hs, n, z0⟩ := by
  rintro C a w ⟨h0, ι, g, gh⟩
  have hσ : ∀ id c, lkH ((i, some (cs.take k)) :: hs) id = some c → ∃ c0, lkH hs id = some c0 ∧ (c = c0 ∨ c = c0.take k) := by
    intro id c h
    rw [lkH_c] at h
    split at h
    · rename_i e; subst e; cases h; exact ⟨cs, hi, .inr rfl⟩
    · exact ⟨c, h, .inl rfl⟩
  have car : Carry w (badOf C.X ι (lkH hs)) ι w (badOf C.X ι (lkH ((i, some (cs.take k)) :: hs))) ι := by
    refine ⟨fun b o' x h1 h2 => ⟨?_, h2⟩, fun _ _ h => h, fun _ => Nat.le_refl _⟩
    rintro (h | ⟨id, c, β, q1, q2⟩)
    · exact h1 (.inl h)
    · obtain ⟨c0, r, _⟩ := hσ id c q1
      exact h1 (.inr ⟨id, c0, β, r, q2⟩)
  refine ⟨h0, ι, ⟨g.df, g.sz, fun t av ht => ?_⟩, ⟨fun id c h => ?_, fun id id' c c' b β β' q1 q2 q3 q4 => ?_, gh.fr, gh.ex, gh.fresh⟩⟩
  · obtain ⟨y, hy, hr⟩ := g.tm t av ht
    exact ⟨y, hy, Rd.carry car _ _ hr⟩
  · obtain ⟨c0, r, e⟩ := hσ id c h
    rcases gh.obj id c0 r with ⟨h1, h2⟩ | ⟨b', β', arr', e', h1, h2, h3, h4, h5, h6⟩
    · refine .inl ⟨h1, ?_⟩
      rcases e with e | e
      · rw [e, h2]
      · rw [e, h2]; simp
    · refine .inr ⟨b', β', arr', e', h1, h2, ?_, ?_, h5, h6⟩
      · rcases e with e | e
        · rw [e]; exact h3
        · rw [e, List.length_take]; omega
      · have h7 := RdC.carryB car _ _ _ (fun o x hx => hx) h4
        rcases e with e | e
        · rw [e]; exact h7
        · rw [e]; exact RdC.take k h7
  · obtain ⟨_, r1, _⟩ := hσ id c q1
    obtain ⟨_, r2, _⟩ := hσ id' c' q2
    exact gh.sep _ _ _ _ _ _ _ r1 r2 q3 q4
section
variable {P : Program} {N : Nat} {Q : Exit → AS → Prop} {all : Array Oper} {rest : List Oper} {ts : List (Nat × AV)} {hs : List (Nat × Option (List AV))} {n : Nat} {z0 : Lo}
variable {d : Nat} {ty : TypeId} {pos : String} {af : Array Edge}
theorem rx_makeFuncFrzN {fn : Go.Fn} {cs : Array Operand} {i : Nat} {cc c : List AV} (t : Nat) (hx : lk ts t = some (.optr i 0)) (hH : lkH hs i = some cc) (hc : evL (lk ((t, .iptr cc) :: ts)) cs.toList = some c) (hN : Nat.blt d N = true)
    (kk : RW P N all Q .txt rest ⟨(d, .clos fn [] c) :: (t, .iptr cc) :: ts, (i, none) :: hs, n, z0⟩) : RW P N all Q .txt (⟨some d, .makeFunc fn #[] cs, ty, pos, af, none⟩ :: rest) ⟨ts, hs, n, z0⟩ :=
  rw_le (rx_makeFunc (f := []) (c := c) rfl hc hN (md' := .txt) kk) (Le.frzP hx hH)
end
section
variable {P : Program} {N : Nat} {Q : Exit → AS → Prop} {all : Array Oper} {rest : List Oper} {ts : List (Nat × AV)} {hs : List (Nat × Option (List AV))} {n : Nat} {z0 : Lo} {md : Md}
variable {d : Nat} {ty : TypeId} {pos : String} {af : Array Edge}
end
end Go.AL

namespace Go.AL
open Go.RowKit
set_option linter.unusedVariables false
set_option linter.unusedSimpArgs false
end Go.AL

namespace Go.AL
open Go.RowKit
set_option linter.unusedVariables false
set_option linter.unusedSimpArgs false
section
variable {P : Program} {C : Ctx} {ι : Pl} {T : Nat → Option AV} {F : Nat → Prop} {H : Nat → Option (List AV)} {a : Act} {w : World} {o : Oper}
theorem RdL_flat {bad : Nat → Prop} {zs : List Value} (h : zs.all (·.oneCell') = true) : ∀ n, RdL w bad ι (List.replicate n (zs.map AV.v)).flatten (List.replicate n zs).flatten
  | 0 => by simp [RdL]
  | n + 1 => by
    rw [List.replicate_succ, List.replicate_succ, List.flatten_cons, List.flatten_cons]
    exact RdL.append (RdL_v h) (RdL_flat h n)
theorem ef_clear (gh : HG C ι F H w) {t el : TypeId} {x : Operand} {id off n e : Nat} {cs : List AV} {zs : List Value}
    (ho : o.op = .call ⟨.builtin .clear, #[x], #[t]⟩) (hx : Rd w (badOf C.X ι H) ι (.own id off n e) (a.eval x)) (hd : o.dst = none)
    (ht : slOf P t = some el) (he : szOf P el = some e) (hz : zrOf P el = some zs) (hze : zs.length = e)
    (hH : H id = some cs) (h0 : 0 < n) (hl : off + n * e ≤ cs.length) :
    Ef P C ι F H a w o (.tup []) (upd H id (some (spl cs off (List.replicate n (zs.map AV.v)).flatten))) := by
  obtain ⟨i, z, h1, h2, h3, h4⟩ := zrOf_i hz
  have hu := slOf_u ht
  have hsz := szOf_i he h1
  simp only [Rd] at hx
  rcases hx with ⟨_, rfl, _⟩ | ⟨b, β, c, p1, p2, p3, p4⟩
  · omega
  have hlen : ((List.replicate n (zs.map AV.v)).flatten).length = n * e := by
    rw [List.length_flatten]; simp [hze]
  obtain ⟨w', q1, q2, q3⟩ := store_ok (P := P) gh hH p1 (off := off) (new := (List.replicate n (zs.map AV.v)).flatten) (by rw [hlen]; exact hl) (RdL_flat h4 n)
  have hr : (Builtin.clear_ #[t] o.type #[a.eval x]).run P w = .ok (.tuple #[]) w' := by
    rw [p2]
    cases n with
    | zero => omega
    | succ n =>
      have hzc : (Builtin.zeroCells z.cells (n + 1)).toList = (List.replicate (n + 1) zs).flatten := by rw [zeroCells_list, h3]
      simp [Builtin.clear_, run_und hu, zeroValue, typeInfo, h1, h2, hzc, q1]
  refine ⟨.value (.tuple #[]), .tuple #[], ι, w', ?_, .inl ⟨rfl, ?_⟩, q2, q3⟩
  · simp [execOp, ho, resolve, invoke, builtin, hr]
  · simp only [Rd]; exact ⟨[], rfl, by simp [RdV]⟩
end
section
variable {P : Program} {N : Nat} {Q : Exit → AS → Prop} {all : Array Oper} {rest : List Oper} {ts : List (Nat × AV)} {hs : List (Nat × Option (List AV))} {n : Nat} {z0 : Lo} {md : Md}
variable {d : Nat} {ty : TypeId} {pos : String} {af : Array Edge}
theorem rx_clear {t el id off m e : Nat} {x : Operand} {cs cs' : List AV} {zs : List Value} [ht : SlT P t el] [he : SzT P el e] [hz : ZrT P el zs]
    (hx : ev (lk ts) x = some (.own id off m e)) (hze : zs.length = e) (h0 : 0 < m) (hH : lkH hs id = some cs) (hl : off + m * e ≤ cs.length)
    (hcs : spl cs off (List.replicate m (zs.map AV.v)).flatten = cs') {md' : Md} [hmd : MdA md (rO x ++ [.inr id]) [.inr id] md'] (kk : RW P N all Q md' rest ⟨ts, (id, some cs') :: hs, n, z0⟩) :
    RW P N all Q md (⟨none, .call ⟨.builtin .clear, #[x], #[t]⟩, ty, pos, af, none⟩ :: rest) ⟨ts, hs, n, z0⟩ := by
  subst hcs
  exact rw_ef (rs := rO x ++ [.inr id]) (ws := [(id, some (spl cs off (List.replicate m (zs.map AV.v)).flatten))]) (n' := n) (out := .tup []) rfl (fun _ h => by cases h) (Nat.le_refl n) (.inl rfl)
    (fun C ι F T H a w ag hF g gh => ef_same (ef_clear gh rfl (ev_ok g (ag.l.ev.trans hx)) rfl ht.pf he.pf hz.pf hze ((ag.r.h id (by simp)).trans hH) h0 hl)) (by
      show RW P N all Q (md.add (rO x ++ [.inr id]) [.inr id]) rest ⟨ts, (id, some (spl cs off (List.replicate m (zs.map AV.v)).flatten)) :: hs, n, z0⟩
      rw [hmd.pf]; exact kk)
end
end Go.AL

namespace Go.AL
def delL {α : Type} (k : Nat) (xs : List α) : List α := xs.take k ++ xs.drop (k + 1)
def dropP (q : Prg) (k : Nat) : Prg := ⟨q.types, delL k q.body⟩
theorem delL_len {α : Type} {k : Nat} {xs : List α} (h : k < xs.length) : (delL k xs).length + 1 = xs.length := by
  unfold delL; rw [List.length_append, List.length_take, List.length_drop]; omega
theorem delL_mem {α : Type} {k : Nat} {xs : List α} {x : α} (h : x ∈ delL k xs) : x ∈ xs := by
  unfold delL at h
  rcases List.mem_append.1 h with h | h
  · exact List.mem_of_mem_take h
  · exact List.mem_of_mem_drop h
theorem cntL_delL : ∀ (xs : List Stmt) (k : Nat), cntL (delL k xs) ≤ cntL xs
  | [], k => by simp [delL, cntL]
  | x :: xs, 0 => by simp [delL, cntL]
  | x :: xs, k + 1 => by
    have := cntL_delL xs k
    unfold delL at this ⊢
    simp only [List.take_succ_cons, List.drop_succ_cons, List.cons_append, cntL]; omega
theorem dropP_valid {q : Prg} {k : Nat} (h : validF q = true) : validF (dropP q k) = true := by
  unfold validF at h ⊢
  simp only [Bool.and_eq_true, decide_eq_true_eq] at h ⊢
  obtain ⟨⟨h1, h2⟩, h3⟩ := h
  refine ⟨⟨h1, ?_⟩, Nat.le_trans (cntL_delL _ _) h3⟩
  rw [okL_eq, List.all_eq_true] at h2 ⊢
  exact fun x hx => h2 x (delL_mem hx)
structure AtS (b : List Stmt) (x : Int) (k : Nat) : Prop where
  lt : k < b.length
  lo : (npL (b.take k) : Int) ≤ x
  hi : k + 1 < b.length → x < npL (b.take (k + 1))
theorem AtS.ex {b : List Stmt} {x : Int} : ∀ d n, b.length - n ≤ d → n < b.length → (npL (b.take n) : Int) ≤ x → ∃ k, AtS b x k
  | 0, n, h, hn, _ => by omega
  | d + 1, n, h, hn, hx => by
    by_cases h1 : n + 1 < b.length
    · by_cases h2 : x < npL (b.take (n + 1))
      · exact ⟨n, hn, hx, fun _ => h2⟩
      · exact AtS.ex d (n + 1) (by omega) h1 (by omega)
    · exact ⟨n, hn, hx, fun h => absurd h h1⟩
inductive RepS (FI : Prg → List Iss → Prop) : Prg → List Int → List Int → Prg → List Int → Prop
  | done {q : Prg} {l m : List Int} : FI q [] → RepS FI q l m q m
  | step {q q' : Prg} {l m m' : List Int} {x : Iss} {L : List Iss} {k : Nat} : FI q (x :: L) → AtS q.body x.point k → RepS FI (dropP q k) (delL k l) (m ++ [l[k]!]) q' m' → RepS FI q l m q' m'
theorem RepS.ex {FI : Prg → List Iss → Prop} (h1 : ∀ q, validF q = true → ∃ L, FI q L ∧ (∀ x ∈ L, 0 ≤ x.point) ∧ (q.body = [] → L = [])) :
    ∀ n q l m, q.body.length ≤ n → validF q = true → ∃ q' m', RepS FI q l m q' m'
  | n, q, l, m, hn, hv => by
    obtain ⟨L, hF, hp, he⟩ := h1 q hv
    cases L with
    | nil => exact ⟨q, m, .done hF⟩
    | cons x L =>
      have hne : q.body ≠ [] := fun e => by have := he e; cases this
      have hlen : 0 < q.body.length := List.length_pos_iff.2 hne
      obtain ⟨k, hk⟩ := AtS.ex (b := q.body) (x := x.point) q.body.length 0 (by omega) hlen (by have := hp x List.mem_cons_self; simpa [npL] using this)
      have hd := delL_len hk.lt
      cases n with
      | zero => omega
      | succ n =>
        obtain ⟨q', m', h⟩ := RepS.ex h1 n (dropP q k) (delL k l) (m ++ [l[k]!]) (by show (delL k q.body).length ≤ n; omega) (dropP_valid hv)
        exact ⟨q', m', .step hF hk h⟩
theorem RepS.fin {FI : Prg → List Iss → Prop} {q q' : Prg} {l m m' : List Int} (h : RepS FI q l m q' m') : validF q = true → FI q' [] ∧ validF q' = true ∧ q'.types = q.types ∧ cntL q'.body ≤ cntL q.body ∧ m'.length + q'.body.length = m.length + q.body.length := by
  induction h with
  | done h => exact fun hv => ⟨h, hv, rfl, Nat.le_refl _, rfl⟩
  | @step q q' l m m' x L k _ hk _ ih =>
    intro hv
    obtain ⟨h1, h2, h3, h4, h5⟩ := ih (dropP_valid hv)
    have hd := delL_len hk.lt
    refine ⟨h1, h2, h3, Nat.le_trans h4 (cntL_delL _ _), ?_⟩
    rw [h5, List.length_append, List.length_singleton]
    show m.length + 1 + (delL k q.body).length = _
    omega
theorem RepS.empty {FI : Prg → List Iss → Prop} {q q' : Prg} {l m' : List Int} (h : RepS FI q l [] q' m') (hv : validF q = true) : ∃ L, FI q L ∧ (m' = [] ↔ L = []) := by
  cases h with
  | done h => exact ⟨[], h, by simp⟩
  | @step _ _ _ _ _ x L k hF hk hr =>
    refine ⟨x :: L, hF, ?_⟩
    have h5 := (RepS.fin hr (dropP_valid hv)).2.2.2.2
    have hb : q'.body.length ≤ (dropP q k).body.length := by
      clear h5 hF
      generalize dropP q k = z at hr
      generalize delL k l = l1 at hr
      generalize ([] : List Int) ++ [l[k]!] = m1 at hr
      induction hr with
      | done _ => exact Nat.le_refl _
      | @step q q' l m m' x L k _ hk2 _ ih =>
        have := delL_len hk2.lt
        have hh : (dropP q k).body.length + 1 = q.body.length := this
        omega
    constructor
    · intro e; rw [e] at h5; simp at h5; omega
    · intro e; cases e
end Go.AL
namespace Go.AL
end Go.AL

namespace Go.AL
open Go.RowKit
set_option linter.unusedVariables false
set_option linter.unusedSimpArgs false
section
variable {P : Program} {N : Nat} {Q : Exit → AS → Prop} {all : Array Oper} {rest : List Oper} {ts : List (Nat × AV)} {hs : List (Nat × Option (List AV))} {n : Nat} {z0 : Lo} {md : Md}
variable {d : Nat} {ty : TypeId} {pos : String} {af : Array Edge}
theorem run_eqNil (w : World) (t el : TypeId) (hu : P.underlying t = some (.slice el)) (a : Option Addr) (m c : Nat) : (binOp .eql t (.slice a m c) (.slice none 0 0)).run P w = .ok (.bool a.isNone) w := by
  have h0 : ∀ d : Nat, (Op.equalIn (d + 1) t (.slice a m c) (.slice none 0 0)).run P w = .ok a.isNone w := fun d => by
    cases a <;> simp [Op.equalIn, run_und hu]
  have h := h0 9999
  simp only [binOp]
  simp [Op.equal, Op.maxDepth, h]
theorem rx_eqNil {t t' el : TypeId} {x : Operand} {m : Nat} {cs : List AV} [ht : SlT P t el] (hx : ev (lk ts) x = some (.imm m cs)) (hN : Nat.blt d N = true)
    (kk : ∀ b : Bool, (b = true → m = 0) → RW P N all Q .txt rest ⟨(d, .v (.bool b)) :: ts, hs, n, z0⟩) : RW P N all Q .txt (⟨some d, .binOp .eql t x (.const (.slice none 0 0)) t', ty, pos, af, none⟩ :: rest) ⟨ts, hs, n, z0⟩ := by
  rintro C a w hCN ⟨h0, ι, g, gh⟩
  refine wpList_plain rfl (fun K hK => ?_)
  have h1 := ev_ok g hx
  simp only [Rd] at h1
  obtain ⟨a', c, h2, h3⟩ := h1
  have hu := slOf_u ht.pf
  have hb : a'.isNone = true → m = 0 := fun hn => by
    rcases h3 with h3 | ⟨b, o, _, rfl, _⟩
    · exact h3
    · cases hn
  have hg : (eqGuard .eql t x (.const (.slice none 0 0)) (.slice a' m c) (.slice none 0 0)).run P w = .ok () w := by simp [eqGuard]
  have hr : (execOp a.eval ⟨some d, .binOp .eql t x (.const (.slice none 0 0)) t', ty, pos, af, none⟩).run P w = .ok (.value (.bool a'.isNone)) w := by
    have e2 : a.eval (.const (.slice none 0 0)) = .slice none 0 0 := rfl
    simp only [execOp, h2, e2, Sem.run_bind, hg, Result.andThen_ok, run_eqNil w t el hu, Sem.run_pure]
  simp only [Oper.wp, hr, Oper.upon]
  refine hK _ _ (kk a'.isNone hb C _ _ hCN ⟨h0, ι, ?_, gh⟩)
  show TG C ι (lk ((d, AV.v (.bool a'.isNone)) :: ts)) _ _ _
  rw [lk_cons]
  exact g.put (by have := ltb hN; omega) (by simp [Rd])
end
theorem sC_tail {α : Type} {f : α → List AV} {e : Nat} [h : FlT f e] {hs : List (Nat × Option (List AV))} {xs : List α} {i k n : Nat} (hH : lkH hs i = some (flat f xs)) (hn : n = xs.length - k) : sCells (lkH hs) e (kAV (.own i (0 + k * e) n e)) = some (n, flat f (xs.drop k)) := by
  show ((lkH hs i).bind fun cs => if n * e ≤ (cs.drop (0 + k * e)).length then some (n, (cs.drop (0 + k * e)).take (n * e)) else none) = _
  rw [hH, Option.bind_some, Nat.zero_add]
  have h1 : (flat f xs).length = xs.length * e := flat_length f xs
  have h3 : (flat f xs).drop (k * e) = flat f (xs.drop k) := by
    have h4 : flat f xs = flat f (xs.take k) ++ flat f (xs.drop k) := by rw [flat_append, List.take_append_drop]
    have h5 : (flat f (xs.take k)).length = (xs.take k).length * e := flat_length f _
    by_cases hk : k ≤ xs.length
    · rw [h4, ← show (flat f (xs.take k)).length = k * e from by rw [h5, List.length_take]; congr 1; omega, List.drop_left]
    · rw [List.drop_of_length_le (by rw [h1]; exact Nat.mul_le_mul_right _ (by omega)), List.drop_of_length_le (by omega)]; rfl
  rw [h3]
  have h2 : (flat f (xs.drop k)).length = (xs.length - k) * e := by rw [flat_length f (e := e), List.length_drop]
  rw [h2, hn, if_pos (Nat.le_refl _), List.take_of_length_le (by rw [h2]; exact Nat.le_refl _)]
theorem bnd_to {T : Nat → Option AV} {x : Operand} {dd : Nat} {k : IntKind} {m : Int} {h : Nat} (hx : ev T x = some (.v (.int k m))) (e : m = (h : Int)) : bndA T (some x) dd = some h := by
  simp only [bndA, hx]; rw [if_pos (by omega)]; congr 1; omega
end Go.AL

namespace Go.AL
end Go.AL

namespace Go.AL
end Go.AL

namespace Go.AL
structure Bnd where
  var : Int
  loan : Int
  src : Int
  deriving Inhabited, DecidableEq
structure WT (ts : List Int) (pts : List Pnt) : Prop where
  mv : ∀ i, i < pts.length → pts[i]!.op = 3 → ts[pts[i]!.x.toNat]! = ts[pts[i]!.y.toNat]! ∧ pts[i]!.x ≠ pts[i]!.y
  ln : ∀ i, i < pts.length → pts[i]!.op = 4 ∨ pts[i]!.op = 5 → isRef ts[pts[i]!.x.toNat]! = true ∧ pts[i]!.x ≠ pts[i]!.y
def PtY (ts : List Int) (x : Pnt) : Prop := (x.op = 3 → ts[x.x.toNat]! = ts[x.y.toNat]! ∧ x.x ≠ x.y) ∧ (x.op = 4 ∨ x.op = 5 → isRef ts[x.x.toNat]! = true ∧ x.x ≠ x.y)
theorem typeAt_get {ts : List Int} {v : Int} (h : 0 < typeAt ts v) : typeAt ts v = ts[v.toNat]! := by
  unfold typeAt at h ⊢
  split at h
  · rename_i c; rw [if_pos c]
  · omega
theorem simple_ty {ts : List Int} {s : Stmt} (h : simpleF ts s = true) : (s.op = 3 → ts[s.x.toNat]! = ts[s.y.toNat]! ∧ s.x ≠ s.y) ∧ (s.op = 4 ∨ s.op = 5 → isRef ts[s.x.toNat]! = true ∧ s.x ≠ s.y) := by
  unfold simpleF at h
  dsimp only at h
  refine ⟨fun h3 => ?_, fun h4 => ?_⟩
  · rw [h3] at h
    simp only [show ¬ (3 : Int) = 1 by decide, show ¬ (3 : Int) = 2 by decide, if_false, if_true] at h
    split at h
    · cases h
    · simp only [decide_eq_true_eq] at h
      refine ⟨?_, h.2.2⟩
      rw [← typeAt_get h.2.1, h.1, typeAt_get (by omega)]
  · rcases h4 with h4 | h4 <;> rw [h4] at h
    · simp only [show ¬ (4 : Int) = 1 by decide, show ¬ (4 : Int) = 2 by decide, show ¬ (4 : Int) = 3 by decide, if_false, if_true] at h
      split at h
      · cases h
      · simp only [decide_eq_true_eq] at h
        refine ⟨?_, h.2.2⟩
        rw [← typeAt_get (by omega), h.1]; rfl
    · simp only [show ¬ (5 : Int) = 1 by decide, show ¬ (5 : Int) = 2 by decide, show ¬ (5 : Int) = 3 by decide, show ¬ (5 : Int) = 4 by decide, if_false, if_true] at h
      split at h
      · cases h
      · simp only [decide_eq_true_eq] at h
        refine ⟨?_, h.2.2⟩
        rw [← typeAt_get (by omega), h.1]; rfl
theorem PtY.no {ts : List Int} {x : Pnt} (h : 9 ≤ x.op) : PtY ts x := ⟨fun e => by omega, fun e => by omega⟩
mutual
theorem ptS_ty {ts : List Int} : ∀ (s : Stmt) (d b : Nat), okS ts d s = true → ∀ x ∈ ptS b s, PtY ts x
  | .mk op x y n th el, d, b, h => by
    simp only [okS] at h
    split at h
    · rename_i hop
      simp only [Bool.and_eq_true] at h
      have hs := simple_ty h.2
      simp only [Stmt.op, Stmt.x, Stmt.y] at hs
      simp only [ptS, hop.1, hop.2, if_false, List.mem_singleton]
      rintro z rfl
      exact hs
    · rename_i hop
      cases d with
      | zero => cases h
      | succ d =>
        simp only [Bool.and_eq_true, decide_eq_true_eq] at h
        obtain ⟨⟨⟨_, _⟩, h1⟩, h2⟩ := h
        by_cases h9 : op = 9
        · subst h9
          simp only [ptS, if_true, List.mem_append, List.mem_singleton]
          rintro z (((rfl | hz) | rfl) | hz)
          · exact PtY.no (by simp)
          · exact ptL_ty th d (b + 1) h1 z hz
          · exact PtY.no (by simp)
          · exact ptL_ty el d (b + 2 + npL th) h2 z hz
        · have h10 : op = 10 := by omega
          subst h10
          simp only [ptS, if_true, show ((10 : Int) = 9) = False by simp, if_false, List.mem_append, List.mem_singleton]
          rintro z ((rfl | hz) | rfl)
          · exact PtY.no (by simp)
          · exact ptL_ty th d (b + 1) h1 z hz
          · exact PtY.no (by simp)
theorem ptL_ty {ts : List Int} : ∀ (l : List Stmt) (d b : Nat), okL ts d l = true → ∀ x ∈ ptL b l, PtY ts x
  | [], d, b, h => by simp [ptL]
  | s :: l, d, b, h => by
    simp only [okL, Bool.and_eq_true] at h
    simp only [ptL, List.mem_append]
    rintro x (hx | hx)
    · exact ptS_ty s d b h.1 x hx
    · exact ptL_ty l d (b + npS s) h.2 x hx
end
theorem WT.of_valid {p : Prg} (h : validF p = true) : WT p.types (ptsF p) := by
  unfold validF at h
  simp only [Bool.and_eq_true, decide_eq_true_eq] at h
  obtain ⟨⟨_, hl⟩, _⟩ := h
  have key : ∀ i, i < (ptsF p).length → PtY p.types (ptsF p)[i]! := by
    intro i hi
    have hm := getB_mem _ i hi
    unfold ptsF at hm
    rw [List.mem_append, List.mem_singleton] at hm
    rcases hm with hm | hm
    · exact ptL_ty p.body 4 0 hl _ hm
    · unfold ptsF; rw [hm]; exact PtY.no (by simp)
  exact ⟨fun i hi => (key i hi).1, fun i hi => (key i hi).2⟩
structure BOk (nt n : Nat) (b : Bnd) : Prop where
  v : 0 ≤ b.var ∧ b.var < nt
  k : (0 ≤ b.loan ∧ b.loan < n ∧ b.src = -1) ∨ (b.loan = -1 ∧ 0 ≤ b.src ∧ b.src < nt ∧ b.src ≠ b.var)
end Go.AL

namespace Go.AL
structure Tg where
  id : Int
  uq : Bool
  deriving Inhabited, DecidableEq
structure Cl where
  val : Int
  alive : Bool
  next : Int
  stk : List Tg
  deriving Inhabited, DecidableEq
structure Pt where
  cell : Int
  tag : Int
  deriving Inhabited, DecidableEq
structure Sl where
  set : Bool
  num : Int
  ptr : Pt
  deriving Inhabited, DecidableEq
def cTg (t : Tg) : List AV := [iv t.id, bv t.uq]
def cCl (c : Cl) : List AV := [iv c.val, bv c.alive, iv c.next, sl cTg c.stk]
def cSl (s : Sl) : List AV := [bv s.set, iv s.num, iv s.ptr.cell, iv s.ptr.tag]
instance : FlT cTg 2 := ⟨fun _ => rfl⟩
instance : FlT cCl 4 := ⟨fun _ => rfl⟩
instance : FlT cSl 4 := ⟨fun _ => rfl⟩
instance : FE cTg (fun t => [iv t.id, bv t.uq]) := ⟨fun _ => rfl⟩
instance : FE cCl (fun c => [iv c.val, bv c.alive, iv c.next, sl cTg c.stk]) := ⟨fun _ => rfl⟩
instance : FE cSl (fun s => [bv s.set, iv s.num, iv s.ptr.cell, iv s.ptr.tag]) := ⟨fun _ => rfl⟩
instance (t : Tg) : Pur (cTg t) := ⟨rfl⟩
instance (c : Cl) : Pur (cCl c) := ⟨by show (true && (true && (true && ((sl cTg c.stk).pur && true)))) = true; rw [pur_sl]; rfl⟩
instance (s : Sl) : Pur (cSl s) := ⟨rfl⟩
abbrev aTg (t : Tg) : AV := .agg [iv t.id, bv t.uq]
abbrev aCl (c : Cl) : AV := .agg [iv c.val, bv c.alive, iv c.next, sl cTg c.stk]
abbrev aPt (p : Pt) : AV := .agg [iv p.cell, iv p.tag]
abbrev aSl (s : Sl) : AV := .agg [bv s.set, iv s.num, iv s.ptr.cell, iv s.ptr.tag]
structure OkC (c : Cl) : Prop where
  v : 0 ≤ c.val ∧ c.val ≤ 9
  n : 1 ≤ c.next ∧ c.next ≤ 1000
  l : 1 ≤ c.stk.length ∧ c.stk.length ≤ 200
  u : c.stk[0]!.uq = true
  i : ∀ t ∈ c.stk, 0 ≤ t.id ∧ t.id < c.next
  d : (c.stk.map (·.id)).Nodup
structure OkM (m : List Cl) : Prop where
  l : m.length ≤ 200
  c : ∀ c ∈ m, OkC c
def tgIx (stk : List Tg) (id : Int) : Int := match stk.findIdx? (fun t => decide (t.id = id)) with | some k => k | none => -1
theorem tgIx_bd (stk : List Tg) (id : Int) : -1 ≤ tgIx stk id ∧ tgIx stk id < stk.length := by
  unfold tgIx
  split
  · rename_i k h
    obtain ⟨h1, _⟩ := List.findIdx?_eq_some_iff_getElem.1 h
    omega
  · omega
theorem tgIx_at {stk : List Tg} {id : Int} (h : 0 ≤ tgIx stk id) : stk[(tgIx stk id).toNat]!.id = id := by
  unfold tgIx at h ⊢
  split
  · rename_i k hk
    obtain ⟨h1, h2, _⟩ := List.findIdx?_eq_some_iff_getElem.1 hk
    rw [Int.toNat_natCast, getB _ _ h1]
    simpa using h2
  · rename_i hk; rw [hk] at h; dsimp only at h; omega
theorem tgIx_none {stk : List Tg} {id : Int} : tgIx stk id < 0 ↔ ∀ t ∈ stk, t.id ≠ id := by
  unfold tgIx
  split
  · rename_i k hk
    obtain ⟨h1, h2, _⟩ := List.findIdx?_eq_some_iff_getElem.1 hk
    refine ⟨fun h => by omega, fun h => ?_⟩
    exact absurd (by simpa using h2) (h _ (List.getElem_mem h1))
  · rename_i hk
    rw [List.findIdx?_eq_none_iff] at hk
    exact ⟨fun _ t ht => by simpa using hk t ht, fun _ => by omega⟩
def tchS (stk : List Tg) (k : Nat) (wr : Bool) : List Tg := if wr = true then stk.take (k + 1) else stk.take (k + 1) ++ (stk.drop (k + 1)).filter (fun t => !t.uq)
def tchK (m : List Cl) (x : Pt) (wr : Bool) : Int :=
  if ¬ (0 ≤ x.cell ∧ x.cell < m.length) then 4
  else if m[x.cell.toNat]!.alive = false then 1
  else if tgIx m[x.cell.toNat]!.stk x.tag < 0 then 2
  else if wr = true ∧ m[x.cell.toNat]!.stk[(tgIx m[x.cell.toNat]!.stk x.tag).toNat]!.uq = false then 3
  else 0
def tchC (c : Cl) (x : Pt) (wr : Bool) : Cl := { c with stk := tchS c.stk (tgIx c.stk x.tag).toNat wr }
def tchM (m : List Cl) (x : Pt) (wr : Bool) : List Cl := if tchK m x wr = 0 then m.set x.cell.toNat (tchC m[x.cell.toNat]! x wr) else m
def rdN (m : List Cl) (x : Pt) : Int := if tchK m x false = 0 then m[x.cell.toNat]!.val else 0
def wrK (m : List Cl) (x : Pt) (v : Int) : Int := if 0 ≤ v ∧ v ≤ 9 then tchK m x true else 4
def wrM (m : List Cl) (x : Pt) (v : Int) : List Cl := if wrK m x v = 0 then m.set x.cell.toNat { tchC m[x.cell.toNat]! x true with val := v } else m
def frM (m : List Cl) (x : Pt) : List Cl := if tchK m x true = 0 then m.set x.cell.toNat { tchC m[x.cell.toNat]! x true with alive := false } else m
def full (c : Cl) : Prop := c.stk.length = 200 ∨ c.next = 1000
instance (c : Cl) : Decidable (full c) := by unfold full; infer_instance
def lnK (m : List Cl) (x : Pt) (u : Bool) : Int := if tchK m x u = 0 then (if full (tchC m[x.cell.toNat]! x u) then 4 else 0) else tchK m x u
def psh (c : Cl) (u : Bool) : Cl := { c with stk := c.stk ++ [⟨c.next, u⟩], next := c.next + 1 }
def lnM (m : List Cl) (x : Pt) (u : Bool) : List Cl := if lnK m x u = 0 then m.set x.cell.toNat (psh (tchC m[x.cell.toNat]! x u) u) else m
def lnP (m : List Cl) (x : Pt) (u : Bool) : Pt := if lnK m x u = 0 then ⟨x.cell, m[x.cell.toNat]!.next⟩ else ⟨0, 0⟩
def nwC (v : Int) : Cl := ⟨v, true, 1, [⟨0, true⟩]⟩
theorem tchS_sub {stk : List Tg} {k : Nat} {wr : Bool} : (tchS stk k wr).Sublist stk := by
  unfold tchS
  split
  · exact List.take_sublist _ _
  · have h := List.Sublist.append (List.Sublist.refl (stk.take (k + 1))) (List.filter_sublist (l := stk.drop (k + 1)) (p := fun t => !t.uq))
    rwa [List.take_append_drop] at h
theorem tchS_head {stk : List Tg} {k : Nat} {wr : Bool} (h : 0 < stk.length) : (tchS stk k wr)[0]! = stk[0]! ∧ 0 < (tchS stk k wr).length := by
  cases stk with
  | nil => simp at h
  | cons a l =>
    unfold tchS
    split <;> simp
theorem OkC.tch {c : Cl} (h : OkC c) (x : Pt) (wr : Bool) : OkC (tchC c x wr) := by
  have hs := tchS_sub (stk := c.stk) (k := (tgIx c.stk x.tag).toNat) (wr := wr)
  have hh := tchS_head (k := (tgIx c.stk x.tag).toNat) (wr := wr) (stk := c.stk) (by have := h.l; omega)
  refine ⟨h.v, h.n, ⟨hh.2, Nat.le_trans hs.length_le h.l.2⟩, ?_, fun t ht => h.i t (hs.subset ht), (hs.map _).nodup h.d⟩
  show (tchS c.stk (tgIx c.stk x.tag).toNat wr)[0]!.uq = true
  rw [hh.1]; exact h.u
theorem OkC.psh {c : Cl} (h : OkC c) (u : Bool) (hf : ¬ full c) : OkC (psh c u) := by
  have hl := h.l
  have hn := h.n
  unfold full at hf
  refine ⟨h.v, by show 1 ≤ c.next + 1 ∧ c.next + 1 ≤ 1000; omega, by show 1 ≤ (c.stk ++ [_]).length ∧ (c.stk ++ [_]).length ≤ 200; rw [List.length_append, List.length_singleton]; omega, ?_, fun t ht => ?_, ?_⟩
  · show (c.stk ++ [_])[0]!.uq = true
    have h1 := h.u
    rw [getB _ _ (by omega)] at h1
    rw [getB _ _ (by rw [List.length_append]; omega), List.getElem_append_left (by omega)]; exact h1
  · rcases List.mem_append.1 ht with ht | ht
    · have := h.i t ht; show 0 ≤ t.id ∧ t.id < c.next + 1; omega
    · rw [List.mem_singleton] at ht; subst ht; show 0 ≤ c.next ∧ c.next < c.next + 1; omega
  · show ((c.stk ++ [_]).map _).Nodup
    rw [List.map_append, List.nodup_append]
    refine ⟨h.d, by simp, fun a ha b hb => ?_⟩
    simp only [List.map_cons, List.map_nil, List.mem_singleton] at hb
    obtain ⟨t, ht, rfl⟩ := List.mem_map.1 ha
    have := h.i t ht
    omega
theorem OkC.nw {v : Int} (h : 0 ≤ v ∧ v ≤ 9) : OkC (nwC v) := ⟨h, ⟨by show (1 : Int) ≤ 1; decide, by show (1 : Int) ≤ 1000; decide⟩, ⟨by show 1 ≤ 1; decide, by show 1 ≤ 200; decide⟩, rfl, by simp [nwC], by simp [nwC]⟩
theorem OkM.set {m : List Cl} (h : OkM m) {k : Nat} {c : Cl} (hc : OkC c) : OkM (m.set k c) :=
  ⟨by rw [List.length_set]; exact h.l, fun x hx => (List.mem_or_eq_of_mem_set hx).elim (h.c x) (fun e => e ▸ hc)⟩
theorem OkM.at {m : List Cl} (h : OkM m) {k : Nat} (hk : k < m.length) : OkC m[k]! := h.c _ (getB_mem _ _ hk)
theorem tchK_in {m : List Cl} {x : Pt} {wr : Bool} (h : tchK m x wr ≠ 4) : 0 ≤ x.cell ∧ x.cell < m.length ∧ x.cell.toNat < m.length := by
  unfold tchK at h
  split at h
  · exact absurd rfl h
  · omega
theorem tchK_0 {m : List Cl} {x : Pt} {wr : Bool} (h : tchK m x wr = 0) : 0 ≤ x.cell ∧ x.cell < m.length ∧ x.cell.toNat < m.length := tchK_in (by rw [h]; decide)
theorem OkM.tch {m : List Cl} (h : OkM m) (x : Pt) (wr : Bool) : OkM (tchM m x wr) := by
  unfold tchM; split
  · rename_i hk; exact h.set ((h.at (tchK_0 hk).2.2).tch x wr)
  · exact h
theorem OkM.wr {m : List Cl} (h : OkM m) (x : Pt) (v : Int) : OkM (wrM m x v) := by
  unfold wrM
  by_cases hk : wrK m x v = 0
  · rw [if_pos hk]
    unfold wrK at hk
    by_cases hv : 0 ≤ v ∧ v ≤ 9
    · rw [if_pos hv] at hk
      have h1 := (h.at (tchK_0 hk).2.2).tch x true
      exact h.set ⟨hv, h1.n, h1.l, h1.u, h1.i, h1.d⟩
    · rw [if_neg hv] at hk; cases hk
  · rw [if_neg hk]; exact h
theorem OkM.fr {m : List Cl} (h : OkM m) (x : Pt) : OkM (frM m x) := by
  unfold frM; split
  · rename_i hk
    have h1 := (h.at (tchK_0 hk).2.2).tch x true
    exact h.set ⟨h1.v, h1.n, h1.l, h1.u, h1.i, h1.d⟩
  · exact h
theorem OkM.ln {m : List Cl} (h : OkM m) (x : Pt) (u : Bool) : OkM (lnM m x u) := by
  unfold lnM
  by_cases hk : lnK m x u = 0
  · rw [if_pos hk]
    unfold lnK at hk
    by_cases h0 : tchK m x u = 0
    · rw [if_pos h0] at hk
      by_cases hf : full (tchC m[x.cell.toNat]! x u)
      · rw [if_pos hf] at hk; cases hk
      · exact h.set (((h.at (tchK_0 h0).2.2).tch x u).psh u hf)
    · rw [if_neg h0] at hk; exact absurd hk h0
  · rw [if_neg hk]; exact h
theorem OkM.nw {m : List Cl} (h : OkM m) {v : Int} (hv : 0 ≤ v ∧ v ≤ 9) (hl : m.length < 200) : OkM (m ++ [nwC v]) :=
  ⟨by rw [List.length_append, List.length_singleton]; omega, fun c hc => (List.mem_append.1 hc).elim (h.c c) (fun h => by rw [List.mem_singleton.1 h]; exact OkC.nw hv)⟩
end Go.AL

namespace Go.AL
def stpW (pts : List Pnt) (a : Nat) (cs : List Int) : Nat × List Int :=
  if pts[a]!.next.length = 2 then
    match cs with
    | [] => ((pts[a]!.next[1]!).toNat, [])
    | c :: cs => ((pts[a]!.next[(c % 2).toNat]!).toNat, cs)
  else ((pts[a]!.next[0]!).toNat, cs)
def wayF (pts : List Pnt) : Nat → Nat → List Int → List Nat × Bool
  | 0, a, _ => if pts[a]!.op = 11 then ([a], true) else ([], false)
  | n + 1, a, cs => if pts[a]!.op = 11 then ([a], true) else (a :: (wayF pts n (stpW pts a cs).1 (stpW pts a cs).2).1, (wayF pts n (stpW pts a cs).1 (stpW pts a cs).2).2)
structure Mc where
  slots : List Sl
  cells : List Cl
  read : List Int
  deriving Inhabited
def sl0 : Sl := ⟨false, 0, ⟨0, 0⟩⟩
def endK (k : Int) : Int := if k = 1 then 3 else 4
def goK (k : Int) : Int := if k = 0 then -1 else endK k
def putF (ts : List Int) (s : Mc) (v : Nat) (x : Sl) : Mc × Int :=
  if ts[v]! = 2 ∧ s.slots[v]!.set = true then (⟨s.slots.set v x, frM s.cells s.slots[v]!.ptr, s.read⟩, goK (tchK s.cells s.slots[v]!.ptr true))
  else (⟨s.slots.set v x, s.cells, s.read⟩, -1)
def unsF (ts : List Int) (s : Mc) (x : Pnt) : Bool := (List.range ts.length).any fun v => decide (useAt ts x v ≠ 0) && !s.slots[v]!.set
def finF (ts : List Int) : Nat → Nat → Mc → Mc × Int
  | 0, _, s => (s, 0)
  | n + 1, v, s => if ts[v]! = 2 ∧ s.slots[v]!.set = true then
      (if tchK s.cells s.slots[v]!.ptr true = 0 then finF ts n (v + 1) ⟨s.slots.set v sl0, frM s.cells s.slots[v]!.ptr, s.read⟩ else (⟨s.slots, frM s.cells s.slots[v]!.ptr, s.read⟩, endK (tchK s.cells s.slots[v]!.ptr true)))
    else finF ts n (v + 1) s
def doF (ts : List Int) (s : Mc) (x : Pnt) : Mc × Int :=
  if x.op = 1 then putF ts s x.x.toNat ⟨true, x.n, ⟨0, 0⟩⟩
  else if x.op = 2 then (if s.cells.length = 200 then (s, 1) else putF ts ⟨s.slots, s.cells ++ [nwC x.n], s.read⟩ x.x.toNat ⟨true, 0, ⟨s.cells.length, 0⟩⟩)
  else if x.op = 3 then putF ts (if tkT ts[x.y.toNat]! = true then ⟨s.slots.set x.y.toNat sl0, s.cells, s.read⟩ else s) x.x.toNat s.slots[x.y.toNat]!
  else if x.op = 4 ∨ x.op = 5 then
    (if lnK s.cells s.slots[x.y.toNat]!.ptr (decide (x.op = 5)) = 0 then putF ts ⟨s.slots, lnM s.cells s.slots[x.y.toNat]!.ptr (decide (x.op = 5)), s.read⟩ x.x.toNat ⟨true, 0, lnP s.cells s.slots[x.y.toNat]!.ptr (decide (x.op = 5))⟩
     else (s, endK (lnK s.cells s.slots[x.y.toNat]!.ptr (decide (x.op = 5)))))
  else if x.op = 6 then
    (if tchK s.cells s.slots[x.y.toNat]!.ptr false = 0 then putF ts ⟨s.slots, tchM s.cells s.slots[x.y.toNat]!.ptr false, s.read ++ [rdN s.cells s.slots[x.y.toNat]!.ptr]⟩ x.x.toNat ⟨true, rdN s.cells s.slots[x.y.toNat]!.ptr, ⟨0, 0⟩⟩
     else (s, endK (tchK s.cells s.slots[x.y.toNat]!.ptr false)))
  else if x.op = 7 then (⟨s.slots, wrM s.cells s.slots[x.x.toNat]!.ptr s.slots[x.y.toNat]!.num, s.read⟩, goK (wrK s.cells s.slots[x.x.toNat]!.ptr s.slots[x.y.toNat]!.num))
  else if x.op = 8 then (⟨s.slots.set x.x.toNat sl0, frM s.cells s.slots[x.x.toNat]!.ptr, s.read⟩, goK (tchK s.cells s.slots[x.x.toNat]!.ptr true))
  else if x.op = 11 then finF ts ts.length 0 s
  else (s, -1)
def runF (ts : List Int) (pts : List Pnt) : List Nat → Mc → Nat → Mc × Int × Nat
  | [], s, last => (s, 1, last)
  | a :: l, s, _ => if unsF ts s pts[a]! = true then (s, 2, a)
    else if (doF ts s pts[a]!).2 = -1 then runF ts pts l (doF ts s pts[a]!).1 a
    else ((doF ts s pts[a]!).1, (doF ts s pts[a]!).2, a)
def mc0 (nt : Nat) : Mc := ⟨List.replicate nt sl0, [], []⟩
def runP (ts : List Int) (pts : List Pnt) (cs : List Int) (most : Nat) : Mc × Int × Nat := runF ts pts (wayF pts most 0 cs).1 (mc0 ts.length) 0
structure OkS (nt : Nat) (s : Mc) : Prop where
  m : OkM s.cells
  l : s.slots.length = nt
theorem OkS.put {ts : List Int} {nt : Nat} {s : Mc} (h : OkS nt s) (v : Nat) (x : Sl) : OkS nt (putF ts s v x).1 := by
  unfold putF; split
  · exact ⟨h.m.fr _, by show (s.slots.set v x).length = nt; rw [List.length_set]; exact h.l⟩
  · exact ⟨h.m, by show (s.slots.set v x).length = nt; rw [List.length_set]; exact h.l⟩
theorem OkS.fin {ts : List Int} {nt : Nat} : ∀ n v (s : Mc), OkS nt s → OkS nt (finF ts n v s).1
  | 0, _, _, h => h
  | n + 1, v, s, h => by
    unfold finF; split
    · split
      · exact OkS.fin n _ _ ⟨h.m.fr _, by show (s.slots.set v sl0).length = nt; rw [List.length_set]; exact h.l⟩
      · exact ⟨h.m.fr _, h.l⟩
    · exact OkS.fin n _ _ h
structure PtN (x : Pnt) : Prop where
  n : x.op = 2 → 0 ≤ x.n ∧ x.n ≤ 9
theorem OkS.do {ts : List Int} {nt : Nat} {s : Mc} (h : OkS nt s) {x : Pnt} (hx : PtN x) : OkS nt (doF ts s x).1 := by
  have hl : ∀ (v : Nat) (y : Sl), (s.slots.set v y).length = nt := fun v y => by rw [List.length_set]; exact h.l
  unfold doF
  split
  · exact h.put _ _
  split
  · rename_i h2
    split
    · exact h
    · rename_i h3
      refine OkS.put ?_ _ _
      exact ⟨h.m.nw (hx.n h2) (by have := h.m.l; omega), h.l⟩
  split
  · split
    · refine OkS.put ?_ _ _
      exact ⟨h.m, hl _ _⟩
    · exact h.put _ _
  split
  · split
    · refine OkS.put ?_ _ _
      exact ⟨h.m.ln _ _, h.l⟩
    · exact h
  split
  · split
    · refine OkS.put ?_ _ _
      exact ⟨h.m.tch _ _, h.l⟩
    · exact h
  split
  · exact ⟨h.m.wr _ _, h.l⟩
  split
  · exact ⟨h.m.fr _, hl _ _⟩
  split
  · exact OkS.fin _ _ _ h
  · exact h
theorem OkS.mc0 (nt : Nat) : OkS nt (mc0 nt) := ⟨⟨by simp [Go.AL.mc0], by simp [Go.AL.mc0]⟩, by simp [Go.AL.mc0]⟩
theorem OkS.run {ts : List Int} {pts : List Pnt} {nt : Nat} (hp : ∀ a : Nat, PtN pts[a]!) : ∀ (l : List Nat) (s : Mc) (last : Nat), OkS nt s → OkS nt (runF ts pts l s last).1
  | [], _, _, h => h
  | a :: l, s, _, h => by
    unfold runF; split
    · exact h
    · split
      · exact OkS.run hp l _ _ (h.do (hp a))
      · exact h.do (hp a)
end Go.AL

namespace Go.AL
theorem way_pre (pts : List Pnt) : ∀ n n' a cs, n ≤ n' → (wayF pts n a cs).1 <+: (wayF pts n' a cs).1
  | 0, n', a, cs, _ => by
    by_cases h : pts[a]!.op = 11
    · have e : (wayF pts 0 a cs).1 = [a] := by unfold wayF; rw [if_pos h]
      have e' : (wayF pts n' a cs).1 = [a] := by cases n' <;> (unfold wayF; rw [if_pos h])
      rw [e, e']; exact List.prefix_refl _
    · have e : (wayF pts 0 a cs).1 = [] := by unfold wayF; rw [if_neg h]
      rw [e]; exact List.nil_prefix
  | n + 1, 0, a, cs, hn => by omega
  | n + 1, n' + 1, a, cs, hn => by
    unfold wayF
    by_cases h : pts[a]!.op = 11
    · rw [if_pos h, if_pos h]; exact List.prefix_refl _
    · rw [if_neg h, if_neg h]
      exact List.cons_prefix_cons.2 ⟨rfl, way_pre pts n n' _ _ (by omega)⟩
theorem run_app (ts : List Int) (pts : List Pnt) : ∀ (l l' : List Nat) (s : Mc) (last : Nat), (runF ts pts l s last).2.1 ≠ 1 → runF ts pts (l ++ l') s last = runF ts pts l s last
  | [], l', s, last, h => absurd rfl h
  | a :: l, l', s, last, h => by
    rw [List.cons_append]
    unfold runF at h ⊢
    split
    · rfl
    · rename_i h1
      rw [if_neg h1] at h
      split
      · rename_i h2
        rw [if_pos h2] at h
        exact run_app ts pts l l' _ _ h
      · rfl
theorem run_more (ts : List Int) (pts : List Pnt) (cs : List Int) {n n' : Nat} (hn : n ≤ n') (h : (runP ts pts cs n).2.1 ≠ 1) : runP ts pts cs n' = runP ts pts cs n := by
  unfold runP at h ⊢
  obtain ⟨l', e⟩ := way_pre pts n n' 0 cs hn
  rw [← e]
  exact run_app ts pts _ l' _ _ h
theorem run_at (ts : List Int) (pts : List Pnt) : ∀ (l : List Nat) (s : Mc) (last : Nat), (runF ts pts l s last).2.2 = last ∧ l = [] ∨ (runF ts pts l s last).2.2 ∈ l
  | [], s, last => .inl ⟨rfl, rfl⟩
  | a :: l, s, last => by
    refine .inr ?_
    unfold runF
    split
    · exact List.mem_cons_self
    · split
      · rcases run_at ts pts l (doF ts s pts[a]!).1 a with ⟨h, _⟩ | h
        · rw [h]; exact List.mem_cons_self
        · exact List.mem_cons_of_mem _ h
      · exact List.mem_cons_self
theorem goK_ne (k : Int) : goK k = -1 ∨ goK k = 3 ∨ goK k = 4 := by unfold goK endK; split; exact .inl rfl; split; exact .inr (.inl rfl); exact .inr (.inr rfl)
theorem endK_ne (k : Int) : endK k = 3 ∨ endK k = 4 := by unfold endK; split; exact .inl rfl; exact .inr rfl
theorem put_end (ts : List Int) (s : Mc) (v : Nat) (x : Sl) : (putF ts s v x).2 = -1 ∨ (putF ts s v x).2 = 3 ∨ (putF ts s v x).2 = 4 := by
  unfold putF; split
  · exact goK_ne _
  · exact .inl rfl
theorem do_end {ts : List Int} {s : Mc} {x : Pnt} (h : x.op ≠ 11) : (doF ts s x).2 = -1 ∨ (doF ts s x).2 = 1 ∨ (doF ts s x).2 = 3 ∨ (doF ts s x).2 = 4 := by
  have p := fun s v y => put_end ts s v y
  have p' : ∀ s v y, (putF ts s v y).2 = -1 ∨ (putF ts s v y).2 = 1 ∨ (putF ts s v y).2 = 3 ∨ (putF ts s v y).2 = 4 := fun s v y => by
    rcases p s v y with h | h | h
    · exact .inl h
    · exact .inr (.inr (.inl h))
    · exact .inr (.inr (.inr h))
  have g : ∀ k, goK k = -1 ∨ goK k = 1 ∨ goK k = 3 ∨ goK k = 4 := fun k => by
    rcases goK_ne k with h | h | h
    · exact .inl h
    · exact .inr (.inr (.inl h))
    · exact .inr (.inr (.inr h))
  have e : ∀ k, endK k = -1 ∨ endK k = 1 ∨ endK k = 3 ∨ endK k = 4 := fun k => .inr (.inr (endK_ne k))
  unfold doF
  rw [if_neg h]
  split
  · exact p' _ _ _
  split
  · split
    · exact .inr (.inl rfl)
    · exact p' _ _ _
  split
  · exact p' _ _ _
  split
  · split
    · exact p' _ _ _
    · exact e _
  split
  · split
    · exact p' _ _ _
    · exact e _
  split
  · exact g _
  split
  · exact g _
  exact .inl rfl
theorem fin_end (ts : List Int) : ∀ n v (s : Mc), (finF ts n v s).2 = 0 ∨ (finF ts n v s).2 = 3 ∨ (finF ts n v s).2 = 4
  | 0, _, _ => .inl rfl
  | n + 1, v, s => by
    unfold finF; split
    · split
      · exact fin_end ts n _ _
      · exact .inr (endK_ne _)
    · exact fin_end ts n _ _
theorem do_11 {ts : List Int} {s : Mc} {x : Pnt} (h : x.op = 11) : doF ts s x = finF ts ts.length 0 s := by
  unfold doF; simp [h]
theorem run_done (ts : List Int) (pts : List Pnt) : ∀ (l : List Nat) (s : Mc) (last : Nat), (runF ts pts l s last).2.1 = 0 → pts[(runF ts pts l s last).2.2]!.op = 11
  | [], s, last, h => by cases h
  | a :: l, s, last, h => by
    unfold runF at h ⊢
    split
    · rename_i h1; rw [if_pos h1] at h; cases h
    · rename_i h1
      rw [if_neg h1] at h
      split
      · rename_i h2; rw [if_pos h2] at h; exact run_done ts pts l _ _ h
      · rename_i h2
        rw [if_neg h2] at h
        by_cases h3 : pts[a]!.op = 11
        · exact h3
        · rcases do_end (ts := ts) (s := s) h3 with q | q | q | q <;> (dsimp only at h; rw [q] at h; cases h)
theorem frM_len (m : List Cl) (x : Pt) : (frM m x).length = m.length := by unfold frM; split <;> simp
theorem tchM_len (m : List Cl) (x : Pt) (b : Bool) : (tchM m x b).length = m.length := by unfold tchM; split <;> simp
theorem lnM_len (m : List Cl) (x : Pt) (b : Bool) : (lnM m x b).length = m.length := by unfold lnM; split <;> simp
theorem wrM_len (m : List Cl) (x : Pt) (v : Int) : (wrM m x v).length = m.length := by unfold wrM; split <;> simp
theorem put_cells (ts : List Int) (s : Mc) (v : Nat) (x : Sl) : (putF ts s v x).1.cells.length = s.cells.length := by
  unfold putF; split
  · exact frM_len _ _
  · rfl
theorem fin_cells (ts : List Int) : ∀ n v (s : Mc), (finF ts n v s).1.cells.length = s.cells.length
  | 0, _, _ => rfl
  | n + 1, v, s => by
    unfold finF; split
    · split
      · rw [fin_cells ts n]; exact frM_len _ _
      · exact frM_len _ _
    · exact fin_cells ts n _ _
theorem do_cells (ts : List Int) (s : Mc) (x : Pnt) : (doF ts s x).1.cells.length ≤ s.cells.length + 1 := by
  have p : ∀ s' v y, s'.cells.length ≤ s.cells.length + 1 → (putF ts s' v y).1.cells.length ≤ s.cells.length + 1 := fun s' v y h => by rw [put_cells]; exact h
  unfold doF
  split
  · exact p _ _ _ (Nat.le_succ _)
  split
  · split
    · exact Nat.le_succ _
    · refine p _ _ _ ?_; show (s.cells ++ [_]).length ≤ _; simp
  split
  · split
    · exact p _ _ _ (Nat.le_succ _)
    · exact p _ _ _ (Nat.le_succ _)
  split
  · split
    · refine p _ _ _ ?_; show (lnM _ _ _).length ≤ _; rw [lnM_len]; exact Nat.le_succ _
    · exact Nat.le_succ _
  split
  · split
    · refine p _ _ _ ?_; show (tchM _ _ _).length ≤ _; rw [tchM_len]; exact Nat.le_succ _
    · exact Nat.le_succ _
  split
  · show (wrM _ _ _).length ≤ _; rw [wrM_len]; exact Nat.le_succ _
  split
  · show (frM _ _).length ≤ _; rw [frM_len]; exact Nat.le_succ _
  split
  · rw [fin_cells]; exact Nat.le_succ _
  · exact Nat.le_succ _
theorem run_cells (ts : List Int) (pts : List Pnt) : ∀ (l : List Nat) (s : Mc) (last : Nat), (runF ts pts l s last).1.cells.length ≤ s.cells.length + l.length
  | [], s, last => Nat.le_refl _
  | a :: l, s, last => by
    have h := do_cells ts s pts[a]!
    unfold runF
    rw [List.length_cons]
    split
    · show s.cells.length ≤ _; omega
    · split
      · have := run_cells ts pts l (doF ts s pts[a]!).1 a; omega
      · show (doF ts s pts[a]!).1.cells.length ≤ _; omega
end Go.AL

namespace Go.AL
structure PtA (ts : List Int) (x : Pnt) : Prop where
  n : x.op = 1 ∨ x.op = 2 → 0 ≤ x.n ∧ x.n ≤ 9
  t1 : x.op = 1 → ts[x.x.toNat]! = 1
  t2 : x.op = 2 ∨ x.op = 8 → ts[x.x.toNat]! = 2
  t3 : x.op = 3 → ts[x.x.toNat]! = ts[x.y.toNat]! ∧ x.x ≠ x.y
  t4 : x.op = 4 → ts[x.x.toNat]! = 3 ∧ x.x ≠ x.y ∧ 2 ≤ ts[x.y.toNat]!
  t5 : x.op = 5 → ts[x.x.toNat]! = 4 ∧ x.x ≠ x.y ∧ (ts[x.y.toNat]! = 2 ∨ ts[x.y.toNat]! = 4)
  t6 : x.op = 6 → ts[x.x.toNat]! = 1 ∧ 2 ≤ ts[x.y.toNat]!
  t7 : x.op = 7 → (ts[x.x.toNat]! = 2 ∨ ts[x.x.toNat]! = 4) ∧ ts[x.y.toNat]! = 1
theorem PtA.no {ts : List Int} {x : Pnt} (h : 9 ≤ x.op) : PtA ts x := ⟨fun e => by omega, fun e => by omega, fun e => by omega, fun e => by omega, fun e => by omega, fun e => by omega, fun e => by omega, fun e => by omega⟩
theorem simpleF_op {ts : List Int} {s : Stmt} (h : simpleF ts s = true) : s.op ≤ 8 := by
  unfold simpleF at h
  dsimp only at h
  apply Classical.byContradiction
  intro e
  rw [if_neg (by omega), if_neg (by omega)] at h
  split at h
  · cases h
  · rw [if_neg (by omega), if_neg (by omega), if_neg (by omega), if_neg (by omega), if_neg (by omega), if_neg (by omega)] at h; cases h
theorem simple_A {ts : List Int} (s : Stmt) (h : simpleF ts s = true) : PtA ts ⟨s.op, s.x, s.y, s.n, []⟩ := by
  have g : ∀ v, 0 < typeAt ts v → typeAt ts v = ts[v.toNat]! := fun v => typeAt_get
  have gx := g s.x
  have gy := g s.y
  unfold simpleF at h
  dsimp only at h
  constructor <;> dsimp only <;> intro e
  case n => rcases e with e | e <;> simp [e] at h <;> omega
  case t1 => simp [e] at h; rw [← gx (by omega)]; omega
  case t2 => rcases e with e | e <;> simp [e] at h <;> (rw [← gx (by omega)]; omega)
  case t3 => simp [e] at h; rw [← gx (by omega), ← gy (by omega)]; exact ⟨h.2.1, h.2.2.2⟩
  case t4 => simp [e] at h; rw [← gx (by omega), ← gy (by omega)]; exact ⟨h.2.1, h.2.2.2, h.2.2.1⟩
  case t5 => simp [e] at h; rw [← gx (by omega), ← gy (by omega)]; exact ⟨h.2.1, h.2.2.2, h.2.2.1⟩
  case t6 => simp [e] at h; rw [← gx (by omega), ← gy (by omega)]; exact ⟨h.2.1, h.2.2⟩
  case t7 => simp [e] at h; rw [← gx (by omega), ← gy (by omega)]; exact ⟨h.2.1, h.2.2⟩
mutual
theorem ptS_A {ts : List Int} : ∀ (s : Stmt) (d b : Nat), okS ts d s = true → ∀ x ∈ ptS b s, PtA ts x ∧ x.op ≠ 11 ∧ 0 < x.next.length
  | .mk op x y n th el, d, b, h => by
    simp only [okS] at h
    split at h
    · rename_i hop
      simp only [Bool.and_eq_true] at h
      have hs := simple_A _ h.2
      have ho := simpleF_op h.2
      simp only [Stmt.op, Stmt.x, Stmt.y, Stmt.n] at hs ho
      simp only [ptS, hop.1, hop.2, if_false, List.mem_singleton]
      rintro z rfl
      exact ⟨⟨hs.n, hs.t1, hs.t2, hs.t3, hs.t4, hs.t5, hs.t6, hs.t7⟩, by dsimp only; omega, by simp⟩
    · rename_i hop
      cases d with
      | zero => cases h
      | succ d =>
        simp only [Bool.and_eq_true, decide_eq_true_eq] at h
        obtain ⟨⟨⟨_, _⟩, h1⟩, h2⟩ := h
        by_cases h9 : op = 9
        · subst h9
          simp only [ptS, if_true, List.mem_append, List.mem_singleton]
          rintro z (((rfl | hz) | rfl) | hz)
          · exact ⟨PtA.no (by simp), by simp, by simp⟩
          · exact ptL_A th d (b + 1) h1 z hz
          · exact ⟨PtA.no (by simp), by simp, by simp⟩
          · exact ptL_A el d (b + 2 + npL th) h2 z hz
        · have h10 : op = 10 := by omega
          subst h10
          simp only [ptS, if_true, show ((10 : Int) = 9) = False by simp, if_false, List.mem_append, List.mem_singleton]
          rintro z ((rfl | hz) | rfl)
          · exact ⟨PtA.no (by simp), by simp, by simp⟩
          · exact ptL_A th d (b + 1) h1 z hz
          · exact ⟨PtA.no (by simp), by simp, by simp⟩
theorem ptL_A {ts : List Int} : ∀ (l : List Stmt) (d b : Nat), okL ts d l = true → ∀ x ∈ ptL b l, PtA ts x ∧ x.op ≠ 11 ∧ 0 < x.next.length
  | [], d, b, h => by simp [ptL]
  | s :: l, d, b, h => by
    simp only [okL, Bool.and_eq_true] at h
    simp only [ptL, List.mem_append]
    rintro x (hx | hx)
    · exact ptS_A s d b h.1 x hx
    · exact ptL_A l d (b + npS s) h.2 x hx
end
structure WA (ts : List Int) (pts : List Pnt) : Prop where
  a : ∀ i, i < pts.length → PtA ts pts[i]!
  e : ∀ i, i < pts.length → (pts[i]!.op = 11 ↔ i + 1 = pts.length)
  n : ∀ i, i < pts.length → pts[i]!.op ≠ 11 → 0 < pts[i]!.next.length
theorem WA.of_valid {p : Prg} (h : validF p = true) : WA p.types (ptsF p) := by
  unfold validF at h
  simp only [Bool.and_eq_true, decide_eq_true_eq] at h
  obtain ⟨⟨_, hl⟩, _⟩ := h
  have hlen := ptsF_len p
  have hpl := ptL_len p.body 0
  have lo : ∀ i, i + 1 < (ptsF p).length → (ptsF p)[i]! ∈ ptL 0 p.body := fun i hi => by
    have h1 : i < (ptL 0 p.body).length := by omega
    unfold ptsF
    rw [getB _ _ (by rw [List.length_append]; omega), List.getElem_append_left h1]
    exact List.getElem_mem h1
  have hi : ∀ i, i + 1 = (ptsF p).length → (ptsF p)[i]! = ⟨11, 0, 0, 0, []⟩ := fun i hi => by
    have h1 : i = (ptL 0 p.body).length := by omega
    unfold ptsF
    rw [getB _ _ (by rw [List.length_append, List.length_singleton]; omega)]
    simp [h1]
  refine ⟨fun i h => ?_, fun i h => ⟨fun e => ?_, fun e => by rw [hi i e]⟩, fun i h ne => ?_⟩
  · by_cases q : i + 1 < (ptsF p).length
    · exact (ptL_A p.body 4 0 hl _ (lo i q)).1
    · rw [hi i (by omega)]; exact PtA.no (by simp)
  · by_cases q : i + 1 < (ptsF p).length
    · exact absurd e (ptL_A p.body 4 0 hl _ (lo i q)).2.1
    · omega
  · by_cases q : i + 1 < (ptsF p).length
    · exact (ptL_A p.body 4 0 hl _ (lo i q)).2.2
    · exact absurd (by rw [hi i (by omega)]) ne
end Go.AL
