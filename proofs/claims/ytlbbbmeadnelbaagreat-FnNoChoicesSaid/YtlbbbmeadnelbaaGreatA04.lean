/-
  A part of the proofs over this program: rules and contracts of its functions (the rules).
-/
import Derived.Test.YtlbbbmeadnelbaaGreatA03
set_option linter.unusedVariables false
set_option linter.unusedSimpArgs false
namespace Go.AL
mutual
def npS : Stmt → Nat
  | .mk op _ _ _ th el => if op = 9 then 2 + npL th + npL el else if op = 10 then 2 + npL th else 1
def npL : List Stmt → Nat
  | [] => 0
  | s :: l => npS s + npL l
end
mutual
def ptS (b : Nat) : Stmt → List Pnt
  | .mk op x y n th el =>
    if op = 9 then [⟨9, 0, 0, 0, [(b : Int) + 1, (b : Int) + 1 + npL th + 1]⟩] ++ ptL (b + 1) th ++ [⟨10, 0, 0, 1, [(b : Int) + 2 + npL th + npL el]⟩] ++ ptL (b + 2 + npL th) el
    else if op = 10 then [⟨10, 0, 0, 0, [(b : Int) + 1, (b : Int) + 2 + npL th]⟩] ++ ptL (b + 1) th ++ [⟨10, 0, 0, 1, [(b : Int)]⟩]
    else [⟨op, x, y, n, [(b : Int) + 1]⟩]
def ptL (b : Nat) : List Stmt → List Pnt
  | [] => []
  | s :: l => ptS b s ++ ptL (b + npS s) l
end
mutual
theorem ptS_len : ∀ (s : Stmt) (b : Nat), (ptS b s).length = npS s
  | .mk op x y n th el, b => by
    have h1 := ptL_len th (b + 1)
    have h2 := ptL_len el (b + 2 + npL th)
    simp only [ptS, npS]
    split
    · simp [h1, h2]; omega
    · split
      · simp [h1]; omega
      · simp
theorem ptL_len : ∀ (l : List Stmt) (b : Nat), (ptL b l).length = npL l
  | [], b => by simp [ptL, npL]
  | s :: l, b => by simp only [ptL, npL, List.length_append, ptS_len s b, ptL_len l (b + npS s)]
end
mutual
theorem npS_le : ∀ (s : Stmt), npS s ≤ 2 * cntS s
  | .mk op x y n th el => by
    have h1 := npL_le th
    have h2 := npL_le el
    simp only [npS, cntS]; split
    · omega
    · split <;> omega
theorem npL_le : ∀ (l : List Stmt), npL l ≤ 2 * cntL l
  | [] => by simp [npL, cntL]
  | s :: l => by have h1 := npS_le s; have h2 := npL_le l; simp only [npL, cntL]; omega
end
theorem npL_append : ∀ a b, npL (a ++ b) = npL a + npL b
  | [], b => by simp [npL]
  | s :: a, b => by simp only [List.cons_append, npL, npL_append a b]; omega
theorem ptL_append : ∀ (a b : List Stmt) (k : Nat), ptL k (a ++ b) = ptL k a ++ ptL (k + npL a) b
  | [], b, k => by simp [ptL, npL]
  | s :: a, b, k => by simp only [List.cons_append, ptL, npL, ptL_append a b, List.append_assoc, Nat.add_assoc]
theorem ptL_take (l : List Stmt) (b k : Nat) (hk : k < l.length) : ptL b (l.take (k + 1)) = ptL b (l.take k) ++ ptS (b + npL (l.take k)) l[k]! := by
  rw [take_succB _ _ hk, ptL_append]; simp [ptL]
theorem npL_take (l : List Stmt) (k : Nat) (hk : k < l.length) : npL (l.take (k + 1)) = npL (l.take k) + npS l[k]! := by
  rw [take_succB _ _ hk, npL_append]; simp [npL]
theorem npL_take_le (l : List Stmt) (k : Nat) : npL (l.take k) ≤ npL l := by
  conv => rhs; rw [← List.take_append_drop k l]
  rw [npL_append]; omega
theorem npS_def (s : Stmt) : npS s = if s.op = 9 then 2 + npL s.th + npL s.el else if s.op = 10 then 2 + npL s.th else 1 := by
  cases s; simp only [npS, Stmt.op, Stmt.th, Stmt.el]; rfl
theorem ptS_def (b : Nat) (s : Stmt) : ptS b s = if s.op = 9 then [⟨9, 0, 0, 0, [(b : Int) + 1, (b : Int) + 1 + npL s.th + 1]⟩] ++ ptL (b + 1) s.th ++ [⟨10, 0, 0, 1, [(b : Int) + 2 + npL s.th + npL s.el]⟩] ++ ptL (b + 2 + npL s.th) s.el
    else if s.op = 10 then [⟨10, 0, 0, 0, [(b : Int) + 1, (b : Int) + 2 + npL s.th]⟩] ++ ptL (b + 1) s.th ++ [⟨10, 0, 0, 1, [(b : Int)]⟩]
    else [⟨s.op, s.x, s.y, s.n, [(b : Int) + 1]⟩] := by
  cases s; simp only [ptS, Stmt.op, Stmt.th, Stmt.el, Stmt.x, Stmt.y, Stmt.n]; rfl
def ptsF (p : Prg) : List Pnt := ptL 0 p.body ++ [⟨11, 0, 0, 0, []⟩]
theorem ptsF_len (p : Prg) : (ptsF p).length = npL p.body + 1 := by simp [ptsF, ptL_len]

theorem app_flat {α : Type} {f : α → List AV} {e : Nat} [h : FlT f e] {xs : List α} {m : Nat} {new : List AV} {y : α} (hm : m = xs.length) (hn : new = f y) : ((flat f xs).drop 0).take (m * e) ++ new = flat f (xs ++ [y]) := by
  subst hm hn
  rw [List.drop_zero, List.take_of_length_le (by rw [flat_length f (e := e)]; exact Nat.le_refl _), ← flat_append, flat_one]
theorem app_pnt0 {xs : List Pnt} {m : Nat} {a b c d : Int} (hm : m = xs.length) : ((flat cPnt xs).drop 0).take (m * 5) ++ [iv a, iv b, iv c, iv d, .imm 0 []] = flat cPnt (xs ++ [⟨a, b, c, d, []⟩]) := app_flat hm rfl
theorem app_pnt1 {xs : List Pnt} {m : Nat} {a b c d e : Int} (hm : m = xs.length) : ((flat cPnt xs).drop 0).take (m * 5) ++ [iv a, iv b, iv c, iv d, .imm 1 [iv e]] = flat cPnt (xs ++ [⟨a, b, c, d, [e]⟩]) := app_flat hm rfl
theorem app_int {xs : List Int} {m : Nat} {a : Int} (hm : m = xs.length) : ((flat cI xs).drop 0).take (m * 1) ++ [iv a] = flat cI (xs ++ [a]) := app_flat hm rfl
theorem spl_mid (A B C new : List AV) (j : Nat) (hj : j + new.length ≤ B.length) : spl (A ++ (B ++ C)) (A.length + j) new = A ++ (spl B j new ++ C) := by
  unfold spl
  rw [List.take_length_add_append, Nat.add_assoc, List.drop_length_add_append, List.take_append_of_le_length (by omega), List.drop_append_of_le_length hj]
  simp only [List.append_assoc]
theorem flat_split {α : Type} [Inhabited α] {f : α → List AV} {e : Nat} [h : FlT f e] {xs : List α} {k : Nat} (hk : k < xs.length) : flat f xs = flat f (xs.take k) ++ (f xs[k]! ++ flat f (xs.drop (k + 1))) := by
  rw [← flat_drop f (e := e) xs k hk, ← flat_take f (e := e), List.take_append_drop]
theorem st_flat {α : Type} [Inhabited α] {f : α → List AV} {e : Nat} [h : FlT f e] {xs : List α} {k j : Nat} {new : List AV} {y : α} (hk : k < xs.length) (hj : j + new.length ≤ e) (hy : spl (f xs[k]!) j new = f y) : spl (flat f xs) (0 + k * e + j) new = flat f (xs.set k y) := by
  have h3 : (flat f (xs.take k)).length = k * e := by rw [flat_length f (e := e), List.length_take]; congr 1; omega
  rw [flat_split (e := e) hk, Nat.zero_add, ← h3, spl_mid _ _ _ _ _ (by rw [h.pf]; exact hj), hy, List.set_eq_take_append_cons_drop, if_pos hk, ← flat_append]
  simp only [flat, List.flatMap_cons]
theorem st_flat0 {α : Type} [Inhabited α] {f : α → List AV} {e : Nat} [h : FlT f e] {xs : List α} {k : Nat} {new : List AV} {y : α} (hk : k < xs.length) (hy : new = f y) : spl (flat f xs) (0 + k * e) new = flat f (xs.set k y) := by
  subst hy
  rw [Nat.zero_add]; exact flat_spl f xs k y hk
theorem st_next1 {xs : List Pnt} {k : Nat} {a : Int} (hk : k < xs.length) : spl (flat cPnt xs) (0 + k * 5 + 4) [.imm 1 [iv a]] = flat cPnt (xs.set k { xs[k]! with next := [a] }) := st_flat hk (by simp) rfl
theorem st_next2 {xs : List Pnt} {k : Nat} {a b : Int} (hk : k < xs.length) : spl (flat cPnt xs) (0 + k * 5 + 4) [.imm 2 [iv a, iv b]] = flat cPnt (xs.set k { xs[k]! with next := [a, b] }) := st_flat hk (by simp) rfl
end Go.AL
namespace Go.AL
theorem npS_9 (s : Stmt) : s.op = 9 → npS s = 2 + npL s.th + npL s.el := by intro h; rw [npS_def, if_pos h]
theorem npS_10 (s : Stmt) : s.op = 10 → npS s = 2 + npL s.th := by intro h; rw [npS_def, if_neg (by omega), if_pos h]
theorem npS_1 (s : Stmt) : ¬ s.op = 9 → ¬ s.op = 10 → npS s = 1 := by intro h h2; rw [npS_def, if_neg h, if_neg h2]
theorem npL_at (l : List Stmt) (k : Nat) : k < l.length → npL (l.take k) + npS l[k]! ≤ npL l := by
  intro h; have := npL_take_le l (k + 1); rw [npL_take l k h] at this; exact this
end Go.AL
namespace Go.AL
theorem set_mid {α : Type} (A : List α) (x y : α) (B : List α) : (A ++ x :: B).set A.length y = A ++ y :: B := by
  rw [List.set_append_right _ _ (Nat.le_refl _), Nat.sub_self, List.set_cons_zero]
theorem get_mid {α : Type} [Inhabited α] (A : List α) (x : α) (B : List α) : (A ++ x :: B)[A.length]! = x := by
  rw [getB _ _ (by simp), List.getElem_append_right (Nat.le_refl _)]; simp
theorem if_get1 {xs T E : List Pnt} {p q : Pnt} {m : Nat} (hm : m = xs.length) : (xs ++ [p] ++ T ++ [q] ++ E)[m]! = p := by
  subst hm; simp only [List.append_assoc, List.singleton_append, List.cons_append, List.nil_append]; exact get_mid _ _ _
theorem if_set1 {xs T E : List Pnt} {p q p' : Pnt} {m : Nat} (hm : m = xs.length) : (xs ++ [p] ++ T ++ [q] ++ E).set m p' = xs ++ [p'] ++ T ++ [q] ++ E := by
  subst hm; simp only [List.append_assoc, List.singleton_append, List.cons_append, List.nil_append]; exact set_mid _ _ _ _
theorem if_get2 {xs T E : List Pnt} {p q : Pnt} {j : Nat} (hj : j = xs.length + 1 + T.length) : (xs ++ [p] ++ T ++ [q] ++ E)[j]! = q := by
  have h : j = (xs ++ [p] ++ T).length := by simp [hj]; omega
  subst h
  rw [show xs ++ [p] ++ T ++ [q] ++ E = (xs ++ [p] ++ T) ++ q :: E by simp]; exact get_mid _ _ _
theorem if_set2 {xs T E : List Pnt} {p q q' : Pnt} {j : Nat} (hj : j = xs.length + 1 + T.length) : (xs ++ [p] ++ T ++ [q] ++ E).set j q' = xs ++ [p] ++ T ++ [q'] ++ E := by
  have h : j = (xs ++ [p] ++ T).length := by simp [hj]; omega
  subst h
  rw [show xs ++ [p] ++ T ++ [q] ++ E = (xs ++ [p] ++ T) ++ q :: E by simp, set_mid]; simp
theorem lp_get {xs T : List Pnt} {p q : Pnt} {m : Nat} (hm : m = xs.length) : (xs ++ [p] ++ T ++ [q])[m]! = p := by
  subst hm; simp only [List.append_assoc, List.singleton_append, List.cons_append, List.nil_append]; exact get_mid _ _ _
theorem lp_set {xs T : List Pnt} {p q p' : Pnt} {m : Nat} (hm : m = xs.length) : (xs ++ [p] ++ T ++ [q]).set m p' = xs ++ [p'] ++ T ++ [q] := by
  subst hm; simp only [List.append_assoc, List.singleton_append, List.cons_append, List.nil_append]; exact set_mid _ _ _ _
end Go.AL

namespace Go.AL
structure WG (ts : List Int) (pts : List Pnt) : Prop where
  tl : ts.length ≤ 6
  ty : ∀ v, v < ts.length → 1 ≤ ts[v]! ∧ ts[v]! ≤ 4
  pl : pts.length ≤ 61
  p0 : 0 < pts.length
  nx : ∀ i, i < pts.length → ∀ k ∈ pts[i]!.next, 0 ≤ k ∧ k < pts.length
  nl : ∀ i, i < pts.length → pts[i]!.next.length ≤ 2
  op : ∀ i, i < pts.length → 1 ≤ pts[i]!.op ∧ pts[i]!.op ≤ 11
  x : ∀ i, i < pts.length → 0 ≤ pts[i]!.x ∧ (pts[i]!.op ≤ 8 → pts[i]!.x < ts.length)
  y : ∀ i, i < pts.length → 0 ≤ pts[i]!.y ∧ (3 ≤ pts[i]!.op → pts[i]!.op ≤ 7 → pts[i]!.y < ts.length)
def PtOk (nv b e : Nat) (x : Pnt) : Prop := (∀ k ∈ x.next, 0 ≤ k ∧ k < (e : Int)) ∧ x.next.length ≤ 2 ∧ 1 ≤ x.op ∧ x.op ≤ 11 ∧ 0 ≤ x.x ∧ (x.op ≤ 8 → x.x < (nv : Int)) ∧ 0 ≤ x.y ∧ (3 ≤ x.op → x.op ≤ 7 → x.y < (nv : Int))
theorem simpleF_ok {ts : List Int} (ht : typesOk ts = true) {s : Stmt} (h : simpleF ts s = true) : 1 ≤ s.op ∧ s.op ≤ 8 ∧ 0 ≤ s.x ∧ s.x < ts.length ∧ 0 ≤ s.y ∧ (3 ≤ s.op → s.op ≤ 7 → s.y < ts.length) := by
  have hx := typeAt_pos ht s.x
  have hy := typeAt_pos ht s.y
  have bx := typeAt_bd ht s.x
  have by' := typeAt_bd ht s.y
  unfold simpleF at h
  dsimp only at h
  repeat' split at h
  all_goals first
    | (simp only [decide_eq_true_eq] at h; omega)
    | (cases h; done)
mutual
theorem ptS_ok {ts : List Int} (ht : typesOk ts = true) : ∀ (s : Stmt) (d b e : Nat), okS ts d s = true → b + npS s < e → ∀ x ∈ ptS b s, PtOk ts.length b e x
  | .mk op x y n th el, d, b, e, h, hb => by
    simp only [okS] at h
    split at h
    · rename_i hop
      simp only [Bool.and_eq_true] at h
      have hs := simpleF_ok ht h.2
      simp only [Stmt.op, Stmt.x, Stmt.y] at hs
      simp only [npS, hop.1, hop.2, if_false] at hb
      simp only [ptS, hop.1, hop.2, if_false, List.mem_singleton]
      rintro z rfl
      refine ⟨?_, by simp, hs.1, by show op ≤ 11; omega, hs.2.2.1, fun _ => hs.2.2.2.1, hs.2.2.2.2.1, hs.2.2.2.2.2⟩
      simp only [List.mem_singleton]; rintro k rfl; omega
    · rename_i hop
      cases d with
      | zero => cases h
      | succ d =>
        simp only [Bool.and_eq_true, decide_eq_true_eq] at h
        obtain ⟨⟨⟨_, _⟩, h1⟩, h2⟩ := h
        by_cases h9 : op = 9
        · subst h9
          simp only [npS, if_true] at hb
          simp only [ptS, if_true, List.mem_append, List.mem_singleton]
          rintro z (((rfl | hz) | rfl) | hz)
          · refine ⟨?_, by simp, by simp, by simp, by simp, by simp, by simp, by simp⟩
            simp only [List.mem_cons, List.not_mem_nil, or_false]; rintro k (rfl | rfl) <;> omega
          · exact ptL_ok ht th d (b + 1) e h1 (by omega) z hz
          · refine ⟨?_, by simp, by simp, by simp, by simp, by simp, by simp, by simp⟩
            simp only [List.mem_singleton]; rintro k rfl; omega
          · exact ptL_ok ht el d (b + 2 + npL th) e h2 (by omega) z hz
        · have h10 : op = 10 := by omega
          subst h10
          simp only [npS, if_true, show ((10 : Int) = 9) = False by simp, if_false] at hb
          simp only [ptS, if_true, show ((10 : Int) = 9) = False by simp, if_false, List.mem_append, List.mem_singleton]
          rintro z ((rfl | hz) | rfl)
          · refine ⟨?_, by simp, by simp, by simp, by simp, by simp, by simp, by simp⟩
            simp only [List.mem_cons, List.not_mem_nil, or_false]; rintro k (rfl | rfl) <;> omega
          · exact ptL_ok ht th d (b + 1) e h1 (by omega) z hz
          · refine ⟨?_, by simp, by simp, by simp, by simp, by simp, by simp, by simp⟩
            simp only [List.mem_singleton]; rintro k rfl; omega
theorem ptL_ok {ts : List Int} (ht : typesOk ts = true) : ∀ (l : List Stmt) (d b e : Nat), okL ts d l = true → b + npL l < e → ∀ x ∈ ptL b l, PtOk ts.length b e x
  | [], d, b, e, h, hb => by simp [ptL]
  | s :: l, d, b, e, h, hb => by
    simp only [okL, Bool.and_eq_true] at h
    simp only [npL] at hb
    simp only [ptL, List.mem_append]
    rintro x (hx | hx)
    · exact ptS_ok ht s d b e h.1 (by omega) x hx
    · exact ptL_ok ht l d (b + npS s) e h.2 (by omega) x hx
end
theorem WG.of_valid {p : Prg} (h : validF p = true) : WG p.types (ptsF p) := by
  unfold validF at h
  simp only [Bool.and_eq_true, decide_eq_true_eq] at h
  obtain ⟨⟨ht, hl⟩, hc⟩ := h
  have hn := npL_le p.body
  have hlen := ptsF_len p
  have key : ∀ i, i < (ptsF p).length → PtOk p.types.length 0 (ptsF p).length (ptsF p)[i]! := by
    intro i hi
    have hm := getB_mem _ i hi
    unfold ptsF at hm
    rw [List.mem_append, List.mem_singleton] at hm
    rcases hm with hm | hm
    · exact ptL_ok ht p.body 4 0 _ hl (by omega) _ hm
    · unfold ptsF; rw [hm]; exact ⟨by simp, by simp, by simp, by simp, by simp, by simp, by simp, by simp⟩
  exact ⟨typesOk_len ht, typesOk_at ht, by omega, by omega, fun i hi => (key i hi).1, fun i hi => (key i hi).2.1, fun i hi => ⟨(key i hi).2.2.1, (key i hi).2.2.2.1⟩,
    fun i hi => ⟨(key i hi).2.2.2.2.1, (key i hi).2.2.2.2.2.1⟩, fun i hi => ⟨(key i hi).2.2.2.2.2.2.1, (key i hi).2.2.2.2.2.2.2⟩⟩
inductive Clo {α : Type} (S : α → Prop) (R : α → α → Prop) : α → Prop
  | base {a : α} (h : S a) : Clo S R a
  | step {a b : α} (h : Clo S R a) (r : R a b) : Clo S R b
theorem Clo.sub {α : Type} {S : α → Prop} {R : α → α → Prop} {T : α → Prop} (h1 : ∀ a, S a → T a) (h2 : ∀ a b, T a → R a b → T b) : ∀ a, Clo S R a → T a := by
  intro a h
  induction h with
  | base h => exact h1 _ h
  | step _ r ih => exact h2 _ _ ih r
def edge (pts : List Pnt) (i k : Nat) : Prop := i < pts.length ∧ (k : Int) ∈ pts[i]!.next
def Mb (ts : List Int) (pts : List Pnt) (a : Nat × Nat) : Prop := Clo (fun a => ∃ i, edge pts i a.1 ∧ setAt pts[i]! = a.2) (fun a b => b.2 = a.2 ∧ edge pts a.1 b.1 ∧ useAt ts pts[a.1]! a.2 ≠ 2) a
def Na (ts : List Int) (pts : List Pnt) (a : Nat × Nat) : Prop := Clo (fun a => a.2 < ts.length ∧ (a.1 = 0 ∨ ∃ i, edge pts i a.1 ∧ useAt ts pts[i]! a.2 = 2 ∧ setAt pts[i]! ≠ a.2)) (fun a b => b.2 = a.2 ∧ edge pts a.1 b.1 ∧ setAt pts[a.1]! ≠ a.2) a
def Nd (ts : List Int) (pts : List Pnt) (a : Nat × Nat) : Prop := Clo (fun a => a.1 < pts.length ∧ a.2 < ts.length ∧ useAt ts pts[a.1]! a.2 ≠ 0) (fun a b => b.2 = a.2 ∧ edge pts b.1 a.1 ∧ setAt pts[b.1]! ≠ a.2) a
def Lv (ts : List Int) (pts : List Pnt) (i v : Nat) : Prop := ∃ k, edge pts i k ∧ Nd ts pts (k, v)
def isLn (x : Pnt) : Bool := decide (x.op = 4) || decide (x.op = 5)
def Fr' (ts : List Int) (pts : List Pnt) (a : Nat × Nat × Nat) : Prop := Clo (fun a => edge pts a.2.2 a.1 ∧ isLn pts[a.2.2]! = true ∧ setAt pts[a.2.2]! = a.2.1)
  (fun a b => b.2.2 = a.2.2 ∧ edge pts a.1 b.1 ∧ ((setAt pts[a.1]! ≠ b.2.1 ∧ b.2.1 = a.2.1 ∧ useAt ts pts[a.1]! a.2.1 ≠ 2) ∨
    (setAt pts[a.1]! = b.2.1 ∧ (a.2.1 : Int) = pts[a.1]!.y ∧ ((isLn pts[a.1]! = true ∧ isRef ts[a.2.1]! = true) ∨ pts[a.1]!.op = 3)))) a
def Pl' (ts : List Int) (pts : List Pnt) (a : Nat × Nat) : Prop := Clo (fun a => edge pts a.2 a.1 ∧ isLn pts[a.2]! = true)
  (fun a b => b.2 = a.2 ∧ edge pts a.1 b.1 ∧ useAt ts pts[a.1]! pts[a.2]!.y ≠ 2 ∧ setAt pts[a.1]! ≠ pts[a.2]!.y) a
def mkBits (f : Nat → Bool) : Nat → Nat
  | 0 => 0
  | n + 1 => mkBits f n ||| (if f n then 2 ^ n else 0)
theorem testBit_mkBits (f : Nat → Bool) : ∀ (n i : Nat), (mkBits f n).testBit i = (decide (i < n) && f i)
  | 0, i => by simp [mkBits]
  | n + 1, i => by
    rw [mkBits, Nat.testBit_or, testBit_mkBits f n i]
    by_cases h : i = n
    · subst h; cases hf : f i <;> simp [Nat.testBit_two_pow_self]
    · have : ((if f n = true then 2 ^ n else 0).testBit i) = false := by
        split
        · exact Nat.testBit_two_pow_of_ne (fun e => h e.symm)
        · simp
      rw [this, Bool.or_false]
      congr 1
      simp only [decide_eq_decide]; omega
theorem mkBits_lt (f : Nat → Bool) (n : Nat) : mkBits f n < 2 ^ n := by
  apply Nat.lt_pow_two_of_testBit
  intro i hi
  rw [testBit_mkBits]; simp; omega
theorem mkBits_sm {f : Nat → Bool} {n : Nat} (h : n ≤ 62) : Sm (mkBits f n) := ⟨Nat.lt_of_lt_of_le (mkBits_lt f n) (Nat.pow_le_pow_right (by decide) h)⟩
end Go.AL
namespace Go.AL
abbrev aG (ts : List Int) (bd : List Stmt) (pts : List Pnt) : AV := .iptr [sl cI ts, sl cStmt bd, sl cPnt pts]
def tkT (t : Int) : Bool := decide (t = 2) || decide (t = 4)
def wS (ts : List Int) (x : Pnt) (us : List Int) : Nat := mkBits (fun v => decide (useAt ts x v ∈ us)) ts.length
def sbit (x : Pnt) : Nat := if 0 ≤ setAt x then 2 ^ (setAt x).toNat else 0
theorem useAt_bd (ts : List Int) (x : Pnt) (v : Int) : 0 ≤ useAt ts x v ∧ useAt ts x v ≤ 3 := by
  unfold useAt; grind
theorem WG.set {ts : List Int} {pts : List Pnt} (h : WG ts pts) (i : Nat) (hi : i < pts.length) : setAt pts[i]! < ts.length ∧ (0 ≤ setAt pts[i]! ∨ setAt pts[i]! = -1) := by
  have := h.x i hi
  have := h.tl
  unfold setAt; split <;> omega
end Go.AL
namespace Go.AL
theorem mkBits_succ (f : Nat → Bool) (k : Nat) (h : f k = true) : mkBits f k ||| 2 ^ k = mkBits f (k + 1) := by rw [mkBits, if_pos h]
theorem mkBits_skip (f : Nat → Bool) (k : Nat) (h : f k = false) : mkBits f k = mkBits f (k + 1) := by rw [mkBits, if_neg (by simp [h]), Nat.or_zero]
end Go.AL

namespace Go.AL
open Go.RowKit
set_option linter.unusedVariables false
set_option linter.unusedSimpArgs false

theorem lkH_none {i : Nat} {hs : List (Nat × Option (List AV))} {id : Nat} {cs : List AV} (h : lkH ((i, none) :: hs) id = some cs) : lkH hs id = some cs ∧ id ≠ i := by
  rw [lkH_c] at h
  split at h
  · cases h
  · rename_i e; exact ⟨h, e⟩
theorem Le.frzD {ts : List (Nat × AV)} {hs : List (Nat × Option (List AV))} {n : Nat} {z0 : Lo} {d i m e : Nat} {cs : List AV} (hd : lk ts d = some (.own i 0 m e)) (hi : lkH hs i = some cs) :
    Le ⟨ts, hs, n, z0⟩ ⟨(d, .imm m cs) :: ts, (i, none) :: hs, n, z0⟩ := by
  rintro C a w ⟨h0, ι, g, gh⟩
  obtain ⟨gh', car⟩ := gh.less (F' := Fn n z0) (H' := lkH ((i, none) :: hs)) (fun id c h => (lkH_none h).1) (fun _ h => h)
  refine ⟨h0, ι, ⟨g.df, g.sz, fun t av ht => ?_⟩, gh'⟩
  rw [show lk (⟨(d, .imm m cs) :: ts, (i, none) :: hs, n, z0⟩ : AS).ts t = lk ((d, .imm m cs) :: ts) t from rfl, lk_c] at ht
  split at ht
  · rename_i et
    subst et
    cases ht
    obtain ⟨y, hy, hr⟩ := g.tm t _ hd
    refine ⟨y, hy, ?_⟩
    simp only [Rd] at hr ⊢
    rcases hr with ⟨_, h2, a', h3⟩ | ⟨b, β, c, h1, h2, h3, h4⟩
    · subst h2; exact ⟨a', 0, h3, .inl rfl⟩
    · refine ⟨_, c, h2, ?_⟩
      rcases Nat.eq_zero_or_pos m with h5 | h5
      · exact .inl h5
      · refine .inr ⟨b, β + 0, h3, rfl, ?_⟩
        rcases gh.obj i cs hi with ⟨q1, q2⟩ | ⟨b', β', arr, e', q1, q2, q3, q4, q5, q6⟩
        · rw [h1] at q1; cases q1
        · rw [h1] at q1; cases q1
          refine .inr ⟨?_, RdC.carryB car _ _ _ (fun o x hx => hx) q4⟩
          rintro (h | ⟨id', cs', β', r1, r2⟩)
          · exact q5 h
          · exact (lkH_none r1).2 (gh.sep _ _ _ _ _ _ _ (lkH_none r1).1 hi r2 h1)
  · obtain ⟨y, hy, hr⟩ := g.tm t av ht
    exact ⟨y, hy, Rd.carry car _ _ hr⟩
theorem Le.frzP {ts : List (Nat × AV)} {hs : List (Nat × Option (List AV))} {n : Nat} {z0 : Lo} {d i : Nat} {cs : List AV} (hd : lk ts d = some (.optr i 0)) (hi : lkH hs i = some cs) :
    Le ⟨ts, hs, n, z0⟩ ⟨(d, .iptr cs) :: ts, (i, none) :: hs, n, z0⟩ := by
  rintro C a w ⟨h0, ι, g, gh⟩
  obtain ⟨gh', car⟩ := gh.less (F' := Fn n z0) (H' := lkH ((i, none) :: hs)) (fun id c h => (lkH_none h).1) (fun _ h => h)
  refine ⟨h0, ι, ⟨g.df, g.sz, fun t av ht => ?_⟩, gh'⟩
  rw [show lk (⟨(d, .iptr cs) :: ts, (i, none) :: hs, n, z0⟩ : AS).ts t = lk ((d, .iptr cs) :: ts) t from rfl, lk_c] at ht
  split at ht
  · rename_i et
    subst et
    cases ht
    obtain ⟨y, hy, hr⟩ := g.tm t _ hd
    refine ⟨y, hy, ?_⟩
    simp only [Rd] at hr ⊢
    obtain ⟨b, β, h1, h2⟩ := hr
    refine ⟨b, β + 0, h2, ?_⟩
    rcases gh.obj i cs hi with ⟨q1, q2⟩ | ⟨b', β', arr, e', q1, q2, q3, q4, q5, q6⟩
    · rw [h1] at q1; cases q1
    · rw [h1] at q1; cases q1
      refine .inr ⟨?_, RdC.carryB car _ _ _ (fun o x hx => hx) q4⟩
      rintro (h | ⟨id', cs', β', r1, r2⟩)
      · exact q5 h
      · exact (lkH_none r1).2 (gh.sep _ _ _ _ _ _ _ (lkH_none r1).1 hi r2 h1)
  · obtain ⟨y, hy, hr⟩ := g.tm t av ht
    exact ⟨y, hy, Rd.carry car _ _ hr⟩
theorem Le.nilOwn {ts : List (Nat × AV)} {hs : List (Nat × Option (List AV))} {n : Nat} {z0 : Lo} {d : Nat} (e : Nat) (hd : lk ts d = some (.v (.slice none 0 0))) (hn : n < big) :
    Le ⟨ts, hs, n, z0⟩ ⟨(d, .own n 0 0 e) :: ts, (n, some []) :: hs, n + 1, z0⟩ := by
  rintro C a w ⟨h0, ι, g, gh⟩
  have hf : ι n = none := gh.fresh n ⟨Nat.le_refl _, .inl hn⟩
  let ι' : Pl := upd ι n (some none)
  have hne : ∀ id p, ι id = some p → ι' id = some p := by
    intro id p h
    have : id ≠ n := by rintro rfl; rw [hf] at h; cases h
    simp only [ι', upd_ne _ _ this, h]
  have hback : ∀ id b β, ι' id = some (some (b, β)) → id ≠ n ∧ ι id = some (some (b, β)) := by
    intro id b β h
    by_cases q : id = n
    · subst q; simp only [ι', upd_same] at h; cases h
    · simp only [ι', upd_ne _ _ q] at h; exact ⟨q, h⟩
  have hH : ∀ id cs, id ≠ n → lkH ((n, some []) :: hs) id = some cs → lkH hs id = some cs := by
    intro id cs q h; rw [lkH_c, if_neg q] at h; exact h
  have car : Carry w (badOf C.X ι (lkH hs)) ι w (badOf C.X ι' (lkH ((n, some []) :: hs))) ι' := by
    refine ⟨fun b o x h1 h2 => ⟨?_, h2⟩, hne, fun _ => Nat.le_refl _⟩
    rintro (h | ⟨id, cs, β, q1, q2⟩)
    · exact h1 (.inl h)
    · obtain ⟨r1, r2⟩ := hback _ _ _ q2
      exact h1 (.inr ⟨id, cs, β, hH _ _ r1 q1, r2⟩)
  refine ⟨h0, ι', ⟨g.df, g.sz, fun t av ht => ?_⟩, ⟨fun id cs h => ?_, fun id id' cs cs' b β β' q1 q2 q3 q4 => ?_, gh.fr, fun id p h => hne _ _ (gh.ex _ _ h), fun id h => ?_⟩⟩
  · rw [show lk (⟨(d, .own n 0 0 e) :: ts, (n, some []) :: hs, n + 1, z0⟩ : AS).ts t = lk ((d, .own n 0 0 e) :: ts) t from rfl, lk_c] at ht
    split at ht
    · rename_i et
      subst et
      cases ht
      obtain ⟨y, hy, hr⟩ := g.tm t _ hd
      refine ⟨y, hy, ?_⟩
      simp only [Rd] at hr ⊢
      exact .inl ⟨⟨none, by simp only [ι', upd_same]⟩, trivial, none, hr⟩
    · obtain ⟨y, hy, hr⟩ := g.tm t av ht
      exact ⟨y, hy, Rd.carry car _ _ hr⟩
  · by_cases q : id = n
    · subst q
      simp only [lkH_c, if_true, Option.some.injEq] at h
      exact .inl ⟨by simp only [ι', upd_same], h.symm⟩
    · rcases gh.obj id cs (hH _ _ q h) with ⟨r1, r2⟩ | ⟨b, β, arr, e', r1, r2, r3, r4, r5, r6⟩
      · exact .inl ⟨hne _ _ r1, r2⟩
      · exact .inr ⟨b, β, arr, e', hne _ _ r1, r2, r3, RdC.carryB car _ _ _ (fun o x hx => hx) r4, r5, r6⟩
  · obtain ⟨r1, r2⟩ := hback _ _ _ q3
    obtain ⟨r3, r4⟩ := hback _ _ _ q4
    exact gh.sep _ _ _ _ _ _ _ (hH _ _ r1 q1) (hH _ _ r3 q2) r2 r4
  · have h1 : n + 1 ≤ id := h.1
    have h2 : id < big ∨ z0.fb ≤ id := h.2
    have q : id ≠ n := by omega
    simp only [ι', upd_ne _ _ q]
    exact gh.fresh id ⟨by show n ≤ id; omega, h2⟩
section
variable {P : Program} {N : Nat} {Q : Exit → AS → Prop} {all : Array Oper} {rest : List Oper} {ts : List (Nat × AV)} {hs : List (Nat × Option (List AV))} {n : Nat} {z0 : Lo} {md : Md}
variable {d : Nat} {ty : TypeId} {pos : String} {af : Array Edge}
theorem rw_le {l : List Oper} {s s' : AS} (h : RW P N all Q .txt l s') (k : Le s s') : RW P N all Q .txt l s := fun C a w hN g => h C a w hN (k C a w g)
theorem Le.trans {s s' s'' : AS} (h : Le s s') (k : Le s' s'') : Le s s'' := fun C a w g => k C a w (h C a w g)
theorem Le.frzTop {ts : List (Nat × AV)} {hs : List (Nat × Option (List AV))} {n : Nat} {z0 : Lo} {d i m e : Nat} {cs : List AV} :
    Le ⟨(d, .own i 0 m e) :: ts, (i, some cs) :: hs, n, z0⟩ ⟨(d, .imm m cs) :: ts, (i, none) :: hs, n, z0⟩ := by
  refine (Le.frzD (d := d) (i := i) (m := m) (e := e) (cs := cs) (by simp [lk_c]) (by simp [lkH_c])).trans ?_
  refine Le.of (fun t av h => ?_) (fun j c h => ?_) (Nat.le_refl _) rfl
  · show lk ((d, .imm m cs) :: (d, .own i 0 m e) :: ts) t = _
    have h' : lk ((d, .imm m cs) :: ts) t = some av := h
    simp only [lk_c] at h' ⊢
    split
    · rename_i q; rw [if_pos q] at h'; exact h'
    · rename_i q; rw [if_neg q] at h'; exact h'
  · show lkH ((i, none) :: (i, some cs) :: hs) j = _
    have h' : lkH ((i, none) :: hs) j = some c := h
    simp only [lkH_c] at h' ⊢
    split
    · rename_i q; rw [if_pos q] at h'; exact h'
    · rename_i q; rw [if_neg q] at h'; exact h'
theorem rx_buildSliceI {t el len e : Nat} {parts : Array (Nat × Operand)} {zs : List Value} {l : List (Nat × AV)} {cs : List AV} [ht : SlT P t el] [he : SzT P el e] [hz : ZrT P el zs] (hze : zs.length = e) (hsm : Nat.ble (len * e) 16777216 = true)
    (hl : evs (lk ts) parts.toList = some l) (hfl : fillA (fun i => some (i * e, e)) ((List.replicate len (zs.map .v)).flatten) l = some cs) (hM : Nat.blt n big = true) (hN : Nat.blt d N = true) (kk : RW P N all Q .txt rest ⟨(d, .imm len cs) :: ts, (n, none) :: hs, n + 1, z0⟩) :
    RW P N all Q .txt (⟨some d, .buildSlice t len parts, ty, pos, af, none⟩ :: rest) ⟨ts, hs, n, z0⟩ :=
  rx_buildSlice hze hsm hl hfl hM hN (md' := .txt) (rw_le kk Le.frzTop)
end
end Go.AL

namespace Go.AL
open Go.RowKit
set_option linter.unusedVariables false
set_option linter.unusedSimpArgs false
theorem Le.mv {ts : List (Nat × AV)} {hs : List (Nat × Option (List AV))} {n : Nat} {z0 : Lo} {d i o m e : Nat} {cs : List AV} (hd : lk ts d = some (.own i o m e)) (hi : lkH hs i = some cs) (hn : n < big) :
    Le ⟨ts, hs, n, z0⟩ ⟨(d, .own n o m e) :: ts, (n, some cs) :: (i, none) :: hs, n + 1, z0⟩ := by
  rintro C a w ⟨h0, ι, g, gh⟩
  have hf : ι n = none := gh.fresh n ⟨Nat.le_refl _, .inl hn⟩
  have hin : ∃ p, ι i = some p := by
    rcases gh.obj i cs hi with ⟨r1, _⟩ | ⟨b, β, _, _, r1, _⟩
    · exact ⟨_, r1⟩
    · exact ⟨_, r1⟩
  obtain ⟨pi, hpi⟩ := hin
  have hni : n ≠ i := by rintro rfl; rw [hf] at hpi; cases hpi
  let ι' : Pl := upd ι n (ι i)
  have hnn : ι' n = ι i := by simp only [ι', upd_same]
  have hne' : ∀ id, id ≠ n → ι' id = ι id := fun id h => by simp only [ι', upd_ne _ _ h]
  have hne : ∀ id p, ι id = some p → ι' id = some p := by
    intro id p h
    have : id ≠ n := by rintro rfl; rw [hf] at h; cases h
    rw [hne' _ this, h]
  -- the objects of the new state, under their old ids
  let σ : Nat → Nat := fun id => if id = n then i else id
  have hσ : ∀ id c, lkH ((n, some cs) :: (i, none) :: hs) id = some c → lkH hs (σ id) = some c ∧ ι' id = ι (σ id) ∧ (id = n ∨ id ≠ i) := by
    intro id c h
    simp only [lkH_c] at h
    by_cases q : id = n
    · subst q
      rw [if_pos rfl] at h; cases h
      exact ⟨by simp only [σ, if_true]; exact hi, by simp only [σ, if_true]; exact hnn, .inl rfl⟩
    · rw [if_neg q] at h
      by_cases q2 : id = i
      · rw [if_pos q2] at h; cases h
      · rw [if_neg q2] at h
        exact ⟨by simp only [σ, if_neg q]; exact h, by simp only [σ, if_neg q]; exact hne' _ q, .inr q2⟩
  have car : Carry w (badOf C.X ι (lkH hs)) ι w (badOf C.X ι' (lkH ((n, some cs) :: (i, none) :: hs))) ι' := by
    refine ⟨fun b o x h1 h2 => ⟨?_, h2⟩, hne, fun _ => Nat.le_refl _⟩
    rintro (h | ⟨id, c, β, q1, q2⟩)
    · exact h1 (.inl h)
    · obtain ⟨r1, r2, _⟩ := hσ id c q1
      exact h1 (.inr ⟨σ id, c, β, r1, by rw [← r2]; exact q2⟩)
  refine ⟨h0, ι', ⟨g.df, g.sz, fun t av ht => ?_⟩, ⟨fun id c h => ?_, fun id id' c c' b β β' q1 q2 q3 q4 => ?_, gh.fr, fun id p h => hne _ _ (gh.ex _ _ h), fun id h => ?_⟩⟩
  · have ht' : lk ((d, .own n o m e) :: ts) t = some av := ht
    rw [lk_c] at ht'
    split at ht'
    · rename_i et
      subst et
      cases ht'
      obtain ⟨y, hy, hr⟩ := g.tm t _ hd
      refine ⟨y, hy, ?_⟩
      have hr' := Rd.carry car _ _ hr
      simp only [Rd, hnn] at hr' ⊢
      rw [hne' i (fun h => hni h.symm)] at hr'
      exact hr'
    · obtain ⟨y, hy, hr⟩ := g.tm t av ht'
      exact ⟨y, hy, Rd.carry car _ _ hr⟩
  · obtain ⟨r1, r2, _⟩ := hσ id c h
    rcases gh.obj _ c r1 with ⟨s1, s2⟩ | ⟨b, β, arr, e', s1, s2, s3, s4, s5, s6⟩
    · exact .inl ⟨by rw [r2]; exact s1, s2⟩
    · exact .inr ⟨b, β, arr, e', by rw [r2]; exact s1, s2, s3, RdC.carryB car _ _ _ (fun o x hx => hx) s4, s5, s6⟩
  · obtain ⟨r1, r2, r3⟩ := hσ id c q1
    obtain ⟨t1, t2, t3⟩ := hσ id' c' q2
    have := gh.sep _ _ _ _ _ _ _ r1 t1 (by rw [← r2]; exact q3) (by rw [← t2]; exact q4)
    simp only [σ] at this
    split at this <;> split at this
    · omega
    · rename_i u1 u2; rcases t3 with t3 | t3
      · exact absurd t3 u2
      · exact absurd this.symm t3
    · rename_i u1 u2; rcases r3 with r3 | r3
      · exact absurd r3 u1
      · exact absurd this r3
    · exact this
  · have h1 : n + 1 ≤ id := h.1
    have h2 : id < big ∨ z0.fb ≤ id := h.2
    rw [hne' id (by omega)]
    exact gh.fresh id ⟨by show n ≤ id; omega, h2⟩
end Go.AL

namespace Go.AL
open Go.RowKit
set_option linter.unusedVariables false
theorem Le.slot {ts : List (Nat × AV)} {hs : List (Nat × Option (List AV))} {n : Nat} {z0 : Lo} {d : Nat} {v v' : AV} (hd : lk ts d = some v) (h : ∀ (w : World) (bad : Nat → Prop) (ι : Pl) (y : Value), Rd w bad ι v y → Rd w bad ι v' y) :
    Le ⟨ts, hs, n, z0⟩ ⟨(d, v') :: ts, hs, n, z0⟩ := by
  rintro C a w ⟨h0, ι, g, gh⟩
  refine ⟨h0, ι, ⟨g.df, g.sz, fun t av ht => ?_⟩, gh⟩
  have ht' : lk ((d, v') :: ts) t = some av := ht
  rw [lk_c] at ht'
  split at ht'
  · rename_i et
    subst et
    cases ht'
    obtain ⟨y, hy, hr⟩ := g.tm t _ hd
    exact ⟨y, hy, h _ _ _ _ hr⟩
  · exact g.tm t av ht'
theorem Le.nilImm {ts : List (Nat × AV)} {hs : List (Nat × Option (List AV))} {n : Nat} {z0 : Lo} {d : Nat} (hd : lk ts d = some (.v (.slice none 0 0))) : Le ⟨ts, hs, n, z0⟩ ⟨(d, .imm 0 []) :: ts, hs, n, z0⟩ :=
  Le.slot hd fun w bad ι y h => Rd_kAV (av := .v (.slice none 0 0)) h
theorem flat_nilH {α : Type} {f : α → List AV} {hs : List (Nat × Option (List AV))} {i : Nat} (h : lkH hs i = some []) : lkH hs i = some (flat f []) := h
end Go.AL

namespace Go.AL
def nxN (pts : List Pnt) (i : Nat) : List Nat := pts[i]!.next.map (·.toNat)
theorem mem_nxN {ts : List Int} {pts : List Pnt} (w : WG ts pts) {i k : Nat} (hi : i < pts.length) : k ∈ nxN pts i ↔ edge pts i k := by
  unfold nxN edge
  rw [List.mem_map]
  constructor
  · rintro ⟨z, hz, rfl⟩
    have := w.nx i hi z hz
    exact ⟨hi, by rw [Int.toNat_of_nonneg this.1]; exact hz⟩
  · rintro ⟨_, h⟩; exact ⟨_, h, rfl⟩
theorem edge_lt {ts : List Int} {pts : List Pnt} (w : WG ts pts) {i k : Nat} (h : edge pts i k) : k < pts.length := by
  have := w.nx i h.1 _ h.2; omega
structure Flow (op : Nat → Nat → Nat) (F : Nat → Nat → Nat) (pts : List Pnt) (g : Nat → Nat) (Pp : Nat → Nat → Prop) : Prop where
  snd : ∀ i k A B, edge pts i k → Pp i A → Pp k B → Pp k (op B (F i A))
  dec : ∀ i k A B, edge pts i k → Pp i A → Pp k B → op B (F i A) ≠ B → g (op B (F i A)) < g B
theorem lt_of_bits {a n : Nat} (h : a < 2 ^ n) {v : Nat} (hv : a.testBit v = true) : v < n := by
  rcases Nat.lt_or_ge v n with h1 | h1
  · exact h1
  · rw [Nat.testBit_lt_two_pow (Nat.lt_of_lt_of_le h (Nat.pow_le_pow_right (by decide) h1))] at hv; cases hv
theorem testBit_wS {ts : List Int} {x : Pnt} {us : List Int} {v : Nat} : (wS ts x us).testBit v = (decide (v < ts.length) && decide (useAt ts x v ∈ us)) := testBit_mkBits _ _ _
def GoodM (ts : List Int) (pts : List Pnt) (A : List Nat) : Prop := A.length = pts.length ∧ ∀ i, i < pts.length → ∀ v, A[i]!.testBit v = true ↔ Mb ts pts (i, v)
def GoodA (ts : List Int) (pts : List Pnt) (A : List Nat) : Prop := A.length = pts.length ∧ ∀ i, i < pts.length → ∀ v, A[i]!.testBit v = true ↔ v < ts.length ∧ ¬ Na ts pts (i, v)
theorem ext_bits {n : Nat} {A B : List Nat} (h1 : A.length = n) (h2 : B.length = n) (h : ∀ i, i < n → ∀ v, A[i]!.testBit v = true ↔ B[i]!.testBit v = true) : A = B := by
  apply List.ext_getElem (by omega)
  intro i g1 g2
  have := h i (by omega)
  rw [getB _ _ g1, getB _ _ g2] at this
  apply Nat.eq_of_testBit_eq
  intro v
  rw [Bool.eq_iff_iff]; exact this v
end Go.AL
namespace Go.AL
theorem set_self {l : List Nat} {k x : Nat} (h : l[k]! = x) (hk : k < l.length) : l.set k x = l := by
  subst h; rw [getB _ _ hk]; exact List.set_getElem_self hk
end Go.AL
namespace Go.AL
end Go.AL
namespace Go.AL
def afF (pts : List Pnt) (B : List Nat) (i : Nat) : Nat := (nxN pts i).foldl (fun a k => a ||| B[k]!) 0
theorem testBit_foldor (B : List Nat) (v : Nat) : ∀ (L : List Nat) (a : Nat), (L.foldl (fun a k => a ||| B[k]!) a).testBit v = true ↔ a.testBit v = true ∨ ∃ k ∈ L, B[k]!.testBit v = true
  | [], a => by simp
  | k :: L, a => by
    rw [List.foldl_cons, testBit_foldor B v L, Nat.testBit_or, Bool.or_eq_true]
    simp only [List.mem_cons, exists_eq_or_imp]
    grind
theorem testBit_afF {ts : List Int} {pts : List Pnt} (w : WG ts pts) {B : List Nat} {i v : Nat} (hi : i < pts.length) : (afF pts B i).testBit v = true ↔ ∃ k, edge pts i k ∧ B[k]!.testBit v = true := by
  unfold afF
  rw [testBit_foldor]
  simp only [Nat.zero_testBit, Bool.false_eq_true, false_or, mem_nxN w hi]
def GoodN (ts : List Int) (pts : List Pnt) (A : List Nat) : Prop := A.length = pts.length ∧ ∀ i, i < pts.length → ∀ v, A[i]!.testBit v = true ↔ Nd ts pts (i, v)
def GoodL (ts : List Int) (pts : List Pnt) (A : List Nat) : Prop := A.length = pts.length ∧ ∀ i, i < pts.length → ∀ v, A[i]!.testBit v = true ↔ Lv ts pts i v
theorem goodL_ext {ts : List Int} {pts : List Pnt} {A B : List Nat} (h1 : GoodL ts pts A) (h2 : GoodL ts pts B) : A = B := ext_bits h1.1 h2.1 fun i hi v => (h1.2 i hi v).trans (h2.2 i hi v).symm
theorem goodL_of {ts : List Int} {pts : List Pnt} (w : WG ts pts) {A : List Nat} (h : GoodN ts pts A) : GoodL ts pts ((List.range pts.length).map (afF pts A)) := by
  refine ⟨by simp, fun i hi v => ?_⟩
  rw [getB _ _ (by simpa using hi), List.getElem_map, List.getElem_range, testBit_afF w hi]
  constructor
  · rintro ⟨k, e, hk⟩; exact ⟨k, e, (h.2 k (edge_lt w e) v).1 hk⟩
  · rintro ⟨k, e, hk⟩; exact ⟨k, e, (h.2 k (edge_lt w e) v).2 hk⟩
end Go.AL
namespace Go.AL
end Go.AL

namespace Go.AL
theorem Nd_lt {ts : List Int} {pts : List Pnt} (w : WG ts pts) {a : Nat × Nat} (h : Nd ts pts a) : a.2 < ts.length := by
  induction h with
  | base h => exact h.2.1
  | step _ r ih => rw [r.1]; exact ih
end Go.AL

namespace Go.AL
open Go.RowKit
set_option linter.unusedVariables false
instance (fn : Go.Fn) (f c : List AV) [h : Pur f] [h2 : Pur c] : PurV (.clos fn f c) := ⟨by simp only [AV.pur, h.pf, h2.pf, Bool.and_self]⟩
theorem mk_rep {α : Type} {f : α → List AV} {x : α} {l : List AV} {m : Nat} (h : l = f x) : (List.replicate m l).flatten = flat f (List.replicate m x) := by
  subst h; simp [flat, List.flatMap_def]
section
variable {P : Program} {N : Nat} {Q : Exit → AS → Prop} {all : Array Oper} {rest : List Oper} {ts : List (Nat × AV)} {hs : List (Nat × Option (List AV))} {n : Nat} {z0 : Lo} {md : Md}
variable {d : Nat} {ty : TypeId} {pos : String} {af : Array Edge}
theorem rx_makeSliceE {t el e by' m : Nat} {x y : Operand} {zs : List Value} {cs : List AV} {k k' : IntKind} [ht : SlT P t el] [he : SzT P el e] [hb : ByT P el by'] [hz : ZrT P el zs]
    (hx : ev (lk ts) x = some (.v (.int k (m : Int)))) (hy : ev (lk ts) y = some (.v (.int k' (m : Int)))) (hze : zs.length = e) (hsm : by' * m ≤ 281474976710656) (hmx : m ≤ 9223372036854775807)
    (hcs : (List.replicate m (zs.map .v)).flatten = cs) (hM : Nat.blt n big = true) (hN : Nat.blt d N = true) {md' : Md} [hmd : MdA md (rO x ++ rO y) [.inr n, .inl d] md'] (kk : RW P N all Q md' rest ⟨(d, .own n 0 m e) :: ts, (n, some cs) :: hs, n + 1, z0⟩) :
    RW P N all Q md (⟨some d, .makeSlice t x y, ty, pos, af, none⟩ :: rest) ⟨ts, hs, n, z0⟩ := by
  subst hcs
  exact rx_makeSlice hx hy hze hsm hmx hM hN (md' := md') (hmd := hmd) kk
end
end Go.AL

namespace Go.AL
open Go.RowKit
theorem lendL_nil {H : Nat → Option (List AV)} : lendL H [] = some [] := rfl
theorem lendL_cons {H : Nat → Option (List AV)} {c x : AV} {cs l : List AV} (h1 : lendV H c = some x) (h2 : lendL H cs = some l) : lendL H (c :: cs) = some (x :: l) := by
  simp only [lendL, h1, h2]
theorem lendV_own {H : Nat → Option (List AV)} {i m e : Nat} {cs : List AV} (h : H i = some cs) (hp : Pur cs) : lendV H (.own i 0 m e) = some (.imm m cs) := by
  simp only [lendV, h, Option.bind_some, hp.pf, if_true, List.drop_zero]
theorem lendV_v {H : Nat → Option (List AV)} {x : Value} : lendV H (.v x) = some (.v x) := rfl
section
variable {P : Program} {N : Nat} {Q : Exit → AS → Prop} {all : Array Oper} {rest : List Oper} {ts : List (Nat × AV)} {hs : List (Nat × Option (List AV))} {n : Nat} {z0 : Lo} {md : Md}
variable {d : Nat} {ty : TypeId} {pos : String} {af : Array Edge}
theorem rx_lendE {k : FuncId} {args : Array Operand} {tys : Array TypeId} {avs avs2 : List AV} {r : AV} {md' : Md} [hc : CaT P k] (ha : evL (lk ts) args.toList = some avs) (hl : lendL (lkH hs) avs = some avs2) (h : PC P k avs2 (fun x => x = r)) (hfr : r.free = true) (hN : Nat.blt d N = true)
    (hmd : MdA md (rOs args.toList ++ rL avs) [.inl d] md') (kk : RW P N all Q md' rest ⟨(d, r) :: ts, hs, n, z0⟩) : RW P N all Q md (⟨some d, .call ⟨.value (.func k), args, tys⟩, ty, pos, af, none⟩ :: rest) ⟨ts, hs, n, z0⟩ := by
  exact rx_lend ha hl h hfr hN (hmd := hmd) kk
end
theorem ibin_and1 {k : IntKind} [hk : K6 k] (a : Nat) [ha : Sm a] : ibin .and k a 1 = some (.int k ((a &&& 1 : Nat) : Int)) := ibin_and a 1
section
variable {P : Program} {N : Nat} {Q : Exit → AS → Prop} {all : Array Oper} {rest : List Oper} {ts : List (Nat × AV)} {hs : List (Nat × Option (List AV))} {n : Nat} {z0 : Lo} {md : Md}
variable {d : Nat} {ty : TypeId} {pos : String} {af : Array Edge}
theorem rx_and1 {k : IntKind} {t t' : TypeId} {x y : Operand} {a : Nat} (hx : ev (lk ts) x = some (.v (.int k (a : Int)))) (hy : ev (lk ts) y = some (.v (.int k 1))) (hk : K6 k) (ha : Sm a)
    (hN : Nat.blt d N = true) {md' : Md} [hmd : MdA md (rO x ++ rO y) [.inl d] md'] (kk : RW P N all Q md' rest ⟨(d, .v (.int k ((a &&& 1 : Nat) : Int))) :: ts, hs, n, z0⟩) : RW P N all Q md (⟨some d, .binOp .and t x y t', ty, pos, af, none⟩ :: rest) ⟨ts, hs, n, z0⟩ :=
  rw_ibin hx hy (.inl rfl) (ibin_and1 a) (ltb hN) (by rw [hmd.pf]; exact kk)
end
theorem and1_iff (A v : Nat) : ((A >>> v &&& 1 : Nat) : Int) = 1 ↔ A.testBit v = true := by
  rw [Nat.testBit, Nat.and_comm]
  have : 1 &&& (A >>> v) = (A >>> v) % 2 := by rw [Nat.and_comm, Nat.and_one_is_mod]
  rw [this]
  have := Nat.mod_two_eq_zero_or_one (A >>> v)
  simp only [bne_iff_ne, ne_eq]
  omega
def bitsI (A : Nat) : List Int := ((List.range 62).filter (A.testBit ·)).map (fun v : Nat => (v : Int))
theorem bitsI_pre {A k : Nat} (h : ∀ v, k ≤ v → A.testBit v = false) (hk : k ≤ 64) (hA : Sm A) : bitsI A = ((List.range k).filter (A.testBit ·)).map (fun v : Nat => (v : Int)) := by
  unfold bitsI
  congr 1
  have e : ∀ (a b : Nat), (∀ v, a ≤ v → v < a + b → A.testBit v = false) → (List.range (a + b)).filter (A.testBit ·) = (List.range a).filter (A.testBit ·) := by
    intro a b hb
    rw [List.range_add, List.filter_append]
    have : List.filter (A.testBit ·) (List.map (fun x => a + x) (List.range b)) = [] := by
      rw [List.filter_eq_nil_iff]
      intro x hx
      rw [List.mem_map] at hx
      obtain ⟨y, hy, rfl⟩ := hx
      rw [List.mem_range] at hy
      rw [hb _ (by omega) (by omega)]; simp
    rw [this, List.append_nil]
  rcases Nat.le_total k 62 with h1 | h1
  · have := e k (62 - k) (fun v h2 _ => h v h2)
    rwa [show k + (62 - k) = 62 by omega] at this
  · have := e 62 (k - 62) (fun v h2 _ => Nat.testBit_lt_two_pow (Nat.lt_of_lt_of_le hA.pf (Nat.pow_le_pow_right (by decide) h2)))
    rw [show 62 + (k - 62) = k by omega] at this
    exact this.symm
theorem filt_succ (p : Nat → Bool) (k : Nat) : (List.range (k + 1)).filter p = (List.range k).filter p ++ (if p k = true then [k] else []) := by
  rw [List.range_succ, List.filter_append]
  congr 1
  by_cases h : p k = true <;> simp [h]
theorem mem_bitsI {A : Nat} {z : Int} : z ∈ bitsI A ↔ ∃ v : Nat, v < 62 ∧ A.testBit v = true ∧ z = v := by
  unfold bitsI
  simp only [List.mem_map, List.mem_filter, List.mem_range]
  constructor
  · rintro ⟨v, ⟨h1, h2⟩, rfl⟩; exact ⟨v, h1, h2, rfl⟩
  · rintro ⟨v, h1, h2, rfl⟩; exact ⟨v, ⟨h1, h2⟩, rfl⟩
end Go.AL

namespace Go.AL
theorem shr_pos {A k : Nat} (hA : Sm A) (h : 0 < ((A >>> k : Nat) : Int)) : k < 62 := by
  rcases Nat.lt_or_ge k 62 with h1 | h1
  · exact h1
  · have : A >>> k = 0 := by rw [Nat.shiftRight_eq_div_pow]; exact Nat.div_eq_of_lt (Nat.lt_of_lt_of_le hA.pf (Nat.pow_le_pow_right (by decide) h1))
    rw [this] at h; simp at h
theorem shr_zero {A k : Nat} (h : ((A >>> k : Nat) : Int) ≤ 0) (v : Nat) (hv : k ≤ v) : A.testBit v = false := by
  have h0 : A >>> k = 0 := Nat.le_zero.1 (Int.ofNat_le.1 h)
  have : A.testBit v = (A >>> k).testBit (v - k) := by rw [Nat.testBit_shiftRight]; congr 1; omega
  rw [this, h0]; simp
theorem filt_snoc {A k : Nat} {u : List Int} (h : ((A >>> k &&& 1 : Nat) : Int) = 1) (hu : u = ((List.range k).filter (A.testBit ·)).map (fun v : Nat => (v : Int))) : u ++ [(k : Int)] = ((List.range (k + 1)).filter (A.testBit ·)).map (fun v : Nat => (v : Int)) := by
  rw [filt_succ, if_pos ((and1_iff A k).1 h), List.map_append, hu]; rfl
theorem filt_skip {A k : Nat} {u : List Int} (h : ¬ ((A >>> k &&& 1 : Nat) : Int) = 1) (hu : u = ((List.range k).filter (A.testBit ·)).map (fun v : Nat => (v : Int))) : u = ((List.range (k + 1)).filter (A.testBit ·)).map (fun v : Nat => (v : Int)) := by
  rw [filt_succ, if_neg (fun q => h ((and1_iff A k).2 q)), List.append_nil, hu]
def ofV (pts : List Pnt) (V : Nat) : Nat := mkBits (fun l => isLn pts[l]! && V.testBit (pts[l]!.y.toNat)) pts.length
def GoodP (ts : List Int) (pts : List Pnt) (A : List Nat) : Prop := A.length = pts.length ∧ ∀ i, i < pts.length → ∀ l, A[i]!.testBit l = true ↔ Pl' ts pts (i, l)
theorem Pl_ln {ts : List Int} {pts : List Pnt} {a : Nat × Nat} (h : Pl' ts pts a) : a.2 < pts.length ∧ isLn pts[a.2]! = true := by
  induction h with
  | base h => exact ⟨h.1.1, h.2⟩
  | step _ r ih => rw [r.1]; exact ih
end Go.AL

namespace Go.AL
open Go.RowKit
set_option linter.unusedVariables false
section
variable {P : Program} {N : Nat} {Q : Exit → AS → Prop} {all : Array Oper} {rest : List Oper} {ts : List (Nat × AV)} {hs : List (Nat × Option (List AV))} {n : Nat} {z0 : Lo} {md : Md}
variable {d : Nat} {ty : TypeId} {pos : String} {af : Array Edge}
end
end Go.AL

namespace Go.AL
end Go.AL
namespace Go.AL
theorem isLn_op {x : Pnt} (h : isLn x = true) : x.op = 4 ∨ x.op = 5 := by simpa [isLn] using h
end Go.AL

namespace Go.AL
theorem bitsI_len (A : Nat) : (bitsI A).length ≤ 62 := by
  unfold bitsI; rw [List.length_map]; exact Nat.le_trans (List.length_filter_le _ _) (by simp)
end Go.AL
namespace Go.AL
def row6 (A : List Nat) (i : Nat) : List Nat := (A.drop (i * 6)).take 6
theorem row6_at {A : List Nat} {i v n : Nat} (hA : A.length = n * 6) (hi : i < n) (hv : v < 6) : (row6 A i)[v]! = A[i * 6 + v]! := by
  have h2 : i * 6 + v < A.length := by omega
  rw [getB _ _ h2, getB _ _ (by unfold row6; simp; omega)]
  unfold row6; simp
theorem row6_len {A : List Nat} {i n : Nat} (hA : A.length = n * 6) (hi : i < n) : (row6 A i).length = 6 := by unfold row6; simp; omega
end Go.AL

namespace Go.AL
def GoodF (ts : List Int) (pts : List Pnt) (A : List Nat) : Prop := A.length = pts.length * 6 ∧ ∀ i v, i < pts.length → v < 6 → ∀ l, A[i * 6 + v]!.testBit l = true ↔ Fr' ts pts (i, v, l)
theorem Fr_lt {ts : List Int} {pts : List Pnt} (w : WG ts pts) {a : Nat × Nat × Nat} (h : Fr' ts pts a) : a.1 < pts.length ∧ a.2.1 < ts.length ∧ a.2.2 < pts.length := by
  induction h with
  | @base a h =>
    have h1 := (w.set _ h.1.1).1
    have h2 := h.2.2
    exact ⟨edge_lt w h.1, by omega, h.1.1⟩
  | @step a b _ r ih =>
    refine ⟨edge_lt w r.2.1, ?_, by rw [r.1]; exact ih.2.2⟩
    rcases r.2.2 with ⟨_, h, _⟩ | ⟨h, _⟩
    · rw [h]; exact ih.2.1
    · have h1 := (w.set _ r.2.1.1).1
      omega
end Go.AL
namespace Go.AL
end Go.AL

namespace Go.AL
open Go.RowKit
set_option linter.unusedVariables false
section
variable {P : Program} {N : Nat} {Q : Exit → AS → Prop} {all : Array Oper} {rest : List Oper} {ts : List (Nat × AV)} {hs : List (Nat × Option (List AV))} {n : Nat} {z0 : Lo} {md : Md}
variable {d : Nat} {ty : TypeId} {pos : String} {af : Array Edge}
theorem rx_assignNil {e : Nat} (hM : Nat.blt n big = true) (hN : Nat.blt d N = true) (kk : RW P N all Q .txt rest ⟨(d, .own n 0 0 e) :: ts, (n, some []) :: hs, n + 1, z0⟩) :
    RW P N all Q .txt (⟨some d, .assign (.const (.slice none 0 0)), ty, pos, af, none⟩ :: rest) ⟨ts, hs, n, z0⟩ := by
  refine rx_assign (av := .v (.slice none 0 0)) rfl hN (md' := .txt) (rw_le kk ((Le.nilOwn (d := d) e (by simp [lk_c]) (ltb hM)).trans ?_))
  refine Le.of (fun t av h => ?_) (fun i c h => h) (Nat.le_refl _) rfl
  show lk ((d, .own n 0 0 e) :: (d, .v (.slice none 0 0)) :: ts) t = _
  have h' : lk ((d, .own n 0 0 e) :: ts) t = some av := h
  simp only [lk_c] at h' ⊢
  split
  · rename_i q; rw [if_pos q] at h'; exact h'
  · rename_i q; rw [if_neg q] at h'; exact h'
end
end Go.AL

namespace Go.AL
def accF (ts : List Int) (x : Pnt) (m : Bool) : List Acc :=
  (if x.op = 4 ∨ x.op = 6 then [⟨x.y, false⟩] else if x.op = 5 then [⟨x.y, true⟩] else if x.op = 7 ∨ x.op = 8 then [⟨x.x, true⟩] else if x.op = 3 ∧ tkT ts[x.y.toNat]! = true then [⟨x.y, true⟩] else []) ++
  (if 0 ≤ setAt x ∧ ts[(setAt x).toNat]! = 2 ∧ m = true then [⟨setAt x, true⟩] else [])
def orL (f : List Nat) (L : List Int) (a : Nat) : Nat := L.foldl (fun a v => a ||| f[v.toNat]!) a
def kpF (ts : List Int) (x : Pnt) (live : Nat) (f : List Nat) : Nat := orL f (bitsI (anl live (wS ts x [2] ||| sbit x))) 0
theorem testBit_orL (f : List Nat) (l : Nat) : ∀ (L : List Int) (a : Nat), (orL f L a).testBit l = true ↔ a.testBit l = true ∨ ∃ v ∈ L, f[v.toNat]!.testBit l = true
  | [], a => by simp [orL]
  | v :: L, a => by
    show (orL f L (a ||| f[v.toNat]!)).testBit l = true ↔ _
    rw [testBit_orL f l L, Nat.testBit_or, Bool.or_eq_true]
    simp only [List.mem_cons, exists_eq_or_imp]
    grind
def agA (pts : List Pnt) (wr : Bool) (L : List Int) (a : Nat) : Nat := L.foldl (fun a l => if wr = true ∨ pts[l.toNat]!.op = 5 then a ||| 2 ^ l.toNat else a) a
def agF (pts : List Pnt) (loans : Nat) (acs : List Acc) (a : Nat) : Nat := acs.foldl (fun a c => agA pts c.write (bitsI (loans &&& ofV pts (2 ^ c.var.toNat))) a) a
theorem testBit_agA (pts : List Pnt) (wr : Bool) (l : Nat) : ∀ (L : List Int) (a : Nat), (agA pts wr L a).testBit l = true ↔ a.testBit l = true ∨ ((∃ z ∈ L, z.toNat = l) ∧ (wr = true ∨ pts[l]!.op = 5))
  | [], a => by simp [agA]
  | z :: L, a => by
    show (agA pts wr L (if wr = true ∨ pts[z.toNat]!.op = 5 then a ||| 2 ^ z.toNat else a)).testBit l = true ↔ _
    rw [testBit_agA pts wr l L]
    have h2 : ∀ b : Nat, (a ||| 2 ^ b).testBit l = true ↔ a.testBit l = true ∨ b = l := by
      intro b
      rw [Nat.testBit_or, Bool.or_eq_true, Nat.testBit_two_pow, decide_eq_true_eq]
    split
    · rename_i h
      rw [h2]
      simp only [List.mem_cons, exists_eq_or_imp]
      constructor
      · rintro ((h1 | rfl) | ⟨h1, h3⟩)
        · exact .inl h1
        · exact .inr ⟨.inl rfl, h⟩
        · exact .inr ⟨.inr h1, h3⟩
      · rintro (h1 | ⟨rfl | h1, h3⟩)
        · exact .inl (.inl h1)
        · exact .inl (.inr rfl)
        · exact .inr ⟨h1, h3⟩
    · rename_i h
      simp only [List.mem_cons, exists_eq_or_imp]
      constructor
      · rintro (h1 | ⟨h1, h3⟩)
        · exact .inl h1
        · exact .inr ⟨.inr h1, h3⟩
      · rintro (h1 | ⟨rfl | h1, h3⟩)
        · exact .inl h1
        · exact absurd h3 h
        · exact .inr ⟨h1, h3⟩
theorem testBit_agF (pts : List Pnt) (loans l : Nat) (hl : Sm loans) : ∀ (acs : List Acc) (a : Nat), (agF pts loans acs a).testBit l = true ↔ a.testBit l = true ∨ ∃ c ∈ acs, loans.testBit l = true ∧ (ofV pts (2 ^ c.var.toNat)).testBit l = true ∧ (c.write = true ∨ pts[l]!.op = 5)
  | [], a => by simp [agF]
  | c :: acs, a => by
    show (agF pts loans acs (agA pts c.write (bitsI (loans &&& ofV pts (2 ^ c.var.toNat))) a)).testBit l = true ↔ _
    rw [testBit_agF pts loans l hl acs, testBit_agA]
    have h2 : (∃ z ∈ bitsI (loans &&& ofV pts (2 ^ c.var.toNat)), z.toNat = l) ↔ loans.testBit l = true ∧ (ofV pts (2 ^ c.var.toNat)).testBit l = true := by
      constructor
      · rintro ⟨z, hz, rfl⟩
        obtain ⟨v, h1, h3, rfl⟩ := mem_bitsI.1 hz
        rw [Nat.testBit_and, Bool.and_eq_true] at h3; exact h3
      · intro h
        have : l < 62 := lt_of_bits hl.pf h.1
        exact ⟨(l : Int), mem_bitsI.2 ⟨l, this, by rw [Nat.testBit_and, h.1, h.2]; rfl, rfl⟩, rfl⟩
    rw [h2]
    simp only [List.mem_cons, exists_eq_or_imp]
    grind
end Go.AL

namespace Go.AL
end Go.AL

namespace Go.AL
def cfN (ts : List Int) (pts : List Pnt) (Am Al Af Ap : List Nat) (i : Nat) : Nat :=
  agF pts (kpF ts pts[i]! Al[i]! (row6 Af i) &&& Ap[i]!) (accF ts pts[i]! (Am[i]!.testBit (setAt pts[i]!).toNat)) 0
theorem cfN_lt {ts : List Int} {pts : List Pnt} (w : WG ts pts) {Am Al Af Ap : List Nat} {i : Nat} (hp : Ap[i]! < 2 ^ pts.length) : cfN ts pts Am Al Af Ap i < 2 ^ pts.length := by
  have hpl := w.pl
  have hl : kpF ts pts[i]! Al[i]! (row6 Af i) &&& Ap[i]! < 2 ^ pts.length := Nat.and_lt_two_pow _ hp
  apply Nat.lt_pow_two_of_testBit
  intro l hl2
  unfold cfN
  cases hq : (agF pts (kpF ts pts[i]! Al[i]! (row6 Af i) &&& Ap[i]!) (accF ts pts[i]! (Am[i]!.testBit (setAt pts[i]!).toNat)) 0).testBit l with
  | false => rfl
  | true =>
    rw [testBit_agF _ _ _ ⟨Nat.lt_of_lt_of_le hl (Nat.pow_le_pow_right (by decide) (by omega))⟩] at hq
    rcases hq with hq | ⟨c, _, h2, _⟩
    · simp at hq
    · have := lt_of_bits hl h2; omega
end Go.AL
namespace Go.AL
theorem Mb_lt {ts : List Int} {pts : List Pnt} (w : WG ts pts) {a : Nat × Nat} (h : Mb ts pts a) : a.2 < ts.length := by
  induction h with
  | base h => obtain ⟨i, e, h2⟩ := h; have := (w.set i e.1).1; omega
  | step _ r ih => rw [r.1]; exact ih
end Go.AL

namespace Go.AL
open Go.RowKit
set_option linter.unusedVariables false
section
variable {P : Program} {N : Nat} {Q : Exit → AS → Prop} {all : Array Oper} {rest : List Oper} {ts : List (Nat × AV)} {hs : List (Nat × Option (List AV))} {n : Nat} {z0 : Lo} {md : Md}
variable {d : Nat} {ty : TypeId} {pos : String} {af : Array Edge}
end
end Go.AL

namespace Go.AL
structure Flows (ts : List Int) (pts : List Pnt) where
  Aa : List Nat
  Am : List Nat
  An : List Nat
  Al : List Nat
  Af : List Nat
  Ap : List Nat
  ga : GoodA ts pts Aa
  gm : GoodM ts pts Am
  gn : GoodN ts pts An
  gl : GoodL ts pts Al
  gf : GoodF ts pts Af
  gp : GoodP ts pts Ap
theorem ex_bits (n m : Nat) (T : Nat → Nat → Prop) (h : ∀ i v, i < n → T i v → v < m) : ∃ A : List Nat, A.length = n ∧ ∀ i, i < n → ∀ v, A[i]!.testBit v = true ↔ T i v := by
  have key : ∀ i : Nat, ∃ f : Nat → Bool, ∀ v, f v = true ↔ T i v := fun i => by
    have : ∀ v, ∃ b : Bool, b = true ↔ T i v := fun v => by
      by_cases hT : T i v
      · exact ⟨true, by simp [hT]⟩
      · exact ⟨false, by simp [hT]⟩
    exact ⟨fun v => Classical.choose (this v), fun v => Classical.choose_spec (this v)⟩
  refine ⟨(List.range n).map (fun i => mkBits (Classical.choose (key i)) m), by simp, fun i hi v => ?_⟩
  rw [getB _ _ (by simpa using hi), List.getElem_map, List.getElem_range, testBit_mkBits, Bool.and_eq_true, decide_eq_true_eq, Classical.choose_spec (key i) v]
  exact ⟨fun h2 => h2.2, fun h2 => ⟨h i v hi h2, h2⟩⟩
theorem Flows.ex {ts : List Int} {pts : List Pnt} (w : WG ts pts) : Nonempty (Flows ts pts) := by
  obtain ⟨Aa, a1, a2⟩ := ex_bits pts.length ts.length (fun i v => v < ts.length ∧ ¬ Na ts pts (i, v)) (fun i v _ h => h.1)
  obtain ⟨Am, b1, b2⟩ := ex_bits pts.length ts.length (fun i v => Mb ts pts (i, v)) (fun i v _ h => Mb_lt w h)
  obtain ⟨An, c1, c2⟩ := ex_bits pts.length ts.length (fun i v => Nd ts pts (i, v)) (fun i v _ h => Nd_lt w h)
  obtain ⟨Al, d1, d2⟩ := ex_bits pts.length ts.length (fun i v => Lv ts pts i v) (fun i v _ h => by obtain ⟨k, _, h⟩ := h; exact Nd_lt w h)
  obtain ⟨Ap, e1, e2⟩ := ex_bits pts.length pts.length (fun i l => Pl' ts pts (i, l)) (fun i v _ h => (Pl_ln h).1)
  obtain ⟨Af, f1, f2⟩ := ex_bits (pts.length * 6) pts.length (fun q l => Fr' ts pts (q / 6, q % 6, l)) (fun q v _ h => (Fr_lt w h).2.2)
  refine ⟨⟨Aa, Am, An, Al, Af, Ap, ⟨a1, a2⟩, ⟨b1, b2⟩, ⟨c1, c2⟩, ⟨d1, d2⟩, ⟨f1, fun i v hi hv l => ?_⟩, ⟨e1, e2⟩⟩⟩
  rw [f2 (i * 6 + v) (by omega) l, show (i * 6 + v) / 6 = i by omega, show (i * 6 + v) % 6 = v by omega]
end Go.AL

namespace Go.AL
open Go.RowKit
set_option linter.unusedVariables false
class BoT (P : Program) (t : Nat) : Prop where pf : P.underlying t = some .bool
section
variable {P : Program} {C : Ctx} {ι : Pl} {T : Nat → Option AV} {H : Nat → Option (List AV)} {a : Act} {w : World} {o : Oper}
end
section
variable {P : Program} {N : Nat} {Q : Exit → AS → Prop} {all : Array Oper} {rest : List Oper} {ts : List (Nat × AV)} {hs : List (Nat × Option (List AV))} {n : Nat} {z0 : Lo} {md : Md}
variable {d : Nat} {ty : TypeId} {pos : String} {af : Array Edge}
end
theorem sC_imm {α : Type} {f : α → List AV} {e m : Nat} [h : FlT f e] {ys : List α} {H : Nat → Option (List AV)} (hm : m = ys.length) : sCells H e (kAV (.imm m (flat f ys))) = some (m, flat f ys) := by
  subst hm
  have hl : (flat f ys).length = ys.length * e := flat_length f ys
  show (if ys.length * e ≤ (flat f ys).length then some (ys.length, (flat f ys).take (ys.length * e)) else none) = _
  rw [if_pos (by omega), List.take_of_length_le (by omega)]
theorem app_nilF {α : Type} {f : α → List AV} {ys : List α} {e m : Nat} {L : List AV} (h : m = 0) : (((List.replicate 0 L).flatten).drop 0).take (m * e) ++ flat f ys = flat f ys := by subst h; simp
theorem Le.cells {ts : List (Nat × AV)} {hs : List (Nat × Option (List AV))} {n : Nat} {z0 : Lo} {i : Nat} {cs cs' : List AV} (hi : lkH hs i = some cs) (hl : cs'.length = cs.length)
    (h : ∀ (w : World) (bad : Nat → Prop) (ι : Pl) (b β : Nat), RdC w bad ι cs b β → RdC w bad ι cs' b β) :
    Le ⟨ts, hs, n, z0⟩ ⟨ts, (i, some cs') :: hs, n, z0⟩ := by
  rintro C a w ⟨h0, ι, g, gh⟩
  have hk : ∀ id c, lkH ((i, some cs') :: hs) id = some c → (id = i ∧ c = cs') ∨ (id ≠ i ∧ lkH hs id = some c) := by
    intro id c hc
    rw [lkH_c] at hc
    split at hc
    · rename_i e; cases hc; exact .inl ⟨e, rfl⟩
    · rename_i e; exact .inr ⟨fun h => e h, hc⟩
  have hk2 : ∀ id c, lkH hs id = some c → ∃ c', lkH ((i, some cs') :: hs) id = some c' := by
    intro id c hc
    rw [lkH_c]
    split
    · exact ⟨_, rfl⟩
    · exact ⟨_, hc⟩
  have hb : badOf C.X ι (lkH ((i, some cs') :: hs)) = badOf C.X ι (lkH hs) := by
    funext b
    refine propext ⟨?_, ?_⟩
    · rintro (h | ⟨id, c, β, h1, h2⟩)
      · exact .inl h
      · rcases hk id c h1 with ⟨rfl, _⟩ | ⟨_, h3⟩
        · exact .inr ⟨_, _, _, hi, h2⟩
        · exact .inr ⟨_, _, _, h3, h2⟩
    · rintro (h | ⟨id, c, β, h1, h2⟩)
      · exact .inl h
      · obtain ⟨c', h3⟩ := hk2 id c h1
        exact .inr ⟨_, _, _, h3, h2⟩
  refine ⟨h0, ι, ⟨g.df, g.sz, fun t av ht => ?_⟩, ?_, ?_, gh.fr, gh.ex, gh.fresh⟩
  · show ∃ y, a.tmps[t]? = some y ∧ Rd w (badOf C.X ι (lkH ((i, some cs') :: hs))) ι av y
    rw [hb]; exact g.tm t av ht
  · intro id c hc
    show _ ∨ ∃ b β arr e, ι id = some (some (b, β)) ∧ w.heap[b]? = some (.cells arr e (0, 0)) ∧ β + c.length ≤ arr.size ∧ RdC w (badOf C.X ι (lkH ((i, some cs') :: hs))) ι c b β ∧ ¬ C.X b ∧ (C.W0 b ∨ C.w0.heap.size ≤ b)
    rw [hb]
    rcases hk id c hc with ⟨rfl, rfl⟩ | ⟨_, h3⟩
    · rcases gh.obj _ _ hi with ⟨q1, q2⟩ | ⟨b, β, arr, e, q1, q2, q3, q4, q5⟩
      · subst q2
        exact .inl ⟨q1, List.eq_nil_of_length_eq_zero hl⟩
      · exact .inr ⟨b, β, arr, e, q1, q2, by rw [hl]; exact q3, h _ _ _ _ _ q4, q5⟩
    · exact gh.obj _ _ h3
  · intro id id' c c' b β β' h1 h2 h3 h4
    obtain ⟨d1, e1⟩ : ∃ d, lkH hs id = some d := by
      rcases hk id c h1 with ⟨rfl, _⟩ | ⟨_, h⟩
      · exact ⟨_, hi⟩
      · exact ⟨_, h⟩
    obtain ⟨d2, e2⟩ : ∃ d, lkH hs id' = some d := by
      rcases hk id' c' h2 with ⟨rfl, _⟩ | ⟨_, h⟩
      · exact ⟨_, hi⟩
      · exact ⟨_, h⟩
    exact gh.sep id id' d1 d2 b β β' e1 e2 h3 h4
end Go.AL

namespace Go.AL
theorem getB_def {α : Type} [Inhabited α] (xs : List α) (i : Nat) : xs[i]! = if h : i < xs.length then xs[i] else default := by
  split
  · rw [getB _ _ ‹_›]
  · rw [getElem!_neg xs i ‹_›]
theorem ext_get {α : Type} [Inhabited α] {a b : List α} (hl : a.length = b.length) (h : ∀ i, i < a.length → a[i]! = b[i]!) : a = b := by
  refine List.ext_getElem hl fun i h1 h2 => ?_
  have := h i h1
  rwa [getB _ _ h1, getB _ _ h2] at this
theorem set_get {α : Type} [Inhabited α] (xs : List α) (i j : Nat) (x : α) : (xs.set i x)[j]! = if i = j ∧ j < xs.length then x else xs[j]! := by
  by_cases hj : j < xs.length
  · rw [getB _ _ (by simpa using hj), List.getElem_set, getB _ _ hj]; grind
  · rw [getElem!_neg (xs.set i x) j (by simpa using hj), getElem!_neg xs j hj, if_neg (by omega)]
theorem mapR_get {α : Type} [Inhabited α] (f : Nat → α) (n i : Nat) (h : i < n) : (((List.range n).map f : List α))[i]! = f i := by
  rw [getB _ i (by simpa using h)]; simp
theorem rep_get {α : Type} [Inhabited α] (x : α) (n i : Nat) (h : i < n) : (List.replicate n x : List α)[i]! = x := by
  rw [getB _ i (by simpa using h)]; simp
def aftB (ts : List Int) (x : Pnt) (b : List Bool) : List Bool := (List.range b.length).map fun (v : Nat) => decide (setAt x = (v : Int)) || (b[v]! && !decide (useAt ts x v = 2))
def jnB (o a : List Bool) (all : Bool) : List Bool := (List.range a.length).map fun (v : Nat) => if v < o.length then (if all then o[v]! && a[v]! else o[v]! || a[v]!) else a[v]!
theorem jnB_len (o a : List Bool) (all : Bool) : (jnB o a all).length = a.length := by simp [jnB]
theorem jnB_get (o a : List Bool) (all : Bool) (v : Nat) (h : v < a.length) : (jnB o a all)[v]! = if v < o.length then (if all then o[v]! && a[v]! else o[v]! || a[v]!) else a[v]! := mapR_get _ _ _ h
end Go.AL

namespace Go.AL
theorem app_get {α : Type} [Inhabited α] (xs ys : List α) (i : Nat) : (xs ++ ys)[i]! = if i < xs.length then xs[i]! else ys[i - xs.length]! := by
  by_cases h : i < xs.length
  · rw [if_pos h, getB _ i (by simp; omega), getB _ i h, List.getElem_append_left h]
  · rw [if_neg h]
    by_cases h2 : i - xs.length < ys.length
    · rw [getB (xs ++ ys) i (by simp; omega), getB _ _ h2, List.getElem_append_right (by omega)]
    · rw [getElem!_neg (xs ++ ys) i (by simp; omega), getElem!_neg ys _ h2]
theorem g4_0 {α : Type} [Inhabited α] (p q : α) (A B : List α) : ([p] ++ A ++ [q] ++ B)[0]! = p := by rw [app_get, app_get, app_get]; simp
theorem g4_A {α : Type} [Inhabited α] (p q : α) (A B : List α) (k : Nat) (h : k < A.length) : ([p] ++ A ++ [q] ++ B)[1 + k]! = A[k]! := by
  rw [app_get, if_pos (by simp; omega), app_get, if_pos (by simp; omega), app_get, if_neg (by simp)]
  congr 1; simp
theorem g4_B {α : Type} [Inhabited α] (p q : α) (A B : List α) (k : Nat) : ([p] ++ A ++ [q] ++ B)[2 + A.length + k]! = B[k]! := by
  rw [app_get, if_neg (by simp; omega)]
  congr 1; simp; omega
mutual
theorem ptS_pre : ∀ (s : Stmt) (b i : Nat), b < i → i ≤ b + npS s → ∃ j, b ≤ j ∧ j < i ∧ j < b + npS s ∧ (i : Int) ∈ (ptS b s)[j - b]!.next
  | .mk op x y n th el, b, i, h1, h2 => by
    have hA := ptL_len th (b + 1)
    have hB := ptL_len el (b + 2 + npL th)
    by_cases h9 : op = 9
    · subst h9
      simp only [npS, if_true] at h2 ⊢
      simp only [ptS, if_true]
      by_cases c1 : i = b + 1
      · refine ⟨b, by omega, by omega, by omega, ?_⟩
        rw [Nat.sub_self, g4_0]; simp; omega
      · by_cases c2 : i ≤ b + 1 + npL th
        · obtain ⟨j, e1, e2, e3, e4⟩ := ptL_pre th (b + 1) i (by omega) c2
          refine ⟨j, by omega, by omega, by omega, ?_⟩
          rw [show j - b = 1 + (j - (b + 1)) by omega, g4_A _ _ _ _ _ (by omega)]; exact e4
        · by_cases c3 : i = b + 2 + npL th
          · refine ⟨b, by omega, by omega, by omega, ?_⟩
            rw [Nat.sub_self, g4_0]; simp; omega
          · obtain ⟨j, e1, e2, e3, e4⟩ := ptL_pre el (b + 2 + npL th) i (by omega) (by omega)
            refine ⟨j, by omega, by omega, by omega, ?_⟩
            rw [show j - b = 2 + (ptL (b + 1) th).length + (j - (b + 2 + npL th)) by omega, g4_B]; exact e4
    · by_cases h10 : op = 10
      · subst h10
        simp only [npS, if_true, show ((10 : Int) = 9) = False by simp, if_false] at h2 ⊢
        simp only [ptS, if_true, show ((10 : Int) = 9) = False by simp, if_false]
        rw [← List.append_nil ([_] ++ _ ++ [_])]
        by_cases c1 : i = b + 1
        · refine ⟨b, by omega, by omega, by omega, ?_⟩
          rw [Nat.sub_self, g4_0]; simp; omega
        · by_cases c2 : i ≤ b + 1 + npL th
          · obtain ⟨j, e1, e2, e3, e4⟩ := ptL_pre th (b + 1) i (by omega) c2
            refine ⟨j, by omega, by omega, by omega, ?_⟩
            rw [show j - b = 1 + (j - (b + 1)) by omega, g4_A _ _ _ _ _ (by omega)]; exact e4
          · refine ⟨b, by omega, by omega, by omega, ?_⟩
            rw [Nat.sub_self, g4_0]; simp; omega
      · simp only [npS, h9, h10, if_false] at h2 ⊢
        simp only [ptS, h9, h10, if_false]
        refine ⟨b, by omega, by omega, by omega, ?_⟩
        rw [Nat.sub_self]; simp; omega
theorem ptL_pre : ∀ (l : List Stmt) (b i : Nat), b < i → i ≤ b + npL l → ∃ j, b ≤ j ∧ j < i ∧ j < b + npL l ∧ (i : Int) ∈ (ptL b l)[j - b]!.next
  | [], b, i, h1, h2 => by simp only [npL] at h2; omega
  | s :: l, b, i, h1, h2 => by
    have hS := ptS_len s b
    simp only [npL] at h2 ⊢
    simp only [ptL]
    by_cases c : i ≤ b + npS s
    · obtain ⟨j, e1, e2, e3, e4⟩ := ptS_pre s b i h1 c
      refine ⟨j, by omega, by omega, by omega, ?_⟩
      rw [app_get, if_pos (by omega)]; exact e4
    · obtain ⟨j, e1, e2, e3, e4⟩ := ptL_pre l (b + npS s) i (by omega) (by omega)
      refine ⟨j, by omega, by omega, by omega, ?_⟩
      rw [app_get, if_neg (by omega), hS, show j - b - npS s = j - (b + npS s) by omega]; exact e4
end
def Rch (pts : List Pnt) : Prop := ∀ i, 0 < i → i < pts.length → ∃ j, j < i ∧ edge pts j i
theorem Rch.of (p : Prg) : Rch (ptsF p) := by
  intro i h1 h2
  rw [ptsF_len] at h2
  obtain ⟨j, e1, e2, e3, e4⟩ := ptL_pre p.body 0 i h1 (by omega)
  refine ⟨j, e2, by rw [ptsF_len]; omega, ?_⟩
  unfold ptsF
  rw [app_get, if_pos (by rw [ptL_len]; omega)]
  exact e4
end Go.AL

namespace Go.AL
def sumF (f : Nat → Nat) : Nat → Nat
  | 0 => 0
  | n + 1 => sumF f n + f n
theorem sumF_le {f g : Nat → Nat} : ∀ n, (∀ i, i < n → f i ≤ g i) → sumF f n ≤ sumF g n
  | 0, _ => Nat.le_refl _
  | n + 1, h => Nat.add_le_add (sumF_le n fun i hi => h i (by omega)) (h n (by omega))
theorem sumF_lt {f g : Nat → Nat} : ∀ n, (∀ i, i < n → f i ≤ g i) → (∃ i, i < n ∧ f i < g i) → sumF f n < sumF g n
  | 0, _, ⟨i, h, _⟩ => by omega
  | n + 1, h, ⟨i, hi, hlt⟩ => by
    show sumF f n + f n < sumF g n + g n
    have h1 := sumF_le n fun i hi => h i (by omega)
    have h2 := h n (by omega)
    by_cases e : i = n
    · subst e; omega
    · have := sumF_lt n (fun i hi => h i (by omega)) ⟨i, by omega, hlt⟩
      omega
theorem sumF_one : ∀ n, sumF (fun _ => 1) n = n
  | 0 => rfl
  | n + 1 => by show sumF _ n + 1 = _; rw [sumF_one n]
def mvd (all : Bool) (b : List Bool) (v : Nat) : Bool := b[v]! != all
structure Fw where
  out : List (List Bool)
  seen : List Bool
  work : List Int
def fwT (ts : List Int) (pts : List Pnt) (all : Bool) (a : Nat × Nat) : Prop := if all = true then Na ts pts a else Mb ts pts a
theorem jn_mvd (all : Bool) (o a : List Bool) (v : Nat) (h : v < a.length) : mvd all (jnB o a all) v = if v < o.length then mvd all o v || mvd all a v else mvd all a v := by
  unfold mvd
  rw [jnB_get _ _ _ _ h]
  split
  · cases all <;> cases o[v]! <;> cases a[v]! <;> rfl
  · rfl
structure FI (ts : List Int) (pts : List Pnt) (all : Bool) (s : Fw) : Prop where
  lo : s.out.length = pts.length
  ls : s.seen.length = pts.length
  a : ∀ i, i < pts.length → s.seen[i]! = true → s.out[i]!.length = ts.length
  b : ∀ i, i < pts.length → s.seen[i]! = false → s.out[i]! = []
  z : s.seen[0]! = true
  z1 : all = true → ∀ v, v < ts.length → mvd all s.out[0]! v = true
  t : ∀ i, i < pts.length → s.seen[i]! = true → ∀ v, v < ts.length → mvd all s.out[i]! v = true → fwT ts pts all (i, v)
  w : ∀ k, k ∈ s.work → 0 ≤ k ∧ k < pts.length ∧ s.seen[k.toNat]! = true
def potR (all : Bool) (nv : Nat) (seen : Bool) (b : List Bool) : Nat := if seen = true then sumF (fun v => if mvd all b v = true then 0 else 1) nv else nv + 1
def fwMu (all : Bool) (nv N : Nat) (s : Fw) : Nat := 3 * sumF (fun i => potR all nv s.seen[i]! s.out[i]!) N + s.work.length
theorem potR_le (all : Bool) (nv : Nat) (b : List Bool) : potR all nv true b ≤ nv := by
  unfold potR
  rw [if_pos rfl]
  have := sumF_le (f := fun v => if mvd all b v = true then 0 else 1) (g := fun _ => 1) nv (fun i _ => by split <;> omega)
  rw [sumF_one] at this
  exact this
theorem potR_lt {all : Bool} {nv : Nat} {b b' : List Bool} (h1 : b.length = nv) (h2 : b'.length = nv) (hm : ∀ v, v < nv → mvd all b v = true → mvd all b' v = true) (hne : b ≠ b') : potR all nv true b' < potR all nv true b := by
  unfold potR
  rw [if_pos rfl, if_pos rfl]
  have : ∃ v, v < nv ∧ b[v]! ≠ b'[v]! := by
    apply Classical.byContradiction
    intro hc
    refine hne (ext_get (by omega) fun i hi => ?_)
    apply Classical.byContradiction
    intro hd
    exact hc ⟨i, by omega, hd⟩
  obtain ⟨v, hv, hd⟩ := this
  refine sumF_lt nv (fun i hi => ?_) ⟨v, hv, ?_⟩
  · have := hm i hi
    grind
  · have := hm v hv
    unfold mvd at this ⊢
    revert this hd
    cases b[v]! <;> cases b'[v]! <;> cases all <;> simp
def fwP (all : Bool) (aft : List Bool) (s : Fw) (n : Nat) : Fw :=
  if s.seen[n]! = true ∧ s.out[n]! = jnB s.out[n]! aft all then s else ⟨s.out.set n (jnB s.out[n]! aft all), s.seen.set n true, s.work ++ [(n : Int)]⟩
structure FPush (ts : List Int) (pts : List Pnt) (all : Bool) (aft : List Bool) (n : Nat) (s s' : Fw) : Prop where
  I : FI ts pts all s'
  mu : fwMu all ts.length pts.length s' ≤ fwMu all ts.length pts.length s
  mono : ∀ k, k < pts.length → s.seen[k]! = true → s'.seen[k]! = true ∧ ∀ v, v < ts.length → mvd all s.out[k]! v = true → mvd all s'.out[k]! v = true
  sn : s'.seen[n]! = true
  mv : ∀ v, v < ts.length → mvd all aft v = true → mvd all s'.out[n]! v = true
  wk : ∀ x, x ∈ s.work → x ∈ s'.work
  ot : ∀ i, i ≠ n → s'.out[i]! = s.out[i]! ∧ s'.seen[i]! = s.seen[i]!
  or : (n : Int) ∈ s'.work ∨ s' = s
theorem fwP_ok {ts : List Int} {pts : List Pnt} {all : Bool} {s : Fw} {n : Nat} {aft : List Bool} (I : FI ts pts all s) (hn : n < pts.length) (ha : aft.length = ts.length)
    (hT : ∀ v, v < ts.length → mvd all aft v = true → fwT ts pts all (n, v)) : FPush ts pts all aft n s (fwP all aft s n) := by
  have hjl : (jnB s.out[n]! aft all).length = ts.length := by rw [jnB_len, ha]
  have hj := fun v (hv : v < ts.length) => jn_mvd all s.out[n]! aft v (by omega)
  unfold fwP
  split
  · rename_i hc
    refine ⟨I, Nat.le_refl _, fun k _ h => ⟨h, fun _ _ h => h⟩, hc.1, fun v hv hm => ?_, fun _ h => h, fun _ _ => ⟨rfl, rfl⟩, .inr rfl⟩
    have hl := I.a n hn hc.1
    rw [hc.2, hj v hv, if_pos (by omega), hm, Bool.or_true]
  · rename_i hc
    have hlo := I.lo
    have hls := I.ls
    have hmono : s.seen[n]! = true → ∀ v, v < ts.length → mvd all s.out[n]! v = true → mvd all (jnB s.out[n]! aft all) v = true := by
      intro hs v hv hm
      have hl := I.a n hn hs
      rw [hj v hv, if_pos (by omega), hm, Bool.true_or]
    have hot : ∀ i, i ≠ n → (s.out.set n (jnB s.out[n]! aft all))[i]! = s.out[i]! ∧ (s.seen.set n true)[i]! = s.seen[i]! := fun i hi => by
      rw [set_get, set_get, if_neg (by omega), if_neg (by omega)]; exact ⟨rfl, rfl⟩
    have hon : (s.out.set n (jnB s.out[n]! aft all))[n]! = jnB s.out[n]! aft all := by rw [set_get, if_pos (by omega)]
    have hsn : (s.seen.set n true)[n]! = true := by rw [set_get, if_pos (by omega)]
    refine ⟨⟨by simp; omega, by simp; omega, fun i hi h => ?_, fun i hi h => ?_, ?_, fun h v hv => ?_, fun i hi h v hv hm => ?_, fun k hk => ?_⟩, ?_, fun k hk h => ?_, hsn, fun v hv hm => ?_, fun x hx => List.mem_append_left _ hx, hot, .inl (by simp)⟩
    · dsimp only at h ⊢
      by_cases e : i = n
      · subst e; rw [hon]; exact hjl
      · rw [(hot i e).1]; rw [(hot i e).2] at h; exact I.a i hi h
    · dsimp only at h ⊢
      by_cases e : i = n
      · subst e; rw [hsn] at h; cases h
      · rw [(hot i e).1]; rw [(hot i e).2] at h; exact I.b i hi h
    · dsimp only
      by_cases e : 0 = n
      · subst e; exact hsn
      · rw [(hot 0 e).2]; exact I.z
    · dsimp only
      by_cases e : 0 = n
      · subst e; rw [hon]; exact hmono I.z v hv (I.z1 h v hv)
      · rw [(hot 0 e).1]; exact I.z1 h v hv
    · dsimp only at h hm ⊢
      by_cases e : i = n
      · subst e
        rw [hon, hj v hv] at hm
        split at hm
        · rename_i hlt
          rw [Bool.or_eq_true] at hm
          rcases hm with hm | hm
          · refine I.t i hi ?_ v hv hm
            cases hq : s.seen[i]! with
            | true => rfl
            | false => rw [I.b i hi hq] at hlt; simp at hlt
          · exact hT v hv hm
        · exact hT v hv hm
      · rw [(hot i e).1] at hm; rw [(hot i e).2] at h
        exact I.t i hi h v hv hm
    · dsimp only at hk ⊢
      rw [List.mem_append, List.mem_singleton] at hk
      rcases hk with hk | hk
      · have := I.w k hk
        refine ⟨this.1, this.2.1, ?_⟩
        by_cases e : k.toNat = n
        · rw [e]; exact hsn
        · rw [(hot _ e).2]; exact this.2.2
      · subst hk; exact ⟨by omega, by omega, hsn⟩
    · unfold fwMu
      dsimp only
      have : sumF (fun i => potR all ts.length (s.seen.set n true)[i]! (s.out.set n (jnB s.out[n]! aft all))[i]!) pts.length < sumF (fun i => potR all ts.length s.seen[i]! s.out[i]!) pts.length := by
        have hlt : potR all ts.length true (jnB s.out[n]! aft all) < potR all ts.length s.seen[n]! s.out[n]! := by
          cases hq : s.seen[n]! with
          | true => exact potR_lt (I.a n hn hq) hjl (hmono hq) (fun e => hc ⟨hq, e⟩)
          | false =>
            have h1 := potR_le all ts.length (jnB s.out[n]! aft all)
            have h2 : potR all ts.length false s.out[n]! = ts.length + 1 := by unfold potR; rw [if_neg (by simp)]
            omega
        refine sumF_lt _ (fun i hi => ?_) ⟨n, hn, ?_⟩
        · by_cases e : i = n
          · subst e; rw [hon, hsn]; omega
          · rw [(hot i e).1, (hot i e).2]; exact Nat.le_refl _
        · rw [hon, hsn]; exact hlt
      rw [List.length_append, List.length_singleton]; omega
    · dsimp only
      by_cases e : k = n
      · subst e; rw [hsn, hon]; exact ⟨rfl, hmono h⟩
      · rw [(hot k e).1, (hot k e).2]; exact ⟨h, fun _ _ h => h⟩
    · dsimp only
      rw [hon, hj v hv]
      split
      · rw [hm, Bool.or_true]
      · exact hm
def FCl (ts : List Int) (pts : List Pnt) (all : Bool) (s : Fw) (i : Nat) : Prop := ∀ k, edge pts i k → s.seen[k]! = true ∧ ∀ v, v < ts.length → mvd all (aftB ts pts[i]! s.out[i]!) v = true → mvd all s.out[k]! v = true
def FC (ts : List Int) (pts : List Pnt) (all : Bool) (e : Nat → Prop) (s : Fw) : Prop := ∀ i, i < pts.length → s.seen[i]! = true → (i : Int) ∉ s.work → ¬ e i → FCl ts pts all s i
theorem FPush.fc {ts : List Int} {pts : List Pnt} (w : WG ts pts) {all : Bool} {aft : List Bool} {n : Nat} {s s' : Fw} {e : Nat → Prop} (p : FPush ts pts all aft n s s') (h : FC ts pts all e s) : FC ts pts all e s' := by
  intro i hi hs hw he k hk
  have hkl := edge_lt w hk
  rcases p.or with q | q
  · have hin : i ≠ n := fun e => by subst e; exact hw q
    rw [(p.ot i hin).2] at hs
    obtain ⟨h1, h2⟩ := h i hi hs (fun hx => hw (p.wk _ hx)) he k hk
    obtain ⟨m1, m2⟩ := p.mono k hkl h1
    refine ⟨m1, fun v hv hm => m2 v hv (h2 v hv ?_)⟩
    rw [(p.ot i hin).1] at hm; exact hm
  · subst q; exact h i hi hs hw he k hk
structure FIn (ts : List Int) (pts : List Pnt) (all : Bool) (at_ : Nat) (aft : List Bool) (m j : Nat) (s : Fw) : Prop where
  I : FI ts pts all s
  C : FC ts pts all (· = at_) s
  mu : fwMu all ts.length pts.length s ≤ m
  D : (at_ : Int) ∈ s.work ∨ (aft = aftB ts pts[at_]! s.out[at_]! ∧ ∀ j', j' < j → j' < pts[at_]!.next.length → s.seen[(pts[at_]!.next[j']!).toNat]! = true ∧ ∀ v, v < ts.length → mvd all aft v = true → mvd all s.out[(pts[at_]!.next[j']!).toNat]! v = true)
theorem FIn.step {ts : List Int} {pts : List Pnt} (w : WG ts pts) {all : Bool} {at_ : Nat} {aft : List Bool} {m j : Nat} {s : Fw} (hat : at_ < pts.length) (h : FIn ts pts all at_ aft m j s) (hj : j < pts[at_]!.next.length) (ha : aft.length = ts.length)
    (hT : ∀ k, edge pts at_ k → ∀ v, v < ts.length → mvd all aft v = true → fwT ts pts all (k, v)) : FIn ts pts all at_ aft m (j + 1) (fwP all aft s (pts[at_]!.next[j]!).toNat) := by
  have hnx := w.nx at_ hat _ (getB_mem _ _ hj)
  have hed : edge pts at_ (pts[at_]!.next[j]!).toNat := ⟨hat, by rw [Int.toNat_of_nonneg hnx.1]; exact getB_mem _ _ hj⟩
  have p := fwP_ok (n := (pts[at_]!.next[j]!).toNat) h.I (by omega) ha (hT _ hed)
  refine ⟨p.I, p.fc w h.C, Nat.le_trans p.mu h.mu, ?_⟩
  rcases h.D with d | ⟨d1, d2⟩
  · exact .inl (p.wk _ d)
  · by_cases e : (at_ : Int) ∈ (fwP all aft s (pts[at_]!.next[j]!).toNat).work
    · exact .inl e
    · refine .inr ⟨?_, fun j' h1 h2 => ?_⟩
      · rcases p.or with q | q
        · have : at_ ≠ (pts[at_]!.next[j]!).toNat := fun e2 => e (by
            have e4 : (at_ : Int) = ((pts[at_]!.next[j]!).toNat : Nat) := congrArg Int.ofNat e2
            rw [e4]; exact q)
          rw [(p.ot at_ this).1]; exact d1
        · rw [q]; exact d1
      · by_cases e3 : j' = j
        · subst e3; exact ⟨p.sn, p.mv⟩
        · obtain ⟨g1, g2⟩ := d2 j' (by omega) h2
          have hnx' := w.nx at_ hat _ (getB_mem _ _ h2)
          obtain ⟨m1, m2⟩ := p.mono _ (by omega) g1
          exact ⟨m1, fun v hv hm => m2 v hv (g2 v hv hm)⟩
theorem FIn.out {ts : List Int} {pts : List Pnt} {all : Bool} {at_ : Nat} {aft : List Bool} {m j : Nat} {s : Fw} (h : FIn ts pts all at_ aft m j s) (hj : pts[at_]!.next.length ≤ j) : FC ts pts all (fun _ => False) s := by
  intro i hi hs hw _
  by_cases e : i = at_
  · subst e
    rcases h.D with d | ⟨d1, d2⟩
    · exact absurd d hw
    · intro k hk
      obtain ⟨j', q1, q2⟩ := List.getElem_of_mem hk.2
      have := d2 j' (by omega) q1
      rw [getB _ _ q1, q2, d1] at this
      exact this
  · exact h.C i hi hs hw e
end Go.AL

namespace Go.AL
open Go.RowKit
set_option linter.unusedVariables false
set_option linter.unusedSimpArgs false
section
variable {P : Program} {N : Nat} {Q : Exit → AS → Prop} {all : Array Oper} {rest : List Oper} {ts : List (Nat × AV)} {hs : List (Nat × Option (List AV))} {n : Nat} {z0 : Lo} {md : Md}
variable {d : Nat} {ty : TypeId} {pos : String} {af : Array Edge}
def Stop (p : Prop) : Prop := p
theorem rw_stop {op : Op} {g : Option (Nat × Bool)} (h : Stop (RW P N all Q md (⟨some d, op, ty, pos, af, g⟩ :: rest) ⟨ts, hs, n, z0⟩)) : RW P N all Q md (⟨some d, op, ty, pos, af, g⟩ :: rest) ⟨ts, hs, n, z0⟩ := h
theorem rw_go {l : List Oper} {s : AS} (h : RW P N all Q md l s) : Stop (RW P N all Q md l s) := h
theorem rx_sliceOw {t el : TypeId} {x : Operand} {lo : Option Operand} {i o m e l : Nat} [ht : SlT P t el] [he : SzT P el e] (hx : ev (lk ts) x = some (.own i o m e))
    (hl : bndA (lk ts) lo 0 = some l) (hb : l ≤ m) (hN : Nat.blt d N = true) {md' : Md} [hmd : MdA md (rO x ++ (rB lo ++ rB none)) [.inl d] md'] (kk : RW P N all Q md' rest ⟨(d, .own i (o + l * e) (m - l) e) :: ts, hs, n, z0⟩) :
    RW P N all Q md (⟨some d, .slice t x lo none none, ty, pos, af, none⟩ :: rest) ⟨ts, hs, n, z0⟩ :=
  rx_slice (m := m) (h := m) hx rfl hl rfl (by simp [sSl, hb]) hN (md' := md') (hmd := hmd) kk
end
end Go.AL

namespace Go.AL
def addB (a b : List Bool) : List Bool := (List.range a.length).map fun (l : Nat) => a[l]! || (decide (l < b.length) && b[l]!)
theorem addB_len (a b : List Bool) : (addB a b).length = a.length := by simp [addB]
theorem addB_get (a b : List Bool) (l : Nat) (h : l < a.length) : (addB a b)[l]! = (a[l]! || (decide (l < b.length) && b[l]!)) := mapR_get _ _ _ h
end Go.AL

namespace Go.AL
def cntF (nv : Nat) (b : List Bool) : Nat := sumF (fun v => if b[v]! = true then 0 else 1) nv
def fcR (nv N : Nat) (R : List (List Bool)) : Nat := sumF (fun i => cntF nv R[i]!) N
theorem cntF_mono {nv : Nat} {a b : List Bool} (h : ∀ v, v < nv → a[v]! = true → b[v]! = true) : cntF nv b ≤ cntF nv a :=
  sumF_le nv fun v hv => by
    show (if b[v]! = true then 0 else 1) ≤ (if a[v]! = true then 0 else 1)
    by_cases ha : a[v]! = true
    · rw [if_pos (h v hv ha)]; omega
    · rw [if_neg ha]; split <;> omega
theorem cntF_lt {nv : Nat} {a b : List Bool} (h : ∀ v, v < nv → a[v]! = true → b[v]! = true) {v : Nat} (hv : v < nv) (ha : a[v]! = false) (hb : b[v]! = true) : cntF nv b < cntF nv a :=
  sumF_lt nv (fun v hv => by
    show (if b[v]! = true then 0 else 1) ≤ (if a[v]! = true then 0 else 1)
    by_cases ha : a[v]! = true
    · rw [if_pos (h v hv ha)]; omega
    · rw [if_neg ha]; split <;> omega) ⟨v, hv, by show (if b[v]! = true then 0 else 1) < (if a[v]! = true then 0 else 1); rw [if_pos hb, if_neg (by rw [ha]; decide)]; omega⟩
theorem fcR_lt {nv N : Nat} {R R' : List (List Bool)} (h : ∀ i, i < N → cntF nv R'[i]! ≤ cntF nv R[i]!) {i : Nat} (hi : i < N) (hlt : cntF nv R'[i]! < cntF nv R[i]!) : fcR nv N R' < fcR nv N R :=
  sumF_lt N h ⟨i, hi, hlt⟩
theorem fcR_set {nv N i v : Nat} {R : List (List Bool)} (hl : R.length = N) (hi : i < N) (hv : v < nv) (hr : R[i]!.length = nv) (hf : R[i]![v]! = false) : fcR nv N (R.set i (R[i]!.set v true)) < fcR nv N R := by
  have hq : ∀ u, u < nv → R[i]![u]! = true → (R[i]!.set v true)[u]! = true := fun u hu h => by rw [set_get]; split <;> first | rfl | exact h
  refine fcR_lt (fun j hj => ?_) hi ?_
  · rw [set_get]
    split
    · rename_i e; obtain ⟨rfl, _⟩ := e; exact cntF_mono hq
    · exact Nat.le_refl _
  · rw [set_get, if_pos ⟨rfl, by omega⟩]
    exact cntF_lt hq hv hf (by rw [set_get, if_pos ⟨rfl, by omega⟩])
theorem idx_edge {ts : List Int} {pts : List Pnt} (w : WG ts pts) {i k : Nat} (hi : i < pts.length) (hk : k < pts[i]!.next.length) : edge pts i (pts[i]!.next[k]!).toNat := by
  have hm := getB_mem _ _ hk
  have := w.nx i hi _ hm
  exact ⟨hi, by rw [Int.toNat_of_nonneg this.1]; exact hm⟩
def needL (ts : List Int) (pts : List Pnt) (R : List (List Bool)) (n v : Nat) : Bool := !decide (useAt ts pts[n]! v = 0) || (R[n]![v]! && !decide (setAt pts[n]! = v))
structure LS (ts : List Int) (pts : List Pnt) (R0 R : List (List Bool)) (c : Bool) (D : Nat → Nat → Nat → Prop) : Prop where
  lo : R.length = pts.length
  ro : ∀ i, i < pts.length → R[i]!.length = ts.length
  snd : ∀ i v, i < pts.length → v < ts.length → R[i]![v]! = true → Lv ts pts i v
  dec : c = true → fcR ts.length pts.length R < fcR ts.length pts.length R0
  same : c = false → R = R0 ∧ ∀ i k v, i < pts.length → k < pts[i]!.next.length → v < ts.length → D i k v → needL ts pts R (pts[i]!.next[k]!).toNat v = true → R[i]![v]! = true
theorem LS.mono {ts : List Int} {pts : List Pnt} {R0 R : List (List Bool)} {c : Bool} {D D' : Nat → Nat → Nat → Prop} (h : LS ts pts R0 R c D)
    (k : ∀ i k v, i < pts.length → k < pts[i]!.next.length → v < ts.length → D' i k v → D i k v) : LS ts pts R0 R c D' :=
  ⟨h.lo, h.ro, h.snd, h.dec, fun hc => ⟨(h.same hc).1, fun i q v hi hq hv hd => (h.same hc).2 i q v hi hq hv (k i q v hi hq hv hd)⟩⟩
theorem LS.skip {ts : List Int} {pts : List Pnt} {R0 R : List (List Bool)} {c : Bool} {D D' : Nat → Nat → Nat → Prop} (h : LS ts pts R0 R c D) {i k v : Nat} (hs : needL ts pts R (pts[i]!.next[k]!).toNat v = true → R[i]![v]! = true)
    (hD : ∀ i' k' v', i' < pts.length → k' < pts[i']!.next.length → v' < ts.length → D' i' k' v' → D i' k' v' ∨ (i' = i ∧ k' = k ∧ v' = v)) : LS ts pts R0 R c D' :=
  ⟨h.lo, h.ro, h.snd, h.dec, fun hc => ⟨(h.same hc).1, fun i' q v' hi hq hv hd hn => by
    rcases hD i' q v' hi hq hv hd with h1 | ⟨rfl, rfl, rfl⟩
    · exact (h.same hc).2 i' q v' hi hq hv h1 hn
    · exact hs hn⟩⟩
theorem need_Lv {ts : List Int} {pts : List Pnt} (w : WG ts pts) {R : List (List Bool)} (hs : ∀ i v, i < pts.length → v < ts.length → R[i]![v]! = true → Lv ts pts i v) {n v : Nat} (hn : n < pts.length) (hv : v < ts.length) (h : needL ts pts R n v = true) : Nd ts pts (n, v) := by
  unfold needL at h
  simp only [Bool.or_eq_true, Bool.not_eq_true', decide_eq_false_iff_not, Bool.and_eq_true] at h
  rcases h with h | ⟨h1, h2⟩
  · exact .base ⟨hn, hv, h⟩
  · obtain ⟨k, e, hk⟩ := hs n v hn hv h1
    exact .step hk ⟨rfl, e, h2⟩
theorem LS.hit {ts : List Int} {pts : List Pnt} (w : WG ts pts) {R0 R : List (List Bool)} {c : Bool} {D : Nat → Nat → Nat → Prop} (D' : Nat → Nat → Nat → Prop) (h : LS ts pts R0 R c D) {i k v : Nat} (hi : i < pts.length) (hk : k < pts[i]!.next.length) (hv : v < ts.length)
    (hn : needL ts pts R (pts[i]!.next[k]!).toNat v = true) (hf : R[i]![v]! = false) : LS ts pts R0 (R.set i (R[i]!.set v true)) true D' := by
  have hlt := fcR_set h.lo hi hv (h.ro i hi) hf
  have e := idx_edge w hi hk
  have hro := h.ro i hi
  have hlo := h.lo
  refine ⟨by rw [List.length_set]; exact h.lo, fun j hj => ?_, fun j u hj hu hr => ?_, fun _ => ?_, fun hc => by cases hc⟩
  · rw [set_get]; split
    · rw [List.length_set]; exact hro
    · exact h.ro j hj
  · rw [set_get] at hr
    split at hr
    · rename_i q
      obtain ⟨rfl, _⟩ := q
      rw [set_get] at hr
      split at hr
      · rename_i q
        obtain ⟨rfl, _⟩ := q
        exact ⟨_, e, need_Lv w h.snd (edge_lt w e) hv hn⟩
      · exact h.snd _ u hj hu hr
    · exact h.snd j u hj hu hr
  · cases hc : c with
    | true => have := h.dec hc; omega
    | false => rw [← (h.same hc).1]; exact hlt
def DL (z : Int) (kk vv : Nat) (i k v : Nat) : Prop := z < (i : Int) ∨ (z = (i : Int) ∧ (k < kk ∨ (k = kk ∧ v < vv)))
structure LH (ts : List Int) (pts : List Pnt) (R : List (List Bool)) (c : Bool) : Prop where
  lo : R.length = pts.length
  ro : ∀ i, i < pts.length → R[i]!.length = ts.length
  snd : ∀ i v, i < pts.length → v < ts.length → R[i]![v]! = true → Lv ts pts i v
  cl : c = false → ∀ i k v, i < pts.length → k < pts[i]!.next.length → v < ts.length → needL ts pts R (pts[i]!.next[k]!).toNat v = true → R[i]![v]! = true
def muL (nv N : Nat) (R : List (List Bool)) (c : Bool) : Nat := 2 * fcR nv N R + (if c = true then 1 else 0)
theorem LS.fin {ts : List Int} {pts : List Pnt} {R0 R : List (List Bool)} {c : Bool} {z : Int} (hz : z < 0) (h : LS ts pts R0 R c (DL z 0 0)) : LH ts pts R c ∧ muL ts.length pts.length R c < muL ts.length pts.length R0 true := by
  refine ⟨⟨h.lo, h.ro, h.snd, fun hc i k v hi hk hv => (h.same hc).2 i k v hi hk hv (.inl (by omega))⟩, ?_⟩
  unfold muL
  cases hc : c with
  | true => have := h.dec hc; simp only [if_true]; omega
  | false => rw [(h.same hc).1]; simp
end Go.AL

namespace Go.AL
def wiV (fa fb : List (List Bool)) (i v : Nat) : Bool := !fa[v]![i]! || fb[v]![i]!
def wiI (fa fb : List (List Bool)) (pa pb : List Bool) (i : Nat) : Bool := (!pa[i]! || pb[i]!) && (List.range fa.length).all (wiV fa fb i)
def wiB (fa fb : List (List Bool)) (pa pb : List Bool) : Bool := (List.range pa.length).all (wiI fa fb pa pb)
theorem wiB_iff (fa fb : List (List Bool)) (pa pb : List Bool) : wiB fa fb pa pb = true ↔ ∀ l, l < pa.length → (pa[l]! = true → pb[l]! = true) ∧ ∀ v, v < fa.length → fa[v]![l]! = true → fb[v]![l]! = true := by
  unfold wiB wiI wiV
  simp only [List.all_eq_true, List.mem_range, Bool.and_eq_true, Bool.or_eq_true, Bool.not_eq_true']
  constructor
  · intro h l hl
    obtain ⟨h1, h2⟩ := h l hl
    refine ⟨fun hp => ?_, fun v hv hf => ?_⟩
    · rcases h1 with h1 | h1
      · rw [h1] at hp; cases hp
      · exact h1
    · rcases h2 v hv with h3 | h3
      · rw [h3] at hf; cases hf
      · exact h3
  · intro h l hl
    obtain ⟨h1, h2⟩ := h l hl
    refine ⟨?_, fun v hv => ?_⟩
    · cases hp : pa[l]! with
      | false => exact .inl rfl
      | true => exact .inr (h1 hp)
    · cases hp : fa[v]![l]! with
      | false => exact .inl rfl
      | true => exact .inr (h2 v hv hp)
def valB (ts : List Int) (pts : List Pnt) (i : Nat) (fr : List (List Bool)) : List Bool :=
  (List.range pts.length).map fun (l : Nat) => if pts[i]!.op = 3 then fr[pts[i]!.y.toNat]![l]! else isLn pts[i]! && (decide (l = i) || (isRef ts[pts[i]!.y.toNat]! && fr[pts[i]!.y.toNat]![l]!))
def afR (ts : List Int) (pts : List Pnt) (i : Nat) (fr : List (List Bool)) : List (List Bool) :=
  (List.range ts.length).map fun (v : Nat) => if setAt pts[i]! = (v : Int) then valB ts pts i fr else if useAt ts pts[i]! v = 2 then List.replicate pts.length false else fr[v]!
def afQ (ts : List Int) (pts : List Pnt) (i : Nat) (pl : List Bool) : List Bool :=
  (List.range pts.length).map fun (l : Nat) => (isLn pts[i]! && decide (l = i)) || (pl[l]! && !(isLn pts[l]! && (decide (useAt ts pts[i]! pts[l]!.y = 2) || decide (setAt pts[i]! = pts[l]!.y))))
theorem valB_len (ts : List Int) (pts : List Pnt) (i : Nat) (fr : List (List Bool)) : (valB ts pts i fr).length = pts.length := by simp [valB]
theorem afR_len (ts : List Int) (pts : List Pnt) (i : Nat) (fr : List (List Bool)) : (afR ts pts i fr).length = ts.length := by simp [afR]
theorem afQ_len (ts : List Int) (pts : List Pnt) (i : Nat) (pl : List Bool) : (afQ ts pts i pl).length = pts.length := by simp [afQ]
theorem valB_get (ts : List Int) (pts : List Pnt) (i : Nat) (fr : List (List Bool)) (l : Nat) (h : l < pts.length) : (valB ts pts i fr)[l]! = if pts[i]!.op = 3 then fr[pts[i]!.y.toNat]![l]! else isLn pts[i]! && (decide (l = i) || (isRef ts[pts[i]!.y.toNat]! && fr[pts[i]!.y.toNat]![l]!)) := mapR_get _ _ _ h
theorem afR_get (ts : List Int) (pts : List Pnt) (i : Nat) (fr : List (List Bool)) (v : Nat) (h : v < ts.length) : (afR ts pts i fr)[v]! = if setAt pts[i]! = (v : Int) then valB ts pts i fr else if useAt ts pts[i]! v = 2 then List.replicate pts.length false else fr[v]! := mapR_get _ _ _ h
theorem afQ_get (ts : List Int) (pts : List Pnt) (i : Nat) (pl : List Bool) (l : Nat) (h : l < pts.length) : (afQ ts pts i pl)[l]! = ((isLn pts[i]! && decide (l = i)) || (pl[l]! && !(isLn pts[l]! && (decide (useAt ts pts[i]! pts[l]!.y = 2) || decide (setAt pts[i]! = pts[l]!.y))))) := mapR_get _ _ _ h
theorem get_lt {b : List Bool} {l : Nat} (h : b[l]! = true) : l < b.length := by
  apply Classical.byContradiction; intro hc
  rw [getElem!_neg b l hc] at h; cases h
def rwF (nv : Nat) (R : List (List Bool)) (n : Nat) : List (List Bool) := (R.drop (n * (nv + 1))).take nv
def rwP (nv : Nat) (R : List (List Bool)) (n : Nat) : List Bool := R[n * (nv + 1) + nv]!
theorem rwF_get {nv N n v : Nat} {R : List (List Bool)} (hl : R.length = N * (nv + 1)) (hn : n < N) (hv : v < nv) : (rwF nv R n)[v]! = R[n * (nv + 1) + v]! := by
  have h1 : (n + 1) * (nv + 1) ≤ N * (nv + 1) := Nat.mul_le_mul_right _ hn
  rw [Nat.add_mul, Nat.one_mul] at h1
  unfold rwF
  rw [getB _ _ (by rw [List.length_take, List.length_drop]; omega), getB _ _ (by omega), List.getElem_take, List.getElem_drop]
theorem ix_lt {nv N n v : Nat} (hn : n < N) (hv : v < nv + 1) : n * (nv + 1) + v < N * (nv + 1) := by
  have h1 : (n + 1) * (nv + 1) ≤ N * (nv + 1) := Nat.mul_le_mul_right _ hn
  rw [Nat.add_mul, Nat.one_mul] at h1
  omega
structure FSd (ts : List Int) (pts : List Pnt) (R : List (List Bool)) : Prop where
  lo : R.length = pts.length * (ts.length + 1)
  ro : ∀ q, q < R.length → R[q]!.length = pts.length
  f : ∀ n v l, n < pts.length → v < ts.length → R[n * (ts.length + 1) + v]![l]! = true → Fr' ts pts (n, v, l)
  p : ∀ n l, n < pts.length → R[n * (ts.length + 1) + ts.length]![l]! = true → Pl' ts pts (n, l)
theorem FSd.aft {ts : List Int} {pts : List Pnt} (w : WG ts pts) {R : List (List Bool)} (h : FSd ts pts R) {i n : Nat} (e : edge pts i n) :
    (∀ v l, v < ts.length → (afR ts pts i (rwF ts.length R i))[v]![l]! = true → Fr' ts pts (n, v, l)) ∧ (∀ l, (afQ ts pts i (rwP ts.length R i))[l]! = true → Pl' ts pts (n, l)) := by
  have hi := e.1
  have hfr : ∀ v l, v < ts.length → (rwF ts.length R i)[v]![l]! = true → Fr' ts pts (i, v, l) := fun v l hv hr => by
    rw [rwF_get h.lo hi hv] at hr; exact h.f i v l hi hv hr
  refine ⟨fun v l hv hr => ?_, fun l hr => ?_⟩
  · rw [afR_get _ _ _ _ _ hv] at hr
    split at hr
    · rename_i hs
      have hl := get_lt hr
      rw [valB_len] at hl
      rw [valB_get _ _ _ _ _ hl] at hr
      have hy := w.y i hi
      split at hr
      · rename_i h3
        have hyv : pts[i]!.y.toNat < ts.length := by omega
        exact .step (hfr _ l hyv hr) ⟨rfl, e, .inr ⟨hs, by show ((pts[i]!.y.toNat : Nat) : Int) = pts[i]!.y; omega, .inr h3⟩⟩
      · simp only [Bool.and_eq_true, Bool.or_eq_true, decide_eq_true_eq] at hr
        obtain ⟨h1, h2⟩ := hr
        have hop := isLn_op h1
        rcases h2 with rfl | ⟨h2, h3⟩
        · exact .base ⟨e, h1, hs⟩
        · have hyv : pts[i]!.y.toNat < ts.length := by omega
          exact .step (hfr _ l hyv h3) ⟨rfl, e, .inr ⟨hs, by show ((pts[i]!.y.toNat : Nat) : Int) = pts[i]!.y; omega, .inl ⟨h1, h2⟩⟩⟩
    · rename_i hs
      split at hr
      · have hl := get_lt hr
        rw [List.length_replicate] at hl
        rw [rep_get _ _ _ hl] at hr; cases hr
      · rename_i h2
        exact .step (hfr v l hv hr) ⟨rfl, e, .inl ⟨hs, rfl, h2⟩⟩
  · have hl := get_lt hr
    rw [afQ_len] at hl
    rw [afQ_get _ _ _ _ _ hl] at hr
    simp only [Bool.and_eq_true, Bool.or_eq_true, decide_eq_true_eq, Bool.not_eq_true', Bool.and_eq_false_iff, Bool.or_eq_false_iff, decide_eq_false_iff_not] at hr
    rcases hr with ⟨h1, rfl⟩ | ⟨h1, h2⟩
    · exact .base ⟨e, h1⟩
    · have hP := h.p i l hi h1
      rcases h2 with h2 | ⟨h2, h3⟩
      · rw [(Pl_ln hP).2] at h2; cases h2
      · exact .step hP ⟨rfl, e, h2, h3⟩
def jnR (R : List (List Bool)) (b nv : Nat) (fa : List (List Bool)) (pa : List Bool) (v : Nat) : List (List Bool) :=
  (List.range R.length).map fun (q : Nat) => if q = b + nv then addB R[q]! pa else if b ≤ q ∧ q < b + v then addB R[q]! fa[q - b]! else R[q]!
theorem jnR_len (R : List (List Bool)) (b nv : Nat) (fa : List (List Bool)) (pa : List Bool) (v : Nat) : (jnR R b nv fa pa v).length = R.length := by simp [jnR]
theorem jnR_get (R : List (List Bool)) (b nv : Nat) (fa : List (List Bool)) (pa : List Bool) (v q : Nat) (h : q < R.length) : (jnR R b nv fa pa v)[q]! = if q = b + nv then addB R[q]! pa else if b ≤ q ∧ q < b + v then addB R[q]! fa[q - b]! else R[q]! := mapR_get _ _ _ h
def fcS (ts : List Int) (pts : List Pnt) (R : List (List Bool)) : Nat := fcR pts.length (pts.length * (ts.length + 1)) R
structure FS (ts : List Int) (pts : List Pnt) (R0 R : List (List Bool)) (c : Bool) (D : Nat → Nat → Prop) : Prop where
  d : FSd ts pts R
  dec : c = true → fcS ts pts R < fcS ts pts R0
  same : c = false → R = R0 ∧ ∀ i k, i < pts.length → k < pts[i]!.next.length → D i k →
    wiB (afR ts pts i (rwF ts.length R i)) (rwF ts.length R (pts[i]!.next[k]!).toNat) (afQ ts pts i (rwP ts.length R i)) (rwP ts.length R (pts[i]!.next[k]!).toNat) = true
theorem FS.mono {ts : List Int} {pts : List Pnt} {R0 R : List (List Bool)} {c : Bool} {D D' : Nat → Nat → Prop} (h : FS ts pts R0 R c D) (k : ∀ i k, i < pts.length → k < pts[i]!.next.length → D' i k → D i k) : FS ts pts R0 R c D' :=
  ⟨h.d, h.dec, fun hc => ⟨(h.same hc).1, fun i q hi hq hd => (h.same hc).2 i q hi hq (k i q hi hq hd)⟩⟩
theorem FS.skip {ts : List Int} {pts : List Pnt} {R0 R R1 : List (List Bool)} {c : Bool} {D D' : Nat → Nat → Prop} (h : FS ts pts R0 R c D) {i k : Nat} (h1 : c = false → R = R1)
    (hw : wiB (afR ts pts i (rwF ts.length R1 i)) (rwF ts.length R (pts[i]!.next[k]!).toNat) (afQ ts pts i (rwP ts.length R1 i)) (rwP ts.length R (pts[i]!.next[k]!).toNat) = true)
    (hD : ∀ i' k', i' < pts.length → k' < pts[i']!.next.length → D' i' k' → D i' k' ∨ (i' = i ∧ k' = k)) : FS ts pts R0 R c D' :=
  ⟨h.d, h.dec, fun hc => ⟨(h.same hc).1, fun i' q hi hq hd => by
    rcases hD i' q hi hq hd with h2 | ⟨rfl, rfl⟩
    · exact (h.same hc).2 i' q hi hq h2
    · have := h1 hc; subst this; exact hw⟩⟩
theorem FS.hit {ts : List Int} {pts : List Pnt} (w : WG ts pts) {R0 R R1 : List (List Bool)} {c : Bool} {D : Nat → Nat → Prop} (D' : Nat → Nat → Prop) (h : FS ts pts R0 R c D) (h1 : FSd ts pts R1) {i k : Nat} (hi : i < pts.length) (hk : k < pts[i]!.next.length)
    (hw : wiB (afR ts pts i (rwF ts.length R1 i)) (rwF ts.length R (pts[i]!.next[k]!).toNat) (afQ ts pts i (rwP ts.length R1 i)) (rwP ts.length R (pts[i]!.next[k]!).toNat) = false) :
    FS ts pts R0 (jnR R ((pts[i]!.next[k]!).toNat * (ts.length + 1)) ts.length (afR ts pts i (rwF ts.length R1 i)) (afQ ts pts i (rwP ts.length R1 i)) ts.length) true D' := by
  have e := idx_edge w hi hk
  have hn := edge_lt w e
  obtain ⟨hf, hp⟩ := h1.aft w e
  generalize hnn : (pts[i]!.next[k]!).toNat = n at *
  have hlo := h.d.lo
  have hix : n * (ts.length + 1) + ts.length < R.length := by rw [hlo]; exact ix_lt hn (by omega)
  have hlen : ∀ q, q < R.length → (jnR R (n * (ts.length + 1)) ts.length (afR ts pts i (rwF ts.length R1 i)) (afQ ts pts i (rwP ts.length R1 i)) ts.length)[q]!.length = pts.length := by
    intro q hq
    rw [jnR_get _ _ _ _ _ _ _ hq]
    split
    · rw [addB_len]; exact h.d.ro q hq
    · split
      · rw [addB_len]; exact h.d.ro q hq
      · exact h.d.ro q hq
  have hmul : ∀ a b : Nat, a * (ts.length + 1) + ts.length = b * (ts.length + 1) + ts.length → a = b := fun a b q => Nat.eq_of_mul_eq_mul_right (Nat.succ_pos ts.length) (Nat.add_right_cancel q)
  have hmono : ∀ q, q < R.length → ∀ l, l < pts.length → R[q]![l]! = true → (jnR R (n * (ts.length + 1)) ts.length (afR ts pts i (rwF ts.length R1 i)) (afQ ts pts i (rwP ts.length R1 i)) ts.length)[q]![l]! = true := by
    intro q hq l hl hr
    have hro := h.d.ro q hq
    rw [jnR_get _ _ _ _ _ _ _ hq]
    split
    · rw [addB_get _ _ _ (by omega), hr]; rfl
    · split
      · rw [addB_get _ _ _ (by omega), hr]; rfl
      · exact hr
  refine ⟨⟨by rw [jnR_len]; exact hlo, fun q hq => by rw [jnR_len] at hq; exact hlen q hq, fun m v l hm hv hr => ?_, fun m l hm hr => ?_⟩, fun _ => ?_, fun hc => by cases hc⟩
  · have hq : m * (ts.length + 1) + v < R.length := by rw [hlo]; exact ix_lt hm (by omega)
    have hl := get_lt hr
    rw [hlen _ hq] at hl
    rw [jnR_get _ _ _ _ _ _ _ hq] at hr
    split at hr
    · rename_i q
      exfalso
      rcases Nat.lt_trichotomy m n with h3 | h3 | h3
      · have : (m + 1) * (ts.length + 1) ≤ n * (ts.length + 1) := Nat.mul_le_mul_right _ h3
        rw [Nat.add_mul, Nat.one_mul] at this; omega
      · subst h3; omega
      · have : (n + 1) * (ts.length + 1) ≤ m * (ts.length + 1) := Nat.mul_le_mul_right _ h3
        rw [Nat.add_mul, Nat.one_mul] at this; omega
    · split at hr
      · rename_i q
        have hmn : m = n := by
          rcases Nat.lt_trichotomy m n with h3 | h3 | h3
          · have : (m + 1) * (ts.length + 1) ≤ n * (ts.length + 1) := Nat.mul_le_mul_right _ h3
            rw [Nat.add_mul, Nat.one_mul] at this; omega
          · exact h3
          · have : (n + 1) * (ts.length + 1) ≤ m * (ts.length + 1) := Nat.mul_le_mul_right _ h3
            rw [Nat.add_mul, Nat.one_mul] at this; omega
        subst hmn
        rw [Nat.add_sub_cancel_left, addB_get _ _ _ (by rw [h.d.ro _ hq]; exact hl)] at hr
        simp only [Bool.or_eq_true, Bool.and_eq_true] at hr
        rcases hr with hr | ⟨_, hr⟩
        · exact h.d.f _ v l hm hv hr
        · exact hf v l hv hr
      · exact h.d.f m v l hm hv hr
  · have hq : m * (ts.length + 1) + ts.length < R.length := by rw [hlo]; exact ix_lt hm (by omega)
    have hl := get_lt hr
    rw [hlen _ hq] at hl
    rw [jnR_get _ _ _ _ _ _ _ hq] at hr
    split at hr
    · rename_i q
      have := hmul _ _ q
      subst this
      rw [addB_get _ _ _ (by rw [h.d.ro _ hq]; exact hl)] at hr
      simp only [Bool.or_eq_true, Bool.and_eq_true] at hr
      rcases hr with hr | ⟨_, hr⟩
      · exact h.d.p _ l hm hr
      · exact hp l hr
    · split at hr
      · rename_i q
        exfalso
        rcases Nat.lt_trichotomy m n with h3 | h3 | h3
        · have : (m + 1) * (ts.length + 1) ≤ n * (ts.length + 1) := Nat.mul_le_mul_right _ h3
          rw [Nat.add_mul, Nat.one_mul] at this; omega
        · subst h3; omega
        · have : (n + 1) * (ts.length + 1) ≤ m * (ts.length + 1) := Nat.mul_le_mul_right _ h3
          rw [Nat.add_mul, Nat.one_mul] at this; omega
      · exact h.d.p m l hm hr
  · -- one more entry
    have hlt : fcS ts pts (jnR R (n * (ts.length + 1)) ts.length (afR ts pts i (rwF ts.length R1 i)) (afQ ts pts i (rwP ts.length R1 i)) ts.length) < fcS ts pts R := by
      have hc2 : ¬ ∀ l, l < (afQ ts pts i (rwP ts.length R1 i)).length → ((afQ ts pts i (rwP ts.length R1 i))[l]! = true → (rwP ts.length R n)[l]! = true) ∧ ∀ v, v < (afR ts pts i (rwF ts.length R1 i)).length → (afR ts pts i (rwF ts.length R1 i))[v]![l]! = true → (rwF ts.length R n)[v]![l]! = true := by
        intro hall
        rw [(wiB_iff _ _ _ _).2 hall] at hw; cases hw
      apply Classical.byContradiction
      intro hnl
      refine hc2 fun l hl => ?_
      rw [afQ_len] at hl
      have hmon := fun q (hq : q < pts.length * (ts.length + 1)) => cntF_mono (nv := pts.length) (hmono q (by omega))
      refine ⟨fun ha => ?_, fun v hv ha => ?_⟩
      · apply Classical.byContradiction
        intro hb
        rw [Bool.not_eq_true] at hb
        unfold rwP at hb
        refine hnl (fcR_lt hmon (i := n * (ts.length + 1) + ts.length) (by omega) (cntF_lt (hmono _ hix) hl hb ?_))
        rw [jnR_get _ _ _ _ _ _ _ hix, if_pos rfl, addB_get _ _ _ (by rw [h.d.ro _ hix]; exact hl), ha, afQ_len, decide_eq_true hl]; simp
      · rw [afR_len] at hv
        have hq : n * (ts.length + 1) + v < R.length := by rw [hlo]; exact ix_lt hn (by omega)
        apply Classical.byContradiction
        intro hb
        rw [Bool.not_eq_true, rwF_get hlo hn hv] at hb
        refine hnl (fcR_lt hmon (i := n * (ts.length + 1) + v) (by omega) (cntF_lt (hmono _ hq) hl hb ?_))
        rw [jnR_get _ _ _ _ _ _ _ hq, if_neg (by omega), if_pos (by omega), Nat.add_sub_cancel_left, addB_get _ _ _ (by rw [h.d.ro _ hq]; exact hl), ha]
        rw [decide_eq_true (get_lt ha)]; simp
    cases hc : c with
    | true => have := h.dec hc; omega
    | false => rw [← (h.same hc).1]; exact hlt
structure FH (ts : List Int) (pts : List Pnt) (R : List (List Bool)) (c : Bool) : Prop where
  d : FSd ts pts R
  cl : c = false → ∀ i k, i < pts.length → k < pts[i]!.next.length →
    wiB (afR ts pts i (rwF ts.length R i)) (rwF ts.length R (pts[i]!.next[k]!).toNat) (afQ ts pts i (rwP ts.length R i)) (rwP ts.length R (pts[i]!.next[k]!).toNat) = true
def DF (j kk : Nat) (i k : Nat) : Prop := i < j ∨ (i = j ∧ k < kk)
def muF (ts : List Int) (pts : List Pnt) (R : List (List Bool)) (c : Bool) : Nat := 2 * fcS ts pts R + (if c = true then 1 else 0)
theorem FS.fin {ts : List Int} {pts : List Pnt} {R0 R : List (List Bool)} {c : Bool} {j : Nat} (hz : pts.length ≤ j) (h : FS ts pts R0 R c (DF j 0)) : FH ts pts R c ∧ muF ts pts R c < muF ts pts R0 true := by
  refine ⟨⟨h.d, fun hc i k hi hk => (h.same hc).2 i k hi hk (.inl (by omega))⟩, ?_⟩
  unfold muF
  cases hc : c with
  | true => have := h.dec hc; simp only [if_true]; omega
  | false => rw [(h.same hc).1]; simp
end Go.AL

namespace Go.AL
end Go.AL

namespace Go.AL
open Go.RowKit
set_option linter.unusedVariables false
set_option linter.unusedSimpArgs false

def famB (R : List (List Bool)) : List (Nat × Option (List AV)) := (List.range R.length).map fun k => (k + big, some (flat cB R[k]!))

inductive FamR (R R' : List (List Bool)) : List (Nat × Option (List AV)) → List (Nat × Option (List AV)) → Prop
  | here : FamR R R' (famB R) (famB R')
  | cons {t : Nat} {v : Option (List AV)} {l l' : List (Nat × Option (List AV))} : Nat.blt t big = true → FamR R R' l l' → FamR R R' ((t, v) :: l) ((t, v) :: l')
theorem FamR.nil : FamR [] [] [] [] := FamR.here
theorem FamR.symm {R R' : List (List Bool)} {hs hs' : List (Nat × Option (List AV))} (h : FamR R R' hs hs') : FamR R' R hs' hs := by
  induction h with
  | here => exact .here
  | cons ht _ ih => exact .cons ht ih
section
variable {P : Program} {N : Nat} {Q : Exit → AS → Prop} {all : Array Oper} {rest : List Oper} {ts : List (Nat × AV)} {hs : List (Nat × Option (List AV))} {n : Nat} {z0 : Lo} {md : Md}
variable {d : Nat} {ty : TypeId} {pos : String} {af : Array Edge}
end
mutual
inductive Ld (D : List Nat) (H : Nat → Option (List AV)) : AV → AV → Prop
  | pur {v : AV} : v.pur = true → Ld D H v v
  | own {id m e : Nat} {cs cs' : List AV} : id ∈ D → H id = some cs → LdL D H cs cs' → Ld D H (.own id 0 m e) (.imm m cs')
  | optr {id : Nat} {cs cs' : List AV} : id ∈ D → H id = some cs → LdL D H cs cs' → Ld D H (.optr id 0) (.iptr cs')
  | imm {m : Nat} {cs cs' : List AV} : LdL D H cs cs' → Ld D H (.imm m cs) (.imm m cs')
  | agg {cs cs' : List AV} : LdL D H cs cs' → Ld D H (.agg cs) (.agg cs')
inductive LdL (D : List Nat) (H : Nat → Option (List AV)) : List AV → List AV → Prop
  | pur {v : List AV} : pursB v = true → LdL D H v v
  | nil : LdL D H [] []
  | cons {c c' : AV} {cs cs' : List AV} : Ld D H c c' → LdL D H cs cs' → LdL D H (c :: cs) (c' :: cs')
end
mutual
theorem Ld.agr {D : List Nat} {H H' : Nat → Option (List AV)} (h : ∀ id ∈ D, H id = H' id) : ∀ {v v' : AV}, Ld D H v v' → Ld D H' v v'
  | _, _, .pur hp => .pur hp
  | _, _, .own h1 h2 h3 => .own h1 (by rw [← h _ h1]; exact h2) (LdL.agr h h3)
  | _, _, .optr h1 h2 h3 => .optr h1 (by rw [← h _ h1]; exact h2) (LdL.agr h h3)
  | _, _, .imm h3 => .imm (LdL.agr h h3)
  | _, _, .agg h3 => .agg (LdL.agr h h3)
theorem LdL.agr {D : List Nat} {H H' : Nat → Option (List AV)} (h : ∀ id ∈ D, H id = H' id) : ∀ {v v' : List AV}, LdL D H v v' → LdL D H' v v'
  | _, _, .pur hp => .pur hp
  | _, _, .nil => .nil
  | _, _, .cons h1 h2 => .cons (Ld.agr h h1) (LdL.agr h h2)
end
mutual
theorem Ld.purR {D : List Nat} {H : Nat → Option (List AV)} : ∀ {v v' : AV}, Ld D H v v' → v'.pur = true
  | _, _, .pur hp => hp
  | _, _, .own h1 h2 h3 => LdL.purR h3
  | _, _, .optr h1 h2 h3 => LdL.purR h3
  | _, _, .imm h3 => LdL.purR h3
  | _, _, .agg h3 => LdL.purR h3
theorem LdL.purR {D : List Nat} {H : Nat → Option (List AV)} : ∀ {v v' : List AV}, LdL D H v v' → pursB v' = true
  | _, _, .pur hp => hp
  | _, _, .nil => rfl
  | _, _, .cons h1 h2 => by simp only [pursB, Ld.purR h1, LdL.purR h2, Bool.and_self]
end
theorem LdL.len {D : List Nat} {H : Nat → Option (List AV)} : ∀ {v v' : List AV}, LdL D H v v' → v.length = v'.length
  | _, _, .pur hp => rfl
  | _, _, .nil => rfl
  | _, _, .cons h1 h2 => by simp [LdL.len h2]
mutual
theorem Ld.ok {C : Ctx} {ι : Pl} {F : Nat → Prop} {D : List Nat} {H : Nat → Option (List AV)} {w : World} (g : HG C ι F H w) : ∀ {v v' : AV}, Ld D H v v' → ∀ {y : Value}, Rd w (badOf C.X ι H) ι v y → Rd w C.X (fun _ => none) v' y
  | _, _, .pur hp, y, k => Rd.pur _ y hp (Rd.carry (⟨fun b o x h1 h2 => ⟨fun q => h1 (.inl q), h2⟩, fun _ _ h => h, fun _ => Nat.le_refl _⟩ : Carry w (badOf C.X ι H) ι w C.X ι) _ _ k)
  | _, _, .own (id := id) (m := m) h1 h2 h3, y, k => by
    have hlen := LdL.len h3
    simp only [Rd] at k ⊢
    rcases k with ⟨_, rfl, a, rfl⟩ | ⟨b, β, c, q1, rfl, q2, q3⟩
    · exact ⟨a, 0, rfl, .inl rfl⟩
    · rcases g.obj id _ h2 with ⟨p1, _⟩ | ⟨b', β', arr, e', p1, p2, p3, p4, p5, p6⟩
      · rw [p1] at q1; cases q1
      · rw [p1] at q1; cases q1
        exact ⟨_, c, rfl, .inr ⟨b, β + 0, q2, rfl, .inr ⟨p5, LdL.okC g h3 p4⟩⟩⟩
  | _, _, .optr (id := id) h1 h2 h3, y, k => by
    simp only [Rd] at k ⊢
    obtain ⟨b, β, q1, rfl⟩ := k
    rcases g.obj id _ h2 with ⟨p1, _⟩ | ⟨b', β', arr, e', p1, p2, p3, p4, p5, p6⟩
    · rw [p1] at q1; cases q1
    · rw [p1] at q1; cases q1
      exact ⟨b, β + 0, rfl, .inr ⟨p5, LdL.okC g h3 p4⟩⟩
  | _, _, .imm (cs := cs) (cs' := cs') h3, y, k => by
    have hlen := LdL.len h3
    simp only [Rd] at k ⊢
    obtain ⟨a, c, rfl, k⟩ := k
    refine ⟨a, c, rfl, ?_⟩
    rcases k with k | ⟨b, o, hn, rfl, k⟩
    · exact .inl k
    · refine .inr ⟨b, o, hn, rfl, ?_⟩
      rcases k with k | ⟨hb, k⟩
      · subst k; exact .inl (List.eq_nil_of_length_eq_zero (by rw [← hlen]; rfl))
      · exact .inr ⟨fun q => hb (.inl q), LdL.okC g h3 k⟩
  | _, _, .agg h3, y, k => by
    simp only [Rd] at k ⊢
    obtain ⟨l, h1, h2⟩ := k
    exact ⟨l, h1, LdL.okL g h3 h2⟩
theorem LdL.okC {C : Ctx} {ι : Pl} {F : Nat → Prop} {D : List Nat} {H : Nat → Option (List AV)} {w : World} (g : HG C ι F H w) : ∀ {v v' : List AV}, LdL D H v v' → ∀ {b o : Nat}, RdC w (badOf C.X ι H) ι v b o → RdC w C.X (fun _ => none) v' b o
  | _, _, .pur hp, b, o, k => RdC.pur _ b o hp (RdC.carryB (⟨fun b o x h1 h2 => ⟨fun q => h1 (.inl q), h2⟩, fun _ _ h => h, fun _ => Nat.le_refl _⟩ : Carry w (badOf C.X ι H) ι w C.X ι) _ _ _ (fun o x hx => hx) k)
  | _, _, .nil, b, o, k => by simp only [RdC]
  | _, _, .cons h1 h2, b, o, k => by
    simp only [RdC] at k ⊢
    obtain ⟨⟨x, q1, q2, q3⟩, q4⟩ := k
    exact ⟨⟨x, q1, q2, Ld.ok g h1 q3⟩, LdL.okC g h2 q4⟩
theorem LdL.okL {C : Ctx} {ι : Pl} {F : Nat → Prop} {D : List Nat} {H : Nat → Option (List AV)} {w : World} (g : HG C ι F H w) : ∀ {v v' : List AV}, LdL D H v v' → ∀ {y : List Value}, RdL w (badOf C.X ι H) ι v y → RdL w C.X (fun _ => none) v' y
  | _, _, .pur hp, y, k => RdL.pur _ y hp (RdL.carry (⟨fun b o x h1 h2 => ⟨fun q => h1 (.inl q), h2⟩, fun _ _ h => h, fun _ => Nat.le_refl _⟩ : Carry w (badOf C.X ι H) ι w C.X ι) _ _ k)
  | _, _, .nil, y, k => by simpa only [RdL] using k
  | _, _, .cons h1 h2, y, k => by
    simp only [RdL] at k ⊢
    obtain ⟨x, l', q0, q1, q2, q3⟩ := k
    exact ⟨x, l', q0, q1, Ld.ok g h1 q2, LdL.okL g h2 q3⟩
end
theorem LdL.okV {C : Ctx} {ι : Pl} {F : Nat → Prop} {D : List Nat} {H : Nat → Option (List AV)} {w : World} (g : HG C ι F H w) : ∀ {v v' : List AV}, LdL D H v v' → ∀ {y : List Value}, RdV w (badOf C.X ι H) ι v y → RdV w C.X (fun _ => none) v' y
  | _, _, .pur hp, y, k => RdV.pur _ y hp (RdV.carry (⟨fun b o x h1 h2 => ⟨fun q => h1 (.inl q), h2⟩, fun _ _ h => h, fun _ => Nat.le_refl _⟩ : Carry w (badOf C.X ι H) ι w C.X ι) _ _ k)
  | _, _, .nil, y, k => by simpa only [RdV] using k
  | _, _, .cons h1 h2, y, k => by
    simp only [RdV] at k ⊢
    obtain ⟨x, l', q0, q2, q3⟩ := k
    exact ⟨x, l', q0, Ld.ok g h1 q2, LdL.okV g h2 q3⟩
theorem LdL.flt {D : List Nat} {H : Nat → Option (List AV)} {α : Type} {f f' : α → List AV} : ∀ {xs : List α}, (∀ x ∈ xs, LdL D H (f x) (f' x)) → LdL D H (flat f xs) (flat f' xs)
  | [], _ => .nil
  | x :: xs, h => by
    have h1 := h x (List.mem_cons_self)
    have h2 := LdL.flt (f := f) (f' := f') (xs := xs) (fun y hy => h y (List.mem_cons_of_mem _ hy))
    have app : ∀ {a a' b b' : List AV}, LdL D H a a' → LdL D H b b' → LdL D H (a ++ b) (a' ++ b') := by
      intro a a' b b' ha hb
      induction a generalizing a' with
      | nil =>
        have := LdL.len ha
        cases a' with
        | nil => exact hb
        | cons _ _ => simp at this
      | cons c cs ih =>
        cases ha with
        | pur hp =>
          simp only [pursB, Bool.and_eq_true] at hp
          exact .cons (.pur hp.1) (ih (.pur hp.2))
        | cons q1 q2 => exact .cons q1 (ih q2)
    simp only [Go.AL.flat, List.flatMap_cons] at h2 ⊢
    exact app h1 h2
section
variable {P : Program} {N : Nat} {Q : Exit → AS → Prop} {all : Array Oper} {rest : List Oper} {ts : List (Nat × AV)} {hs : List (Nat × Option (List AV))} {n : Nat} {z0 : Lo} {md : Md}
variable {d : Nat} {ty : TypeId} {pos : String} {af : Array Edge}
theorem rx_lendG {k : FuncId} {args : Array Operand} {tys : Array TypeId} {avs avs2 : List AV} {r : AV} (D : List Nat) [hc : CaT P k] (ha : evL (lk ts) args.toList = some avs) (hl : LdL D (lkH hs) avs avs2) (h : PC P k avs2 (fun x => x = r)) (hfr : r.free = true) (hN : Nat.blt d N = true)
    {md' : Md} [hmd : MdA md (rOs args.toList ++ D.map .inr) [.inl d] md'] (kk : RW P N all Q md' rest ⟨(d, r) :: ts, hs, n, z0⟩) : RW P N all Q md (⟨some d, .call ⟨.value (.func k), args, tys⟩, ty, pos, af, none⟩ :: rest) ⟨ts, hs, n, z0⟩ := by
  refine rw_step (rs := rOs args.toList ++ D.map .inr) (ws := []) (n' := n) (out := r) rfl (Nat.le_refl _) (.inl rfl) (fun C ι F T H a w K Q' hCN ag hF g gh hK => ?_) (fun x hx => by cases hx; exact ltb hN) (by rw [← hmd.pf] at kk; exact kk)
  simp only [Oper.wp, exec_call hc.pf, Oper.upon]
  have hl' : LdL D H avs avs2 := hl.agr fun id hid => (ag.r.h id (List.mem_map_of_mem hid)).symm
  have hv := hl'.okV gh (evL_ok g (ag.l.evL.trans ha))
  let C' : Ctx := { N := 0, w0 := w, W0 := fun _ => False, X := C.X, ι0 := fun _ => none, xlt := fun b hb => Nat.lt_of_lt_of_le (C.xlt b hb) gh.fr.size }
  have hbad : ∀ b, badOf C'.X (fun _ => none) (lkH []) b ↔ C.X b := fun b => ⟨fun h => (by rcases h with h | ⟨id, cs, β, h1, h2⟩ <;> first | exact h | cases h2), fun h => Or.inl h⟩
  have g' : HG C' (fun _ => none) (fun j => 0 ≤ j) (lkH []) w :=
    ⟨fun id cs h => by simp [lkH] at h, fun id id' cs cs' b β β' h => by simp [lkH] at h, Fr.refl _ _, fun _ _ h => h, fun _ _ => rfl⟩
  have hcar : Carry w C.X (fun _ => none) w (badOf C'.X (fun _ => none) (lkH [])) (fun _ => none) := ⟨fun b o x h1 h2 => ⟨fun h => h1 ((hbad b).1 h), h2⟩, fun _ _ h => h, fun _ => Nat.le_refl _⟩
  refine (h C' _ w _ rfl rfl g' (RdV.carry hcar _ _ hv)).mono ?_
  rintro e w' ⟨v, r', H', ι', rfl, ⟨rfl, _⟩, h4, h5⟩
  obtain ⟨g2, c2⟩ := gh.ext h5.fr
  exact hK ι w' v (g.carry c2) (g2.less (fun _ _ h => h) (fun j hj => hj.1)).1 (Rd.free _ _ hfr h4)
end
end Go.AL

namespace Go.AL
open Go.RowKit
set_option linter.unusedVariables false
set_option linter.unusedSimpArgs false

mutual
theorem RnV.bw {w : World} {ρ : Nat → Option Nat} {bad bad' : Nat → Prop} {ι ι' : Pl} (h : ∀ i i', ρ i = some i' → ι i = ι' i') (hc : ∀ b, bad b → bad' b) : ∀ {v v' : AV}, RnV ρ v v' → ∀ {y : Value}, Rd w bad' ι' v' y → Rd w bad ι v y
  | _, _, .pur hp, y, k => Rd.pur _ y hp (Rd.carry (⟨fun b o x h1 h2 => ⟨fun q => h1 (hc b q), h2⟩, fun _ _ h => h, fun _ => Nat.le_refl _⟩ : Carry w bad' ι' w bad ι') _ _ k)
  | _, _, .own hi, y, k => by simp only [Rd, h _ _ hi] at k ⊢; exact k
  | _, _, .optr hi, y, k => by simp only [Rd, h _ _ hi] at k ⊢; exact k
  | _, _, .imm (cs := cs) (cs' := cs') hl, y, k => by
    have hlen := RnL.len hl
    simp only [Rd] at k ⊢
    obtain ⟨a, c, rfl, k⟩ := k
    refine ⟨a, c, rfl, ?_⟩
    rcases k with k | ⟨b, o, hn, rfl, k⟩
    · exact .inl k
    · refine .inr ⟨b, o, hn, rfl, ?_⟩
      rcases k with k | ⟨hb, k⟩
      · subst k; exact .inl (List.eq_nil_of_length_eq_zero (by rw [hlen]; rfl))
      · exact .inr ⟨fun q => hb (hc b q), RnL.bwC h hc hl k⟩
  | _, _, .agg hl, y, k => by
    simp only [Rd] at k ⊢
    obtain ⟨l, h1, h2⟩ := k
    exact ⟨l, h1, RnL.bwL h hc hl h2⟩
  | _, _, .tup hl, y, k => by
    simp only [Rd] at k ⊢
    obtain ⟨l, h1, h2⟩ := k
    exact ⟨l, h1, RnL.bwV h hc hl h2⟩
  | _, _, .clos h1 h2, y, k => by
    simp only [Rd] at k ⊢
    obtain ⟨lf, lc, q1, q2, q3⟩ := k
    exact ⟨lf, lc, q1, RnL.bwV h hc h1 q2, RnL.bwV h hc h2 q3⟩
theorem RnL.bwL {w : World} {ρ : Nat → Option Nat} {bad bad' : Nat → Prop} {ι ι' : Pl} (h : ∀ i i', ρ i = some i' → ι i = ι' i') (hc : ∀ b, bad b → bad' b) : ∀ {v v' : List AV}, RnL ρ v v' → ∀ {y : List Value}, RdL w bad' ι' v' y → RdL w bad ι v y
  | _, _, .pur hp, y, k => RdL.pur _ y hp (RdL.carry (⟨fun b o x h1 h2 => ⟨fun q => h1 (hc b q), h2⟩, fun _ _ h => h, fun _ => Nat.le_refl _⟩ : Carry w bad' ι' w bad ι') _ _ k)
  | _, _, .nil, y, k => by simpa only [RdL] using k
  | _, _, .cons h1 h2, y, k => by
    simp only [RdL] at k ⊢
    obtain ⟨x, l', q0, q1, q2, q3⟩ := k
    exact ⟨x, l', q0, q1, RnV.bw h hc h1 q2, RnL.bwL h hc h2 q3⟩
theorem RnL.bwV {w : World} {ρ : Nat → Option Nat} {bad bad' : Nat → Prop} {ι ι' : Pl} (h : ∀ i i', ρ i = some i' → ι i = ι' i') (hc : ∀ b, bad b → bad' b) : ∀ {v v' : List AV}, RnL ρ v v' → ∀ {y : List Value}, RdV w bad' ι' v' y → RdV w bad ι v y
  | _, _, .pur hp, y, k => RdV.pur _ y hp (RdV.carry (⟨fun b o x h1 h2 => ⟨fun q => h1 (hc b q), h2⟩, fun _ _ h => h, fun _ => Nat.le_refl _⟩ : Carry w bad' ι' w bad ι') _ _ k)
  | _, _, .nil, y, k => by simpa only [RdV] using k
  | _, _, .cons h1 h2, y, k => by
    simp only [RdV] at k ⊢
    obtain ⟨x, l', q0, q2, q3⟩ := k
    exact ⟨x, l', q0, RnV.bw h hc h1 q2, RnL.bwV h hc h2 q3⟩
theorem RnL.bwC {w : World} {ρ : Nat → Option Nat} {bad bad' : Nat → Prop} {ι ι' : Pl} (h : ∀ i i', ρ i = some i' → ι i = ι' i') (hc : ∀ b, bad b → bad' b) : ∀ {v v' : List AV}, RnL ρ v v' → ∀ {b o : Nat}, RdC w bad' ι' v' b o → RdC w bad ι v b o
  | _, _, .pur hp, b, o, k => RdC.pur _ b o hp (RdC.carryB (⟨fun b o x h1 h2 => ⟨fun q => h1 (hc b q), h2⟩, fun _ _ h => h, fun _ => Nat.le_refl _⟩ : Carry w bad' ι' w bad ι') _ _ _ (fun o x hx => hx) k)
  | _, _, .nil, b, o, k => by simp only [RdC]
  | _, _, .cons h1 h2, b, o, k => by
    simp only [RdC] at k ⊢
    obtain ⟨⟨x, q1, q2, q3⟩, q4⟩ := k
    exact ⟨⟨x, q1, q2, RnV.bw h hc h1 q3⟩, RnL.bwC h hc h2 q4⟩
end
theorem RnL.app {ρ : Nat → Option Nat} : ∀ {a a' b b' : List AV}, RnL ρ a a' → RnL ρ b b' → RnL ρ (a ++ b) (a' ++ b')
  | [], a', b, b', ha, hb => by
    have := ha.len
    cases a' with
    | nil => exact hb
    | cons _ _ => simp at this
  | c :: cs, _, b, b', .pur hp, hb => by
    simp only [pursB, Bool.and_eq_true] at hp
    exact .cons (.pur hp.1) (RnL.app (.pur hp.2) hb)
  | c :: cs, _, b, b', .cons h1 h2, hb => .cons h1 (RnL.app h2 hb)
theorem RnL.flt {ρ : Nat → Option Nat} {α : Type} {f f' : α → List AV} : ∀ {xs : List α}, (∀ x ∈ xs, RnL ρ (f x) (f' x)) → RnL ρ (flat f xs) (flat f' xs)
  | [], _ => .nil
  | x :: xs, h => by
    have h1 := h x (List.mem_cons_self)
    have h2 := RnL.flt (f := f) (f' := f') (xs := xs) (fun y hy => h y (List.mem_cons_of_mem _ hy))
    simp only [flat, List.flatMap_cons] at h2 ⊢
    exact h1.app h2

end Go.AL

namespace Go.AL
open Go.RowKit
set_option linter.unusedVariables false
set_option linter.unusedSimpArgs false

section
variable {P : Program} {N : Nat} {Q : Exit → AS → Prop}
end

end Go.AL

namespace Go.AL
open Go.RowKit
attribute [local irreducible] big
set_option linter.unusedVariables false
set_option linter.unusedSimpArgs false

section
variable {P : Program} {N : Nat} {Q : Exit → AS → Prop} {all : Array Oper} {rest : List Oper} {ts : List (Nat × AV)} {hs : List (Nat × Option (List AV))} {n : Nat} {z0 : Lo} {md : Md}
variable {d : Nat} {ty : TypeId} {pos : String} {af : Array Edge}
end
end Go.AL
