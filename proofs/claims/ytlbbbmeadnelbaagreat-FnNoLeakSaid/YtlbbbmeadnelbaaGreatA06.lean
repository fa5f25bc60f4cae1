/-
  A part of the proofs over this program: rules and contracts of its functions (the rules).
-/
import Derived.Test.YtlbbbmeadnelbaaGreatA05
import Derived.MapKept
import Derived.Orders
set_option linter.unusedVariables false
set_option linter.unusedSimpArgs false
namespace Go.AL
theorem slot_at {xs : List Sl} {X : Int} (y : Sl) {v : Nat} (hX : 0 ≤ X ∧ X < xs.length) (hv : v < xs.length) : (xs.set X.toNat y)[v]! = if X = (v : Int) then y else xs[v]! := by
  rw [set_get]
  by_cases h : X = (v : Int)
  · rw [if_pos h, if_pos ⟨by omega, hv⟩]
  · rw [if_neg h, if_neg (by omega)]
theorem put_slots (ts : List Int) (s : Mc) (v : Nat) (x : Sl) : (putF ts s v x).1.slots = s.slots.set v x := by
  unfold putF; split <;> rfl
theorem uns_set {ts : List Int} {s : Mc} {x : Pnt} (h : unsF ts s x = false) {v : Nat} (hv : v < ts.length) (hu : useAt ts x v ≠ 0) : s.slots[v]!.set = true := by
  unfold unsF at h
  rw [List.any_eq_false] at h
  have h1 := h v (List.mem_range.2 hv)
  rw [decide_eq_true hu, Bool.true_and] at h1
  simpa using h1
theorem tk_iff {t : Int} : tkT t = true ↔ t = 2 ∨ t = 4 := by unfold tkT; simp
theorem do_slots {ts : List Int} {s : Mc} {x : Pnt} (hl : s.slots.length = ts.length) (hu : unsF ts s x = false) (A : PtA ts x) (hop : 1 ≤ x.op ∧ x.op ≠ 11) (hx : x.op ≤ 8 → 0 ≤ x.x ∧ x.x < ts.length) (hy : 3 ≤ x.op → x.op ≤ 7 → 0 ≤ x.y ∧ x.y < ts.length) (hgo : (doF ts s x).2 = -1) :
    ∃ y : Sl, y.set = true ∧ ∀ v, v < ts.length → (doF ts s x).1.slots[v]! = if setAt x = (v : Int) then y else if useAt ts x v = 2 then sl0 else s.slots[v]! := by
  have hk : ∀ k, endK k ≠ -1 := fun k => by rcases endK_ne k with h | h <;> rw [h] <;> decide
  unfold doF at hgo ⊢
  by_cases h1 : x.op = 1
  · rw [if_pos h1]
    have hxb := hx (by omega)
    refine ⟨⟨true, x.n, ⟨0, 0⟩⟩, rfl, fun v hv => ?_⟩
    rw [put_slots, slot_at _ (by omega) (by omega)]
    have e1 : setAt x = x.x := by unfold setAt; rw [if_pos (by omega)]
    have e2 : useAt ts x v = 0 := by unfold useAt; rw [if_neg (by omega), if_neg (by omega), if_neg (by omega), if_neg (by omega)]
    rw [e1, e2]; simp
  rw [if_neg h1] at hgo ⊢
  by_cases h2 : x.op = 2
  · rw [if_pos h2] at hgo ⊢
    have hxb := hx (by omega)
    by_cases h200 : s.cells.length = 200
    · rw [if_pos h200] at hgo; cases hgo
    · rw [if_neg h200]
      refine ⟨⟨true, 0, ⟨s.cells.length, 0⟩⟩, rfl, fun v hv => ?_⟩
      rw [put_slots]
      dsimp only
      rw [slot_at _ (by omega) (by omega)]
      have e1 : setAt x = x.x := by unfold setAt; rw [if_pos (by omega)]
      have e2 : useAt ts x v = 0 := by unfold useAt; rw [if_neg (by omega), if_neg (by omega), if_neg (by omega), if_neg (by omega)]
      rw [e1, e2]; simp
  rw [if_neg h2] at hgo ⊢
  by_cases h3 : x.op = 3
  · rw [if_pos h3]
    have hxb := hx (by omega)
    have hyb := hy (by omega) (by omega)
    have hne := (A.t3 h3).2
    have e1 : setAt x = x.x := by unfold setAt; rw [if_pos (by omega)]
    have hyn : ((x.y.toNat : Nat) : Int) = x.y := by omega
    have hys : s.slots[x.y.toNat]!.set = true := uns_set hu (v := x.y.toNat) (by omega) (by
      unfold useAt; rw [if_pos h3, if_pos hyn]; split <;> decide)
    refine ⟨s.slots[x.y.toNat]!, hys, fun v hv => ?_⟩
    rw [put_slots]
    have e2 : useAt ts x v = if (v : Int) = x.y then (if ts[x.y.toNat]! = 2 ∨ ts[x.y.toNat]! = 4 then 2 else 1) else 0 := by
      unfold useAt; rw [if_pos h3]
      by_cases q : (v : Int) = x.y
      · rw [if_pos q, if_pos q, q]
      · rw [if_neg q, if_neg q]
    rw [e1, e2]
    by_cases ht : tkT ts[x.y.toNat]! = true
    · rw [if_pos ht]
      dsimp only
      rw [slot_at _ (by rw [List.length_set]; omega) (by rw [List.length_set]; omega), slot_at _ (by omega) (by omega), if_pos (tk_iff.1 ht)]
      by_cases q : x.x = (v : Int)
      · rw [if_pos q, if_pos q]
      · rw [if_neg q, if_neg q]
        by_cases q2 : x.y = (v : Int)
        · rw [if_pos q2, if_pos q2.symm, if_pos rfl]
        · have q3 : ¬ ((v : Int) = x.y) := fun h => q2 h.symm
          rw [if_neg q2, if_neg q3, if_neg (by decide : ¬ (0 : Int) = 2)]
    · rw [if_neg ht, slot_at _ (by omega) (by omega), if_neg (fun h => ht (tk_iff.2 h))]
      by_cases q : x.x = (v : Int)
      · rw [if_pos q, if_pos q]
      · rw [if_neg q, if_neg q]
        by_cases q2 : (v : Int) = x.y
        · rw [if_pos q2, if_neg (by decide)]
        · rw [if_neg q2, if_neg (by decide)]
  rw [if_neg h3] at hgo ⊢
  by_cases h4 : x.op = 4 ∨ x.op = 5
  · rw [if_pos h4] at hgo ⊢
    have hxb := hx (by omega)
    split at hgo
    · rename_i hz
      rw [if_pos hz]
      refine ⟨⟨true, 0, lnP s.cells s.slots[x.y.toNat]!.ptr (decide (x.op = 5))⟩, rfl, fun v hv => ?_⟩
      rw [put_slots]
      dsimp only
      rw [slot_at _ (by omega) (by omega)]
      have e1 : setAt x = x.x := by unfold setAt; rw [if_pos (by omega)]
      have e2 : useAt ts x v ≠ 2 := by unfold useAt; rw [if_neg (by omega), if_pos (by omega)]; split <;> decide
      rw [e1, if_neg e2]
    · exact absurd hgo (hk _)
  rw [if_neg h4] at hgo ⊢
  by_cases h6 : x.op = 6
  · rw [if_pos h6] at hgo ⊢
    have hxb := hx (by omega)
    split at hgo
    · rename_i hz
      rw [if_pos hz]
      refine ⟨⟨true, rdN s.cells s.slots[x.y.toNat]!.ptr, ⟨0, 0⟩⟩, rfl, fun v hv => ?_⟩
      rw [put_slots]
      dsimp only
      rw [slot_at _ (by omega) (by omega)]
      have e1 : setAt x = x.x := by unfold setAt; rw [if_pos (by omega)]
      have e2 : useAt ts x v ≠ 2 := by unfold useAt; rw [if_neg (by omega), if_pos (by omega)]; split <;> decide
      rw [e1, if_neg e2]
    · exact absurd hgo (hk _)
  rw [if_neg h6] at hgo ⊢
  have e1 : setAt x = -1 := by unfold setAt; rw [if_neg (by omega)]
  have e3 : ∀ v : Nat, setAt x ≠ (v : Int) := fun v => by rw [e1]; omega
  by_cases h7 : x.op = 7
  · rw [if_pos h7]
    refine ⟨⟨true, 0, ⟨0, 0⟩⟩, rfl, fun v hv => ?_⟩
    have e2 : useAt ts x v ≠ 2 := by unfold useAt; rw [if_neg (by omega), if_neg (by omega), if_pos h7]; split; decide; split <;> decide
    rw [if_neg (e3 v), if_neg e2]
  rw [if_neg h7]
  by_cases h8 : x.op = 8
  · rw [if_pos h8]
    have hxb := hx (by omega)
    refine ⟨⟨true, 0, ⟨0, 0⟩⟩, rfl, fun v hv => ?_⟩
    dsimp only
    rw [if_neg (e3 v), slot_at _ (by omega) (by omega)]
    have e2 : useAt ts x v = if (v : Int) = x.x then 2 else 0 := by unfold useAt; rw [if_neg (by omega), if_neg (by omega), if_neg (by omega), if_pos h8]
    rw [e2]
    by_cases q : x.x = (v : Int)
    · rw [if_pos q, if_pos q.symm, if_pos rfl]
    · have q3 : ¬ ((v : Int) = x.x) := fun h => q h.symm
      rw [if_neg q, if_neg q3, if_neg (by decide : ¬ (0 : Int) = 2)]
  · rw [if_neg h8, if_neg hop.2]
    refine ⟨⟨true, 0, ⟨0, 0⟩⟩, rfl, fun v hv => ?_⟩
    have e2 : useAt ts x v ≠ 2 := by unfold useAt; rw [if_neg (by omega), if_neg (by omega), if_neg (by omega), if_neg (by omega)]; decide
    rw [if_neg (e3 v), if_neg e2]
section
variable {ts : List Int} {pts : List Pnt}
theorem WG.doS (w : WG ts pts) (A : WA ts pts) {a : Nat} (ha : a < pts.length) {s : Mc} (hl : s.slots.length = ts.length) (hu : unsF ts s pts[a]! = false) (h11 : pts[a]!.op ≠ 11) (hgo : (doF ts s pts[a]!).2 = -1) :
    ∃ y : Sl, y.set = true ∧ ∀ v, v < ts.length → (doF ts s pts[a]!).1.slots[v]! = if setAt pts[a]! = (v : Int) then y else if useAt ts pts[a]! v = 2 then sl0 else s.slots[v]! :=
  do_slots hl hu (A.a a ha) ⟨(w.op a ha).1, h11⟩ (fun h => ⟨(w.x a ha).1, (w.x a ha).2 h⟩) (fun h1 h2 => ⟨(w.y a ha).1, (w.y a ha).2 h1 h2⟩) hgo
theorem stp_edge (w : WG ts pts) (A : WA ts pts) {a : Nat} (ha : a < pts.length) (h11 : pts[a]!.op ≠ 11) (cs : List Int) : edge pts a (stpW pts a cs).1 := by
  have key : ∀ j : Nat, j < pts[a]!.next.length → edge pts a (pts[a]!.next[j]!).toNat := fun j hj => by
    have hm := getB_mem pts[a]!.next j hj
    refine ⟨ha, ?_⟩
    rw [show (((pts[a]!.next[j]!).toNat : Nat) : Int) = pts[a]!.next[j]! by have := (w.nx a ha _ hm).1; omega]
    exact hm
  have h0 := A.n a ha h11
  unfold stpW
  split
  · rename_i h2
    split
    · exact key 1 (by omega)
    · rename_i c cs
      exact key _ (by omega)
  · exact key 0 h0
def Out (ts : List Int) (pts : List Pnt) (I : Nat → Mc → Prop) (r : Mc × Int × Nat) : Prop := r.2.1 = 1 ∨ ∃ s', r.2.2 < pts.length ∧ I r.2.2 s' ∧
  ((r.2.1 = 2 ∧ unsF ts s' pts[r.2.2]! = true ∧ r.1 = s') ∨
   (unsF ts s' pts[r.2.2]! = false ∧ (doF ts s' pts[r.2.2]!).2 ≠ -1 ∧ r.1 = (doF ts s' pts[r.2.2]!).1 ∧ r.2.1 = (doF ts s' pts[r.2.2]!).2))
theorem out_one {I : Nat → Mc → Prop} {a : Nat} {l : List Nat} {s : Mc} {last : Nat} (ha : a < pts.length) (hs : I a s)
    (hrec : unsF ts s pts[a]! = false → (doF ts s pts[a]!).2 = -1 → Out ts pts I (runF ts pts l (doF ts s pts[a]!).1 a)) : Out ts pts I (runF ts pts (a :: l) s last) := by
  by_cases h1 : unsF ts s pts[a]! = true
  · have e : runF ts pts (a :: l) s last = (s, 2, a) := by unfold runF; rw [if_pos h1]
    rw [e]; exact .inr ⟨s, ha, hs, .inl ⟨rfl, h1, rfl⟩⟩
  · have h1' : unsF ts s pts[a]! = false := by simpa using h1
    by_cases h2 : (doF ts s pts[a]!).2 = -1
    · have e : runF ts pts (a :: l) s last = runF ts pts l (doF ts s pts[a]!).1 a := by
        conv => lhs; unfold runF
        rw [if_neg h1, if_pos h2]
      rw [e]; exact hrec h1' h2
    · have e : runF ts pts (a :: l) s last = ((doF ts s pts[a]!).1, (doF ts s pts[a]!).2, a) := by
        unfold runF; rw [if_neg h1, if_neg h2]
      rw [e]; exact .inr ⟨s, ha, hs, .inr ⟨h1', h2, rfl, rfl⟩⟩
theorem out_stop {I : Nat → Mc → Prop} {a : Nat} {s : Mc} {last : Nat} (ha : a < pts.length) (hs : I a s) (h11 : pts[a]!.op = 11) : Out ts pts I (runF ts pts [a] s last) :=
  out_one ha hs fun h1 h2 => by
    rw [do_11 h11] at h2
    rcases fin_end ts ts.length 0 s with q | q | q <;> (rw [q] at h2; cases h2)
theorem run_inv (w : WG ts pts) (A : WA ts pts) (I : Nat → Mc → Prop)
    (hI : ∀ a s k, a < pts.length → pts[a]!.op ≠ 11 → edge pts a k → I a s → unsF ts s pts[a]! = false → (doF ts s pts[a]!).2 = -1 → I k (doF ts s pts[a]!).1) :
    ∀ n a cs s last, a < pts.length → I a s → Out ts pts I (runF ts pts (wayF pts n a cs).1 s last) := by
  intro n
  induction n with
  | zero =>
    intro a cs s last ha hs
    by_cases h11 : pts[a]!.op = 11
    · have e : (wayF pts 0 a cs).1 = [a] := by unfold wayF; rw [if_pos h11]
      rw [e]; exact out_stop ha hs h11
    · have e : (wayF pts 0 a cs).1 = [] := by rw [wayF, if_neg h11]
      rw [e]; exact .inl rfl
  | succ n ih =>
    intro a cs s last ha hs
    by_cases h11 : pts[a]!.op = 11
    · have e : (wayF pts (n + 1) a cs).1 = [a] := by unfold wayF; rw [if_pos h11]
      rw [e]; exact out_stop ha hs h11
    · have e : (wayF pts (n + 1) a cs).1 = a :: (wayF pts n (stpW pts a cs).1 (stpW pts a cs).2).1 := by rw [wayF, if_neg h11]
      have he := stp_edge w A ha h11 cs
      rw [e]
      exact out_one ha hs fun h1 h2 => ih _ _ _ _ (edge_lt w he) (hI a s _ ha h11 he hs h1 h2)
end
end Go.AL

namespace Go.AL
section
variable {ts : List Int} {pts : List Pnt}
structure Vs (ts : List Int) (pts : List Pnt) (a : Nat) (s : Mc) : Prop where
  l : s.slots.length = ts.length
  u : ∀ v, v < ts.length → s.slots[v]!.set = false → Na ts pts (a, v)
  m : ∀ v, v < ts.length → s.slots[v]!.set = true → Mb ts pts (a, v)
theorem put_len (ts : List Int) (s : Mc) (v : Nat) (x : Sl) : (putF ts s v x).1.slots.length = s.slots.length := by rw [put_slots, List.length_set]
theorem fin_len (ts : List Int) : ∀ n v (s : Mc), (finF ts n v s).1.slots.length = s.slots.length
  | 0, _, _ => rfl
  | n + 1, v, s => by
    unfold finF; split
    · split
      · rw [fin_len ts n]; exact List.length_set
      · rfl
    · exact fin_len ts n _ _
theorem do_len (ts : List Int) (s : Mc) (x : Pnt) : (doF ts s x).1.slots.length = s.slots.length := by
  unfold doF
  split
  · exact put_len _ _ _ _
  split
  · split
    · rfl
    · exact put_len _ _ _ _
  split
  · rw [put_len]; split
    · exact List.length_set
    · rfl
  split
  · split
    · exact put_len _ _ _ _
    · rfl
  split
  · split
    · exact put_len _ _ _ _
    · rfl
  split
  · rfl
  split
  · exact List.length_set
  split
  · exact fin_len _ _ _ _
  · rfl
theorem Vs.start : Vs ts pts 0 (mc0 ts.length) := by
  refine ⟨by simp [mc0], fun v hv _ => .base ⟨hv, .inl rfl⟩, fun v hv h => ?_⟩
  have e : (mc0 ts.length).slots[v]! = sl0 := by
    show (List.replicate ts.length sl0)[v]! = sl0
    rw [getB _ _ (by simpa using hv)]; simp
  rw [e] at h; cases h
theorem Vs.step (w : WG ts pts) (A : WA ts pts) (a : Nat) (s : Mc) (k : Nat) (ha : a < pts.length) (h11 : pts[a]!.op ≠ 11) (he : edge pts a k) (h : Vs ts pts a s) (hu : unsF ts s pts[a]! = false) (hgo : (doF ts s pts[a]!).2 = -1) : Vs ts pts k (doF ts s pts[a]!).1 := by
  obtain ⟨y, hy, hs⟩ := w.doS A ha h.l hu h11 hgo
  refine ⟨by rw [do_len]; exact h.l, fun v hv hf => ?_, fun v hv ht => ?_⟩
  · rw [hs v hv] at hf
    by_cases h1 : setAt pts[a]! = (v : Int)
    · rw [if_pos h1, hy] at hf; cases hf
    · rw [if_neg h1] at hf
      by_cases h2 : useAt ts pts[a]! v = 2
      · exact .base ⟨hv, .inr ⟨a, he, h2, h1⟩⟩
      · rw [if_neg h2] at hf
        exact .step (a := (a, v)) (h.u v hv hf) ⟨rfl, he, h1⟩
  · rw [hs v hv] at ht
    by_cases h1 : setAt pts[a]! = (v : Int)
    · exact .base ⟨a, he, h1⟩
    · rw [if_neg h1] at ht
      by_cases h2 : useAt ts pts[a]! v = 2
      · rw [if_pos h2] at ht; cases ht
      · rw [if_neg h2] at ht
        exact .step (a := (a, v)) (h.m v hv ht) ⟨rfl, he, h2⟩
theorem uns_true {s : Mc} {x : Pnt} (h : unsF ts s x = true) : ∃ v, v < ts.length ∧ useAt ts x v ≠ 0 ∧ s.slots[v]!.set = false := by
  unfold unsF at h
  obtain ⟨v, hv, h2⟩ := List.any_eq_true.1 h
  rw [Bool.and_eq_true, decide_eq_true_eq] at h2
  exact ⟨v, List.mem_range.1 hv, h2.1, by simpa using h2.2⟩
theorem run_unset (w : WG ts pts) (A : WA ts pts) (f : Flows ts pts) (cs : List Int) (n : Nat) (h2 : (runP ts pts cs n).2.1 = 2) :
    ((runP ts pts cs n).2.2 : Int) ∈ unL ts pts f.Aa pts.length := by
  have htl := w.tl
  have h := run_inv w A (Vs ts pts) (Vs.step w A) n 0 cs (mc0 ts.length) 0 w.p0 Vs.start
  change Out ts pts (Vs ts pts) (runP ts pts cs n) at h
  rcases h with h | ⟨s', h0, hI, ⟨_, h3, _⟩ | ⟨_, h4, _, h5⟩⟩
  · rw [h] at h2; cases h2
  · obtain ⟨v, hv, hu, hf⟩ := uns_true h3
    have hna := hI.u v hv hf
    generalize (runP ts pts cs n).2.2 = at' at h0 hu hna
    refine List.mem_map.2 ⟨at', List.mem_filter.2 ⟨List.mem_range.2 h0, ?_⟩, rfl⟩
    unfold unB
    rw [decide_eq_true_eq]
    intro e
    have hb : (anl (wS ts pts[at']! [1, 2, 3]) f.Aa[at']!).testBit v = true := by
      rw [testBit_anl, testBit_wS, decide_eq_true hv, Bool.true_and, Bool.and_eq_true]
      refine ⟨decide_eq_true (by have := useAt_bd ts pts[at']! v; simp only [List.mem_cons, List.not_mem_nil, or_false]; omega), ?_⟩
      have := f.ga.2 at' h0 v
      cases q : f.Aa[at']!.testBit v with
      | false => rfl
      | true => exact absurd hna ((this.1 q).2)
    rw [e] at hb; simp at hb
  · rw [h2] at h5
    by_cases q : pts[(runP ts pts cs n).2.2]!.op = 11
    · rw [do_11 q] at h5
      rcases fin_end ts ts.length 0 s' with e | e | e <;> (rw [e] at h5; cases h5)
    · rcases do_end (ts := ts) (s := s') q with e | e | e | e <;> (rw [e] at h5; cases h5)
theorem fin_slots (ts : List Int) : ∀ n v (s : Mc) (u : Nat), ts[u]! ≠ 2 → (finF ts n v s).1.slots[u]! = s.slots[u]!
  | 0, _, _, _, _ => rfl
  | n + 1, v, s, u, hu => by
    unfold finF; split
    · rename_i h
      have hne : v ≠ u := fun e => hu (e ▸ h.1)
      split
      · rw [fin_slots ts n _ _ u hu]
        show (s.slots.set v sl0)[u]! = _
        rw [set_get, if_neg (fun h => hne h.1)]
      · rfl
    · exact fin_slots ts n _ _ u hu
theorem run_final (w : WG ts pts) (A : WA ts pts) (cs : List Int) (n : Nat) (h2 : (runP ts pts cs n).2.1 = 0) (v : Nat) (hv : v < ts.length) (hb : ts[v]! ≠ 2) :
    ((runP ts pts cs n).1.slots[v]!.set = true → Mb ts pts (pts.length - 1, v)) ∧ ((runP ts pts cs n).1.slots[v]!.set = false → Na ts pts (pts.length - 1, v)) := by
  have h := run_inv w A (Vs ts pts) (Vs.step w A) n 0 cs (mc0 ts.length) 0 w.p0 Vs.start
  change Out ts pts (Vs ts pts) (runP ts pts cs n) at h
  rcases h with h | ⟨s', h0, hI, ⟨h3, _⟩ | ⟨_, h4, h5, h6⟩⟩
  · rw [h] at h2; cases h2
  · rw [h3] at h2; cases h2
  · by_cases q : pts[(runP ts pts cs n).2.2]!.op = 11
    · have e := (A.e _ h0).1 q
      rw [do_11 q] at h5
      rw [h5, fin_slots ts _ _ _ v hb, show pts.length - 1 = (runP ts pts cs n).2.2 by omega]
      exact ⟨hI.m v hv, hI.u v hv⟩
    · rw [h2] at h6
      rcases do_end (ts := ts) (s := s') q with e | e | e | e <;> (rw [e] at h6; cases h6)
end
end Go.AL

namespace Go.AL
theorem app_lo {α : Type} [Inhabited α] {l r : List α} {c : Nat} (h : c < l.length) : (l ++ r)[c]! = l[c]! := by
  rw [getB _ _ (by rw [List.length_append]; omega), getB _ _ h, List.getElem_append_left h]
theorem app_hi {α : Type} [Inhabited α] {l : List α} {x : α} : (l ++ [x])[l.length]! = x := by
  rw [getB _ _ (by rw [List.length_append, List.length_singleton]; omega)]; simp
theorem tgIx_0 {stk : List Tg} (hl : 0 < stk.length) (h : stk[0]! = ⟨0, true⟩) : tgIx stk 0 = 0 := by
  cases stk with
  | nil => simp at hl
  | cons t l =>
    have ht : t = ⟨0, true⟩ := h
    subst ht
    unfold tgIx
    rw [List.findIdx?_cons]
    simp
def Hd (m : List Cl) : Prop := ∀ c, c < m.length → m[c]!.stk[0]! = ⟨0, true⟩
theorem own_ok {m : List Cl} (h : OkM m) (hh : Hd m) {x : Pt} (hx : 0 ≤ x.cell ∧ x.cell < m.length) (ht : x.tag = 0) (ha : m[x.cell.toNat]!.alive = true) (wr : Bool) : tchK m x wr = 0 := by
  have hc := h.at (k := x.cell.toNat) (by omega)
  have hs := hh x.cell.toNat (by omega)
  have h0 := tgIx_0 (by have := hc.l; omega) hs
  unfold tchK
  rw [if_neg (fun q => q hx), if_neg (by rw [ha]; decide), ht, h0, if_neg (by decide), if_neg]
  rintro ⟨_, h2⟩
  have e : m[x.cell.toNat]!.stk[(0 : Int).toNat]! = m[x.cell.toNat]!.stk[0]! := rfl
  rw [e, hs] at h2; cases h2
theorem set_hd {m : List Cl} (hh : Hd m) {k : Nat} {c : Cl} (hc : c.stk[0]! = ⟨0, true⟩) : Hd (m.set k c) := fun j hj => by
  rw [List.length_set] at hj
  rw [set_get]
  split
  · exact hc
  · exact hh j hj
theorem tchC_hd {m : List Cl} (h : OkM m) (hh : Hd m) {k : Nat} (hk : k < m.length) (x : Pt) (wr : Bool) : (tchC m[k]! x wr).stk[0]! = ⟨0, true⟩ := by
  have hl := (h.at hk).l
  show (tchS m[k]!.stk _ wr)[0]! = _
  rw [(tchS_head (by omega)).1]; exact hh k hk
theorem Hd.tch {m : List Cl} (h : OkM m) (hh : Hd m) (x : Pt) (wr : Bool) : Hd (tchM m x wr) := by
  unfold tchM; split
  · rename_i hk; exact set_hd hh (tchC_hd h hh (tchK_0 hk).2.2 x wr)
  · exact hh
theorem Hd.fr {m : List Cl} (h : OkM m) (hh : Hd m) (x : Pt) : Hd (frM m x) := by
  unfold frM; split
  · rename_i hk; exact set_hd hh (tchC_hd h hh (tchK_0 hk).2.2 x true)
  · exact hh
theorem Hd.wr {m : List Cl} (h : OkM m) (hh : Hd m) (x : Pt) (v : Int) : Hd (wrM m x v) := by
  unfold wrM
  by_cases hk : wrK m x v = 0
  · rw [if_pos hk]
    unfold wrK at hk
    by_cases hv : 0 ≤ v ∧ v ≤ 9
    · rw [if_pos hv] at hk; exact set_hd hh (tchC_hd h hh (tchK_0 hk).2.2 x true)
    · rw [if_neg hv] at hk; cases hk
  · rw [if_neg hk]; exact hh
theorem lnK_0 {m : List Cl} {x : Pt} {u : Bool} (h : lnK m x u = 0) : tchK m x u = 0 := by
  unfold lnK at h
  by_cases h0 : tchK m x u = 0
  · exact h0
  · rw [if_neg h0] at h; exact h
theorem Hd.ln {m : List Cl} (h : OkM m) (hh : Hd m) (x : Pt) (u : Bool) : Hd (lnM m x u) := by
  unfold lnM; split
  · rename_i hk
    have h0 := tchK_0 (lnK_0 hk)
    have h1 := tchC_hd h hh h0.2.2 x u
    have h2 := ((h.at h0.2.2).tch x u).l
    refine set_hd hh ?_
    show ((tchC m[x.cell.toNat]! x u).stk ++ [_])[0]! = _
    rw [app_lo (by omega)]; exact h1
  · exact hh
theorem Hd.nw {m : List Cl} (hh : Hd m) (v : Int) : Hd (m ++ [nwC v]) := fun c hc => by
  rw [List.length_append, List.length_singleton] at hc
  by_cases q : c < m.length
  · rw [app_lo q]; exact hh c q
  · have e : c = m.length := by omega
    subst e
    rw [app_hi]; rfl
def alv (m : List Cl) (c : Nat) : Bool := m[c]!.alive
theorem alv_set {m : List Cl} {k c : Nat} {x : Cl} (hc : c < m.length) : alv (m.set k x) c = if k = c then x.alive else alv m c := by
  unfold alv
  rw [set_get]
  by_cases h : k = c
  · rw [if_pos ⟨h, hc⟩, if_pos h]
  · rw [if_neg (fun q => h q.1), if_neg h]
theorem alv_tch (m : List Cl) (x : Pt) (wr : Bool) (c : Nat) (hc : c < m.length) : alv (tchM m x wr) c = alv m c := by
  unfold tchM; split
  · rw [alv_set hc]; split
    · rename_i e; subst e; rfl
    · rfl
  · rfl
theorem alv_ln (m : List Cl) (x : Pt) (u : Bool) (c : Nat) (hc : c < m.length) : alv (lnM m x u) c = alv m c := by
  unfold lnM; split
  · rw [alv_set hc]; split
    · rename_i e; subst e; rfl
    · rfl
  · rfl
theorem alv_wr (m : List Cl) (x : Pt) (v : Int) (c : Nat) (hc : c < m.length) : alv (wrM m x v) c = alv m c := by
  unfold wrM; split
  · rw [alv_set hc]; split
    · rename_i e; subst e; rfl
    · rfl
  · rfl
theorem alv_fr {m : List Cl} {x : Pt} (hk : tchK m x true = 0) (c : Nat) (hc : c < m.length) : alv (frM m x) c = if x.cell = (c : Int) then false else alv m c := by
  have h0 := tchK_0 hk
  unfold frM
  rw [if_pos hk, alv_set hc]
  by_cases q : x.cell = (c : Int)
  · rw [if_pos q, if_pos (by omega)]
  · rw [if_neg q, if_neg (by omega)]
structure Own (ts : List Int) (s : Mc) (X : Option Nat) : Prop where
  k : OkS ts.length s
  h : Hd s.cells
  o : ∀ v, v < ts.length → ts[v]! = 2 → s.slots[v]!.set = true → 0 ≤ s.slots[v]!.ptr.cell ∧ s.slots[v]!.ptr.cell < s.cells.length ∧ s.slots[v]!.ptr.tag = 0 ∧ alv s.cells s.slots[v]!.ptr.cell.toNat = true
  d : ∀ v u, v < ts.length → u < ts.length → ts[v]! = 2 → ts[u]! = 2 → s.slots[v]!.set = true → s.slots[u]!.set = true → s.slots[v]!.ptr.cell = s.slots[u]!.ptr.cell → v = u
  a : ∀ c, c < s.cells.length → alv s.cells c = true → X = some c ∨ ∃ v, v < ts.length ∧ ts[v]! = 2 ∧ s.slots[v]!.set = true ∧ s.slots[v]!.ptr.cell = (c : Int)
  x : ∀ c, X = some c → c < s.cells.length ∧ alv s.cells c = true ∧ ∀ v, v < ts.length → ts[v]! = 2 → s.slots[v]!.set = true → s.slots[v]!.ptr.cell ≠ (c : Int)
theorem Own.k0 {ts : List Int} {s : Mc} {X : Option Nat} (w : Own ts s X) {v : Nat} (hv : v < ts.length) (h2 : ts[v]! = 2) (hs : s.slots[v]!.set = true) (wr : Bool) : tchK s.cells s.slots[v]!.ptr wr = 0 := by
  obtain ⟨h1, h3, h4, h5⟩ := w.o v hv h2 hs
  exact own_ok w.k.m w.h ⟨h1, h3⟩ h4 h5 wr
theorem Own.cells {ts : List Int} {s : Mc} {X : Option Nat} (w : Own ts s X) {m : List Cl} (hm : OkM m) (hh : Hd m) (hl : m.length = s.cells.length) (ha : ∀ c, c < s.cells.length → alv m c = alv s.cells c) (r : List Int) : Own ts ⟨s.slots, m, r⟩ X := by
  refine ⟨⟨hm, w.k.l⟩, hh, fun v hv h2 hs => ?_, w.d, fun c hc h => ?_, fun c hc => ?_⟩
  · obtain ⟨h1, h3, h4, h5⟩ := w.o v hv h2 hs
    exact ⟨h1, by show _ < (m.length : Int); rw [hl]; exact h3, h4, by show alv m _ = true; rw [ha _ (show s.slots[v]!.ptr.cell.toNat < s.cells.length by omega)]; exact h5⟩
  · have hc' : c < m.length := hc
    exact w.a c (by omega) (by rw [← ha c (by omega)]; exact h)
  · obtain ⟨h1, h3, h4⟩ := w.x c hc
    exact ⟨by show c < m.length; omega, by show alv m c = true; rw [ha c h1]; exact h3, h4⟩
theorem Own.put0 {ts : List Int} {s : Mc} {X : Option Nat} (w : Own ts s X) {v : Nat} (h2 : ts[v]! ≠ 2) (y : Sl) : Own ts (putF ts s v y).1 X ∧ (putF ts s v y).2 = -1 := by
  have hl : (s.slots.set v y).length = ts.length := by rw [List.length_set]; exact w.k.l
  have e : ∀ u : Nat, ts[u]! = 2 → (s.slots.set v y)[u]! = s.slots[u]! := fun u hu => by
    rw [set_get, if_neg]; rintro ⟨q, _⟩; rw [q] at h2; exact h2 hu
  unfold putF
  rw [if_neg (fun h => h2 h.1)]
  refine ⟨⟨⟨w.k.m, hl⟩, w.h, fun u hu h hs => ?_, fun u u' hu hu' h h' hs hs' hc => ?_, fun c hc h => ?_, fun c hc => ?_⟩, rfl⟩
  · dsimp only at hs ⊢; rw [e u h] at hs ⊢; exact w.o u hu h hs
  · dsimp only at hs hs' hc; rw [e u h] at hs hc; rw [e u' h'] at hs' hc; exact w.d u u' hu hu' h h' hs hs' hc
  · rcases w.a c hc h with q | ⟨u, q1, q2, q3, q4⟩
    · exact .inl q
    · exact .inr ⟨u, q1, q2, by dsimp only; rw [e u q2]; exact q3, by dsimp only; rw [e u q2]; exact q4⟩
  · obtain ⟨h1, h3, h4⟩ := w.x c hc
    exact ⟨h1, h3, fun u q1 q2 q3 => by dsimp only at q3 ⊢; rw [e u q2] at q3 ⊢; exact h4 u q1 q2 q3⟩
theorem Own.free {ts : List Int} {s : Mc} {X : Option Nat} (w : Own ts s X) {v : Nat} (hv : v < ts.length) (h2 : ts[v]! = 2) (hs : s.slots[v]!.set = true) (y : Sl) (hy : y.set = false) (r : List Int) :
    Own ts ⟨s.slots.set v y, frM s.cells s.slots[v]!.ptr, r⟩ X := by
  have hk := w.k0 hv h2 hs true
  have hlen := frM_len s.cells s.slots[v]!.ptr
  have hl : (s.slots.set v y).length = ts.length := by rw [List.length_set]; exact w.k.l
  have e : ∀ u : Nat, u ≠ v → (s.slots.set v y)[u]! = s.slots[u]! := fun u hu => by
    rw [set_get, if_neg]; rintro ⟨q, _⟩; exact hu q.symm
  have ev : (s.slots.set v y)[v]! = y := by rw [set_get, if_pos ⟨rfl, by rw [w.k.l]; exact hv⟩]
  have nev : ∀ u : Nat, (s.slots.set v y)[u]!.set = true → u ≠ v := fun u h q => by rw [q, ev, hy] at h; cases h
  obtain ⟨b1, b2, b3, b4⟩ := w.o v hv h2 hs
  refine ⟨⟨w.k.m.fr _, hl⟩, w.h.fr w.k.m _, fun u hu h hs' => ?_, fun u u' hu hu' h h' q q' hc => ?_, fun c hc h => ?_, fun c hc => ?_⟩
  · have hne := nev u hs'
    dsimp only at hs' ⊢
    rw [e u hne] at hs' ⊢
    obtain ⟨c1, c2, c3, c4⟩ := w.o u hu h hs'
    refine ⟨c1, by rw [hlen]; exact c2, c3, ?_⟩
    rw [alv_fr hk _ (by omega), if_neg]
    · exact c4
    · intro q; exact hne (w.d u v hu hv h h2 hs' hs (by omega))
  · have n1 := nev u q
    have n2 := nev u' q'
    dsimp only at q q' hc
    rw [e u n1] at q hc; rw [e u' n2] at q' hc
    exact w.d u u' hu hu' h h' q q' hc
  · dsimp only at hc h
    rw [hlen] at hc
    rw [alv_fr hk c hc] at h
    by_cases q : s.slots[v]!.ptr.cell = (c : Int)
    · rw [if_pos q] at h; cases h
    · rw [if_neg q] at h
      rcases w.a c hc h with q2 | ⟨u, q1, q2, q3, q4⟩
      · exact .inl q2
      · have hne : u ≠ v := fun e' => q (by rw [← e']; exact q4)
        exact .inr ⟨u, q1, q2, by dsimp only; rw [e u hne]; exact q3, by dsimp only; rw [e u hne]; exact q4⟩
  · obtain ⟨h1, h3, h4⟩ := w.x c hc
    refine ⟨by dsimp only; rw [hlen]; exact h1, ?_, fun u q1 q2 q3 => ?_⟩
    · dsimp only; rw [alv_fr hk c h1, if_neg (h4 v hv h2 hs)]; exact h3
    · have hne := nev u q3
      dsimp only at q3 ⊢
      rw [e u hne] at q3 ⊢
      exact h4 u q1 q2 q3
theorem Own.take {ts : List Int} {s : Mc} {c : Nat} (w : Own ts s (some c)) {v : Nat} (hv : v < ts.length) (h2 : ts[v]! = 2) (hs : s.slots[v]!.set = false) (y : Sl) (hy : y.set = true) (hp : y.ptr = ⟨c, 0⟩) : Own ts ⟨s.slots.set v y, s.cells, s.read⟩ none := by
  have hl : (s.slots.set v y).length = ts.length := by rw [List.length_set]; exact w.k.l
  have e : ∀ u : Nat, u ≠ v → (s.slots.set v y)[u]! = s.slots[u]! := fun u hu => by
    rw [set_get, if_neg]; rintro ⟨q, _⟩; exact hu q.symm
  have ev : (s.slots.set v y)[v]! = y := by rw [set_get, if_pos ⟨rfl, by rw [w.k.l]; exact hv⟩]
  obtain ⟨x1, x2, x3⟩ := w.x c rfl
  refine ⟨⟨w.k.m, hl⟩, w.h, fun u hu h hs' => ?_, fun u u' hu hu' h h' q q' hc => ?_, fun c' hc h => ?_, fun c' hc => by cases hc⟩
  · by_cases q : u = v
    · subst q; dsimp only; rw [ev, hp]
      exact ⟨by dsimp only; omega, by dsimp only; omega, rfl, by simpa using x2⟩
    · dsimp only at hs' ⊢; rw [e u q] at hs' ⊢; exact w.o u hu h hs'
  · dsimp only at q q' hc
    by_cases n1 : u = v
    · by_cases n2 : u' = v
      · rw [n1, n2]
      · exfalso; rw [n1, ev, hp, e u' n2] at hc; rw [e u' n2] at q'; exact x3 u' hu' h' q' hc.symm
    · by_cases n2 : u' = v
      · exfalso; rw [n2, ev, hp, e u n1] at hc; rw [e u n1] at q; exact x3 u hu h q hc
      · rw [e u n1] at q hc; rw [e u' n2] at q' hc; exact w.d u u' hu hu' h h' q q' hc
  · dsimp only at hc h
    rcases w.a c' hc h with q2 | ⟨u, q1, q2, q3, q4⟩
    · cases q2
      exact .inr ⟨v, hv, h2, by dsimp only; rw [ev]; exact hy, by dsimp only; rw [ev, hp]⟩
    · have hne : u ≠ v := fun e' => by rw [e', hs] at q3; cases q3
      exact .inr ⟨u, q1, q2, by dsimp only; rw [e u hne]; exact q3, by dsimp only; rw [e u hne]; exact q4⟩
theorem set_set' {xs : List Sl} (v : Nat) (y z : Sl) : (xs.set v y).set v z = xs.set v z := by simp
theorem Own.putB {ts : List Int} {s : Mc} {c : Nat} (w : Own ts s (some c)) {v : Nat} (hv : v < ts.length) (h2 : ts[v]! = 2) (y : Sl) (hy : y.set = true) (hp : y.ptr = ⟨c, 0⟩) : Own ts (putF ts s v y).1 none ∧ (putF ts s v y).2 = -1 := by
  unfold putF
  by_cases hs : s.slots[v]!.set = true
  · rw [if_pos ⟨h2, hs⟩]
    have hk := w.k0 hv h2 hs true
    have w1 := w.free hv h2 hs sl0 rfl s.read
    have w2 := w1.take hv h2 (by dsimp only; rw [set_get, if_pos ⟨rfl, by rw [w.k.l]; exact hv⟩]; rfl) y hy hp
    dsimp only at w2 ⊢
    rw [set_set'] at w2
    refine ⟨w2, ?_⟩
    unfold goK; rw [if_pos hk]
  · rw [if_neg (fun h => hs h.2)]
    exact ⟨w.take hv h2 (by simpa using hs) y hy hp, rfl⟩
end Go.AL

namespace Go.AL
section
variable {ts : List Int} {s : Mc}
theorem Own.new (w : Own ts s none) {n : Int} (hn : 0 ≤ n ∧ n ≤ 9) (hl : s.cells.length ≠ 200) (r : List Int) : Own ts ⟨s.slots, s.cells ++ [nwC n], r⟩ (some s.cells.length) := by
  have hlen : (s.cells ++ [nwC n]).length = s.cells.length + 1 := by rw [List.length_append, List.length_singleton]
  have lo : ∀ c, c < s.cells.length → alv (s.cells ++ [nwC n]) c = alv s.cells c := fun c hc => by
    unfold alv
    rw [app_lo hc]
  have hi : alv (s.cells ++ [nwC n]) s.cells.length = true := by
    unfold alv; rw [app_hi]; rfl
  refine ⟨⟨w.k.m.nw hn (by have := w.k.m.l; omega), w.k.l⟩, w.h.nw n, fun v hv h2 hs => ?_, w.d, fun c hc h => ?_, fun c hc => ?_⟩
  · obtain ⟨h1, h3, h4, h5⟩ := w.o v hv h2 hs
    exact ⟨h1, by dsimp only; omega, h4, by dsimp only; rw [lo _ (by omega)]; exact h5⟩
  · dsimp only at hc h
    by_cases q : c < s.cells.length
    · rw [lo c q] at h
      rcases w.a c q h with q2 | q2
      · cases q2
      · exact .inr q2
    · exact .inl (by congr 1; omega)
  · cases hc
    refine ⟨by dsimp only; omega, hi, fun v hv h2 hs => ?_⟩
    obtain ⟨h1, h3, h4, h5⟩ := w.o v hv h2 hs
    dsimp only; omega
theorem Own.give (w : Own ts s none) {v : Nat} (hv : v < ts.length) (h2 : ts[v]! = 2) (hs : s.slots[v]!.set = true) : Own ts ⟨s.slots.set v sl0, s.cells, s.read⟩ (some s.slots[v]!.ptr.cell.toNat) := by
  have hl : (s.slots.set v sl0).length = ts.length := by rw [List.length_set]; exact w.k.l
  have e : ∀ u : Nat, u ≠ v → (s.slots.set v sl0)[u]! = s.slots[u]! := fun u hu => by
    rw [set_get, if_neg]; rintro ⟨q, _⟩; exact hu q.symm
  have ev : (s.slots.set v sl0)[v]! = sl0 := by rw [set_get, if_pos ⟨rfl, by rw [w.k.l]; exact hv⟩]
  have nev : ∀ u : Nat, (s.slots.set v sl0)[u]!.set = true → u ≠ v := fun u h q => by rw [q, ev] at h; cases h
  obtain ⟨b1, b2, b3, b4⟩ := w.o v hv h2 hs
  refine ⟨⟨w.k.m, hl⟩, w.h, fun u hu h hs' => ?_, fun u u' hu hu' h h' q q' hc => ?_, fun c hc h => ?_, fun c hc => ?_⟩
  · have hne := nev u hs'
    dsimp only at hs' ⊢; rw [e u hne] at hs' ⊢; exact w.o u hu h hs'
  · have n1 := nev u q
    have n2 := nev u' q'
    dsimp only at q q' hc
    rw [e u n1] at q hc; rw [e u' n2] at q' hc
    exact w.d u u' hu hu' h h' q q' hc
  · rcases w.a c hc h with q2 | ⟨u, q1, q2, q3, q4⟩
    · cases q2
    · by_cases q : u = v
      · subst q; exact .inl (by congr 1; omega)
      · exact .inr ⟨u, q1, q2, by dsimp only; rw [e u q]; exact q3, by dsimp only; rw [e u q]; exact q4⟩
  · cases hc
    refine ⟨by dsimp only; omega, b4, fun u q1 q2 q3 => ?_⟩
    have hne := nev u q3
    dsimp only at q3 ⊢
    rw [e u hne] at q3 ⊢
    intro q; exact hne (w.d u v q1 hv q2 h2 q3 hs (by omega))
theorem Own.clr (w : Own ts s none) {v : Nat} (h2 : ts[v]! ≠ 2) : Own ts ⟨s.slots.set v sl0, s.cells, s.read⟩ none := by
  have h := (w.put0 h2 sl0).1
  unfold putF at h
  rwa [if_neg (fun h => h2 h.1)] at h
theorem Own.do (w : Own ts s none) {x : Pnt} (A : PtA ts x) (h11 : x.op ≠ 11) (hx : x.op ≤ 8 → 0 ≤ x.x ∧ x.x < ts.length) (hop : 1 ≤ x.op) (hy : 3 ≤ x.op → x.op ≤ 7 → 0 ≤ x.y ∧ x.y < ts.length) (hu : unsF ts s x = false) : Own ts (doF ts s x).1 none := by
  unfold doF
  by_cases h1 : x.op = 1
  · rw [if_pos h1]; exact (w.put0 (by rw [A.t1 h1]; decide) _).1
  rw [if_neg h1]
  by_cases h2 : x.op = 2
  · rw [if_pos h2]
    split
    · exact w
    · rename_i h200
      have hxb := hx (by omega)
      exact ((w.new (A.n (.inr h2)) h200 s.read).putB (v := x.x.toNat) (by omega) (A.t2 (.inl h2)) _ rfl rfl).1
  rw [if_neg h2]
  by_cases h3 : x.op = 3
  · rw [if_pos h3]
    have hxb := hx (by omega)
    have hyb := hy (by omega) (by omega)
    obtain ⟨ht, hne⟩ := A.t3 h3
    have hyn : ((x.y.toNat : Nat) : Int) = x.y := by omega
    have hys : s.slots[x.y.toNat]!.set = true := uns_set hu (v := x.y.toNat) (by omega) (by
      unfold useAt; rw [if_pos h3, if_pos hyn]; split <;> decide)
    by_cases q2 : ts[x.y.toNat]! = 2
    · rw [if_pos (tk_iff.2 (.inl q2))]
      have g := w.give (v := x.y.toNat) (by omega) q2 hys
      obtain ⟨b1, b2, b3, b4⟩ := w.o x.y.toNat (by omega) q2 hys
      refine (g.putB (v := x.x.toNat) (by omega) (by rw [ht]; exact q2) _ hys ?_).1
      generalize s.slots[x.y.toNat]! = z at b1 b3
      obtain ⟨zs, zn, zc, zt⟩ := z
      dsimp only at b1 b3 ⊢
      rw [b3, Int.toNat_of_nonneg b1]
    · split
      · exact ((w.clr (v := x.y.toNat) q2).put0 (by rw [ht]; exact q2) _).1
      · exact (w.put0 (by rw [ht]; exact q2) _).1
  rw [if_neg h3]
  by_cases h4 : x.op = 4 ∨ x.op = 5
  · rw [if_pos h4]
    have hxt : ts[x.x.toNat]! ≠ 2 := by
      rcases h4 with h4 | h4
      · rw [(A.t4 h4).1]; decide
      · rw [(A.t5 h4).1]; decide
    split
    · exact ((w.cells (w.k.m.ln _ _) (w.h.ln w.k.m _ _) (lnM_len _ _ _) (fun c hc => alv_ln _ _ _ c hc) _).put0 hxt _).1
    · exact w
  rw [if_neg h4]
  by_cases h6 : x.op = 6
  · rw [if_pos h6]
    have hxt : ts[x.x.toNat]! ≠ 2 := by rw [(A.t6 h6).1]; decide
    split
    · exact ((w.cells (w.k.m.tch _ _) (w.h.tch w.k.m _ _) (tchM_len _ _ _) (fun c hc => alv_tch _ _ _ c hc) _).put0 hxt _).1
    · exact w
  rw [if_neg h6]
  by_cases h7 : x.op = 7
  · rw [if_pos h7]; exact w.cells (w.k.m.wr _ _) (w.h.wr w.k.m _ _) (wrM_len _ _ _) (fun c hc => alv_wr _ _ _ c hc) _
  rw [if_neg h7]
  by_cases h8 : x.op = 8
  · rw [if_pos h8]
    have hxb := hx (by omega)
    have hxn : ((x.x.toNat : Nat) : Int) = x.x := by omega
    have hxs : s.slots[x.x.toNat]!.set = true := uns_set hu (v := x.x.toNat) (by omega) (by
      unfold useAt; rw [if_neg (by omega), if_neg (by omega), if_neg (by omega), if_pos h8, if_pos hxn]; decide)
    exact w.free (v := x.x.toNat) (by omega) (A.t2 (.inr h8)) hxs sl0 rfl _
  rw [if_neg h8, if_neg h11]
  exact w
end
theorem Own.fin {ts : List Int} : ∀ n v (s : Mc), Own ts s none → v + n = ts.length → (∀ u, u < v → ts[u]! = 2 → s.slots[u]!.set = false) →
    (finF ts n v s).2 = 0 ∧ Own ts (finF ts n v s).1 none ∧ ∀ u, u < ts.length → ts[u]! = 2 → (finF ts n v s).1.slots[u]!.set = false
  | 0, v, s, w, hv, h => ⟨rfl, w, fun u hu h2 => h u (by omega) h2⟩
  | n + 1, v, s, w, hv, h => by
    unfold finF
    by_cases q : ts[v]! = 2 ∧ s.slots[v]!.set = true
    · rw [if_pos q, if_pos (w.k0 (by omega) q.1 q.2 true)]
      refine Own.fin n (v + 1) _ (w.free (by omega) q.1 q.2 sl0 rfl _) (by omega) fun u hu h2 => ?_
      dsimp only
      rw [set_get]
      by_cases e : v = u
      · rw [if_pos ⟨e, by rw [w.k.l]; omega⟩]; rfl
      · rw [if_neg (fun h => e h.1)]; exact h u (by omega) h2
    · rw [if_neg q]
      refine Own.fin n (v + 1) s w (by omega) fun u hu h2 => ?_
      by_cases e : u = v
      · subst e
        cases hs : s.slots[u]!.set with
        | false => rfl
        | true => exact absurd ⟨h2, hs⟩ q
      · exact h u (by omega) h2
theorem Own.start (ts : List Int) : Own ts (mc0 ts.length) none := by
  have e : ∀ v, v < ts.length → (mc0 ts.length).slots[v]! = sl0 := fun v hv => by
    show (List.replicate ts.length sl0)[v]! = sl0
    rw [getB _ _ (by simpa using hv)]; simp
  refine ⟨OkS.mc0 _, fun c hc => ?_, fun v hv _ hs => ?_, fun v u hv _ _ _ hs => ?_, fun c hc => ?_, fun c hc => by cases hc⟩
  · have : c < ([] : List Cl).length := hc
    simp at this
  · rw [e v hv] at hs; cases hs
  · rw [e v hv] at hs; cases hs
  · have : c < ([] : List Cl).length := hc
    simp at this
theorem run_leak {ts : List Int} {pts : List Pnt} (w : WG ts pts) (A : WA ts pts) (cs : List Int) (n : Nat) (h2 : (runP ts pts cs n).2.1 = 0) :
    (∀ c, c < (runP ts pts cs n).1.cells.length → alv (runP ts pts cs n).1.cells c = false) ∧ ∀ v, v < ts.length → ts[v]! = 2 → (runP ts pts cs n).1.slots[v]!.set = false := by
  have h := run_inv w A (fun _ s => Own ts s none) (fun a s k ha h11 he hI hu hgo => hI.do (A.a a ha) h11 (fun h => ⟨(w.x a ha).1, (w.x a ha).2 h⟩) (w.op a ha).1 (fun h1 h2 => ⟨(w.y a ha).1, (w.y a ha).2 h1 h2⟩) hu) n 0 cs (mc0 ts.length) 0 w.p0 (Own.start ts)
  change Out ts pts _ (runP ts pts cs n) at h
  rcases h with h | ⟨s', h0, hI, ⟨h3, _⟩ | ⟨_, h4, h5, h6⟩⟩
  · rw [h] at h2; cases h2
  · rw [h3] at h2; cases h2
  · by_cases q : pts[(runP ts pts cs n).2.2]!.op = 11
    · rw [do_11 q] at h5
      obtain ⟨_, w2, h7⟩ := Own.fin ts.length 0 s' hI (by omega) (fun u hu => by omega)
      rw [h5]
      refine ⟨fun c hc => ?_, h7⟩
      cases ha : alv (finF ts ts.length 0 s').1.cells c with
      | false => rfl
      | true =>
        rcases w2.a c hc ha with q2 | ⟨v, q1, q2, q3, _⟩
        · cases q2
        · rw [h7 v q1 q2] at q3; cases q3
    · rw [h2] at h6
      rcases do_end (ts := ts) (s := s') q with e | e | e | e <;> (rw [e] at h6; cases h6)
structure Str (ts : List Int) (s : Mc) : Prop where
  w : Own ts s none
  r : ∀ v, v < ts.length → ts[v]! = 3 ∨ ts[v]! = 4 → s.slots[v]!.set = false
  i : ∀ v, v < ts.length → ts[v]! = 1 → 0 ≤ s.slots[v]!.num ∧ s.slots[v]!.num ≤ 9
theorem Str.put {ts : List Int} {s1 : Mc} (hl : s1.slots.length = ts.length) (hr : ∀ v, v < ts.length → ts[v]! = 3 ∨ ts[v]! = 4 → s1.slots[v]!.set = false) (hi : ∀ v, v < ts.length → ts[v]! = 1 → 0 ≤ s1.slots[v]!.num ∧ s1.slots[v]!.num ≤ 9) {v : Nat} {y : Sl}
    (w : Own ts (putF ts s1 v y).1 none) (h3 : ts[v]! ≠ 3 ∧ ts[v]! ≠ 4) (h1 : ts[v]! = 1 → 0 ≤ y.num ∧ y.num ≤ 9) : Str ts (putF ts s1 v y).1 := by
  refine ⟨w, fun u hu h => ?_, fun u hu h => ?_⟩
  · rw [put_slots, set_get]
    by_cases e : v = u
    · exfalso; rw [← e] at h; omega
    · rw [if_neg (fun q => e q.1)]; exact hr u hu h
  · rw [put_slots, set_get]
    by_cases e : v = u
    · rw [if_pos ⟨e, by omega⟩]; exact h1 (by rw [e]; exact h)
    · rw [if_neg (fun q => e q.1)]; exact hi u hu h
theorem Str.do {ts : List Int} {s : Mc} (S : Str ts s) (hT : ∀ v, v < ts.length → ts[v]! ≤ 4) {x : Pnt} (A : PtA ts x) (h11 : x.op ≠ 11) (hln : x.op ≠ 4 ∧ x.op ≠ 5) (hx : x.op ≤ 8 → 0 ≤ x.x ∧ x.x < ts.length) (hop : 1 ≤ x.op) (hy : 3 ≤ x.op → x.op ≤ 7 → 0 ≤ x.y ∧ x.y < ts.length) (hu : unsF ts s x = false) :
    ((doF ts s x).2 = -1 ∨ (doF ts s x).2 = 1) ∧ ((doF ts s x).2 = -1 → Str ts (doF ts s x).1) := by
  have w' := S.w.do A h11 hx hop hy hu
  have hl := S.w.k.l
  unfold doF at w' ⊢
  by_cases h1 : x.op = 1
  · rw [if_pos h1] at w' ⊢
    have ht := A.t1 h1
    refine ⟨.inl (S.w.put0 (by rw [ht]; decide) _).2, fun _ => ?_⟩
    exact Str.put hl S.r S.i w' ⟨by rw [ht]; decide, by rw [ht]; decide⟩ (fun _ => A.n (.inl h1))
  rw [if_neg h1] at w' ⊢
  by_cases h2 : x.op = 2
  · rw [if_pos h2] at w' ⊢
    have ht := A.t2 (.inl h2)
    have hxb := hx (by omega)
    by_cases h200 : s.cells.length = 200
    · rw [if_pos h200]; exact ⟨.inr rfl, fun h => by cases h⟩
    · rw [if_neg h200] at w' ⊢
      refine ⟨.inl ((S.w.new (A.n (.inr h2)) h200 s.read).putB (v := x.x.toNat) (by omega) ht _ rfl rfl).2, fun _ => ?_⟩
      exact Str.put (s1 := ⟨s.slots, s.cells ++ [nwC x.n], s.read⟩) hl S.r S.i w' ⟨by rw [ht]; decide, by rw [ht]; decide⟩ (fun h => by rw [ht] at h; cases h)
  rw [if_neg h2] at w' ⊢
  by_cases h3 : x.op = 3
  · rw [if_pos h3] at w' ⊢
    have hxb := hx (by omega)
    have hyb := hy (by omega) (by omega)
    obtain ⟨ht, hne⟩ := A.t3 h3
    have hyn : ((x.y.toNat : Nat) : Int) = x.y := by omega
    have hys : s.slots[x.y.toNat]!.set = true := uns_set hu (v := x.y.toNat) (by omega) (by
      unfold useAt; rw [if_pos h3, if_pos hyn]; split <;> decide)
    have hyt : ts[x.y.toNat]! ≠ 3 ∧ ts[x.y.toNat]! ≠ 4 := by
      refine ⟨fun h => ?_, fun h => ?_⟩
      · rw [S.r _ (by omega) (.inl h)] at hys; cases hys
      · rw [S.r _ (by omega) (.inr h)] at hys; cases hys
    by_cases q2 : ts[x.y.toNat]! = 2
    · rw [if_pos (tk_iff.2 (.inl q2))] at w' ⊢
      have g := S.w.give (v := x.y.toNat) (by omega) q2 hys
      obtain ⟨b1, b2, b3, b4⟩ := S.w.o x.y.toNat (by omega) q2 hys
      refine ⟨.inl (g.putB (v := x.x.toNat) (by omega) (by rw [ht]; exact q2) _ hys ?_).2, fun _ => ?_⟩
      · generalize s.slots[x.y.toNat]! = z at b1 b3
        obtain ⟨zs, zn, zc, zt⟩ := z
        dsimp only at b1 b3 ⊢
        rw [b3, Int.toNat_of_nonneg b1]
      · refine Str.put (by dsimp only; rw [List.length_set]; exact hl) (fun u hu' h => ?_) (fun u hu' h => ?_) w' (by rw [ht]; exact hyt) (fun h => by rw [ht, q2] at h; cases h)
        · dsimp only; rw [set_get]; split
          · rfl
          · exact S.r u hu' h
        · dsimp only; rw [set_get]; split
          · exact ⟨by decide, by decide⟩
          · exact S.i u hu' h
    · have hnt : ¬ tkT ts[x.y.toNat]! = true := fun h => (tk_iff.1 h).elim q2 hyt.2
      rw [if_neg hnt] at w' ⊢
      refine ⟨.inl (S.w.put0 (by rw [ht]; exact q2) _).2, fun _ => ?_⟩
      exact Str.put hl S.r S.i w' (by rw [ht]; exact hyt) (fun h => S.i _ (by omega) (by rw [← ht]; exact h))
  rw [if_neg h3] at w' ⊢
  rw [if_neg (by omega : ¬ (x.op = 4 ∨ x.op = 5))] at w' ⊢
  by_cases h6 : x.op = 6
  · rw [if_pos h6] at w' ⊢
    obtain ⟨ht, hty⟩ := A.t6 h6
    have hxb := hx (by omega)
    have hyb := hy (by omega) (by omega)
    have hyn : ((x.y.toNat : Nat) : Int) = x.y := by omega
    have hys : s.slots[x.y.toNat]!.set = true := uns_set hu (v := x.y.toNat) (by omega) (by
      unfold useAt; rw [if_neg (by omega), if_pos (by omega), if_pos hyn]; decide)
    have q2 : ts[x.y.toNat]! = 2 := by
      apply Classical.byContradiction; intro q
      by_cases q3 : ts[x.y.toNat]! = 3 ∨ ts[x.y.toNat]! = 4
      · rw [S.r _ (by omega) q3] at hys; cases hys
      · have := hT x.y.toNat (by omega); omega
    have hk := S.w.k0 (v := x.y.toNat) (by omega) q2 hys false
    have hk0 := tchK_0 hk
    rw [if_pos hk] at w' ⊢
    refine ⟨.inl ((S.w.cells (S.w.k.m.tch _ _) (S.w.h.tch S.w.k.m _ _) (tchM_len _ _ _) (fun c hc => alv_tch _ _ _ c hc) _).put0 (by rw [ht]; decide) _).2, fun _ => ?_⟩
    refine Str.put (s1 := ⟨s.slots, tchM s.cells s.slots[x.y.toNat]!.ptr false, s.read ++ [rdN s.cells s.slots[x.y.toNat]!.ptr]⟩) hl S.r S.i w' ⟨by rw [ht]; decide, by rw [ht]; decide⟩ (fun _ => ?_)
    unfold rdN; rw [if_pos hk]
    exact (S.w.k.m.at hk0.2.2).v
  rw [if_neg h6] at w' ⊢
  by_cases h7 : x.op = 7
  · rw [if_pos h7] at w' ⊢
    obtain ⟨ht, hty⟩ := A.t7 h7
    have hxb := hx (by omega)
    have hyb := hy (by omega) (by omega)
    have hxn : ((x.x.toNat : Nat) : Int) = x.x := by omega
    have hxs : s.slots[x.x.toNat]!.set = true := uns_set hu (v := x.x.toNat) (by omega) (by
      unfold useAt; rw [if_neg (by omega), if_neg (by omega), if_pos h7, if_pos hxn]; decide)
    have q2 : ts[x.x.toNat]! = 2 := by
      rcases ht with h | h
      · exact h
      · rw [S.r _ (by omega) (.inr h)] at hxs; cases hxs
    have hk := S.w.k0 (v := x.x.toNat) (by omega) q2 hxs true
    have hn := S.i x.y.toNat (by omega) hty
    refine ⟨.inl ?_, fun _ => ⟨w', S.r, S.i⟩⟩
    show goK _ = -1
    unfold goK wrK; rw [if_pos hn, if_pos hk]
  rw [if_neg h7] at w' ⊢
  by_cases h8 : x.op = 8
  · rw [if_pos h8] at w' ⊢
    have hxb := hx (by omega)
    have hxn : ((x.x.toNat : Nat) : Int) = x.x := by omega
    have hxs : s.slots[x.x.toNat]!.set = true := uns_set hu (v := x.x.toNat) (by omega) (by
      unfold useAt; rw [if_neg (by omega), if_neg (by omega), if_neg (by omega), if_pos h8, if_pos hxn]; decide)
    have q2 := A.t2 (.inr h8)
    have hk := S.w.k0 (v := x.x.toNat) (by omega) q2 hxs true
    refine ⟨.inl ?_, fun _ => ⟨w', fun u hu' h => ?_, fun u hu' h => ?_⟩⟩
    · show goK _ = -1
      unfold goK; rw [if_pos hk]
    · dsimp only; rw [set_get]; split
      · rfl
      · exact S.r u hu' h
    · dsimp only; rw [set_get]; split
      · exact ⟨by decide, by decide⟩
      · exact S.i u hu' h
  rw [if_neg h8, if_neg h11] at w' ⊢
  exact ⟨.inl rfl, fun _ => S⟩
theorem run_straight {ts : List Int} {pts : List Pnt} (w : WG ts pts) (A : WA ts pts) (hln : ∀ i, i < pts.length → isLn pts[i]! = false) (cs : List Int) (n : Nat) : (runP ts pts cs n).2.1 ≠ 3 ∧ (runP ts pts cs n).2.1 ≠ 4 := by
  have hop : ∀ i, i < pts.length → pts[i]!.op ≠ 4 ∧ pts[i]!.op ≠ 5 := fun i hi => by
    have h := hln i hi
    unfold isLn at h
    simpa using h
  have S0 : Str ts (mc0 ts.length) := by
    have e : ∀ v, v < ts.length → (mc0 ts.length).slots[v]! = sl0 := fun v hv => by
      show (List.replicate ts.length sl0)[v]! = sl0
      rw [getB _ _ (by simpa using hv)]; simp
    exact ⟨Own.start ts, fun v hv _ => by rw [e v hv]; rfl, fun v hv _ => by rw [e v hv]; exact ⟨by decide, by decide⟩⟩
  have st : ∀ a s, a < pts.length → pts[a]!.op ≠ 11 → Str ts s → unsF ts s pts[a]! = false → _ := fun a s ha h11 hI hu =>
    hI.do (fun v hv => (w.ty v hv).2) (A.a a ha) h11 (hop a ha) (fun h => ⟨(w.x a ha).1, (w.x a ha).2 h⟩) (w.op a ha).1 (fun h1 h2 => ⟨(w.y a ha).1, (w.y a ha).2 h1 h2⟩) hu
  have h := run_inv w A (fun _ s => Str ts s) (fun a s k ha h11 he hI hu hgo => (st a s ha h11 hI hu).2 hgo) n 0 cs (mc0 ts.length) 0 w.p0 S0
  change Out ts pts _ (runP ts pts cs n) at h
  rcases h with h | ⟨s', h0, hI, ⟨h3, _⟩ | ⟨h3, h4, h5, h6⟩⟩
  · rw [h]; exact ⟨by decide, by decide⟩
  · rw [h3]; exact ⟨by decide, by decide⟩
  · rw [h6]
    by_cases q : pts[(runP ts pts cs n).2.2]!.op = 11
    · rw [do_11 q, (Own.fin ts.length 0 s' hI.w (by omega) (fun u hu => by omega)).1]; exact ⟨by decide, by decide⟩
    · rcases (st _ s' h0 q hI h3).1 with e | e
      · exact absurd e h4
      · rw [e]; exact ⟨by decide, by decide⟩
theorem fin_read (ts : List Int) : ∀ n v (s : Mc), (finF ts n v s).1.read = s.read
  | 0, _, _ => rfl
  | n + 1, v, s => by
    unfold finF; split
    · split
      · exact fin_read ts n _ _
      · rfl
    · exact fin_read ts n _ _
theorem put_read (ts : List Int) (s : Mc) (v : Nat) (x : Sl) : (putF ts s v x).1.read = s.read := by unfold putF; split <;> rfl
theorem do_read {ts : List Int} {s : Mc} {x : Pnt} (hm : OkM s.cells) (hr : ∀ z ∈ s.read, 0 ≤ z ∧ z ≤ 9) : (∀ z ∈ (doF ts s x).1.read, 0 ≤ z ∧ z ≤ 9) ∧ ((doF ts s x).2 = -1 → (doF ts s x).1.read.length = s.read.length + (if x.op = 6 then 1 else 0)) := by
  have hk : ∀ k, endK k ≠ -1 := fun k => by rcases endK_ne k with h | h <;> rw [h] <;> decide
  unfold doF
  by_cases h1 : x.op = 1
  · rw [if_pos h1, put_read, if_neg (by omega)]; exact ⟨hr, fun _ => rfl⟩
  rw [if_neg h1]
  by_cases h2 : x.op = 2
  · rw [if_pos h2, if_neg (by omega : ¬ x.op = 6)]
    split
    · exact ⟨hr, fun _ => rfl⟩
    · rw [put_read]; exact ⟨hr, fun _ => rfl⟩
  rw [if_neg h2]
  by_cases h3 : x.op = 3
  · rw [if_pos h3, put_read, if_neg (by omega : ¬ x.op = 6)]
    split <;> exact ⟨hr, fun _ => rfl⟩
  rw [if_neg h3]
  by_cases h4 : x.op = 4 ∨ x.op = 5
  · rw [if_pos h4, if_neg (by omega : ¬ x.op = 6)]
    split
    · rw [put_read]; exact ⟨hr, fun _ => rfl⟩
    · exact ⟨hr, fun _ => rfl⟩
  rw [if_neg h4]
  by_cases h6 : x.op = 6
  · rw [if_pos h6, if_pos h6]
    split
    · rename_i hz
      rw [put_read]
      refine ⟨fun z hz' => ?_, fun _ => by simp⟩
      rcases List.mem_append.1 hz' with q | q
      · exact hr z q
      · rw [List.mem_singleton.1 q]
        unfold rdN; rw [if_pos hz]
        exact (hm.at (tchK_0 hz).2.2).v
    · exact ⟨hr, fun h => absurd h (hk _)⟩
  rw [if_neg h6, if_neg h6]
  by_cases h7 : x.op = 7
  · rw [if_pos h7]; exact ⟨hr, fun _ => rfl⟩
  rw [if_neg h7]
  by_cases h8 : x.op = 8
  · rw [if_pos h8]; exact ⟨hr, fun _ => rfl⟩
  rw [if_neg h8]
  split
  · rw [fin_read]; exact ⟨hr, fun _ => rfl⟩
  · exact ⟨hr, fun _ => rfl⟩
theorem run_read {ts : List Int} {pts : List Pnt} (hp : ∀ a : Nat, PtN pts[a]!) : ∀ (l : List Nat) (s : Mc) (last : Nat), OkS ts.length s → (∀ z ∈ s.read, 0 ≤ z ∧ z ≤ 9) → ∀ z ∈ (runF ts pts l s last).1.read, 0 ≤ z ∧ z ≤ 9
  | [], _, _, _, h => h
  | a :: l, s, _, hs, h => by
    have hd := do_read (ts := ts) (x := pts[a]!) hs.m h
    unfold runF; split
    · exact h
    · split
      · exact run_read hp l _ _ (hs.do (hp a)) hd.1
      · exact hd.1
theorem run_loads {ts : List Int} {pts : List Pnt} (hp : ∀ a : Nat, PtN pts[a]!) : ∀ n a cs (s : Mc) (last : Nat), OkS ts.length s → (∀ z ∈ s.read, 0 ≤ z ∧ z ≤ 9) → (runF ts pts (wayF pts n a cs).1 s last).2.1 = 0 →
    (runF ts pts (wayF pts n a cs).1 s last).1.read.length = s.read.length + (wayF pts n a cs).1.countP (fun i => decide (pts[i]!.op = 6)) := by
  have stop : ∀ a (s : Mc) last, pts[a]!.op = 11 → (runF ts pts [a] s last).2.1 = 0 → (runF ts pts [a] s last).1.read.length = s.read.length + [a].countP (fun i => decide (pts[i]!.op = 6)) := by
    intro a s last h11 h0
    have e : [a].countP (fun i => decide (pts[i]!.op = 6)) = 0 := by rw [List.countP_singleton, if_neg (by rw [decide_eq_true_eq, h11]; decide)]
    rw [e]
    unfold runF at h0 ⊢
    split
    · rfl
    · rename_i h1
      rw [if_neg h1] at h0
      split
      · rename_i h2
        rw [do_11 h11] at h2
        rcases fin_end ts ts.length 0 s with q | q | q <;> (rw [q] at h2; cases h2)
      · rw [do_11 h11]; show (finF ts ts.length 0 s).1.read.length = _; rw [fin_read]; rfl
  intro n
  induction n with
  | zero =>
    intro a cs s last hs hr h0
    by_cases h11 : pts[a]!.op = 11
    · have e : (wayF pts 0 a cs).1 = [a] := by unfold wayF; rw [if_pos h11]
      rw [e] at h0 ⊢; exact stop a s last h11 h0
    · have e : (wayF pts 0 a cs).1 = [] := by rw [wayF, if_neg h11]
      rw [e] at h0; cases h0
  | succ n ih =>
    intro a cs s last hs hr h0
    by_cases h11 : pts[a]!.op = 11
    · have e : (wayF pts (n + 1) a cs).1 = [a] := by unfold wayF; rw [if_pos h11]
      rw [e] at h0 ⊢; exact stop a s last h11 h0
    · have e : (wayF pts (n + 1) a cs).1 = a :: (wayF pts n (stpW pts a cs).1 (stpW pts a cs).2).1 := by rw [wayF, if_neg h11]
      rw [e] at h0 ⊢
      have hd := do_read (ts := ts) (x := pts[a]!) hs.m hr
      by_cases h1 : unsF ts s pts[a]! = true
      · have e2 : runF ts pts (a :: (wayF pts n (stpW pts a cs).1 (stpW pts a cs).2).1) s last = (s, 2, a) := by unfold runF; rw [if_pos h1]
        rw [e2] at h0; cases h0
      · by_cases h2 : (doF ts s pts[a]!).2 = -1
        · have e2 : runF ts pts (a :: (wayF pts n (stpW pts a cs).1 (stpW pts a cs).2).1) s last = runF ts pts (wayF pts n (stpW pts a cs).1 (stpW pts a cs).2).1 (doF ts s pts[a]!).1 a := by
            conv => lhs; unfold runF
            rw [if_neg h1, if_pos h2]
          rw [e2] at h0 ⊢
          rw [ih _ _ _ _ (hs.do (hp a)) hd.1 h0, hd.2 h2, List.countP_cons]
          simp only [decide_eq_true_eq]
          omega
        · have e2 : runF ts pts (a :: (wayF pts n (stpW pts a cs).1 (stpW pts a cs).2).1) s last = ((doF ts s pts[a]!).1, (doF ts s pts[a]!).2, a) := by
            unfold runF; rw [if_neg h1, if_neg h2]
          rw [e2] at h0
          rcases do_end (ts := ts) (s := s) h11 with q | q | q | q
          · exact absurd q h2
          all_goals (dsimp only at h0; rw [q] at h0; cases h0)
end Go.AL

namespace Go.AL
structure Co where
  val : Int
  alive : Bool
  next : Int
  av : AV
instance : Inhabited Co := ⟨⟨0, false, 0, .imm 0 []⟩⟩
def cCo (c : Co) : List AV := [iv c.val, bv c.alive, iv c.next, c.av]
instance : FlT cCo 4 := ⟨fun _ => rfl⟩
instance : FE cCo (fun c => [iv c.val, bv c.alive, iv c.next, c.av]) := ⟨fun _ => rfl⟩
def toCo (c : Cl) : Co := ⟨c.val, c.alive, c.next, sl cTg c.stk⟩
def opn (m : List Cl) (j : Nat) (X : AV) : List Co := (m.map toCo).set j { toCo m[j]! with av := X }
theorem flat_toCo (m : List Cl) : flat cCo (m.map toCo) = flat cCl m := by
  unfold flat; rw [List.flatMap_map]; rfl
theorem opn_len {m : List Cl} {j : Nat} {X : AV} : (opn m j X).length = m.length := by unfold opn; rw [List.length_set, List.length_map]
theorem opn_get {m : List Cl} {j : Nat} {X : AV} (h : j < m.length) : (opn m j X)[j]! = ⟨m[j]!.val, m[j]!.alive, m[j]!.next, X⟩ := by
  unfold opn
  rw [getB _ _ (by rw [List.length_set, List.length_map]; exact h), List.getElem_set_self]; rfl
theorem opn_flat {m : List Cl} {j : Nat} {X : AV} (h : j < m.length) : flat cCo (opn m j X) = flat cCl (m.take j) ++ ([iv m[j]!.val, bv m[j]!.alive, iv m[j]!.next] ++ X :: flat cCl (m.drop (j + 1))) := by
  unfold opn
  rw [List.set_eq_take_append_cons_drop, if_pos (by rw [List.length_map]; exact h), ← flat_append, ← List.map_take, flat_toCo, ← List.map_drop]
  congr 1
  show cCo _ ++ flat cCo _ = _
  rw [flat_toCo]; rfl
theorem opn_flat2 {m : List Cl} {j : Nat} {X : AV} (h : j < m.length) : flat cCo (opn m j X) = (flat cCl (m.take j) ++ [iv m[j]!.val, bv m[j]!.alive, iv m[j]!.next]) ++ X :: flat cCl (m.drop (j + 1)) := by
  rw [opn_flat h, List.append_assoc]
theorem opn_self {m : List Cl} {j : Nat} {r : List Tg} : flat cCo (opn m j (sl cTg r)) = flat cCl (m.set j { m[j]! with stk := r }) := by
  rw [← flat_toCo, List.map_set]; rfl
theorem spl_opn {m : List Cl} {j : Nat} {X : AV} (h : j < m.length) : spl (flat cCl m) (0 + j * 4 + 3) [X] = flat cCo (opn m j X) := by
  rw [← flat_toCo]
  have := st_flat (f := cCo) (xs := m.map toCo) (k := j) (j := 3) (new := [X]) (y := { toCo m[j]! with av := X }) (by rw [List.length_map]; exact h) (by simp) (by
    have e : (m.map toCo)[j]! = toCo m[j]! := by rw [getB _ _ (by rw [List.length_map]; exact h), List.getElem_map, getB _ _ h]
    rw [e]; rfl)
  exact this
theorem st_opn {m : List Cl} {j : Nat} {X Y : AV} (h : j < m.length) : spl (flat cCo (opn m j X)) (0 + j * 4 + 3) [Y] = flat cCo (opn m j Y) := by
  have e : opn m j Y = (opn m j X).set j { toCo m[j]! with av := Y } := by unfold opn; rw [List.set_set]
  rw [e]
  exact st_flat (by rw [opn_len]; exact h) (by simp) (by rw [opn_get h]; rfl)
theorem st_opnN {m : List Cl} {j : Nat} {X : AV} {v : Int} (h : j < m.length) : spl (flat cCo (opn m j X)) (0 + j * 4 + 2) [iv v] = flat cCo (opn (m.set j { m[j]! with next := v }) j X) := by
  have e : opn (m.set j { m[j]! with next := v }) j X = (opn m j X).set j ⟨m[j]!.val, m[j]!.alive, v, X⟩ := by
    have e2 : (m.set j { m[j]! with next := v })[j]! = { m[j]! with next := v } := by rw [getB _ _ (by rw [List.length_set]; exact h), List.getElem_set_self]
    unfold opn
    rw [e2, List.map_set, List.set_set, List.set_set]; rfl
  rw [e]
  exact st_flat (by rw [opn_len]; exact h) (by simp) (by rw [opn_get h]; rfl)
theorem Le.cls {ts : List (Nat × AV)} {hs : List (Nat × Option (List AV))} {n : Nat} {z0 : Lo} {o q j k : Nat} {m : List Cl} {r : List Tg} (hj : lkH hs o = some (flat cCo (opn m j (.own q 0 k 2)))) (hq : lkH hs q = some (flat cTg r)) (hk : k = r.length) (hjm : j < m.length) (hoq : o ≠ q) :
    Le ⟨ts, hs, n, z0⟩ ⟨ts, (o, some (flat cCl (m.set j { m[j]! with stk := r }))) :: (q, none) :: hs, n, z0⟩ := by
  subst hk
  rw [opn_flat2 hjm] at hj
  have h := Le.frzC (ts := ts) (n := n) (z0 := z0) _ hj hq hoq
  rw [← opn_self, opn_flat2 hjm]; exact h
theorem rn_opn {ρ : Nat → Option Nat} {m : List Cl} {j k i i' : Nat} (hr : ρ i = some i') : RnL ρ (flat cCo (opn m j (.own i 0 k 2))) (flat cCo (opn m j (.own i' 0 k 2))) := by
  by_cases h : j < m.length
  · rw [opn_flat h, opn_flat h]
    exact RnL.app (RnL.purI inferInstance) (RnL.app (RnL.purI inferInstance) (RnL.cons (RnV.own hr) (RnL.purI inferInstance)))
  · have e : ∀ X, opn m j X = m.map toCo := fun X => List.set_eq_of_length_le (by rw [List.length_map]; omega)
    rw [e, e, flat_toCo]
    exact RnL.purI inferInstance
end Go.AL

namespace Go.AL
open Go.RowKit Go.MapKept
set_option linter.unusedVariables false
set_option linter.unusedSimpArgs false
def MapAt (r : Nat) (ks : List Int) (w : World) : Prop := ∃ es ck, w.heap[r]? = some (.map es ck) ∧ ∀ e ∈ es.toList, ∃ k ∈ ks, e.key = .int .i64 k
structure GsM (C : Ctx) (s : AS) (r : Nat) (ks : List Int) (a : Act) (w : World) : Prop where
  g : Gs C s a w
  m : MapAt r ks w
  l : C.w0.heap.size ≤ r
theorem Fr.trans2 {W0 W1 : Nat → Prop} {w0 w w' : World} (h : Fr W0 w0 w) (k : Fr W1 w w') (hW : ∀ b, W1 b → W0 b ∨ w0.heap.size ≤ b) : Fr W0 w0 w' :=
  ⟨k.os.trans h.os, k.tape.trans h.tape, k.output.trans h.output, Nat.le_trans h.size k.size, fun b hb hw => by
    rw [k.block b (Nat.lt_of_lt_of_le hb h.size) (fun q => (hW b q).elim hw (fun h => by omega))]; exact h.block b hb hw, fun b => Nat.le_trans (h.bs b) (k.bs b)⟩
theorem GsM.base {C : Ctx} {s : AS} {r : Nat} {ks : List Int} {a : Act} {w : World} (h : GsM C s r ks a w) : ∃ C' : Ctx, C'.N = C.N ∧ Gs C' s a w ∧ ∀ s' a' w', Gs C' s' a' w' → GsM C s' r ks a' w' := by
  obtain ⟨⟨h0, ι, g, gh⟩, ⟨es, ck, hm, hk⟩, hl⟩ := h
  let C' : Ctx := { C with w0 := w, W0 := fun b => ∃ id cs β, lkH s.hs id = some cs ∧ ι id = some (some (b, β)), xlt := fun b hb => Nat.lt_of_lt_of_le (C.xlt b hb) gh.fr.size }
  have hW : ∀ b, C'.W0 b → C.W0 b ∨ C.w0.heap.size ≤ b := by
    rintro b ⟨id, cs, β, h1, h2⟩
    rcases gh.obj id cs h1 with ⟨h3, _⟩ | ⟨b', β', arr, e, h3, h4, h5, h6, h7, h8⟩
    · rw [h3] at h2; cases h2
    · rw [h3] at h2; cases h2; exact h8
  have hr : ¬ C'.W0 r := by
    rintro ⟨id, cs, β, h1, h2⟩
    rcases gh.obj id cs h1 with ⟨h3, _⟩ | ⟨b', β', arr, e, h3, h4, h5, h6, h7, h8⟩
    · rw [h3] at h2; cases h2
    · rw [h3] at h2; cases h2; rw [hm] at h4; cases h4
  refine ⟨C', rfl, ⟨h0, ι, ⟨g.df, g.sz, g.tm⟩, ⟨fun id cs h => ?_, gh.sep, Fr.refl _ _, gh.ex, gh.fresh⟩⟩, ?_⟩
  · rcases gh.obj id cs h with h1 | ⟨b', β', arr, e, h3, h4, h5, h6, h7, h8⟩
    · exact .inl h1
    · exact .inr ⟨b', β', arr, e, h3, h4, h5, h6, h7, .inl ⟨id, cs, β', h, h3⟩⟩
  · rintro s' a' w' ⟨h0', ι', g', gh'⟩
    have f : Fr C'.W0 w w' := gh'.fr
    refine ⟨⟨h0', ι', ⟨g'.df, g'.sz, g'.tm⟩, ⟨fun id cs h => ?_, gh'.sep, gh.fr.trans2 f hW, gh'.ex, gh'.fresh⟩⟩, ⟨es, ck, by rw [f.block r (lt_of_heap hm) hr]; exact hm, hk⟩, hl⟩
    rcases gh'.obj id cs h with h1 | ⟨b', β', arr, e, h3, h4, h5, h6, h7, h8⟩
    · exact .inl h1
    · refine .inr ⟨b', β', arr, e, h3, h4, h5, h6, h7, ?_⟩
      rcases h8 with h8 | h8
      · exact hW _ h8
      · exact .inr (Nat.le_trans gh.fr.size h8)
def AWM (P : Program) (N : Nat) (c : Code) (Q : Exit → AS → List Int → Prop) (r : Nat) (ks : List Int) (s : AS) : Prop :=
  ∀ (C : Ctx) (a : Act) (w : World), C.N = N → GsM C s r ks a w → c.wp P (fun e a' w' => ∃ s' ks', Q e s' ks' ∧ GsM C s' r ks' a' w') a w
def RWM (P : Program) (N : Nat) (all : Array Oper) (Q : Exit → AS → List Int → Prop) (r : Nat) (ks : List Int) (l : List Oper) (s : AS) : Prop :=
  ∀ (C : Ctx) (a : Act) (w : World), C.N = N → GsM C s r ks a w → wpList P all (fun e a' w' => ∃ s' ks', Q e s' ks' ∧ GsM C s' r ks' a' w') l a w
def thenM (K : AS → List Int → Prop) (Q : Exit → AS → List Int → Prop) : Exit → AS → List Int → Prop
  | .normal, s, ks => K s ks
  | e, s, ks => Q e s ks
def blkM (id : Nat) (Q : Exit → AS → List Int → Prop) : Exit → AS → List Int → Prop
  | .exit i, s, ks => if i = id then Q .normal s ks else Q (.exit i) s ks
  | e, s, ks => Q e s ks
section
variable {P : Program} {N : Nat} {Q : Exit → AS → List Int → Prop} {s : AS} {r : Nat} {ks : List Int}
theorem awm_lift {c : Code} (h : AW P N c (fun e s' => Q e s' ks) s) : AWM P N c Q r ks s := by
  intro C a w hN g
  obtain ⟨C', h1, h2, h3⟩ := g.base
  exact wp_mono (h C' a w (h1.trans hN) h2) fun e a' w' ⟨s', q1, q2⟩ => ⟨s', ks, q1, h3 _ _ _ q2⟩
theorem awm_seq {x y : Code} (h : AWM P N x (thenM (fun s' ks' => AWM P N y Q r ks' s') Q) r ks s) : AWM P N (.seq x y) Q r ks s := by
  intro C a w hN g
  refine wp_seq (wp_mono (h C a w hN g) ?_)
  rintro e a' w' ⟨s', ks', h1, h2⟩
  cases e with
  | normal => exact h1 C a' w' hN h2
  | _ => exact ⟨s', ks', h1, h2⟩
theorem awm_cond {x y : Code} {c : Operand} {b : Bool} (hc : ev (lk s.ts) c = some (.v (.bool b))) (h1 : b = true → AWM P N x Q r ks s) (h2 : b = false → AWM P N y Q r ks s) : AWM P N (.cond c x y) Q r ks s := by
  rintro C a w hN ⟨⟨h0, ι, g, gh⟩, hm, hl⟩
  have h := ev_ok g hc
  simp only [Rd] at h
  cases b
  · exact wp_cond_false h (h2 rfl C a w hN ⟨⟨h0, ι, g, gh⟩, hm, hl⟩)
  · exact wp_cond_true h (h1 rfl C a w hN ⟨⟨h0, ι, g, gh⟩, hm, hl⟩)
theorem awm_block {id : Nat} {c : Code} (h : AWM P N c (blkM id Q) r ks s) : AWM P N (.block id c) Q r ks s := by
  intro C a w hN g
  refine wp_block (wp_mono (h C a w hN g) ?_)
  rintro e a' w' ⟨s', ks', h1, h2⟩
  cases e with
  | exit i =>
    simp only [Exit.inBlock, blkM] at h1 ⊢
    split
    · rename_i hi; rw [if_pos hi] at h1; exact ⟨s', ks', h1, h2⟩
    · rename_i hi; rw [if_neg hi] at h1; exact ⟨s', ks', h1, h2⟩
  | _ => exact ⟨s', ks', h1, h2⟩
theorem awm_skip (h : Q .normal s ks) : AWM P N .skip Q r ks s := fun C a w _ g => wp_skip ⟨s, ks, h, g⟩
theorem awm_exit {id : Nat} (h : Q (.exit id) s ks) : AWM P N (.exit id) Q r ks s := fun C a w _ g => wp_exit ⟨s, ks, h, g⟩
theorem awm_loop {σ : Type} {c : Code} (p : σ → Prop) (I : σ → AS) (J : σ → List Int) (μ : σ → Nat) (h0 : ∃ i, p i ∧ Le s (I i) ∧ J i = ks)
    (round : ∀ i, p i → AWM P N c (thenM (fun s' ks' => ∃ j, p j ∧ μ j < μ i ∧ Le s' (I j) ∧ J j = ks') Q) r (J i) (I i)) : AWM P N (.loop c) Q r ks s := by
  intro C a w hN g
  obtain ⟨i, h1, h2, h3⟩ := h0
  subst h3
  refine wp_loop (fun a w => ∃ i, p i ∧ GsM C (I i) r (J i) a w) (fun a w => leastOf fun n => ∃ i, p i ∧ GsM C (I i) r (J i) a w ∧ μ i = n) ⟨i, h1, ⟨h2 C a w g.g, g.m, g.l⟩⟩ ?_
  rintro a w ⟨i0, hp0, hg0⟩
  obtain ⟨⟨i, hp, hg, hm⟩, hmin⟩ := leastOf_spec (S := fun n => ∃ i, p i ∧ GsM C (I i) r (J i) a w ∧ μ i = n) ⟨_, i0, hp0, hg0, rfl⟩
  refine wp_mono (round i hp C a w hN hg) ?_
  rintro e a' w' ⟨s', ks', h3, h4⟩
  cases e with
  | normal =>
    obtain ⟨j, q1, q2, q3, rfl⟩ := h3
    have h5 : GsM C (I j) r (J j) a' w' := ⟨q3 C a' w' h4.g, h4.m, h4.l⟩
    refine ⟨⟨j, q1, h5⟩, ?_⟩
    have := (leastOf_spec (S := fun n => ∃ i, p i ∧ GsM C (I i) r (J i) a' w' ∧ μ i = n) ⟨_, j, q1, h5, rfl⟩).2 (μ j) ⟨j, q1, h5, rfl⟩
    omega
  | _ => exact ⟨s', ks', h3, h4⟩
theorem awm_loopK {σ : Type} {c : Code} {ts : List (Nat × AV)} {hs : List (Nat × Option (List AV))} {n : Nat} {z0 : Lo} (kl : List Nat) (kt : List (Nat × AV)) (js : List Nat) (kh : List (Nat × Option (List AV)))
    (ot : σ → List (Nat × AV)) (oh : σ → List (Nat × Option (List AV))) (J : σ → List Int) (p : σ → Prop) (μ : σ → Nat) (i0 : σ) (h0 : p i0) (hJ : J i0 = ks) (hk : selT kl ts = kt) (hj : selH js hs = kh)
    (h1 : subT ts (ot i0)) (h2 : subH hs (oh i0))
    (round : ∀ i, p i → AWM P N c (thenM (fun s' ks' => ∃ j, p j ∧ μ j < μ i ∧ Le s' ⟨ot j ++ kt, oh j ++ kh, n, z0⟩ ∧ J j = ks') Q) r (J i) ⟨ot i ++ kt, oh i ++ kh, n, z0⟩) :
    AWM P N (.loop c) Q r ks ⟨ts, hs, n, z0⟩ := by
  subst hk hj
  exact awm_loop p (fun i => ⟨ot i ++ selT kl ts, oh i ++ selH js hs, n, z0⟩) J μ ⟨i0, h0, Le.lit (subT_append h1 (selT_sub kl)) (subH_append h2 (selH_sub js)) (Nat.le_refl _), hJ⟩ round
theorem awm_region {id : Nat} {l : List Oper} (h : RWM P N l.toArray Q r ks l s) : AWM P N (.region id l.toArray false) Q r ks s :=
  fun C a w hN g => wp_region_lit (h C a w hN g)
variable {all : Array Oper}
theorem wp_chg {o : Oper} {a : Act} {w : World} {K K' : Act → World → Prop} {Q1 Q2 : Exit → Act → World → Prop} (h : ∀ a w, K a w → K' a w) (hq : ∀ e a w, Q1 e a w → e = .normal)
    (hh : o.wp P a w K Q1) : o.wp P a w K' Q2 := by
  have hL : ¬ LetsOut Q1 := fun ⟨a, w, q⟩ => by cases hq _ _ _ q
  unfold Oper.wp at *
  generalize (execOp a.eval o).run P w = z at *
  cases z with
  | ok n w' =>
    cases n <;> simp only [Oper.upon] at hh ⊢ <;>
      first
        | exact h _ _ hh
        | exact Calls.mono hh (fun e w'' he => by cases e <;> first | exact h _ _ he | (cases hq _ _ _ he) | exact absurd he hL)
        | exact Rows.mono hh (fun _ _ he => h _ _ he)
  | halt x w' => cases x <;> simp only [Oper.upon] at hh ⊢ <;> (cases hq _ _ _ hh)
theorem wpList_app {Q1 Q2 : Exit → Act → World → Prop} {l2 : List Oper} (k : ∀ e a w, Q1 e a w → e = .normal ∧ wpList P all Q2 l2 a w) : ∀ (l1 : List Oper) (a : Act) (w : World), wpList P all Q1 l1 a w → wpList P all Q2 (l1 ++ l2) a w
  | [], a, w, h => (k _ _ _ h).2
  | o :: l1, a, w, h => by
    have hL : ¬ LetsOut Q1 := fun ⟨a, w, q⟩ => by cases (k _ _ _ q).1
    rw [List.cons_append]
    unfold wpList at h ⊢
    split
    · rename_i hw
      rw [if_pos hw] at h
      rcases h with h | ⟨_, h⟩
      · exact .inl (wp_chg (fun a w => wpList_app k l1 a w) (fun e a w q => (k e a w q).1) h)
      · exact absurd h hL
    · rename_i hw; rw [if_neg hw] at h; exact wpList_app k l1 _ _ h
theorem rwm_lift {l1 l2 : List Oper} (h : RW P N all (fun e s' => e = .normal ∧ RWM P N all Q r ks l2 s') .txt l1 s) : RWM P N all Q r ks (l1 ++ l2) s := by
  intro C a w hN g
  obtain ⟨C', h1, h2, h3⟩ := g.base
  exact wpList_app (fun e a' w' ⟨s', ⟨q1, q2⟩, q3⟩ => ⟨q1, q2 C a' w' hN (h3 _ _ _ q3)⟩) l1 a w (h C' a w (h1.trans hN) h2)
theorem rwm_nil (h : Q .normal s ks) : RWM P N all Q r ks [] s := fun C a w _ g => wpList_nil ⟨s, ks, h, g⟩
variable {rest : List Oper} {ts : List (Nat × AV)} {hs : List (Nat × Option (List AV))} {n : Nat} {z0 : Lo} {d : Nat} {ty : TypeId} {pos : String} {af : Array Edge}
theorem rwm_guard {dst : Option Tmp} {op : Op} {j e : Nat} {want b : Bool} (hj : (all[j]?).bind (·.dst) = some e) (hb : lk s.ts e = some (.v (.bool b))) (hw : b = want) (h : RWM P N all Q r ks (⟨dst, op, ty, pos, af, none⟩ :: rest) s) :
    RWM P N all Q r ks (⟨dst, op, ty, pos, af, some (j, want)⟩ :: rest) s := by
  subst hw
  intro C a w hN g
  have h' := h C a w hN g
  obtain ⟨⟨h0, ι, g, gh⟩, hm, hl⟩ := g
  have hyl : yielded all a.tmps j = some b := by
    obtain ⟨y, hy, hr⟩ := g.tm e _ hb
    simp only [Rd] at hr
    subst hr
    simp [yielded, hj, hy]
  unfold wpList at h' ⊢
  simp only [Region.wanted, hyl, if_true, beq_self_eq_true] at h' ⊢
  exact h'
theorem run_lookup0 {w : World} {mt kt et : TypeId} {es : Array MapEntry} {ck : Nat} {a : Int} (hu : P.underlying mt = some (.map kt et)) (hk : P.underlying kt = some (.int .i64)) (hz : (P.info? et).bind (·.zero) = some (.bool false))
    (hb : w.heap[r]? = some (.map es ck)) (hn : ∀ e ∈ es.toList, ∃ k, k ≠ a ∧ e.key = .int .i64 k) : (Instr.lookup mt (.map (some r)) (.int .i64 a) false).run P w = .ok (.bool false) w ∧ Instr.findNow (.int .i64) (.int .i64 a) es.toList 0 = some none := by
  have hkey : IsKey (.int .i64) (.int .i64 a) := by simp [IsKey]
  have hf : Instr.findNow (.int .i64) (.int .i64 a) es.toList 0 = some none := by
    rcases findNow_spec hkey es.toList 0 (fun x hx => by obtain ⟨k, _, h2⟩ := hn x hx; rw [h2]; simp [IsKey]) with ⟨h, _⟩ | ⟨j, e, _, h2, h3⟩
    · exact h
    · obtain ⟨k, h4, h5⟩ := hn e (List.mem_of_getElem? h2)
      rw [h5] at h3; cases h3; exact absurd rfl h4
  refine ⟨?_, hf⟩
  cases hi : P.info? et with
  | none => rw [hi] at hz; cases hz
  | some i =>
    rw [hi] at hz
    have hz2 : i.zero = some (.bool false) := hz
    simp [Instr.lookup, run_und hu, Go.MapKept.run_getObj_map hb, run_checkKey hk hkey, run_findKey hk hf, zeroValue, typeInfo, hi, hz2, Result.andThen]
theorem rwm_lookup {mt kt et : TypeId} {x y : Operand} {a : Int} (hu : P.underlying mt = some (.map kt et)) (hk : P.underlying kt = some (.int .i64)) (hz : (P.info? et).bind (·.zero) = some (.bool false))
    (hx : ev (lk ts) x = some (.v (.map (some r)))) (hy : ev (lk ts) y = some (.v (.int .i64 a))) (ha : a ∉ ks) (hN : Nat.blt d N = true) (kk : RWM P N all Q r ks rest ⟨(d, .v (.bool false)) :: ts, hs, n, z0⟩) :
    RWM P N all Q r ks (⟨some d, .lookup mt x y false, ty, pos, af, none⟩ :: rest) ⟨ts, hs, n, z0⟩ := by
  rintro C ac w hCN ⟨⟨h0, ι, g, gh⟩, ⟨es, ck, hm, hkk⟩, hl⟩
  refine wpList_plain rfl (fun K hK => ?_)
  have e1 := ev_ok g hx
  have e2 := ev_ok g hy
  simp only [Rd] at e1 e2
  have hr := (run_lookup0 (P := P) hu hk hz hm (a := a) (fun e he => by obtain ⟨k, h1, h2⟩ := hkk e he; exact ⟨k, fun q => ha (q ▸ h1), h2⟩)).1
  have hop : (execOp ac.eval ⟨some d, .lookup mt x y false, ty, pos, af, none⟩).run P w = .ok (.value (.bool false)) w := by
    simp [execOp, e1, e2, hr]
  simp only [Oper.wp, hop, Oper.upon]
  refine hK _ _ (kk C _ _ hCN ⟨⟨h0, ι, ?_, gh⟩, ⟨es, ck, hm, hkk⟩, hl⟩)
  show TG C ι (lk ((d, _) :: ts)) _ _ _
  rw [lk_cons]
  exact g.put (by have := ltb hN; omega) (by simp [Rd])
theorem rwm_update {mt kt et : TypeId} {x y z : Operand} {a : Int} (hu : P.underlying mt = some (.map kt et)) (hk : P.underlying kt = some (.int .i64)) (hz : (P.info? et).bind (·.zero) = some (.bool false))
    (hx : ev (lk ts) x = some (.v (.map (some r)))) (hy : ev (lk ts) y = some (.v (.int .i64 a))) (ha : a ∉ ks) (kk : RWM P N all Q r (ks ++ [a]) rest ⟨ts, hs, n, z0⟩) :
    RWM P N all Q r ks (⟨none, .mapUpdate mt x y z, ty, pos, af, none⟩ :: rest) ⟨ts, hs, n, z0⟩ := by
  rintro C ac w hCN ⟨⟨h0, ι, g, gh⟩, ⟨es, ck, hm, hkk⟩, hl⟩
  refine wpList_plain rfl (fun K hK => ?_)
  have e1 := ev_ok g hx
  have e2 := ev_ok g hy
  simp only [Rd] at e1 e2
  have hkey : IsKey (.int .i64) (.int .i64 a) := by simp [IsKey]
  have hf := (run_lookup0 (P := P) hu hk hz hm (a := a) (fun e he => by obtain ⟨k, h1, h2⟩ := hkk e he; exact ⟨k, fun q => ha (q ▸ h1), h2⟩)).2
  let o2 : Obj := .map (es.push { key := .int .i64 a, val := ac.eval z, born := ck }) (ck + 1)
  let w2 : World := { w with heap := w.heap.setIfInBounds r o2 }
  have hop : (execOp ac.eval ⟨none, .mapUpdate mt x y z, ty, pos, af, none⟩).run P w = .ok .skip w2 := by
    simp [execOp, e1, e2, Instr.mapUpdate, run_und hu, Go.MapKept.run_getObj_map hm, run_checkKey hk hkey, run_findKey hk hf, Go.MapKept.run_setObj_map _ hm, Result.andThen, w2, o2]
  obtain ⟨hs1, hs2⟩ := heap_set (o' := o2) hm
  have hne : ∀ b c e f, w.heap[b]? = some (.cells c e f) → b ≠ r := fun b c e f h q => by subst q; rw [hm] at h; cases h
  have hbs : ∀ b, bsz w2 b = bsz w b := fun b => by
    by_cases e : b = r
    · subst e; show (match w2.heap[b]? with | some (.cells c _ _) => c.size | _ => 0) = _; rw [show w2.heap[b]? = some o2 from hs1]; simp [bsz, hm, o2]
    · exact bsz_heap (hs2 b e)
  have hcell : ∀ b o v, w.cell? ⟨b, o, none⟩ = some v → w2.cell? ⟨b, o, none⟩ = some v := fun b o v h => by
    have : b ≠ r := fun q => by subst q; rw [World.cell?] at h; simp [hm] at h
    rw [cell?_heap (hs2 b this)]; exact h
  have car : ∀ bad : Nat → Prop, Carry w bad ι w2 bad ι := fun bad => ⟨fun b o v h1 h2 => ⟨h1, hcell b o v h2⟩, fun _ _ h => h, fun b => Nat.le_of_eq (hbs b).symm⟩
  simp only [Oper.wp, hop, Oper.upon]
  refine hK _ _ (kk C _ _ hCN ⟨⟨h0, ι, ?_, ?_⟩, ⟨_, _, hs1, ?_⟩, hl⟩)
  · exact g.carry (car _)
  · refine ⟨fun id cs h => ?_, gh.sep, ⟨gh.fr.os, gh.fr.tape, gh.fr.output, by show C.w0.heap.size ≤ (w.heap.setIfInBounds r o2).size; rw [Array.size_setIfInBounds]; exact gh.fr.size, fun b hb hw => ?_, fun b => by rw [hbs]; exact gh.fr.bs b⟩, gh.ex, gh.fresh⟩
    · rcases gh.obj id cs h with h1 | ⟨b', β', arr, e, h3, h4, h5, h6, h7, h8⟩
      · exact .inl h1
      · exact .inr ⟨b', β', arr, e, h3, by rw [show w2.heap[b']? = w.heap[b']? from hs2 b' (hne _ _ _ _ h4)]; exact h4, h5, RdC.carryB (car _) _ _ _ (fun o v hv => hcell b' o v hv) h6, h7, h8⟩
    · rw [show w2.heap[b]? = w.heap[b]? from hs2 b (by omega)]; exact gh.fr.block b hb hw
  · intro e he
    rw [Array.toList_push, List.mem_append, List.mem_singleton] at he
    rcases he with he | rfl
    · obtain ⟨k, h1, h2⟩ := hkk e he; exact ⟨k, List.mem_append_left _ h1, h2⟩
    · exact ⟨a, by simp, rfl⟩
theorem aw_mapIn {Q : Exit → AS → Prop} {id : Nat} {t : TypeId} {y : Code} (hN : Nat.blt d N = true)
    (h : ∀ r, RWM P N (⟨some d, .makeMap t none, ty, pos, af, none⟩ :: rest).toArray (fun e s' ks' => e = .normal ∧ AWM P N y (fun e s' _ => Q e s') r ks' s') r [] rest ⟨(d, .v (.map (some r))) :: ts, hs, n, z0⟩) :
    AW P N (.seq (.region id (⟨some d, .makeMap t none, ty, pos, af, none⟩ :: rest).toArray false) y) Q ⟨ts, hs, n, z0⟩ := by
  rintro C ac w hCN ⟨h0, ι, g, gh⟩
  refine wp_seq (wp_region_lit (wpList_plain rfl (fun K hK => ?_)))
  have hop : (execOp ac.eval ⟨some d, .makeMap t none, ty, pos, af, none⟩).run P w = .ok (.value (.map (some w.heap.size))) (w.alloc (.map #[] 0)) := by
    simp [execOp, Instr.makeMap, newObj, Sem.run]
  have f : Fr (fun _ => False) w (w.alloc (.map #[] 0)) := by
    refine ⟨rfl, rfl, rfl, by simp, fun b hb _ => Below.heap_alloc w _ b hb, fun b => ?_⟩
    rcases Nat.lt_or_ge b w.heap.size with hb | hb
    · rw [bsz_heap (Below.heap_alloc w _ b hb)]; exact Nat.le_refl _
    · simp [bsz, Array.getElem?_eq_none hb]
  obtain ⟨g2, c2⟩ := gh.ext f
  simp only [Oper.wp, hop, Oper.upon]
  refine hK _ _ ?_
  have hh := h w.heap.size C (ac.put (some d) (.map (some w.heap.size))) (w.alloc (.map #[] 0)) hCN ⟨⟨h0, ι, ?_, g2⟩, ⟨#[], 0, heap_alloc_new w _, by simp⟩, gh.fr.size⟩
  · have := wpList_app (l2 := []) (P := P) (Q2 := Exit.then (y.wp P (fun e a' w' => ∃ s', Q e s' ∧ Gs C s' a' w')) (fun e a' w' => ∃ s', Q e s' ∧ Gs C s' a' w')) (all := (⟨some d, .makeMap t none, ty, pos, af, none⟩ :: rest).toArray)
      (k := fun e a' w' ⟨s', ks', ⟨q1, q2⟩, q3⟩ => ⟨q1, by
        subst q1
        exact wpList_nil (wp_mono (q2 C a' w' hCN q3) (fun e a'' w'' ⟨s'', ks'', u1, u2⟩ => ⟨s'', u1, u2.g⟩))⟩) rest _ _ hh
    rw [List.append_nil] at this
    exact this
  · show TG C ι (lk ((d, _) :: ts)) _ _ _
    rw [lk_cons]
    exact (g.carry c2).put (by have := ltb hN; omega) (by simp [Rd])
theorem bM_here2 {K K2 : AS → List Int → Prop} {id : Nat} (h : Q .normal s ks) : thenM K (thenM K2 (blkM id Q)) (.exit id) s ks := by
  have e : thenM K (thenM K2 (blkM id Q)) (.exit id) s ks = (if id = id then Q .normal s ks else Q (.exit id) s ks) := rfl
  rw [e, if_pos rfl]; exact h
theorem aw_stopM {Q : Exit → AS → Prop} {id : Nat} {t : TypeId} {y : Code} (h : Stop (AW P N (.seq (.region id (⟨some d, .makeMap t none, ty, pos, af, none⟩ :: rest).toArray false) y) Q s)) :
    AW P N (.seq (.region id (⟨some d, .makeMap t none, ty, pos, af, none⟩ :: rest).toArray false) y) Q s := h
theorem aw_goM {Q : Exit → AS → Prop} {c : Code} (h : AW P N c Q s) : Stop (AW P N c Q s) := h
theorem rwm_last {l : List Oper} (h : RW P N all (fun e s' => e = .normal ∧ Q e s' ks) .txt l s) : RWM P N all Q r ks l s := by
  intro C a w hN g
  obtain ⟨C', h1, h2, h3⟩ := g.base
  have := wpList_app (l2 := []) (P := P) (all := all) (Q1 := fun e a' w' => ∃ s', (e = .normal ∧ Q e s' ks) ∧ Gs C' s' a' w') (Q2 := fun e a' w' => ∃ s' ks', Q e s' ks' ∧ GsM C s' r ks' a' w')
    (k := fun e a' w' ⟨s', ⟨q1, q2⟩, q3⟩ => ⟨q1, by subst q1; exact wpList_nil ⟨s', ks, q2, h3 _ _ _ q3⟩⟩) l a w (h C' a w (h1.trans hN) h2)
  rwa [List.append_nil] at this
end
end Go.AL

namespace Go.AL
open Go.RowKit
set_option linter.unusedVariables false
section
variable {P : Program} {N : Nat} {Q : Exit → AS → Prop} {all : Array Oper} {rest : List Oper} {ts : List (Nat × AV)} {hs : List (Nat × Option (List AV))} {n : Nat} {z0 : Lo} {md : Md}
variable {d : Nat} {ty : TypeId} {pos : String} {af : Array Edge}
theorem rx_loadFP {α : Type} {hα : Inhabited α} {f g : α → List AV} {xs : List α} {e id k j z : Nat} {t : TypeId} {x : Operand} {cs' : List AV} [ha : AgT P t true] [hz : SzT P t z] (hx : ev (lk ts) x = some (.optr id (0 + k * e + j)))
    (hH : lkH hs id = some (flat f xs)) (hf : FlT f e) (hg : FE f g) (hk : k < xs.length) (hj : j + z ≤ e) (hc : ((g xs[k]!).drop j).take z = cs') (h0 : Nat.blt 0 z = true) (hN : Nat.blt d N = true) {md' : Md} [hmd : MdA md (rO x ++ rA (.optr id (0 + k * e + j))) [.inl d] md']
    (kk : RW P N all Q md' rest ⟨(d, .agg cs') :: ts, hs, n, z0⟩) : RW P N all Q md (⟨some d, .load t x, ty, pos, af, none⟩ :: rest) ⟨ts, hs, n, z0⟩ := by
  have hl : (g xs[k]!).length = e := by rw [← hg.pf]; exact hf.pf _
  subst hc
  refine rw_loadA (cs := (flat f xs).drop (0 + k * e + j)) hx ha.pf hz.pf (by simp only [deref, hH, Option.map_some]) (cs' := ((g xs[k]!).drop j).take z) ?_ (by rw [List.length_take, List.length_drop, hl]; omega) (by have := ltb h0; omega) (ltb hN) (by rw [hmd.pf]; exact kk)
  rw [Nat.zero_add, ← List.drop_drop, flat_drop f xs k hk, ← hg.pf, List.drop_append_of_le_length (by rw [hf.pf]; omega), List.take_append_of_le_length (by rw [List.length_drop, hf.pf]; omega)]
end
end Go.AL

namespace Go.AL
open Go.RowKit
set_option linter.unusedVariables false
theorem ibin_andZ (c : Int) : ibin .and .i64 c 1 = some (.int .i64 (c % 2)) := by
  have h : (BitVec.ofInt 64 c &&& BitVec.ofInt 64 1).toNat = (c % 2).toNat := by
    rw [BitVec.toNat_and, show (BitVec.ofInt 64 1).toNat = 1 from rfl, Nat.and_one_is_mod, BitVec.toNat_ofInt]
    omega
  have e : ibin .and .i64 c 1 = some (.int .i64 (IntKind.i64.wrap ((BitVec.ofInt 64 c &&& BitVec.ofInt 64 1).toNat : Int))) := rfl
  rw [e, h]
  rcases Int.emod_two_eq c with h2 | h2 <;> rw [h2] <;> rfl
section
variable {P : Program} {N : Nat} {Q : Exit → AS → Prop} {all : Array Oper} {rest : List Oper} {ts : List (Nat × AV)} {hs : List (Nat × Option (List AV))} {n : Nat} {z0 : Lo} {md : Md}
variable {d : Nat} {ty : TypeId} {pos : String} {af : Array Edge}
theorem rx_andZ {t t' : TypeId} {x y : Operand} {c : Int} (hx : ev (lk ts) x = some (.v (.int .i64 c))) (hy : ev (lk ts) y = some (.v (.int .i64 1)))
    (hN : Nat.blt d N = true) {md' : Md} [hmd : MdA md (rO x ++ rO y) [.inl d] md'] (kk : RW P N all Q md' rest ⟨(d, .v (.int .i64 (c % 2))) :: ts, hs, n, z0⟩) : RW P N all Q md (⟨some d, .binOp .and t x y t', ty, pos, af, none⟩ :: rest) ⟨ts, hs, n, z0⟩ :=
  rw_ibin hx hy (.inl rfl) (ibin_andZ c) (ltb hN) (by rw [hmd.pf]; exact kk)
end
end Go.AL

namespace Go.AL
open Go.RowKit
set_option linter.unusedVariables false
class EqS (P : Program) (t : Nat) (S : outParam (List Value → Prop)) : Prop where
  g : P.eqGuardType P.depth t = false
  e : ∀ l, S l → ∀ w : World, (Op.equalIn 10000 t (.agg l.toArray) (.agg l.toArray)).run P w = .ok true w
theorem RdL_vs {w : World} {bad : Nat → Prop} {ι : Pl} : ∀ {vs l : List Value}, RdL w bad ι (vs.map .v) l → l = vs
  | [], l, h => by simp only [List.map_nil, RdL] at h; exact h
  | n :: ns, l, h => by
    simp only [List.map_cons, RdL] at h
    obtain ⟨x, l', rfl, h0, h1, h2⟩ := h
    simp only [Rd] at h1
    rw [h1, RdL_vs h2]
section
variable {P : Program} {N : Nat} {Q : Exit → AS → Prop} {all : Array Oper} {rest : List Oper} {ts : List (Nat × AV)} {hs : List (Nat × Option (List AV))} {n : Nat} {z0 : Lo} {md : Md}
variable {d : Nat} {ty : TypeId} {pos : String} {af : Array Edge}
theorem rx_neqS {t t' : TypeId} {x y : Operand} {cs : List AV} {S : List Value → Prop} (vs : List Value) [he : EqS P t S] (hx : ev (lk ts) x = some (.agg cs)) (hy : ev (lk ts) y = some (.agg cs)) (hc : vs.map .v = cs) (hS : S vs)
    (hN : Nat.blt d N = true) {md' : Md} [hmd : MdA md (rO x ++ rO y) [.inl d] md'] (kk : RW P N all Q md' rest ⟨(d, .v (.bool false)) :: ts, hs, n, z0⟩) : RW P N all Q md (⟨some d, .binOp .neq t x y t', ty, pos, af, none⟩ :: rest) ⟨ts, hs, n, z0⟩ := by
  subst hc
  refine rw_pu rfl rfl (ltb hN) (fun C ι F T H a w ag g gh => ?_) (by rw [hmd.pf]; exact kk)
  have key : ∀ (z : Operand), ev T z = some (.agg (vs.map .v)) → a.eval z = .agg vs.toArray := by
    intro z hz
    have h1 := ev_ok g hz
    simp only [Rd] at h1
    obtain ⟨l, h2, h3⟩ := h1
    rw [h2, RdL_vs h3]
  refine ⟨.bool false, ?_, by simp [Rd]⟩
  have hb : (binOp .neq t (.agg vs.toArray) (.agg vs.toArray)).run P w = .ok (.bool false) w := by
    rw [run_neq_struct, he.e _ hS]; rfl
  simp only [execOp, key x (ag.l.ev.trans hx), key y (ag.r.ev.trans hy), Sem.run_bind, run_eqGuard_agg w .neq t x y _ _ he.g, Result.andThen_ok, hb, Sem.run_pure]
end
end Go.AL

namespace Go.AL
open Go.RowKit
set_option linter.unusedVariables false
theorem rx_eqNilO {P : Program} {N : Nat} {Q : Exit → AS → Prop} {all : Array Oper} {rest : List Oper} {ts : List (Nat × AV)} {hs : List (Nat × Option (List AV))} {n : Nat} {z0 : Lo} {d : Nat} {ty : TypeId} {pos : String} {af : Array Edge}
    {t t' el : TypeId} {x : Operand} {id off m e : Nat} [ht : SlT P t el] (hx : ev (lk ts) x = some (.own id off m e)) (hN : Nat.blt d N = true)
    (kk : ∀ b : Bool, (b = true → m = 0) → RW P N all Q .txt rest ⟨(d, .v (.bool b)) :: ts, hs, n, z0⟩) : RW P N all Q .txt (⟨some d, .binOp .eql t x (.const (.slice none 0 0)) t', ty, pos, af, none⟩ :: rest) ⟨ts, hs, n, z0⟩ := by
  rintro C a w hCN ⟨h0, ι, g, gh⟩
  refine wpList_plain rfl (fun K hK => ?_)
  have h1 := ev_ok g hx
  simp only [Rd] at h1
  obtain ⟨a', m', c, h2, hb⟩ : ∃ a' m' c, a.eval x = .slice a' m' c ∧ (a'.isNone = true → m = 0) := by
    rcases h1 with ⟨_, rfl, a', h2⟩ | ⟨b, β, c, _, h2, _⟩
    · exact ⟨a', 0, 0, h2, fun _ => rfl⟩
    · exact ⟨_, m, c, h2, fun h => by cases h⟩
  have hu := slOf_u ht.pf
  have hg : (eqGuard .eql t x (.const (.slice none 0 0)) (.slice a' m' c) (.slice none 0 0)).run P w = .ok () w := by simp [eqGuard]
  have hr : (execOp a.eval ⟨some d, .binOp .eql t x (.const (.slice none 0 0)) t', ty, pos, af, none⟩).run P w = .ok (.value (.bool a'.isNone)) w := by
    have e2 : a.eval (.const (.slice none 0 0)) = .slice none 0 0 := rfl
    simp only [execOp, h2, e2, Sem.run_bind, hg, Result.andThen_ok, run_eqNil w t el hu, Sem.run_pure]
  simp only [Oper.wp, hr, Oper.upon]
  refine hK _ _ (kk a'.isNone hb C _ _ hCN ⟨h0, ι, ?_, gh⟩)
  show TG C ι (lk ((d, AV.v (.bool a'.isNone)) :: ts)) _ _ _
  rw [lk_cons]
  exact g.put (by have := ltb hN; omega) (by simp [Rd])
end Go.AL

namespace Go.AL
theorem bqs : (∀ a b : Bool, ((a && b) = true) = (a = true ∧ b = true)) ∧ (∀ a b : Bool, ((a && b) = false) ↔ (a = false ∨ b = false)) ∧ (∀ a b : Bool, ((a || b) = true) = (a = true ∨ b = true)) ∧ (∀ a b : Bool, ((a || b) = false) ↔ (a = false ∧ b = false)) ∧
    (∀ (p : Prop) [Decidable p], (decide p = true) = p) ∧ (∀ (p : Prop) [Decidable p], (decide p = false) ↔ ¬ p) ∧ (∀ a : Bool, ((!a) = true) ↔ a = false) ∧ (∀ a : Bool, ((!a) = false) ↔ a = true) ∧ ((!true) = false) ∧ ((!false) = true) ∧ (∀ a b : Int, ¬ a < b ↔ b ≤ a) ∧ (∀ a b : Int, ¬ a ≤ b ↔ b < a) :=
  ⟨fun a b => Bool.and_eq_true a b, fun a b => Bool.and_eq_false_iff, fun a b => Bool.or_eq_true a b, fun a b => Bool.or_eq_false_iff, fun p _ => by simp, fun p _ => decide_eq_false_iff_not, fun a => by simp, fun a => by simp, rfl, rfl, fun _ _ => Int.not_lt, fun _ _ => Int.not_le⟩
theorem lns : (∀ {α : Type} (a b : List α), (a ++ b).length = a.length + b.length) ∧ (∀ {α : Type} (a : α) (b : List α), (a :: b).length = b.length + 1) ∧ (∀ {α : Type}, ([] : List α).length = 0) ∧ (∀ {α : Type} (a : List α) (i : Nat) (x : α), (a.set i x).length = a.length) ∧ (∀ {α : Type} (i : Nat) (a : List α), (a.take i).length = min i a.length) ∧
    (∀ {α β : Type} (f : α → β) (a : List α), (a.map f).length = a.length) ∧ (∀ {α : Type} (n : Nat) (a : α), (List.replicate n a).length = n) ∧ (∀ (l : List Stmt) (b : Nat), (ptL b l).length = npL l) ∧ (∀ n : Nat, n * 1 = n) ∧ (∀ n : Nat, 0 + n = n) ∧ (∀ n : Nat, n + 0 = n) :=
  ⟨fun _ _ => List.length_append, fun _ _ => rfl, rfl, fun _ _ _ => List.length_set, fun _ _ => List.length_take, fun _ _ => List.length_map _, fun _ _ => List.length_replicate, ptL_len, Nat.mul_one, Nat.zero_add, Nat.add_zero⟩
theorem ex3 {α : Type} {p q r : α → Prop} (x : α) (h3 : r x) (h1 : p x) (h2 : q x) : ∃ x, p x ∧ q x ∧ r x := ⟨x, h1, h2, h3⟩
end Go.AL
