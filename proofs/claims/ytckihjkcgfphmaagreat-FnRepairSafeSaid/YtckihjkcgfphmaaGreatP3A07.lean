/-
 A part of the proofs over this program: rules and contracts of its functions (the rules).
-/
import Derived.Test.YtckihjkcgfphmaaGreatP3A06
import Derived.MapKept
import Derived.Orders
set_option linter.unusedVariables false
set_option linter.unusedSimpArgs false
namespace Go.AL
section
variable {ts : List Int} {pts : List Pnt} {a : Nat} {s : Mc}
theorem F5 {f : Flows ts pts} {i : Iss} (ha : a < pts.length) (h : i ∈ B6 ts pts f.Aa f.Am f.Al f.Af f.Ap a) : i ∈ f.iss := List.mem_flatMap.2 ⟨a, List.mem_range.2 ha, h⟩
theorem HB {x : Pnt} {v : Nat} : (iY x).testBit v = decide (bT x = (v : Int)) := by
 unfold iY
 split
 ·rw [Nat.testBit_two_pow, decide_eq_decide]; omega
 ·rw [Nat.zero_testBit]; exact (decide_eq_false (by omega)).symm
theorem KM (w : WG ts pts) (f : Flows ts pts) {L : Nat} (ha : a < pts.length) (h : Cf ts pts a L) : (⟨a, if pts[L]!.op = 5 then 3 else 2, L⟩ : Iss) ∈ f.iss := by
 obtain ⟨v, u, wr, hk, hA, hf, hp, hy, hw⟩ := h
 obtain ⟨hl, hln⟩ := uT hp
 dsimp only at hl hln
 obtain ⟨_, hvl, _⟩ := Ab w hf
 dsimp only at hvl
 have htl := w.tl
 have hpl := w.pl
 have hyw := w.y L hl
 have hx := w.x a ha
 have hya := w.y a ha
 refine F5 ha (List.mem_append_right _ (List.mem_map.2 ⟨(L : Int), dZ.2 ⟨L, by omega, ?_, rfl⟩, by rw [Int.toNat_natCast]⟩))
 rw [Gu w f ha hl hln, Bool.and_eq_true, Bool.and_eq_true]
 refine ⟨List.any_eq_true.2 ?_, ?_, (f.gp.2 a ha L).2 hp⟩
 ·have near : ∀ c : Acc, c.var = (u : Int) → c.write = wr → z6 pts L c = true := fun c h1 h2 => by
   unfold z6
   rw [h1, h2, hy, decide_eq_true rfl, Bool.true_and]
   rcases hw with h | h
   ·rw [h]; rfl
   ·rw [decide_eq_true h]; simp
  unfold kE
  rcases hA with ⟨h, e, e2⟩ | ⟨h, e, e2⟩ | ⟨h, e, e2⟩ | ⟨h, ht, e, e2⟩ | ⟨h, ht, hm, e2⟩
  ·exact ⟨⟨pts[a]!.y, false⟩, List.mem_append_left _ (by rw [if_pos h]; simp), near _ e e2.symm⟩
  ·exact ⟨⟨pts[a]!.y, true⟩, List.mem_append_left _ (by rw [if_neg (by omega), if_pos h]; simp), near _ e e2.symm⟩
  ·exact ⟨⟨pts[a]!.x, true⟩, List.mem_append_left _ (by rw [if_neg (by omega), if_neg (by omega), if_pos h]; simp), near _ e e2.symm⟩
  ·refine ⟨⟨pts[a]!.y, true⟩, List.mem_append_left _ ?_, near _ e e2.symm⟩
   rw [if_neg (by omega), if_neg (by omega), if_neg (by omega), if_pos ⟨h, by rw [e, Int.toNat_natCast]; exact ht⟩]; simp
  ·refine ⟨⟨bT pts[a]!, true⟩, List.mem_append_right _ ?_, near _ h e2.symm⟩
   rw [if_pos ⟨by omega, by rw [h, Int.toNat_natCast]; exact ht, by rw [h, Int.toNat_natCast]; exact (f.gm.2 a ha u).2 hm⟩]; simp
 ·unfold vR
  rw [jG]
  refine .inr ⟨(v : Int), dZ.2 ⟨v, by omega, ?_, rfl⟩, ?_⟩
  ·rw [dS, (f.gl.2 a ha v).2 hk.1, Bool.true_and, Nat.testBit_or, dO, HB, decide_eq_false hk.2.1]
   have : decide (cC ts pts[a]! v ∈ ([2] : List Int)) = false := decide_eq_false (by simpa using hk.2.2)
   rw [this]; simp
  ·rw [Int.toNat_natCast, iG f.gf.1 ha (by omega)]
   exact (f.gf.2 a v ha (by omega) L).2 hf
theorem H6 (w : WG ts pts) (f : Flows ts pts) (ha : a < pts.length) (V : Vs ts pts a s) (h : dI ts s pts[a]! = true) : ∃ v : Nat, (⟨a, 1, v⟩ : Iss) ∈ f.iss := by
 obtain ⟨v, hv, hu, hf⟩ := sJ h
 have htl := w.tl
 refine ⟨v, F5 ha (List.mem_append_left _ (List.mem_map.2 ⟨(v : Int), dZ.2 ⟨v, by omega, ?_, rfl⟩, rfl⟩))⟩
 rw [dS, dO, decide_eq_true hv, Bool.true_and, Bool.and_eq_true]
 refine ⟨decide_eq_true (by have := pC ts pts[a]! v; simp only [List.mem_cons, List.not_mem_nil, or_false]; omega), ?_⟩
 have := f.ga.2 a ha v
 cases q : f.Aa[a]!.testBit v with
 | false => rfl
 | true => exact absurd (V.u v hv hf) ((this.1 q).2)
theorem DR (w : WG ts pts) (A : WA ts pts) (cs : List Int) (n : Nat) : (eR ts pts cs n).2.1 = 0 ∨ (eR ts pts cs n).2.1 = 1 ∨ (eR ts pts cs n).2.1 = 2 ∨ (eR ts pts cs n).2.1 = 3 ∨ (eR ts pts cs n).2.1 = 4 := by
 have h := CF w A (Vs ts pts) (Vs.step w A) n 0 cs (mc0 ts.length) 0 w.p0 Vs.start
 change Jy ts pts (Vs ts pts) (eR ts pts cs n) at h
 rcases h with h | ⟨s', h0, hI, ⟨h3, _⟩ | ⟨_, h4, _, h5⟩⟩
 ·exact .inr (.inl h)
 ·exact .inr (.inr (.inl h3))
 ·rw [h5]
  by_cases q : pts[(eR ts pts cs n).2.2]!.op = 11
  ·rw [sR q]
   rcases mX ts ts.length 0 s' with e | e | e <;> (rw [e]; simp)
  ·rcases G8 (ts := ts) (s := s') q with e | e | e | e
   ·exact absurd e h4
   all_goals (rw [e]; simp)
theorem Ih (w : WG ts pts) (A : WA ts pts) (f : Flows ts pts) (cs : List Int) (n : Nat) (hn : n ≤ 197) (h : (eR ts pts cs n).2.1 ≠ 0 ∧ (eR ts pts cs n).2.1 ≠ 1) :
  ∃ (c : Nat) (i : Iss), i ∈ f.iss ∧ i.point = (c : Int) ∧ c < pts.length ∧ ((eR ts pts cs n).2.1 = 2 ∧ c = (eR ts pts cs n).2.2 ∨ (eR ts pts cs n).2.1 ≠ 2 ∧ i.kind ≠ 1 ∧ Rt pts c (eR ts pts cs n).2.2) := by
 by_cases h2 : (eR ts pts cs n).2.1 = 2
 ·have ho := CF w A (Vs ts pts) (Vs.step w A) n 0 cs (mc0 ts.length) 0 w.p0 Vs.start
  change Jy ts pts (Vs ts pts) (eR ts pts cs n) at ho
  rcases ho with ho | ⟨s', h0, hI, ⟨_, h3, _⟩ | ⟨_, h4, _, h5⟩⟩
  ·rw [ho] at h2; cases h2
  ·obtain ⟨v, hv⟩ := H6 w f h0 hI h3
   exact ⟨_, _, hv, rfl, h0, .inl ⟨h2, rfl⟩⟩
  ·rw [h2] at h5
   by_cases q : pts[(eR ts pts cs n).2.2]!.op = 11
   ·rw [sR q] at h5
    rcases mX ts ts.length 0 s' with e | e | e <;> (rw [e] at h5; cases h5)
   ·rcases G8 (ts := ts) (s := s') q with e | e | e | e <;> (rw [e] at h5; cases h5)
 ·have hc := DR w A cs n
  obtain ⟨c, L, h3, h4⟩ := FF w A cs n hn (by omega)
  have hcl : c < pts.length := by
   clear h3 hc h h2
   generalize (eR ts pts cs n).2.2 = b at h4
   induction h4 with
   | base h => exact h.1
   | step _ _ ih => exact ih
  refine ⟨c, _, KM w f hcl h3, rfl, hcl, .inr ⟨h2, ?_, h4⟩⟩
  dsimp only
  split <;> decide
theorem En (w : WG ts pts) (A : WA ts pts) (f : Flows ts pts) (cs : List Int) (n : Nat) (hn : n ≤ 197) (h : f.iss = []) : (eR ts pts cs n).2.1 = 0 ∨ (eR ts pts cs n).2.1 = 1 := by
 apply Classical.byContradiction; intro q
 obtain ⟨c, i, hi, _⟩ := Ih w A f cs n hn ⟨fun e => q (.inl e), fun e => q (.inr e)⟩
 rw [h] at hi; cases hi
end
end Go.AL

namespace Go.AL
open Go.RowKit Go.MapKept
set_option linter.unusedVariables false
set_option linter.unusedSimpArgs false
def LF (r : Nat) (ks : List Int) (w : World) : Prop := ∃ es ck, w.heap[r]? = some (.map es ck) ∧ ∀ e ∈ es.toList, ∃ k ∈ ks, e.key = .int .i64 k
structure GsM (C : Ctx) (s : AS) (r : Nat) (ks : List Int) (a : Act) (w : World) : Prop where
 g : Gs C s a w
 m : LF r ks w
 l : C.w0.heap.size ≤ r
theorem Fr.trans2 {W0 W1 : Nat → Prop} {w0 w w' : World} (h : Fr W0 w0 w) (k : Fr W1 w w') (hW : ∀ b, W1 b → W0 b ∨ w0.heap.size ≤ b) : Fr W0 w0 w' :=
 ⟨k.os.trans h.os, k.tape.trans h.tape, k.output.trans h.output, Nat.le_trans h.size k.size, fun b hb hw => by
  rw [k.block b (Nat.lt_of_lt_of_le hb h.size) (fun q => (hW b q).elim hw (fun h => by omega))]; exact h.block b hb hw, fun b => Nat.le_trans (h.bs b) (k.bs b)⟩
theorem GsM.base {C : Ctx} {s : AS} {r : Nat} {ks : List Int} {a : Act} {w : World} (h : GsM C s r ks a w) : ∃ C' : Ctx, C'.N = C.N ∧ Gs C' s a w ∧ ∀ s' a' w', Gs C' s' a' w' → GsM C s' r ks a' w' := by
 obtain ⟨⟨h0, ι, g, gh⟩, ⟨es, ck, hm, hk⟩, hl⟩ := h
 let C' : Ctx := { C with w0 := w, W0 := fun b => ∃ id cs β, cO s.hs id = some cs ∧ ι id = some (some (b, β)), xlt := fun b hb => Nat.lt_of_lt_of_le (C.xlt b hb) gh.fr.size }
 have hW : ∀ b, C'.W0 b → C.W0 b ∨ C.w0.heap.size ≤ b := by
  rintro b ⟨id, cs, β, h1, h2⟩
  rcases gh.obj id cs h1 with ⟨h3, _⟩ | ⟨b', β', arr, e, h3, h4, h5, h6, h7, h8⟩
  ·rw [h3] at h2; cases h2
  ·rw [h3] at h2; cases h2; exact h8
 have hr : ¬ C'.W0 r := by
  rintro ⟨id, cs, β, h1, h2⟩
  rcases gh.obj id cs h1 with ⟨h3, _⟩ | ⟨b', β', arr, e, h3, h4, h5, h6, h7, h8⟩
  ·rw [h3] at h2; cases h2
  ·rw [h3] at h2; cases h2; rw [hm] at h4; cases h4
 refine ⟨C', rfl, ⟨h0, ι, ⟨g.df, g.sz, g.tm⟩, ⟨fun id cs h => ?_, gh.sep, Fr.refl _ _, gh.ex, gh.fresh⟩⟩, ?_⟩
 ·rcases gh.obj id cs h with h1 | ⟨b', β', arr, e, h3, h4, h5, h6, h7, h8⟩
  ·exact .inl h1
  ·exact .inr ⟨b', β', arr, e, h3, h4, h5, h6, h7, .inl ⟨id, cs, β', h, h3⟩⟩
 ·rintro s' a' w' ⟨h0', ι', g', gh'⟩
  have f : Fr C'.W0 w w' := gh'.fr
  refine ⟨⟨h0', ι', ⟨g'.df, g'.sz, g'.tm⟩, ⟨fun id cs h => ?_, gh'.sep, gh.fr.trans2 f hW, gh'.ex, gh'.fresh⟩⟩, ⟨es, ck, by rw [f.block r (gQ hm) hr]; exact hm, hk⟩, hl⟩
  rcases gh'.obj id cs h with h1 | ⟨b', β', arr, e, h3, h4, h5, h6, h7, h8⟩
  ·exact .inl h1
  ·refine .inr ⟨b', β', arr, e, h3, h4, h5, h6, h7, ?_⟩
   rcases h8 with h8 | h8
   ·exact hW _ h8
   ·exact .inr (Nat.le_trans gh.fr.size h8)
def rW (P : Program) (N : Nat) (c : Code) (Q : Exit → AS → List Int → Prop) (r : Nat) (ks : List Int) (s : AS) : Prop :=
 ∀ (C : Ctx) (a : Act) (w : World), C.N = N → GsM C s r ks a w → c.wp P (fun e a' w' => ∃ s' ks', Q e s' ks' ∧ GsM C s' r ks' a' w') a w
def EO (P : Program) (N : Nat) (all : Array Oper) (Q : Exit → AS → List Int → Prop) (r : Nat) (ks : List Int) (l : List Oper) (s : AS) : Prop :=
 ∀ (C : Ctx) (a : Act) (w : World), C.N = N → GsM C s r ks a w → wpList P all (fun e a' w' => ∃ s' ks', Q e s' ks' ∧ GsM C s' r ks' a' w') l a w
def sH (K : AS → List Int → Prop) (Q : Exit → AS → List Int → Prop) : Exit → AS → List Int → Prop
 | .normal, s, ks => K s ks
 | e, s, ks => Q e s ks
def H5 (id : Nat) (Q : Exit → AS → List Int → Prop) : Exit → AS → List Int → Prop
 | .exit i, s, ks => if i = id then Q .normal s ks else Q (.exit i) s ks
 | e, s, ks => Q e s ks
section
variable {P : Program} {N : Nat} {Q : Exit → AS → List Int → Prop} {s : AS} {r : Nat} {ks : List Int}
theorem oH {c : Code} (h : AW P N c (fun e s' => Q e s' ks) s) : rW P N c Q r ks s := by
 intro C a w hN g
 obtain ⟨C', h1, h2, h3⟩ := g.base
 exact wp_mono (h C' a w (h1.trans hN) h2) fun e a' w' ⟨s', q1, q2⟩ => ⟨s', ks, q1, h3 _ _ _ q2⟩
theorem lM {x y : Code} (h : rW P N x (sH (fun s' ks' => rW P N y Q r ks' s') Q) r ks s) : rW P N (.seq x y) Q r ks s := by
 intro C a w hN g
 refine wp_seq (wp_mono (h C a w hN g) ?_)
 rintro e a' w' ⟨s', ks', h1, h2⟩
 cases e with
 | normal => exact h1 C a' w' hN h2
 | _ => exact ⟨s', ks', h1, h2⟩
theorem zW {x y : Code} {c : Operand} {b : Bool} (hc : ev (lk s.ts) c = some (.v (.bool b))) (h1 : b = true → rW P N x Q r ks s) (h2 : b = false → rW P N y Q r ks s) : rW P N (.cond c x y) Q r ks s := by
 rintro C a w hN ⟨⟨h0, ι, g, gh⟩, hm, hl⟩
 have h := c9 g hc
 simp only [Rd] at h
 cases b
 ·exact wp_cond_false h (h2 rfl C a w hN ⟨⟨h0, ι, g, gh⟩, hm, hl⟩)
 ·exact wp_cond_true h (h1 rfl C a w hN ⟨⟨h0, ι, g, gh⟩, hm, hl⟩)
theorem vX {id : Nat} {c : Code} (h : rW P N c (H5 id Q) r ks s) : rW P N (.block id c) Q r ks s := by
 intro C a w hN g
 refine wp_block (wp_mono (h C a w hN g) ?_)
 rintro e a' w' ⟨s', ks', h1, h2⟩
 cases e with
 | exit i =>
  simp only [Exit.inBlock, H5] at h1 ⊢
  split
  ·rename_i hi; rw [if_pos hi] at h1; exact ⟨s', ks', h1, h2⟩
  ·rename_i hi; rw [if_neg hi] at h1; exact ⟨s', ks', h1, h2⟩
 | _ => exact ⟨s', ks', h1, h2⟩
theorem Ax (h : Q .normal s ks) : rW P N .skip Q r ks s := fun C a w _ g => wp_skip ⟨s, ks, h, g⟩
theorem Ft {id : Nat} (h : Q (.exit id) s ks) : rW P N (.exit id) Q r ks s := fun C a w _ g => wp_exit ⟨s, ks, h, g⟩
theorem Hs {σ : Type} {c : Code} (p : σ → Prop) (I : σ → AS) (J : σ → List Int) (μ : σ → Nat) (h0 : ∃ i, p i ∧ Le s (I i) ∧ J i = ks)
  (round : ∀ i, p i → rW P N c (sH (fun s' ks' => ∃ j, p j ∧ μ j < μ i ∧ Le s' (I j) ∧ J j = ks') Q) r (J i) (I i)) : rW P N (.loop c) Q r ks s := by
 intro C a w hN g
 obtain ⟨i, h1, h2, h3⟩ := h0
 subst h3
 refine wp_loop (fun a w => ∃ i, p i ∧ GsM C (I i) r (J i) a w) (fun a w => oM fun n => ∃ i, p i ∧ GsM C (I i) r (J i) a w ∧ μ i = n) ⟨i, h1, ⟨h2 C a w g.g, g.m, g.l⟩⟩ ?_
 rintro a w ⟨i0, hp0, hg0⟩
 obtain ⟨⟨i, hp, hg, hm⟩, hmin⟩ := jR (S := fun n => ∃ i, p i ∧ GsM C (I i) r (J i) a w ∧ μ i = n) ⟨_, i0, hp0, hg0, rfl⟩
 refine wp_mono (round i hp C a w hN hg) ?_
 rintro e a' w' ⟨s', ks', h3, h4⟩
 cases e with
 | normal =>
  obtain ⟨j, q1, q2, q3, rfl⟩ := h3
  have h5 : GsM C (I j) r (J j) a' w' := ⟨q3 C a' w' h4.g, h4.m, h4.l⟩
  refine ⟨⟨j, q1, h5⟩, ?_⟩
  have := (jR (S := fun n => ∃ i, p i ∧ GsM C (I i) r (J i) a' w' ∧ μ i = n) ⟨_, j, q1, h5, rfl⟩).2 (μ j) ⟨j, q1, h5, rfl⟩
  omega
 | _ => exact ⟨s', ks', h3, h4⟩
theorem EN {σ : Type} {c : Code} {ts : List (Nat × AV)} {hs : List (Nat × Option (List AV))} {n : Nat} {z0 : Lo} (kl : List Nat) (kt : List (Nat × AV)) (js : List Nat) (kh : List (Nat × Option (List AV)))
  (ot : σ → List (Nat × AV)) (oh : σ → List (Nat × Option (List AV))) (J : σ → List Int) (p : σ → Prop) (μ : σ → Nat) (i0 : σ) (h0 : p i0) (hJ : J i0 = ks) (hk : Dw kl ts = kt) (hj : Hl js hs = kh)
  (h1 : vA ts (ot i0)) (h2 : tH hs (oh i0))
  (round : ∀ i, p i → rW P N c (sH (fun s' ks' => ∃ j, p j ∧ μ j < μ i ∧ Le s' ⟨ot j ++ kt, oh j ++ kh, n, z0⟩ ∧ J j = ks') Q) r (J i) ⟨ot i ++ kt, oh i ++ kh, n, z0⟩) :
  rW P N (.loop c) Q r ks ⟨ts, hs, n, z0⟩ := by
 subst hk hj
 exact Hs p (fun i => ⟨ot i ++ Dw kl ts, oh i ++ Hl js hs, n, z0⟩) J μ ⟨i0, h0, Le.lit (qN h1 (oK kl)) (qD h2 (sB js)) (Nat.le_refl _), hJ⟩ round
theorem tM {id : Nat} {l : List Oper} (h : EO P N l.toArray Q r ks l s) : rW P N (.region id l.toArray false) Q r ks s :=
 fun C a w hN g => wp_region_lit (h C a w hN g)
variable {all : Array Oper}
theorem Lj {o : Oper} {a : Act} {w : World} {K K' : Act → World → Prop} {Q1 Q2 : Exit → Act → World → Prop} (h : ∀ a w, K a w → K' a w) (hq : ∀ e a w, Q1 e a w → e = .normal)
  (hh : o.wp P a w K Q1) : o.wp P a w K' Q2 := by
 have hL : ¬ LetsOut Q1 := fun ⟨a, w, q⟩ => by cases hq _ _ _ q
 unfold Oper.wp at *
 generalize (execOp a.eval o).run P w = z at *
 cases z with
 | ok n w' =>
  cases n <;> simp only [Oper.upon] at hh ⊢ <;>
   first
    | exact h _ _ hh
    | exact Calls.mono hh (fun e w'' he => by cases e <;> first | exact h _ _ he | (cases hq _ _ _ he) | exact absurd he hL)
    | exact Rows.mono hh (fun _ _ he => h _ _ he)
 | halt x w' => cases x <;> simp only [Oper.upon] at hh ⊢ <;> (cases hq _ _ _ hh)
theorem j7 {Q1 Q2 : Exit → Act → World → Prop} {l2 : List Oper} (k : ∀ e a w, Q1 e a w → e = .normal ∧ wpList P all Q2 l2 a w) : ∀ (l1 : List Oper) (a : Act) (w : World), wpList P all Q1 l1 a w → wpList P all Q2 (l1 ++ l2) a w
 | [], a, w, h => (k _ _ _ h).2
 | o :: l1, a, w, h => by
  have hL : ¬ LetsOut Q1 := fun ⟨a, w, q⟩ => by cases (k _ _ _ q).1
  rw [List.cons_append]
  unfold wpList at h ⊢
  split
  ·rename_i hw
   rw [if_pos hw] at h
   rcases h with h | ⟨_, h⟩
   ·exact .inl (Lj (fun a w => j7 k l1 a w) (fun e a w q => (k e a w q).1) h)
   ·exact absurd h hL
  ·rename_i hw; rw [if_neg hw] at h; exact j7 k l1 _ _ h
theorem Ak {l1 l2 : List Oper} (h : RW P N all (fun e s' => e = .normal ∧ EO P N all Q r ks l2 s') .txt l1 s) : EO P N all Q r ks (l1 ++ l2) s := by
 intro C a w hN g
 obtain ⟨C', h1, h2, h3⟩ := g.base
 exact j7 (fun e a' w' ⟨s', ⟨q1, q2⟩, q3⟩ => ⟨q1, q2 C a' w' hN (h3 _ _ _ q3)⟩) l1 a w (h C' a w (h1.trans hN) h2)
theorem Ji (h : Q .normal s ks) : EO P N all Q r ks [] s := fun C a w _ g => wpList_nil ⟨s, ks, h, g⟩
variable {rest : List Oper} {ts : List (Nat × AV)} {hs : List (Nat × Option (List AV))} {n : Nat} {z0 : Lo} {d : Nat} {ty : TypeId} {pos : String} {af : Array Edge}
theorem Ec {dst : Option Tmp} {op : Op} {j e : Nat} {want b : Bool} (hj : (all[j]?).bind (·.dst) = some e) (hb : lk s.ts e = some (.v (.bool b))) (hw : b = want) (h : EO P N all Q r ks (⟨dst, op, ty, pos, af, none⟩ :: rest) s) :
  EO P N all Q r ks (⟨dst, op, ty, pos, af, some (j, want)⟩ :: rest) s := by
 subst hw
 intro C a w hN g
 have h' := h C a w hN g
 obtain ⟨⟨h0, ι, g, gh⟩, hm, hl⟩ := g
 have hyl : yielded all a.tmps j = some b := by
  obtain ⟨y, hy, hr⟩ := g.tm e _ hb
  simp only [Rd] at hr
  subst hr
  simp [yielded, hj, hy]
 unfold wpList at h' ⊢
 simp only [Region.wanted, hyl, if_true, beq_self_eq_true] at h' ⊢
 exact h'
theorem qS {w : World} {mt kt et : TypeId} {es : Array MapEntry} {ck : Nat} {a : Int} (hu : P.underlying mt = some (.map kt et)) (hk : P.underlying kt = some (.int .i64)) (hz : (P.info? et).bind (·.zero) = some (.bool false))
  (hb : w.heap[r]? = some (.map es ck)) (hn : ∀ e ∈ es.toList, ∃ k, k ≠ a ∧ e.key = .int .i64 k) : (Instr.lookup mt (.map (some r)) (.int .i64 a) false).run P w = .ok (.bool false) w ∧ Instr.findNow (.int .i64) (.int .i64 a) es.toList 0 = some none := by
 have hkey : IsKey (.int .i64) (.int .i64 a) := by simp [IsKey]
 have hf : Instr.findNow (.int .i64) (.int .i64 a) es.toList 0 = some none := by
  rcases findNow_spec hkey es.toList 0 (fun x hx => by obtain ⟨k, _, h2⟩ := hn x hx; rw [h2]; simp [IsKey]) with ⟨h, _⟩ | ⟨j, e, _, h2, h3⟩
  ·exact h
  ·obtain ⟨k, h4, h5⟩ := hn e (List.mem_of_getElem? h2)
   rw [h5] at h3; cases h3; exact absurd rfl h4
 refine ⟨?_, hf⟩
 cases hi : P.info? et with
 | none => rw [hi] at hz; cases hz
 | some i =>
  rw [hi] at hz
  have hz2 : i.zero = some (.bool false) := hz
  simp [Instr.lookup, c8 hu, Go.MapKept.run_getObj_map hb, run_checkKey hk hkey, run_findKey hk hf, zeroValue, typeInfo, hi, hz2, Result.andThen]
theorem BW {mt kt et : TypeId} {x y : Operand} {a : Int} (hu : P.underlying mt = some (.map kt et)) (hk : P.underlying kt = some (.int .i64)) (hz : (P.info? et).bind (·.zero) = some (.bool false))
  (hx : ev (lk ts) x = some (.v (.map (some r)))) (hy : ev (lk ts) y = some (.v (.int .i64 a))) (ha : a ∉ ks) (hN : Nat.blt d N = true) (kk : EO P N all Q r ks rest ⟨(d, .v (.bool false)) :: ts, hs, n, z0⟩) :
  EO P N all Q r ks (⟨some d, .lookup mt x y false, ty, pos, af, none⟩ :: rest) ⟨ts, hs, n, z0⟩ := by
 rintro C ac w hCN ⟨⟨h0, ι, g, gh⟩, ⟨es, ck, hm, hkk⟩, hl⟩
 refine wpList_plain rfl (fun K hK => ?_)
 have e1 := c9 g hx
 have e2 := c9 g hy
 simp only [Rd] at e1 e2
 have hr := (qS (P := P) hu hk hz hm (a := a) (fun e he => by obtain ⟨k, h1, h2⟩ := hkk e he; exact ⟨k, fun q => ha (q ▸ h1), h2⟩)).1
 have hop : (execOp ac.eval ⟨some d, .lookup mt x y false, ty, pos, af, none⟩).run P w = .ok (.value (.bool false)) w := by
  simp [execOp, e1, e2, hr]
 simp only [Oper.wp, hop, Oper.upon]
 refine hK _ _ (kk C _ _ hCN ⟨⟨h0, ι, ?_, gh⟩, ⟨es, ck, hm, hkk⟩, hl⟩)
 show TG C ι (lk ((d, _) :: ts)) _ _ _
 rw [jQ]
 exact g.put (by have := eH hN; omega) (by simp [Rd])
theorem Cs {mt kt et : TypeId} {x y z : Operand} {a : Int} (hu : P.underlying mt = some (.map kt et)) (hk : P.underlying kt = some (.int .i64)) (hz : (P.info? et).bind (·.zero) = some (.bool false))
  (hx : ev (lk ts) x = some (.v (.map (some r)))) (hy : ev (lk ts) y = some (.v (.int .i64 a))) (ha : a ∉ ks) (kk : EO P N all Q r (ks ++ [a]) rest ⟨ts, hs, n, z0⟩) :
  EO P N all Q r ks (⟨none, .mapUpdate mt x y z, ty, pos, af, none⟩ :: rest) ⟨ts, hs, n, z0⟩ := by
 rintro C ac w hCN ⟨⟨h0, ι, g, gh⟩, ⟨es, ck, hm, hkk⟩, hl⟩
 refine wpList_plain rfl (fun K hK => ?_)
 have e1 := c9 g hx
 have e2 := c9 g hy
 simp only [Rd] at e1 e2
 have hkey : IsKey (.int .i64) (.int .i64 a) := by simp [IsKey]
 have hf := (qS (P := P) hu hk hz hm (a := a) (fun e he => by obtain ⟨k, h1, h2⟩ := hkk e he; exact ⟨k, fun q => ha (q ▸ h1), h2⟩)).2
 let o2 : Obj := .map (es.push { key := .int .i64 a, val := ac.eval z, born := ck }) (ck + 1)
 let w2 : World := { w with heap := w.heap.setIfInBounds r o2 }
 have hop : (execOp ac.eval ⟨none, .mapUpdate mt x y z, ty, pos, af, none⟩).run P w = .ok .skip w2 := by
  simp [execOp, e1, e2, Instr.mapUpdate, c8 hu, Go.MapKept.run_getObj_map hm, run_checkKey hk hkey, run_findKey hk hf, Go.MapKept.run_setObj_map _ hm, Result.andThen, w2, o2]
 obtain ⟨hs1, hs2⟩ := heap_set (o' := o2) hm
 have hne : ∀ b c e f, w.heap[b]? = some (.cells c e f) → b ≠ r := fun b c e f h q => by subst q; rw [hm] at h; cases h
 have hbs : ∀ b, rM w2 b = rM w b := fun b => by
  by_cases e : b = r
  ·subst e; show (match w2.heap[b]? with | some (.cells c _ _) => c.size | _ => 0) = _; rw [show w2.heap[b]? = some o2 from hs1]; simp [rM, hm, o2]
  ·exact oY (hs2 b e)
 have hcell : ∀ b o v, w.cell? ⟨b, o, none⟩ = some v → w2.cell? ⟨b, o, none⟩ = some v := fun b o v h => by
  have : b ≠ r := fun q => by subst q; rw [World.cell?] at h; simp [hm] at h
  rw [fL (hs2 b this)]; exact h
 have car : ∀ bad : Nat → Prop, Carry w bad ι w2 bad ι := fun bad => ⟨fun b o v h1 h2 => ⟨h1, hcell b o v h2⟩, fun _ _ h => h, fun b => Nat.le_of_eq (hbs b).symm⟩
 simp only [Oper.wp, hop, Oper.upon]
 refine hK _ _ (kk C _ _ hCN ⟨⟨h0, ι, ?_, ?_⟩, ⟨_, _, hs1, ?_⟩, hl⟩)
 ·exact g.carry (car _)
 ·refine ⟨fun id cs h => ?_, gh.sep, ⟨gh.fr.os, gh.fr.tape, gh.fr.output, by show C.w0.heap.size ≤ (w.heap.setIfInBounds r o2).size; rw [Array.size_setIfInBounds]; exact gh.fr.size, fun b hb hw => ?_, fun b => by rw [hbs]; exact gh.fr.bs b⟩, gh.ex, gh.fresh⟩
  ·rcases gh.obj id cs h with h1 | ⟨b', β', arr, e, h3, h4, h5, h6, h7, h8⟩
   ·exact .inl h1
   ·exact .inr ⟨b', β', arr, e, h3, by rw [show w2.heap[b']? = w.heap[b']? from hs2 b' (hne _ _ _ _ h4)]; exact h4, h5, RdC.carryB (car _) _ _ _ (fun o v hv => hcell b' o v hv) h6, h7, h8⟩
  ·rw [show w2.heap[b]? = w.heap[b]? from hs2 b (by omega)]; exact gh.fr.block b hb hw
 ·intro e he
  rw [Array.toList_push, List.mem_append, List.mem_singleton] at he
  rcases he with he | rfl
  ·obtain ⟨k, h1, h2⟩ := hkk e he; exact ⟨k, List.mem_append_left _ h1, h2⟩
  ·exact ⟨a, by simp, rfl⟩
theorem FO {Q : Exit → AS → Prop} {id : Nat} {t : TypeId} {y : Code} (hN : Nat.blt d N = true)
  (h : ∀ r, EO P N (⟨some d, .makeMap t none, ty, pos, af, none⟩ :: rest).toArray (fun e s' ks' => e = .normal ∧ rW P N y (fun e s' _ => Q e s') r ks' s') r [] rest ⟨(d, .v (.map (some r))) :: ts, hs, n, z0⟩) :
  AW P N (.seq (.region id (⟨some d, .makeMap t none, ty, pos, af, none⟩ :: rest).toArray false) y) Q ⟨ts, hs, n, z0⟩ := by
 rintro C ac w hCN ⟨h0, ι, g, gh⟩
 refine wp_seq (wp_region_lit (wpList_plain rfl (fun K hK => ?_)))
 have hop : (execOp ac.eval ⟨some d, .makeMap t none, ty, pos, af, none⟩).run P w = .ok (.value (.map (some w.heap.size))) (w.alloc (.map #[] 0)) := by
  simp [execOp, Instr.makeMap, newObj, Sem.run]
 have f : Fr (fun _ => False) w (w.alloc (.map #[] 0)) := by
  refine ⟨rfl, rfl, rfl, by simp, fun b hb _ => Below.heap_alloc w _ b hb, fun b => ?_⟩
  rcases Nat.lt_or_ge b w.heap.size with hb | hb
  ·rw [oY (Below.heap_alloc w _ b hb)]; exact Nat.le_refl _
  ·simp [rM, Array.getElem?_eq_none hb]
 obtain ⟨g2, c2⟩ := gh.ext f
 simp only [Oper.wp, hop, Oper.upon]
 refine hK _ _ ?_
 have hh := h w.heap.size C (ac.put (some d) (.map (some w.heap.size))) (w.alloc (.map #[] 0)) hCN ⟨⟨h0, ι, ?_, g2⟩, ⟨#[], 0, heap_alloc_new w _, by simp⟩, gh.fr.size⟩
 ·have := j7 (l2 := []) (P := P) (Q2 := Exit.then (y.wp P (fun e a' w' => ∃ s', Q e s' ∧ Gs C s' a' w')) (fun e a' w' => ∃ s', Q e s' ∧ Gs C s' a' w')) (all := (⟨some d, .makeMap t none, ty, pos, af, none⟩ :: rest).toArray)
   (k := fun e a' w' ⟨s', ks', ⟨q1, q2⟩, q3⟩ => ⟨q1, by
    subst q1
    exact wpList_nil (wp_mono (q2 C a' w' hCN q3) (fun e a'' w'' ⟨s'', ks'', u1, u2⟩ => ⟨s'', u1, u2.g⟩))⟩) rest _ _ hh
  rw [List.append_nil] at this
  exact this
 ·show TG C ι (lk ((d, _) :: ts)) _ _ _
  rw [jQ]
  exact (g.carry c2).put (by have := eH hN; omega) (by simp [Rd])
theorem Fy {K K2 : AS → List Int → Prop} {id : Nat} (h : Q .normal s ks) : sH K (sH K2 (H5 id Q)) (.exit id) s ks := by
 have e : sH K (sH K2 (H5 id Q)) (.exit id) s ks = (if id = id then Q .normal s ks else Q (.exit id) s ks) := rfl
 rw [e, if_pos rfl]; exact h
theorem GO {Q : Exit → AS → Prop} {id : Nat} {t : TypeId} {y : Code} (h : Stop (AW P N (.seq (.region id (⟨some d, .makeMap t none, ty, pos, af, none⟩ :: rest).toArray false) y) Q s)) :
  AW P N (.seq (.region id (⟨some d, .makeMap t none, ty, pos, af, none⟩ :: rest).toArray false) y) Q s := h
theorem Lg {Q : Exit → AS → Prop} {c : Code} (h : AW P N c Q s) : Stop (AW P N c Q s) := h
theorem AQ {l : List Oper} (h : RW P N all (fun e s' => e = .normal ∧ Q e s' ks) .txt l s) : EO P N all Q r ks l s := by
 intro C a w hN g
 obtain ⟨C', h1, h2, h3⟩ := g.base
 have := j7 (l2 := []) (P := P) (all := all) (Q1 := fun e a' w' => ∃ s', (e = .normal ∧ Q e s' ks) ∧ Gs C' s' a' w') (Q2 := fun e a' w' => ∃ s' ks', Q e s' ks' ∧ GsM C s' r ks' a' w')
  (k := fun e a' w' ⟨s', ⟨q1, q2⟩, q3⟩ => ⟨q1, by subst q1; exact wpList_nil ⟨s', ks, q2, h3 _ _ _ q3⟩⟩) l a w (h C' a w (h1.trans hN) h2)
 rwa [List.append_nil] at this
end
end Go.AL

namespace Go.AL
open Go.RowKit
set_option linter.unusedVariables false
section
variable {P : Program} {N : Nat} {Q : Exit → AS → Prop} {all : Array Oper} {rest : List Oper} {ts : List (Nat × AV)} {hs : List (Nat × Option (List AV))} {n : Nat} {z0 : Lo} {md : Md}
variable {d : Nat} {ty : TypeId} {pos : String} {af : Array Edge}
theorem jV {α : Type} {hα : Inhabited α} {f g : α → List AV} {xs : List α} {e id k j z : Nat} {t : TypeId} {x : Operand} {cs' : List AV} [ha : AgT P t true] [hz : SzT P t z] (hx : ev (lk ts) x = some (.optr id (0 + k * e + j)))
  (hH : cO hs id = some (aI f xs)) (hf : FlT f e) (hg : FE f g) (hk : k < xs.length) (hj : j + z ≤ e) (hc : ((g xs[k]!).drop j).take z = cs') (h0 : Nat.blt 0 z = true) (hN : Nat.blt d N = true) {md' : Md} [hmd : MdA md (rO x ++ rA (.optr id (0 + k * e + j))) [.inl d] md']
  (kk : RW P N all Q md' rest ⟨(d, .agg cs') :: ts, hs, n, z0⟩) : RW P N all Q md (⟨some d, .load t x, ty, pos, af, none⟩ :: rest) ⟨ts, hs, n, z0⟩ := by
 have hl : (g xs[k]!).length = e := by rw [← hg.pf]; exact hf.pf _
 subst hc
 refine lD (cs := (aI f xs).drop (0 + k * e + j)) hx ha.pf hz.pf (by simp only [deref, hH, Option.map_some]) (cs' := ((g xs[k]!).drop j).take z) ?_ (by rw [List.length_take, List.length_drop, hl]; omega) (by have := eH h0; omega) (eH hN) (by rw [hmd.pf]; exact kk)
 rw [Nat.zero_add, ← List.drop_drop, gY f xs k hk, ← hg.pf, List.drop_append_of_le_length (by rw [hf.pf]; omega), List.take_append_of_le_length (by rw [List.length_drop, hf.pf]; omega)]
end
end Go.AL

namespace Go.AL
open Go.RowKit
set_option linter.unusedVariables false
theorem DQ (c : Int) : iC .and .i64 c 1 = some (.int .i64 (c % 2)) := by
 have h : (BitVec.ofInt 64 c &&& BitVec.ofInt 64 1).toNat = (c % 2).toNat := by
  rw [BitVec.toNat_and, show (BitVec.ofInt 64 1).toNat = 1 from rfl, Nat.and_one_is_mod, BitVec.toNat_ofInt]
  omega
 have e : iC .and .i64 c 1 = some (.int .i64 (IntKind.i64.wrap ((BitVec.ofInt 64 c &&& BitVec.ofInt 64 1).toNat : Int))) := rfl
 rw [e, h]
 rcases Int.emod_two_eq c with h2 | h2 <;> rw [h2] <;> rfl
section
variable {P : Program} {N : Nat} {Q : Exit → AS → Prop} {all : Array Oper} {rest : List Oper} {ts : List (Nat × AV)} {hs : List (Nat × Option (List AV))} {n : Nat} {z0 : Lo} {md : Md}
variable {d : Nat} {ty : TypeId} {pos : String} {af : Array Edge}
theorem IK {t t' : TypeId} {x y : Operand} {c : Int} (hx : ev (lk ts) x = some (.v (.int .i64 c))) (hy : ev (lk ts) y = some (.v (.int .i64 1)))
  (hN : Nat.blt d N = true) {md' : Md} [hmd : MdA md (rO x ++ rO y) [.inl d] md'] (kk : RW P N all Q md' rest ⟨(d, .v (.int .i64 (c % 2))) :: ts, hs, n, z0⟩) : RW P N all Q md (⟨some d, .binOp .and t x y t', ty, pos, af, none⟩ :: rest) ⟨ts, hs, n, z0⟩ :=
 fA hx hy (.inl rfl) (DQ c) (eH hN) (by rw [hmd.pf]; exact kk)
end
end Go.AL

namespace Go.AL
open Go.RowKit
set_option linter.unusedVariables false
theorem DZ {P : Program} {N : Nat} {Q : Exit → AS → Prop} {all : Array Oper} {rest : List Oper} {ts : List (Nat × AV)} {hs : List (Nat × Option (List AV))} {n : Nat} {z0 : Lo} {d : Nat} {ty : TypeId} {pos : String} {af : Array Edge}
  {t t' el : TypeId} {x : Operand} {id off m e : Nat} [ht : SlT P t el] (hx : ev (lk ts) x = some (.own id off m e)) (hN : Nat.blt d N = true)
  (kk : ∀ b : Bool, (b = true → m = 0) → RW P N all Q .txt rest ⟨(d, .v (.bool b)) :: ts, hs, n, z0⟩) : RW P N all Q .txt (⟨some d, .binOp .eql t x (.const (.slice none 0 0)) t', ty, pos, af, none⟩ :: rest) ⟨ts, hs, n, z0⟩ := by
 rintro C a w hCN ⟨h0, ι, g, gh⟩
 refine wpList_plain rfl (fun K hK => ?_)
 have h1 := c9 g hx
 simp only [Rd] at h1
 obtain ⟨a', m', c, h2, hb⟩ : ∃ a' m' c, a.eval x = .slice a' m' c ∧ (a'.isNone = true → m = 0) := by
  rcases h1 with ⟨_, rfl, a', h2⟩ | ⟨b, β, c, _, h2, _⟩
  ·exact ⟨a', 0, 0, h2, fun _ => rfl⟩
  ·exact ⟨_, m, c, h2, fun h => by cases h⟩
 have hu := gS ht.pf
 have hg : (eqGuard .eql t x (.const (.slice none 0 0)) (.slice a' m' c) (.slice none 0 0)).run P w = .ok () w := by simp [eqGuard]
 have hr : (execOp a.eval ⟨some d, .binOp .eql t x (.const (.slice none 0 0)) t', ty, pos, af, none⟩).run P w = .ok (.value (.bool a'.isNone)) w := by
  have e2 : a.eval (.const (.slice none 0 0)) = .slice none 0 0 := rfl
  simp only [execOp, h2, e2, Sem.run_bind, hg, Result.andThen_ok, wK w t el hu, Sem.run_pure]
 simp only [Oper.wp, hr, Oper.upon]
 refine hK _ _ (kk a'.isNone hb C _ _ hCN ⟨h0, ι, ?_, gh⟩)
 show TG C ι (lk ((d, AV.v (.bool a'.isNone)) :: ts)) _ _ _
 rw [jQ]
 exact g.put (by have := eH hN; omega) (by simp [Rd])
end Go.AL

namespace Go.AL
set_option linter.unusedVariables false
section
variable {P : Program} {N : Nat} {Q : Exit → AS → Prop} {all : Array Oper} {rest : List Oper} {ts : List (Nat × AV)} {hs : List (Nat × Option (List AV))} {n : Nat} {z0 : Lo} {md : Md}
variable {d : Nat} {ty : TypeId} {pos : String} {af : Array Edge}
theorem Em {k : FuncId} {t : Nat} {args : Array Operand} {tys : Array TypeId} {avs avs0 f c : List AV} {fv : AV} {H0 : List (Nat × Option (List AV))} {rr rr' : AV} {hh : List (Nat × Option (List AV))}
  (mp : List Nat) (n1 : Nat) (ws : List (Nat × Option (List AV))) (h : MC P k avs0 H0 mp.length (fun _ : Unit => True) (fun _ => rr) (fun _ => hh)) (hx : lk ts t = some fv) (hcl : sI fv = some (k, f, c)) [hc : CaT P k] (ha : evL (lk ts) args.toList = some avs) (hd : distinct mp = true)
  (hH0 : qJ hs H0 mp 0 mp) (hk : l8 mp.length H0 = true) (har : RnL (mp[·]?) avs0 (f ++ avs ++ c)) (hM : Nat.ble (n + (n1 - mp.length)) eZ = true)
  (hr : RnV (wU mp n n1) rr rr') (hwa : dJ mp ws = true) (hw : qP (wU mp n n1) hh ws) (hN : Nat.blt d N = true)
  {md' : Md} [hmd : MdA md (rO (.tmp t) ++ gK args.toList ++ mp.map .inr) (ws.map (fun p => .inr p.1) ++ [.inl d]) md']
  (kk : RW P N all Q md' rest ⟨(d, rr') :: ts, iD hs ws, n + (n1 - mp.length), z0⟩) : RW P N all Q md (⟨some d, .call ⟨.value (.tmp t), args, tys⟩, ty, pos, af, none⟩ :: rest) ⟨ts, hs, n, z0⟩ := by
 have hM' := Nat.le_of_ble_eq_true hM
 have kk2 : RW P N all Q (md.add (rO (.tmp t) ++ gK args.toList ++ mp.map .inr) (ws.map (fun p => .inr p.1) ++ wD (some d))) rest (put ⟨ts, iD hs ws, n + (n1 - mp.length), z0⟩ (some d) rr') := by
  simp only [wD]; rw [hmd.pf]; exact kk
 refine kL (rs := rO (.tmp t) ++ gK args.toList ++ mp.map .inr) (ws := ws) (n' := n + (n1 - mp.length)) (out := rr') rfl (Nat.le_add_right _ _) (.inr hM') (fun C ι F T H a w K Q' hCN ag hF g gh hK => ?_) (fun x e => by cases e; exact eH hN) kk2
 obtain ⟨lf, lc, hy, h1, h2⟩ := w8 hcl (c9 g (x := .tmp t) (ag.l.l.ev.trans hx))
 simp only [Oper.wp, sG hc.pf _ a w hy, Oper.upon]
 refine (uS (nid := n) (n1 := n1) h hd gh (fun j i hj => ?_) (m5 hk) har hF (fun _ _ => hr) (fun _ _ => yK hwa hw) (jY (jY h1 (j3 g (ag.l.r.evL.trans ha))) h2)).mono ?_
 ·obtain ⟨cs, cs', q1, q2, q3⟩ := oT hH0 j i hj
  exact ⟨cs, cs', by simpa using q1, by rw [ag.r.h i (List.mem_map_of_mem (List.mem_of_getElem? hj))]; exact q2, q3⟩
 ·rintro e w' ⟨v, x, ι', rfl, hx, g', c', hrd⟩
  exact hK ι' w' v (g.carry c') g' hrd
end
end Go.AL

namespace Go.AL
theorem cJ : (∀ a b : Bool, ((a && b) = true) = (a = true ∧ b = true)) ∧ (∀ a b : Bool, ((a && b) = false) ↔ (a = false ∨ b = false)) ∧ (∀ a b : Bool, ((a || b) = true) = (a = true ∨ b = true)) ∧ (∀ a b : Bool, ((a || b) = false) ↔ (a = false ∧ b = false)) ∧
  (∀ (p : Prop) [Decidable p], (decide p = true) = p) ∧ (∀ (p : Prop) [Decidable p], (decide p = false) ↔ ¬ p) ∧ (∀ a : Bool, ((!a) = true) ↔ a = false) ∧ (∀ a : Bool, ((!a) = false) ↔ a = true) ∧ ((!true) = false) ∧ ((!false) = true) ∧ (∀ a b : Int, ¬ a < b ↔ b ≤ a) ∧ (∀ a b : Int, ¬ a ≤ b ↔ b < a) :=
 ⟨fun a b => Bool.and_eq_true a b, fun a b => Bool.and_eq_false_iff, fun a b => Bool.or_eq_true a b, fun a b => Bool.or_eq_false_iff, fun p _ => by simp, fun p _ => decide_eq_false_iff_not, fun a => by simp, fun a => by simp, rfl, rfl, fun _ _ => Int.not_lt, fun _ _ => Int.not_le⟩
theorem gH : (∀ {α : Type} (a b : List α), (a ++ b).length = a.length + b.length) ∧ (∀ {α : Type} (a : α) (b : List α), (a :: b).length = b.length + 1) ∧ (∀ {α : Type}, ([] : List α).length = 0) ∧ (∀ {α : Type} (a : List α) (i : Nat) (x : α), (a.set i x).length = a.length) ∧ (∀ {α : Type} (i : Nat) (a : List α), (a.take i).length = min i a.length) ∧
  (∀ {α β : Type} (f : α → β) (a : List α), (a.map f).length = a.length) ∧ (∀ {α : Type} (n : Nat) (a : α), (List.replicate n a).length = n) ∧ (∀ (l : List Stmt) (b : Nat), (iM b l).length = eC l) ∧ (∀ n : Nat, n * 1 = n) ∧ (∀ n : Nat, 0 + n = n) ∧ (∀ n : Nat, n + 0 = n) :=
 ⟨fun _ _ => List.length_append, fun _ _ => rfl, rfl, fun _ _ _ => List.length_set, fun _ _ => List.length_take, fun _ _ => List.length_map _, fun _ _ => List.length_replicate, dG, Nat.mul_one, Nat.zero_add, Nat.add_zero⟩
theorem dK {α : Type} {p q r : α → Prop} (x : α) (h3 : r x) (h1 : p x) (h2 : q x) : ∃ x, p x ∧ q x ∧ r x := ⟨x, h1, h2, h3⟩
end Go.AL
