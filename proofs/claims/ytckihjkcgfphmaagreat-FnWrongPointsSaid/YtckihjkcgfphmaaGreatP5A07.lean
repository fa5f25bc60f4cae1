/-
 A part of the proofs over this program: rules and contracts of its functions (the rules).
-/
import Derived.Test.YtckihjkcgfphmaaGreatP5A06
import Derived.MapKept
import Derived.Orders
import Derived.Sort.Grow
import Derived.Shelf.Sort.Plain
import Derived.Ground.Names2Prog
import Derived.Shelf.Slices.CompactI
import Derived.Shelf.Slices.In.SortNone
import Derived.Test.YtckihjkcgfphmaaGreatProg
set_option linter.unusedVariables false
set_option linter.unusedSimpArgs false
namespace Go.AL
open Go.RowKit Go.MapKept
set_option linter.unusedVariables false
set_option linter.unusedSimpArgs false
def L8 (r : Nat) (ks : List Int) (w : World) : Prop := ∃ es ck, w.heap[r]? = some (.map es ck) ∧ ∀ e ∈ es.toList, ∃ k ∈ ks, e.key = .int .i64 k
structure GsM (C : Ctx) (s : AS) (r : Nat) (ks : List Int) (a : Act) (w : World) : Prop where
 g : Gs C s a w
 m : L8 r ks w
 l : C.w0.heap.size ≤ r
theorem Fr.trans2 {W0 W1 : Nat → Prop} {w0 w w' : World} (h : Fr W0 w0 w) (k : Fr W1 w w') (hW : ∀ b, W1 b → W0 b ∨ w0.heap.size ≤ b) : Fr W0 w0 w' :=
 ⟨k.os.trans h.os, k.tape.trans h.tape, k.output.trans h.output, Nat.le_trans h.size k.size, fun b hb hw => by
  rw [k.block b (Nat.lt_of_lt_of_le hb h.size) (fun q => (hW b q).elim hw (fun h => by omega))]; exact h.block b hb hw, fun b => Nat.le_trans (h.bs b) (k.bs b)⟩
theorem GsM.base {C : Ctx} {s : AS} {r : Nat} {ks : List Int} {a : Act} {w : World} (h : GsM C s r ks a w) : ∃ C' : Ctx, C'.N = C.N ∧ Gs C' s a w ∧ ∀ s' a' w', Gs C' s' a' w' → GsM C s' r ks a' w' := by
 obtain ⟨⟨h0, ι, g, gh⟩, ⟨es, ck, hm, hk⟩, hl⟩ := h
 let C' : Ctx := { C with w0 := w, W0 := fun b => ∃ id cs β, cO s.hs id = some cs ∧ ι id = some (some (b, β)), xlt := fun b hb => Nat.lt_of_lt_of_le (C.xlt b hb) gh.fr.size }
 have hW : ∀ b, C'.W0 b → C.W0 b ∨ C.w0.heap.size ≤ b := by
  rintro b ⟨id, cs, β, h1, h2⟩
  rcases gh.obj id cs h1 with ⟨h3, _⟩ | ⟨b', β', arr, e, h3, h4, h5, h6, h7, h8⟩
  ·rw [h3] at h2; cases h2
  ·rw [h3] at h2; cases h2; exact h8
 have hr : ¬ C'.W0 r := by
  rintro ⟨id, cs, β, h1, h2⟩
  rcases gh.obj id cs h1 with ⟨h3, _⟩ | ⟨b', β', arr, e, h3, h4, h5, h6, h7, h8⟩
  ·rw [h3] at h2; cases h2
  ·rw [h3] at h2; cases h2; rw [hm] at h4; cases h4
 refine ⟨C', rfl, ⟨h0, ι, ⟨g.df, g.sz, g.tm⟩, ⟨fun id cs h => ?_, gh.sep, Fr.refl _ _, gh.ex, gh.fresh⟩⟩, ?_⟩
 ·rcases gh.obj id cs h with h1 | ⟨b', β', arr, e, h3, h4, h5, h6, h7, h8⟩
  ·exact .inl h1
  ·exact .inr ⟨b', β', arr, e, h3, h4, h5, h6, h7, .inl ⟨id, cs, β', h, h3⟩⟩
 ·rintro s' a' w' ⟨h0', ι', g', gh'⟩
  have f : Fr C'.W0 w w' := gh'.fr
  refine ⟨⟨h0', ι', ⟨g'.df, g'.sz, g'.tm⟩, ⟨fun id cs h => ?_, gh'.sep, gh.fr.trans2 f hW, gh'.ex, gh'.fresh⟩⟩, ⟨es, ck, by rw [f.block r (fV hm) hr]; exact hm, hk⟩, hl⟩
  rcases gh'.obj id cs h with h1 | ⟨b', β', arr, e, h3, h4, h5, h6, h7, h8⟩
  ·exact .inl h1
  ·refine .inr ⟨b', β', arr, e, h3, h4, h5, h6, h7, ?_⟩
   rcases h8 with h8 | h8
   ·exact hW _ h8
   ·exact .inr (Nat.le_trans gh.fr.size h8)
def rV (P : Program) (N : Nat) (c : Code) (Q : Exit → AS → List Int → Prop) (r : Nat) (ks : List Int) (s : AS) : Prop :=
 ∀ (C : Ctx) (a : Act) (w : World), C.N = N → GsM C s r ks a w → c.wp P (fun e a' w' => ∃ s' ks', Q e s' ks' ∧ GsM C s' r ks' a' w') a w
def E1 (P : Program) (N : Nat) (all : Array Oper) (Q : Exit → AS → List Int → Prop) (r : Nat) (ks : List Int) (l : List Oper) (s : AS) : Prop :=
 ∀ (C : Ctx) (a : Act) (w : World), C.N = N → GsM C s r ks a w → wpList P all (fun e a' w' => ∃ s' ks', Q e s' ks' ∧ GsM C s' r ks' a' w') l a w
def tX (K : AS → List Int → Prop) (Q : Exit → AS → List Int → Prop) : Exit → AS → List Int → Prop
 | .normal, s, ks => K s ks
 | e, s, ks => Q e s ks
def IZ (id : Nat) (Q : Exit → AS → List Int → Prop) : Exit → AS → List Int → Prop
 | .exit i, s, ks => if i = id then Q .normal s ks else Q (.exit i) s ks
 | e, s, ks => Q e s ks
section
variable {P : Program} {N : Nat} {Q : Exit → AS → List Int → Prop} {s : AS} {r : Nat} {ks : List Int}
theorem pK {c : Code} (h : AW P N c (fun e s' => Q e s' ks) s) : rV P N c Q r ks s := by
 intro C a w hN g
 obtain ⟨C', h1, h2, h3⟩ := g.base
 exact wp_mono (h C' a w (h1.trans hN) h2) fun e a' w' ⟨s', q1, q2⟩ => ⟨s', ks, q1, h3 _ _ _ q2⟩
theorem lS {x y : Code} (h : rV P N x (tX (fun s' ks' => rV P N y Q r ks' s') Q) r ks s) : rV P N (.seq x y) Q r ks s := by
 intro C a w hN g
 refine wp_seq (wp_mono (h C a w hN g) ?_)
 rintro e a' w' ⟨s', ks', h1, h2⟩
 cases e with
 | normal => exact h1 C a' w' hN h2
 | _ => exact ⟨s', ks', h1, h2⟩
theorem zC {x y : Code} {c : Operand} {b : Bool} (hc : ev (lk s.ts) c = some (.v (.bool b))) (h1 : b = true → rV P N x Q r ks s) (h2 : b = false → rV P N y Q r ks s) : rV P N (.cond c x y) Q r ks s := by
 rintro C a w hN ⟨⟨h0, ι, g, gh⟩, hm, hl⟩
 have h := dB g hc
 simp only [Rd] at h
 cases b
 ·exact wp_cond_false h (h2 rfl C a w hN ⟨⟨h0, ι, g, gh⟩, hm, hl⟩)
 ·exact wp_cond_true h (h1 rfl C a w hN ⟨⟨h0, ι, g, gh⟩, hm, hl⟩)
theorem w5 {id : Nat} {c : Code} (h : rV P N c (IZ id Q) r ks s) : rV P N (.block id c) Q r ks s := by
 intro C a w hN g
 refine wp_block (wp_mono (h C a w hN g) ?_)
 rintro e a' w' ⟨s', ks', h1, h2⟩
 cases e with
 | exit i =>
  simp only [Exit.inBlock, IZ] at h1 ⊢
  split
  ·rename_i hi; rw [if_pos hi] at h1; exact ⟨s', ks', h1, h2⟩
  ·rename_i hi; rw [if_neg hi] at h1; exact ⟨s', ks', h1, h2⟩
 | _ => exact ⟨s', ks', h1, h2⟩
theorem zL (h : Q .normal s ks) : rV P N .skip Q r ks s := fun C a w _ g => wp_skip ⟨s, ks, h, g⟩
theorem FD {id : Nat} (h : Q (.exit id) s ks) : rV P N (.exit id) Q r ks s := fun C a w _ g => wp_exit ⟨s, ks, h, g⟩
theorem G6 {σ : Type} {c : Code} (p : σ → Prop) (I : σ → AS) (J : σ → List Int) (μ : σ → Nat) (h0 : ∃ i, p i ∧ Le s (I i) ∧ J i = ks)
  (round : ∀ i, p i → rV P N c (tX (fun s' ks' => ∃ j, p j ∧ μ j < μ i ∧ Le s' (I j) ∧ J j = ks') Q) r (J i) (I i)) : rV P N (.loop c) Q r ks s := by
 intro C a w hN g
 obtain ⟨i, h1, h2, h3⟩ := h0
 subst h3
 refine wp_loop (fun a w => ∃ i, p i ∧ GsM C (I i) r (J i) a w) (fun a w => pH fun n => ∃ i, p i ∧ GsM C (I i) r (J i) a w ∧ μ i = n) ⟨i, h1, ⟨h2 C a w g.g, g.m, g.l⟩⟩ ?_
 rintro a w ⟨i0, hp0, hg0⟩
 obtain ⟨⟨i, hp, hg, hm⟩, hmin⟩ := jO (S := fun n => ∃ i, p i ∧ GsM C (I i) r (J i) a w ∧ μ i = n) ⟨_, i0, hp0, hg0, rfl⟩
 refine wp_mono (round i hp C a w hN hg) ?_
 rintro e a' w' ⟨s', ks', h3, h4⟩
 cases e with
 | normal =>
  obtain ⟨j, q1, q2, q3, rfl⟩ := h3
  have h5 : GsM C (I j) r (J j) a' w' := ⟨q3 C a' w' h4.g, h4.m, h4.l⟩
  refine ⟨⟨j, q1, h5⟩, ?_⟩
  have := (jO (S := fun n => ∃ i, p i ∧ GsM C (I i) r (J i) a' w' ∧ μ i = n) ⟨_, j, q1, h5, rfl⟩).2 (μ j) ⟨j, q1, h5, rfl⟩
  omega
 | _ => exact ⟨s', ks', h3, h4⟩
theorem D9 {σ : Type} {c : Code} {ts : List (Nat × AV)} {hs : List (Nat × Option (List AV))} {n : Nat} {z0 : Lo} (kl : List Nat) (kt : List (Nat × AV)) (js : List Nat) (kh : List (Nat × Option (List AV)))
  (ot : σ → List (Nat × AV)) (oh : σ → List (Nat × Option (List AV))) (J : σ → List Int) (p : σ → Prop) (μ : σ → Nat) (i0 : σ) (h0 : p i0) (hJ : J i0 = ks) (hk : EL kl ts = kt) (hj : GF js hs = kh)
  (h1 : vF ts (ot i0)) (h2 : sR hs (oh i0))
  (round : ∀ i, p i → rV P N c (tX (fun s' ks' => ∃ j, p j ∧ μ j < μ i ∧ Le s' ⟨ot j ++ kt, oh j ++ kh, n, z0⟩ ∧ J j = ks') Q) r (J i) ⟨ot i ++ kt, oh i ++ kh, n, z0⟩) :
  rV P N (.loop c) Q r ks ⟨ts, hs, n, z0⟩ := by
 subst hk hj
 exact G6 p (fun i => ⟨ot i ++ EL kl ts, oh i ++ GF js hs, n, z0⟩) J μ ⟨i0, h0, Le.lit (qP h1 (oW kl)) (qR h2 (uC js)) (Nat.le_refl _), hJ⟩ round
theorem sY {id : Nat} {l : List Oper} (h : E1 P N l.toArray Q r ks l s) : rV P N (.region id l.toArray false) Q r ks s :=
 fun C a w hN g => wp_region_lit (h C a w hN g)
variable {all : Array Oper}
theorem KB {o : Oper} {a : Act} {w : World} {K K' : Act → World → Prop} {Q1 Q2 : Exit → Act → World → Prop} (h : ∀ a w, K a w → K' a w) (hq : ∀ e a w, Q1 e a w → e = .normal)
  (hh : o.wp P a w K Q1) : o.wp P a w K' Q2 := by
 have hL : ¬ LetsOut Q1 := fun ⟨a, w, q⟩ => by cases hq _ _ _ q
 unfold Oper.wp at *
 generalize (execOp a.eval o).run P w = z at *
 cases z with
 | ok n w' =>
  cases n <;> simp only [Oper.upon] at hh ⊢ <;>
   first
    | exact h _ _ hh
    | exact Calls.mono hh (fun e w'' he => by cases e <;> first | exact h _ _ he | (cases hq _ _ _ he) | exact absurd he hL)
    | exact Rows.mono hh (fun _ _ he => h _ _ he)
 | halt x w' => cases x <;> simp only [Oper.upon] at hh ⊢ <;> (cases hq _ _ _ hh)
theorem j3 {Q1 Q2 : Exit → Act → World → Prop} {l2 : List Oper} (k : ∀ e a w, Q1 e a w → e = .normal ∧ wpList P all Q2 l2 a w) : ∀ (l1 : List Oper) (a : Act) (w : World), wpList P all Q1 l1 a w → wpList P all Q2 (l1 ++ l2) a w
 | [], a, w, h => (k _ _ _ h).2
 | o :: l1, a, w, h => by
  have hL : ¬ LetsOut Q1 := fun ⟨a, w, q⟩ => by cases (k _ _ _ q).1
  rw [List.cons_append]
  unfold wpList at h ⊢
  split
  ·rename_i hw
   rw [if_pos hw] at h
   rcases h with h | ⟨_, h⟩
   ·exact .inl (KB (fun a w => j3 k l1 a w) (fun e a w q => (k e a w q).1) h)
   ·exact absurd h hL
  ·rename_i hw; rw [if_neg hw] at h; exact j3 k l1 _ _ h
theorem y3 {l1 l2 : List Oper} (h : RW P N all (fun e s' => e = .normal ∧ E1 P N all Q r ks l2 s') .txt l1 s) : E1 P N all Q r ks (l1 ++ l2) s := by
 intro C a w hN g
 obtain ⟨C', h1, h2, h3⟩ := g.base
 exact j3 (fun e a' w' ⟨s', ⟨q1, q2⟩, q3⟩ => ⟨q1, q2 C a' w' hN (h3 _ _ _ q3)⟩) l1 a w (h C' a w (h1.trans hN) h2)
theorem I1 (h : Q .normal s ks) : E1 P N all Q r ks [] s := fun C a w _ g => wpList_nil ⟨s, ks, h, g⟩
variable {rest : List Oper} {ts : List (Nat × AV)} {hs : List (Nat × Option (List AV))} {n : Nat} {z0 : Lo} {d : Nat} {ty : TypeId} {pos : String} {af : Array Edge}
theorem D7 {dst : Option Tmp} {op : Op} {j e : Nat} {want b : Bool} (hj : (all[j]?).bind (·.dst) = some e) (hb : lk s.ts e = some (.v (.bool b))) (hw : b = want) (h : E1 P N all Q r ks (⟨dst, op, ty, pos, af, none⟩ :: rest) s) :
  E1 P N all Q r ks (⟨dst, op, ty, pos, af, some (j, want)⟩ :: rest) s := by
 subst hw
 intro C a w hN g
 have h' := h C a w hN g
 obtain ⟨⟨h0, ι, g, gh⟩, hm, hl⟩ := g
 have hyl : yielded all a.tmps j = some b := by
  obtain ⟨y, hy, hr⟩ := g.tm e _ hb
  simp only [Rd] at hr
  subst hr
  simp [yielded, hj, hy]
 unfold wpList at h' ⊢
 simp only [Region.wanted, hyl, if_true, beq_self_eq_true] at h' ⊢
 exact h'
theorem qN {w : World} {mt kt et : TypeId} {es : Array MapEntry} {ck : Nat} {a : Int} (hu : P.underlying mt = some (.map kt et)) (hk : P.underlying kt = some (.int .i64)) (hz : (P.info? et).bind (·.zero) = some (.bool false))
  (hb : w.heap[r]? = some (.map es ck)) (hn : ∀ e ∈ es.toList, ∃ k, k ≠ a ∧ e.key = .int .i64 k) : (Instr.lookup mt (.map (some r)) (.int .i64 a) false).run P w = .ok (.bool false) w ∧ Instr.findNow (.int .i64) (.int .i64 a) es.toList 0 = some none := by
 have hkey : IsKey (.int .i64) (.int .i64 a) := by simp [IsKey]
 have hf : Instr.findNow (.int .i64) (.int .i64 a) es.toList 0 = some none := by
  rcases findNow_spec hkey es.toList 0 (fun x hx => by obtain ⟨k, _, h2⟩ := hn x hx; rw [h2]; simp [IsKey]) with ⟨h, _⟩ | ⟨j, e, _, h2, h3⟩
  ·exact h
  ·obtain ⟨k, h4, h5⟩ := hn e (List.mem_of_getElem? h2)
   rw [h5] at h3; cases h3; exact absurd rfl h4
 refine ⟨?_, hf⟩
 cases hi : P.info? et with
 | none => rw [hi] at hz; cases hz
 | some i =>
  rw [hi] at hz
  have hz2 : i.zero = some (.bool false) := hz
  simp [Instr.lookup, dC hu, Go.MapKept.run_getObj_map hb, run_checkKey hk hkey, run_findKey hk hf, zeroValue, typeInfo, hi, hz2, Result.andThen]
theorem B3 {mt kt et : TypeId} {x y : Operand} {a : Int} (hu : P.underlying mt = some (.map kt et)) (hk : P.underlying kt = some (.int .i64)) (hz : (P.info? et).bind (·.zero) = some (.bool false))
  (hx : ev (lk ts) x = some (.v (.map (some r)))) (hy : ev (lk ts) y = some (.v (.int .i64 a))) (ha : a ∉ ks) (hN : Nat.blt d N = true) (kk : E1 P N all Q r ks rest ⟨(d, .v (.bool false)) :: ts, hs, n, z0⟩) :
  E1 P N all Q r ks (⟨some d, .lookup mt x y false, ty, pos, af, none⟩ :: rest) ⟨ts, hs, n, z0⟩ := by
 rintro C ac w hCN ⟨⟨h0, ι, g, gh⟩, ⟨es, ck, hm, hkk⟩, hl⟩
 refine wpList_plain rfl (fun K hK => ?_)
 have e1 := dB g hx
 have e2 := dB g hy
 simp only [Rd] at e1 e2
 have hr := (qN (P := P) hu hk hz hm (a := a) (fun e he => by obtain ⟨k, h1, h2⟩ := hkk e he; exact ⟨k, fun q => ha (q ▸ h1), h2⟩)).1
 have hop : (execOp ac.eval ⟨some d, .lookup mt x y false, ty, pos, af, none⟩).run P w = .ok (.value (.bool false)) w := by
  simp [execOp, e1, e2, hr]
 simp only [Oper.wp, hop, Oper.upon]
 refine hK _ _ (kk C _ _ hCN ⟨⟨h0, ι, ?_, gh⟩, ⟨es, ck, hm, hkk⟩, hl⟩)
 show TG C ι (lk ((d, _) :: ts)) _ _ _
 rw [jM]
 exact g.put (by have := eO hN; omega) (by simp [Rd])
theorem By {mt kt et : TypeId} {x y z : Operand} {a : Int} (hu : P.underlying mt = some (.map kt et)) (hk : P.underlying kt = some (.int .i64)) (hz : (P.info? et).bind (·.zero) = some (.bool false))
  (hx : ev (lk ts) x = some (.v (.map (some r)))) (hy : ev (lk ts) y = some (.v (.int .i64 a))) (ha : a ∉ ks) (kk : E1 P N all Q r (ks ++ [a]) rest ⟨ts, hs, n, z0⟩) :
  E1 P N all Q r ks (⟨none, .mapUpdate mt x y z, ty, pos, af, none⟩ :: rest) ⟨ts, hs, n, z0⟩ := by
 rintro C ac w hCN ⟨⟨h0, ι, g, gh⟩, ⟨es, ck, hm, hkk⟩, hl⟩
 refine wpList_plain rfl (fun K hK => ?_)
 have e1 := dB g hx
 have e2 := dB g hy
 simp only [Rd] at e1 e2
 have hkey : IsKey (.int .i64) (.int .i64 a) := by simp [IsKey]
 have hf := (qN (P := P) hu hk hz hm (a := a) (fun e he => by obtain ⟨k, h1, h2⟩ := hkk e he; exact ⟨k, fun q => ha (q ▸ h1), h2⟩)).2
 let o2 : Obj := .map (es.push { key := .int .i64 a, val := ac.eval z, born := ck }) (ck + 1)
 let w2 : World := { w with heap := w.heap.setIfInBounds r o2 }
 have hop : (execOp ac.eval ⟨none, .mapUpdate mt x y z, ty, pos, af, none⟩).run P w = .ok .skip w2 := by
  simp [execOp, e1, e2, Instr.mapUpdate, dC hu, Go.MapKept.run_getObj_map hm, run_checkKey hk hkey, run_findKey hk hf, Go.MapKept.run_setObj_map _ hm, Result.andThen, w2, o2]
 obtain ⟨hs1, hs2⟩ := heap_set (o' := o2) hm
 have hne : ∀ b c e f, w.heap[b]? = some (.cells c e f) → b ≠ r := fun b c e f h q => by subst q; rw [hm] at h; cases h
 have hbs : ∀ b, nJ w2 b = nJ w b := fun b => by
  by_cases e : b = r
  ·subst e; show (match w2.heap[b]? with | some (.cells c _ _) => c.size | _ => 0) = _; rw [show w2.heap[b]? = some o2 from hs1]; simp [nJ, hm, o2]
  ·exact o7 (hs2 b e)
 have hcell : ∀ b o v, w.cell? ⟨b, o, none⟩ = some v → w2.cell? ⟨b, o, none⟩ = some v := fun b o v h => by
  have : b ≠ r := fun q => by subst q; rw [World.cell?] at h; simp [hm] at h
  rw [fH (hs2 b this)]; exact h
 have car : ∀ bad : Nat → Prop, Carry w bad ι w2 bad ι := fun bad => ⟨fun b o v h1 h2 => ⟨h1, hcell b o v h2⟩, fun _ _ h => h, fun b => Nat.le_of_eq (hbs b).symm⟩
 simp only [Oper.wp, hop, Oper.upon]
 refine hK _ _ (kk C _ _ hCN ⟨⟨h0, ι, ?_, ?_⟩, ⟨_, _, hs1, ?_⟩, hl⟩)
 ·exact g.carry (car _)
 ·refine ⟨fun id cs h => ?_, gh.sep, ⟨gh.fr.os, gh.fr.tape, gh.fr.output, by show C.w0.heap.size ≤ (w.heap.setIfInBounds r o2).size; rw [Array.size_setIfInBounds]; exact gh.fr.size, fun b hb hw => ?_, fun b => by rw [hbs]; exact gh.fr.bs b⟩, gh.ex, gh.fresh⟩
  ·rcases gh.obj id cs h with h1 | ⟨b', β', arr, e, h3, h4, h5, h6, h7, h8⟩
   ·exact .inl h1
   ·exact .inr ⟨b', β', arr, e, h3, by rw [show w2.heap[b']? = w.heap[b']? from hs2 b' (hne _ _ _ _ h4)]; exact h4, h5, RdC.carryB (car _) _ _ _ (fun o v hv => hcell b' o v hv) h6, h7, h8⟩
  ·rw [show w2.heap[b]? = w.heap[b]? from hs2 b (by omega)]; exact gh.fr.block b hb hw
 ·intro e he
  rw [Array.toList_push, List.mem_append, List.mem_singleton] at he
  rcases he with he | rfl
  ·obtain ⟨k, h1, h2⟩ := hkk e he; exact ⟨k, List.mem_append_left _ h1, h2⟩
  ·exact ⟨a, by simp, rfl⟩
theorem F2 {Q : Exit → AS → Prop} {id : Nat} {t : TypeId} {y : Code} (hN : Nat.blt d N = true)
  (h : ∀ r, E1 P N (⟨some d, .makeMap t none, ty, pos, af, none⟩ :: rest).toArray (fun e s' ks' => e = .normal ∧ rV P N y (fun e s' _ => Q e s') r ks' s') r [] rest ⟨(d, .v (.map (some r))) :: ts, hs, n, z0⟩) :
  AW P N (.seq (.region id (⟨some d, .makeMap t none, ty, pos, af, none⟩ :: rest).toArray false) y) Q ⟨ts, hs, n, z0⟩ := by
 rintro C ac w hCN ⟨h0, ι, g, gh⟩
 refine wp_seq (wp_region_lit (wpList_plain rfl (fun K hK => ?_)))
 have hop : (execOp ac.eval ⟨some d, .makeMap t none, ty, pos, af, none⟩).run P w = .ok (.value (.map (some w.heap.size))) (w.alloc (.map #[] 0)) := by
  simp [execOp, Instr.makeMap, newObj, Sem.run]
 have f : Fr (fun _ => False) w (w.alloc (.map #[] 0)) := by
  refine ⟨rfl, rfl, rfl, by simp, fun b hb _ => Below.heap_alloc w _ b hb, fun b => ?_⟩
  rcases Nat.lt_or_ge b w.heap.size with hb | hb
  ·rw [o7 (Below.heap_alloc w _ b hb)]; exact Nat.le_refl _
  ·simp [nJ, Array.getElem?_eq_none hb]
 obtain ⟨g2, c2⟩ := gh.ext f
 simp only [Oper.wp, hop, Oper.upon]
 refine hK _ _ ?_
 have hh := h w.heap.size C (ac.put (some d) (.map (some w.heap.size))) (w.alloc (.map #[] 0)) hCN ⟨⟨h0, ι, ?_, g2⟩, ⟨#[], 0, heap_alloc_new w _, by simp⟩, gh.fr.size⟩
 ·have := j3 (l2 := []) (P := P) (Q2 := Exit.then (y.wp P (fun e a' w' => ∃ s', Q e s' ∧ Gs C s' a' w')) (fun e a' w' => ∃ s', Q e s' ∧ Gs C s' a' w')) (all := (⟨some d, .makeMap t none, ty, pos, af, none⟩ :: rest).toArray)
   (k := fun e a' w' ⟨s', ks', ⟨q1, q2⟩, q3⟩ => ⟨q1, by
    subst q1
    exact wpList_nil (wp_mono (q2 C a' w' hCN q3) (fun e a'' w'' ⟨s'', ks'', u1, u2⟩ => ⟨s'', u1, u2.g⟩))⟩) rest _ _ hh
  rw [List.append_nil] at this
  exact this
 ·show TG C ι (lk ((d, _) :: ts)) _ _ _
  rw [jM]
  exact (g.carry c2).put (by have := eO hN; omega) (by simp [Rd])
theorem F1 {K K2 : AS → List Int → Prop} {id : Nat} (h : Q .normal s ks) : tX K (tX K2 (IZ id Q)) (.exit id) s ks := by
 have e : tX K (tX K2 (IZ id Q)) (.exit id) s ks = (if id = id then Q .normal s ks else Q (.exit id) s ks) := rfl
 rw [e, if_pos rfl]; exact h
theorem G0 {Q : Exit → AS → Prop} {id : Nat} {t : TypeId} {y : Code} (h : Stop (AW P N (.seq (.region id (⟨some d, .makeMap t none, ty, pos, af, none⟩ :: rest).toArray false) y) Q s)) :
  AW P N (.seq (.region id (⟨some d, .makeMap t none, ty, pos, af, none⟩ :: rest).toArray false) y) Q s := h
theorem KF {Q : Exit → AS → Prop} {c : Code} (h : AW P N c Q s) : Stop (AW P N c Q s) := h
theorem z8 {l : List Oper} (h : RW P N all (fun e s' => e = .normal ∧ Q e s' ks) .txt l s) : E1 P N all Q r ks l s := by
 intro C a w hN g
 obtain ⟨C', h1, h2, h3⟩ := g.base
 have := j3 (l2 := []) (P := P) (all := all) (Q1 := fun e a' w' => ∃ s', (e = .normal ∧ Q e s' ks) ∧ Gs C' s' a' w') (Q2 := fun e a' w' => ∃ s' ks', Q e s' ks' ∧ GsM C s' r ks' a' w')
  (k := fun e a' w' ⟨s', ⟨q1, q2⟩, q3⟩ => ⟨q1, by subst q1; exact wpList_nil ⟨s', ks, q2, h3 _ _ _ q3⟩⟩) l a w (h C' a w (h1.trans hN) h2)
 rwa [List.append_nil] at this
end
end Go.AL

namespace Go.AL
open Go.RowKit
set_option linter.unusedVariables false
section
variable {P : Program} {N : Nat} {Q : Exit → AS → Prop} {all : Array Oper} {rest : List Oper} {ts : List (Nat × AV)} {hs : List (Nat × Option (List AV))} {n : Nat} {z0 : Lo} {md : Md}
variable {d : Nat} {ty : TypeId} {pos : String} {af : Array Edge}
theorem jT {α : Type} {hα : Inhabited α} {f g : α → List AV} {xs : List α} {e id k j z : Nat} {t : TypeId} {x : Operand} {cs' : List AV} [ha : AgT P t true] [hz : SzT P t z] (hx : ev (lk ts) x = some (.optr id (0 + k * e + j)))
  (hH : cO hs id = some (aI f xs)) (hf : FlT f e) (hg : FE f g) (hk : k < xs.length) (hj : j + z ≤ e) (hc : ((g xs[k]!).drop j).take z = cs') (h0 : Nat.blt 0 z = true) (hN : Nat.blt d N = true) {md' : Md} [hmd : MdA md (rO x ++ rA (.optr id (0 + k * e + j))) [.inl d] md']
  (kk : RW P N all Q md' rest ⟨(d, .agg cs') :: ts, hs, n, z0⟩) : RW P N all Q md (⟨some d, .load t x, ty, pos, af, none⟩ :: rest) ⟨ts, hs, n, z0⟩ := by
 have hl : (g xs[k]!).length = e := by rw [← hg.pf]; exact hf.pf _
 subst hc
 refine k5 (cs := (aI f xs).drop (0 + k * e + j)) hx ha.pf hz.pf (by simp only [deref, hH, Option.map_some]) (cs' := ((g xs[k]!).drop j).take z) ?_ (by rw [List.length_take, List.length_drop, hl]; omega) (by have := eO h0; omega) (eO hN) (by rw [hmd.pf]; exact kk)
 rw [Nat.zero_add, ← List.drop_drop, gQ f xs k hk, ← hg.pf, List.drop_append_of_le_length (by rw [hf.pf]; omega), List.take_append_of_le_length (by rw [List.length_drop, hf.pf]; omega)]
end
end Go.AL

namespace Go.AL
open Go.RowKit
set_option linter.unusedVariables false
theorem DG (c : Int) : hZ .and .i64 c 1 = some (.int .i64 (c % 2)) := by
 have h : (BitVec.ofInt 64 c &&& BitVec.ofInt 64 1).toNat = (c % 2).toNat := by
  rw [BitVec.toNat_and, show (BitVec.ofInt 64 1).toNat = 1 from rfl, Nat.and_one_is_mod, BitVec.toNat_ofInt]
  omega
 have e : hZ .and .i64 c 1 = some (.int .i64 (IntKind.i64.wrap ((BitVec.ofInt 64 c &&& BitVec.ofInt 64 1).toNat : Int))) := rfl
 rw [e, h]
 rcases Int.emod_two_eq c with h2 | h2 <;> rw [h2] <;> rfl
section
variable {P : Program} {N : Nat} {Q : Exit → AS → Prop} {all : Array Oper} {rest : List Oper} {ts : List (Nat × AV)} {hs : List (Nat × Option (List AV))} {n : Nat} {z0 : Lo} {md : Md}
variable {d : Nat} {ty : TypeId} {pos : String} {af : Array Edge}
theorem H6 {t t' : TypeId} {x y : Operand} {c : Int} (hx : ev (lk ts) x = some (.v (.int .i64 c))) (hy : ev (lk ts) y = some (.v (.int .i64 1)))
  (hN : Nat.blt d N = true) {md' : Md} [hmd : MdA md (rO x ++ rO y) [.inl d] md'] (kk : RW P N all Q md' rest ⟨(d, .v (.int .i64 (c % 2))) :: ts, hs, n, z0⟩) : RW P N all Q md (⟨some d, .binOp .and t x y t', ty, pos, af, none⟩ :: rest) ⟨ts, hs, n, z0⟩ :=
 e5 hx hy (.inl rfl) (DG c) (eO hN) (by rw [hmd.pf]; exact kk)
end
end Go.AL

namespace Go.AL
open Go.RowKit
set_option linter.unusedVariables false
theorem Ec {P : Program} {N : Nat} {Q : Exit → AS → Prop} {all : Array Oper} {rest : List Oper} {ts : List (Nat × AV)} {hs : List (Nat × Option (List AV))} {n : Nat} {z0 : Lo} {d : Nat} {ty : TypeId} {pos : String} {af : Array Edge}
  {t t' el : TypeId} {x : Operand} {id off m e : Nat} [ht : SlT P t el] (hx : ev (lk ts) x = some (.own id off m e)) (hN : Nat.blt d N = true)
  (kk : ∀ b : Bool, (b = true → m = 0) → RW P N all Q .txt rest ⟨(d, .v (.bool b)) :: ts, hs, n, z0⟩) : RW P N all Q .txt (⟨some d, .binOp .eql t x (.const (.slice none 0 0)) t', ty, pos, af, none⟩ :: rest) ⟨ts, hs, n, z0⟩ := by
 rintro C a w hCN ⟨h0, ι, g, gh⟩
 refine wpList_plain rfl (fun K hK => ?_)
 have h1 := dB g hx
 simp only [Rd] at h1
 obtain ⟨a', m', c, h2, hb⟩ : ∃ a' m' c, a.eval x = .slice a' m' c ∧ (a'.isNone = true → m = 0) := by
  rcases h1 with ⟨_, rfl, a', h2⟩ | ⟨b, β, c, _, h2, _⟩
  ·exact ⟨a', 0, 0, h2, fun _ => rfl⟩
  ·exact ⟨_, m, c, h2, fun h => by cases h⟩
 have hu := iL ht.pf
 have hg : (eqGuard .eql t x (.const (.slice none 0 0)) (.slice a' m' c) (.slice none 0 0)).run P w = .ok () w := by simp [eqGuard]
 have hr : (execOp a.eval ⟨some d, .binOp .eql t x (.const (.slice none 0 0)) t', ty, pos, af, none⟩).run P w = .ok (.value (.bool a'.isNone)) w := by
  have e2 : a.eval (.const (.slice none 0 0)) = .slice none 0 0 := rfl
  simp only [execOp, h2, e2, Sem.run_bind, hg, Result.andThen_ok, vN w t el hu, Sem.run_pure]
 simp only [Oper.wp, hr, Oper.upon]
 refine hK _ _ (kk a'.isNone hb C _ _ hCN ⟨h0, ι, ?_, gh⟩)
 show TG C ι (lk ((d, AV.v (.bool a'.isNone)) :: ts)) _ _ _
 rw [jM]
 exact g.put (by have := eO hN; omega) (by simp [Rd])
end Go.AL

namespace Go.AL
set_option linter.unusedVariables false
section
variable {P : Program} {N : Nat} {Q : Exit → AS → Prop} {all : Array Oper} {rest : List Oper} {ts : List (Nat × AV)} {hs : List (Nat × Option (List AV))} {n : Nat} {z0 : Lo} {md : Md}
variable {d : Nat} {ty : TypeId} {pos : String} {af : Array Edge}
theorem Ej {k : FuncId} {t : Nat} {args : Array Operand} {tys : Array TypeId} {avs avs0 f c : List AV} {fv : AV} {H0 : List (Nat × Option (List AV))} {rr rr' : AV} {hh : List (Nat × Option (List AV))}
  (mp : List Nat) (n1 : Nat) (ws : List (Nat × Option (List AV))) (h : MC P k avs0 H0 mp.length (fun _ : Unit => True) (fun _ => rr) (fun _ => hh)) (hx : lk ts t = some fv) (hcl : sT fv = some (k, f, c)) [hc : CaT P k] (ha : evL (lk ts) args.toList = some avs) (hd : distinct mp = true)
  (hH0 : qV hs H0 mp 0 mp) (hk : l8 mp.length H0 = true) (har : RnL (mp[·]?) avs0 (f ++ avs ++ c)) (hM : Nat.ble (n + (n1 - mp.length)) eS = true)
  (hr : RnV (vY mp n n1) rr rr') (hwa : dL mp ws = true) (hw : qL (vY mp n n1) hh ws) (hN : Nat.blt d N = true)
  {md' : Md} [hmd : MdA md (rO (.tmp t) ++ gL args.toList ++ mp.map .inr) (ws.map (fun p => .inr p.1) ++ [.inl d]) md']
  (kk : RW P N all Q md' rest ⟨(d, rr') :: ts, iH hs ws, n + (n1 - mp.length), z0⟩) : RW P N all Q md (⟨some d, .call ⟨.value (.tmp t), args, tys⟩, ty, pos, af, none⟩ :: rest) ⟨ts, hs, n, z0⟩ := by
 have hM' := Nat.le_of_ble_eq_true hM
 have kk2 : RW P N all Q (md.add (rO (.tmp t) ++ gL args.toList ++ mp.map .inr) (ws.map (fun p => .inr p.1) ++ wD (some d))) rest (put ⟨ts, iH hs ws, n + (n1 - mp.length), z0⟩ (some d) rr') := by
  simp only [wD]; rw [hmd.pf]; exact kk
 refine kF (rs := rO (.tmp t) ++ gL args.toList ++ mp.map .inr) (ws := ws) (n' := n + (n1 - mp.length)) (out := rr') rfl (Nat.le_add_right _ _) (.inr hM') (fun C ι F T H a w K Q' hCN ag hF g gh hK => ?_) (fun x e => by cases e; exact eO hN) kk2
 obtain ⟨lf, lc, hy, h1, h2⟩ := wA hcl (dB g (x := .tmp t) (ag.l.l.ev.trans hx))
 simp only [Oper.wp, tY hc.pf _ a w hy, Oper.upon]
 refine (tC (nid := n) (n1 := n1) h hd gh (fun j i hj => ?_) (nB hk) har hF (fun _ _ => hr) (fun _ _ => yH hwa hw) (jZ (jZ h1 (jV g (ag.l.r.evL.trans ha))) h2)).mono ?_
 ·obtain ⟨cs, cs', q1, q2, q3⟩ := o9 hH0 j i hj
  exact ⟨cs, cs', by simpa using q1, by rw [ag.r.h i (List.mem_map_of_mem (List.mem_of_getElem? hj))]; exact q2, q3⟩
 ·rintro e w' ⟨v, x, ι', rfl, hx, g', c', hrd⟩
  exact hK ι' w' v (g.carry c') g' hrd
end
end Go.AL

namespace Go.AL
open Go.Sort
theorem uH {w : World} {bad : Nat → Prop} {ι : Pl} {b : Nat} : ∀ (zs : List Int) (o : Nat), RdC w bad ι (aI cI zs) b o ↔ ∀ j, j < zs.length → w.cell? ⟨b, o + j, none⟩ = some (.int .i64 zs[j]!)
 | [], o => by simp [aI, RdC]
 | z :: zs, o => by
  have e : aI cI (z :: zs) = iv z :: aI cI zs := rfl
  rw [e]
  simp only [RdC]
  rw [uH zs (o + 1)]
  constructor
  ·rintro ⟨⟨x, h1, _, h3⟩, h4⟩ j hj
   cases j with
   | zero => simp only [Rd] at h3; rw [Nat.add_zero, h1, h3]; rfl
   | succ j =>
    have := h4 j (by simpa using hj)
    rw [show o + (j + 1) = o + 1 + j by omega, this]; rfl
  ·intro h
   refine ⟨⟨_, h 0 (by simp), rfl, by simp only [Rd]; rfl⟩, fun j hj => ?_⟩
   have := h (j + 1) (by simpa using hj)
   rw [show o + (j + 1) = o + 1 + j by omega] at this
   rw [this]; rfl
theorem Hv {w : World} {b : Nat} {arr : Array Value} {e : TypeId} {fr : Nat × Nat} (h : w.heap[b]? = some (.cells arr e fr)) (β : Nat) (d : Array Int) (n : Nat) (os : Array Obj) :
  (grow (putRow (Value.int .i64) (Sort.ahead w n) b β d) os).heap[b]? = some (.cells (putCells (Value.int .i64) β d arr) e fr) := by
 have hb : b < w.heap.size := by
  apply Classical.byContradiction; intro q
  rw [Array.getElem?_eq_none (by omega)] at h; cases h
 rw [heap_grow_old _ _ (by rw [size_putRow]; exact hb)]
 unfold putRow mapBlock
 rw [Array.getElem?_modify, if_pos rfl]
 show Option.map _ (w.heap[b]?) = _
 rw [h]; rfl
theorem wG {w : World} {b k : Nat} (hk : k < w.heap.size) (hne : b ≠ k) (β : Nat) (d : Array Int) (n : Nat) (os : Array Obj) :
  (grow (putRow (Value.int .i64) (Sort.ahead w n) b β d) os).heap[k]? = w.heap[k]? := by
 rw [heap_grow_old _ _ (by rw [size_putRow]; exact hk)]
 unfold putRow mapBlock
 rw [Array.getElem?_modify, if_neg hne]; rfl
theorem GL {P : Program} {k : FuncId} {zs zs' : List Int} {rr : AV} (hlen : zs'.length = zs.length)
  (h0 : zs.length = 0 → ∀ (a : Option Addr) (cap : Nat) (w : World), Calls P k #[.slice a 0 cap] w fun e w' => ∃ v, e = .returned v ∧ w' = w ∧ ∀ ι bad, ((∃ p, ι 0 = some p) ∧ (cap = 0 ∨ ∃ b β, ι 0 = some (some (b, β)) ∧ a = some ⟨b, β, none⟩ ∧ β + cap ≤ nJ w b)) → Rd w bad ι rr v)
  (h1 : ∀ (blk off cap : Nat) (w : World), Holds (Value.int .i64) w blk off zs.toArray → blk < w.heap.size → zs.length ≤ cap → Calls P k #[.slice (some ⟨blk, off, none⟩) zs.length cap] w fun e w' => ∃ v n os, e = .returned v ∧ w' = grow (putRow (Value.int .i64) (Sort.ahead w n) blk off zs'.toArray) os ∧
   ∀ ι bad, ι 0 = some (some (blk, off)) → off + cap ≤ nJ w' blk → Rd w' bad ι rr v) :
  MC P k [.own 0 0 zs.length 1] [(0, some (aI cI zs))] 1 (fun _ : Unit => True) (fun _ => rr) (fun _ => [(0, some (aI cI zs'))]) := by
 intro C ι w vals hw hι g hr
 simp only [RdV] at hr
 obtain ⟨y, l, rfl, hy, rfl⟩ := hr
 have hobj := g.obj 0 (aI cI zs) rfl
 simp only [Rd] at hy
 rcases hy with ⟨⟨p, hp⟩, hn, a, rfl⟩ | ⟨b, β, c, hib, rfl, hnc, hcb⟩
 ·have hz : zs = [] := List.eq_nil_of_length_eq_zero hn
  have hz' : zs' = [] := List.eq_nil_of_length_eq_zero (by omega)
  subst hz hz'
  refine (h0 rfl a 0 w).mono ?_
  rintro e w' ⟨v, rfl, rfl, hv⟩
  refine ⟨v, rr, cO [(0, some (aI cI []))], ι, rfl, ⟨(), trivial, rfl, fun id cs h => h⟩, hv _ _ ⟨⟨p, hp⟩, .inl rfl⟩, ⟨g.obj, g.sep, g.fr, g.ex, fun _ h => h.elim⟩⟩
 ·rcases hobj with ⟨q, _⟩ | ⟨b', β', arr, e, hib', hheap, hsz, hrd, hX, hW⟩
  ·rw [hib] at q; cases q
  ·rw [hib] at hib'; cases hib'
   have hfl : (aI cI zs).length = zs.length := by rw [aQ cI (e := 1)]; omega
   have hb : b < w.heap.size := fV hheap
   have hrd' := (uH zs β).1 hrd
   have hH : Holds (Value.int .i64) w b β zs.toArray := fun j hj => by
    have hj' : j < zs.length := by simpa using hj
    refine ⟨?_, ?_⟩
    ·rw [hrd' j hj']; simp
    ·unfold World.frozen?; rw [hheap]; simp
   refine (h1 b (β + 0) c w hH hb hnc).mono ?_
   rintro e' w' ⟨v, n, os, rfl, rfl, hv⟩
   have hh := Hv hheap β zs'.toArray n os
   have hbs : ∀ k, nJ w k ≤ nJ (grow (putRow (Value.int .i64) (Sort.ahead w n) b β zs'.toArray) os) k := fun k => by
    by_cases hk : k < w.heap.size
    ·by_cases q : b = k
     ·subst q; unfold nJ; rw [hh, hheap]; simp [putCells]
     ·unfold nJ; rw [wG hk q]; exact Nat.le_refl _
    ·unfold nJ; rw [Array.getElem?_eq_none (by omega)]; exact Nat.zero_le _
   have hcells : ∀ j, j < zs'.length → (grow (putRow (Value.int .i64) (Sort.ahead w n) b β zs'.toArray) os).cell? ⟨b, β + j, none⟩ = some (.int .i64 zs'[j]!) := fun j hj => by
    rw [cell?_grow _ _ _ (by rw [size_putRow]; exact hb), cell?_putRow (Value.int .i64) (Sort.ahead w n) b β zs.toArray zs'.toArray (holds_ahead _ _ _ _ _ _ hH) (by simpa using hlen) j (by simpa using hj)]
    simp
   refine ⟨v, rr, cO [(0, some (aI cI zs'))], ι, rfl, ⟨(), trivial, rfl, fun id cs h => h⟩, hv _ _ hib (by have := hbs b; simp only [Nat.mul_one, Nat.add_zero] at hcb ⊢; omega), ?_⟩
   refine ⟨fun id cs h => ?_, fun id id' cs cs' b1 β1 β2 h h' _ _ => ?_, ?_, g.ex, fun _ h => h.elim⟩
   ·have hid : id = 0 ∧ cs = aI cI zs' := by
     have h' : cond (Nat.beq id 0) (some (aI cI zs')) none = some cs := h
     by_cases q : id = 0
     ·subst q; cases h'; exact ⟨rfl, rfl⟩
     ·have q' : Nat.beq id 0 = false := by cases id with | zero => exact absurd rfl q | succ _ => rfl
      rw [q'] at h'; cases h'
    obtain ⟨rfl, rfl⟩ := hid
    refine .inr ⟨b, β, _, e, hib, hh, ?_, (uH zs' β).2 hcells, hX, hW⟩
    rw [aQ cI (e := 1)]
    simp only [putCells, Array.size_mapIdx]
    omega
   ·have hid : ∀ (i : Nat) (c : List AV), cO [(0, some (aI cI zs'))] i = some c → i = 0 := fun i c h => by
     apply Classical.byContradiction; intro q
     have h' : cond (Nat.beq i 0) (some (aI cI zs')) none = some c := h
     have q' : Nat.beq i 0 = false := by cases i with | zero => exact absurd rfl q | succ _ => rfl
     rw [q'] at h'; cases h'
    rw [hid _ _ h, hid _ _ h']
   ·have f := g.fr
    refine ⟨f.os, f.tape, f.output, ?_, fun k hk hkW => ?_, fun k => Nat.le_trans (f.bs k) (hbs k)⟩
    ·have := f.size; rw [size_grow, size_putRow]; show _ ≤ w.heap.size + _; omega
    ·have hne : b ≠ k := fun q => by subst q; rcases hW with q | q; exact hkW q; omega
     rw [wG (Nat.lt_of_lt_of_le hk f.size) hne]; exact f.block k hk hkW
end Go.AL

namespace Go.AL
def Dp (m : List (Nat × Nat)) (lo : Lo) (l : List (Nat × AV)) : List (Nat × AV) → Prop
 | [] => True
 | (t, v) :: l' => (∃ v0, lk l t = some v0 ∧ (vH m lo v v0 ∨ v0 = v ∧ ∃ fn i o, v = .clos fn [] [.optr i o] ∧ i < lo.lo)) ∧ Dp m lo l l'
theorem AB {m : List (Nat × Nat)} {lo : Lo} {l : List (Nat × AV)} : ∀ {l' : List (Nat × AV)}, Dp m lo l l' → ∀ t v, lk l' t = some v → ∃ v0, lk l t = some v0 ∧ (vH m lo v v0 ∨ v0 = v ∧ ∃ fn i o, v = .clos fn [] [.optr i o] ∧ i < lo.lo)
 | [], _, t, v, h => by simp [lk] at h
 | (u, x) :: l', hr, t, v, h => by
  simp only [Dp] at hr
  simp only [l7] at h
  split at h
  ·rename_i e; subst e; cases h; exact hr.1
  ·exact AB hr.2 t v h
theorem Le.renK (m : List (Nat × Nat)) {ts ts' : List (Nat × AV)} {hs hs' : List (Nat × Option (List AV))} {n n' : Nat} {lo : Lo} (hm : KK lo.lo n' m = true) (hn : lo.lo ≤ n') (h1 : Dp m lo ts ts') (h2 : Ci m lo hs hs') :
  Le ⟨ts, hs, n, lo⟩ ⟨ts', hs', n', lo⟩ := by
 rintro C a w ⟨h0, ι, g, gh⟩
 let ι' : Pl := fun id => match pM m lo id with | some j => ι j | none => none
 have hlow : ∀ id, id < lo.lo → ι' id = ι id := fun id h => by simp [ι', pM, h]
 have hto : ∀ id j, pM m lo id = some j → ι' id = ι j := by
  intro id j h
  simp only [ι', h]
 have hcs0 : ∀ a b, pM m lo a = some b → (a < lo.lo ∧ b = a) ∨ (lo.lo ≤ a ∧ Bb m a = some b) ∨ (lo.lo ≤ a ∧ (eS ≤ a ∧ a < lo.fb) ∧ b = a) := by
  intro a b q
  unfold pM at q
  split at q
  ·rename_i h; cases q; exact .inl ⟨h, rfl⟩
  ·rename_i h
   split at q
   ·rename_i j hj; cases q; exact .inr (.inl ⟨by omega, hj⟩)
   ·split at q
    ·rename_i h3; cases q; exact .inr (.inr ⟨by omega, h3, rfl⟩)
    ·cases q
 have hinj : ∀ a a' b, pM m lo a = some b → pM m lo a' = some b → a = a' := by
  intro a a' b q q'
  rcases hcs0 a b q with ⟨e1, e2⟩ | ⟨e1, e2⟩ | ⟨e1, e2, e3⟩ <;> rcases hcs0 a' b q' with ⟨f1, f2⟩ | ⟨f1, f2⟩ | ⟨f1, f2, f3⟩
  ·omega
  ·have := gB hm _ _ f2; omega
  ·omega
  ·have := gB hm _ _ e2; omega
  ·exact x9 hm _ _ _ e2 f2
  ·have := gB hm _ _ e2; omega
  ·omega
  ·have := gB hm _ _ f2; omega
  ·omega
 have hbad : ∀ b, a8 C.X ι' (cO hs') b → a8 C.X ι (cO hs) b := by
  rintro b (h | ⟨id, cs, β, q1, q2⟩)
  ·exact .inl h
  ·obtain ⟨j, cs0, q3, q4, _⟩ := iS h2 id cs q1
   rw [hto _ _ q3] at q2
   exact .inr ⟨j, cs0, β, q4, q2⟩
 have hc0 : Carry w (a8 C.X ι (cO hs)) ι w (a8 C.X ι' (cO hs')) ι := ⟨fun b o x q1 q2 => ⟨fun h => q1 (hbad b h), q2⟩, fun _ _ h => h, fun _ => Nat.le_refl _⟩
 have hv : ∀ v v0 y, vH m lo v v0 → Rd w (a8 C.X ι (cO hs)) ι v0 y → Rd w (a8 C.X ι' (cO hs')) ι' v y := by
  intro v v0 y hr hy
  rcases hr with ⟨rfl, hp⟩ | hr
  ·exact Rd.pur _ y hp (Rd.carry hc0 _ _ hy)
  ·cases v <;> simp only [Ia] at hr <;> first | (cases hr; done) | skip
   ·rename_i id o k e
    cases hj : pM m lo id with
    | none => simp [hj] at hr
    | some j =>
     simp only [hj, Option.map_some, Option.some.injEq] at hr
     subst hr
     simp only [Rd, hto _ _ hj] at hy ⊢
     exact hy
   ·rename_i id o
    cases hj : pM m lo id with
    | none => simp [hj] at hr
    | some j =>
     simp only [hj, Option.map_some, Option.some.injEq] at hr
     subst hr
     simp only [Rd, hto _ _ hj] at hy ⊢
     exact hy
 have hcs : ∀ cs cs0 b o, Js m lo cs cs0 → RdC w (a8 C.X ι (cO hs)) ι cs0 b o → RdC w (a8 C.X ι' (cO hs')) ι' cs b o := by
  intro cs cs0 b o hr hy
  rcases hr with ⟨rfl, hp⟩ | hf
  ·exact RdC.pur _ b o hp (RdC.carryB hc0 _ _ _ (fun o x hx => hx) hy)
  ·induction hf generalizing o with
   | nil => simp only [RdC]
   | cons h1 _ ih =>
    simp only [RdC] at hy ⊢
    obtain ⟨⟨x, q1, q2, q3⟩, q4⟩ := hy
    exact ⟨⟨x, q1, q2, hv _ _ _ h1 q3⟩, ih _ q4⟩
 have hvK : ∀ v v0 y, (vH m lo v v0 ∨ v0 = v ∧ ∃ fn i o, v = .clos fn [] [.optr i o] ∧ i < lo.lo) → Rd w (a8 C.X ι (cO hs)) ι v0 y → Rd w (a8 C.X ι' (cO hs')) ι' v y := by
  rintro v v0 y (hr | ⟨rfl, fn, i, o, rfl, hi⟩) hy
  ·exact hv v v0 y hr hy
  ·simp only [Rd, RdV] at hy ⊢
   rw [hlow i hi]; exact hy
 refine ⟨h0, ι', ⟨g.df, g.sz, fun t v ht => ?_⟩, ⟨fun id cs h => ?_, fun id id' cs cs' b β β' q1 q2 q3 q4 => ?_, gh.fr, fun id p hp => ?_, fun id hid => ?_⟩⟩
 ·obtain ⟨v0, q1, q2⟩ := AB h1 t v ht
  obtain ⟨y, q3, q4⟩ := g.tm t v0 q1
  exact ⟨y, q3, hvK _ _ _ q2 q4⟩
 ·obtain ⟨j, cs0, q3, q4, q5⟩ := iS h2 id cs h
  have hlen : cs.length = cs0.length := by
   rcases q5 with ⟨rfl, _⟩ | hf
   ·rfl
   ·exact hf.len
  rcases gh.obj j cs0 q4 with ⟨p1, p2⟩ | ⟨b, β, arr, e, p1, p2, p3, p4, p5, p6⟩
  ·refine .inl ⟨by rw [hto _ _ q3]; exact p1, ?_⟩
   subst p2; exact List.eq_nil_of_length_eq_zero hlen
  ·exact .inr ⟨b, β, arr, e, by rw [hto _ _ q3]; exact p1, p2, by rw [hlen]; exact p3, hcs _ _ _ _ q5 p4, p5, p6⟩
 ·obtain ⟨j, c1, r1, r2, _⟩ := iS h2 id cs q1
  obtain ⟨j', c2, r3, r4, _⟩ := iS h2 id' cs' q2
  rw [hto _ _ r1] at q3
  rw [hto _ _ r3] at q4
  have := gh.sep _ _ _ _ _ _ _ r2 r4 q3 q4
  subst this
  exact hinj _ _ _ r1 r3
 ·have hl : id < lo.lo ∨ (lo.lo ≤ id ∧ eS ≤ id ∧ id < lo.fb) := by
   rcases Nat.lt_or_ge id lo.lo with h | h
   ·exact .inl h
   ·rcases h0 id h with h1 | h1
    ·exact .inr ⟨h, h1⟩
    ·rw [h1] at hp; cases hp
  rcases hl with hl | ⟨hl, h1, h2⟩
  ·rw [hlow id hl]; exact gh.ex id p hp
  ·have : pM m lo id = some id := by
    unfold pM
    rw [if_neg (by omega)]
    cases hj : Bb m id with
    | some j => have := gB hm _ _ hj; omega
    | none => simp [h1, h2]
   rw [hto _ _ this]; exact gh.ex id p hp
 ·show ι' id = none
  simp only [ι']
  cases hj : pM m lo id with
  | none => rfl
  | some j =>
   have h3 : n' ≤ id := hid.1
   have h4 : id < eS ∨ lo.fb ≤ id := hid.2
   rcases hcs0 id j hj with ⟨e1, e2⟩ | ⟨e1, e2⟩ | ⟨e1, e2, e3⟩
   ·omega
   ·have := gB hm _ _ e2; omega
   ·omega
end Go.AL

namespace Go.Proofs
open Go.Shelf
def Tryz.lays189_ren : Go.Shelf.Ren := ⟨fun | 189 => 54 | 125 => 95 | 257 => 94 | 128 => 159 | 129 => 160 | 294 => 150 | 295 => 151 | 296 => 152 | 297 => 153 | 298 => 154 | 299 => 155 | 216 => 156 | 300 => 157 | 301 => 158 | 328 => 197 | 329 => 198 | 330 => 199 | 331 => 200 | 332 => 201 | 215 => 202 | 343 => 238 | n => n, fun | 28 => 23 | 3 => 3 | 46 => 119 | 0 => 0 | 51 => 181 | 53 => 130 | 4 => 4 | 183 => 174 | 182 => 173 | 131 => 95 | 5 => 5 | 9 => 9 | 218 => 220 | 222 => 78 | 228 => 254 | 229 => 29 | n => n, fun | n => n⟩
theorem Tryz.lays189 : Go.Proofs.Lays.n189 Tryz.prog Tryz.lays189_ren := {
 mixed := by kernel_rfl
 f125 := Tryz.func95.trans (congrArg some (by kernel_rfl))
 f128 := Tryz.func159.trans (congrArg some (by kernel_rfl))
 f129 := Tryz.func160.trans (congrArg some (by kernel_rfl))
 f189 := Tryz.func54.trans (congrArg some (by kernel_rfl))
 f215 := Tryz.func202.trans (congrArg some (by kernel_rfl))
 f216 := Tryz.func156.trans (congrArg some (by kernel_rfl))
 f257 := Tryz.func94.trans (congrArg some (by kernel_rfl))
 f294 := Tryz.func150.trans (congrArg some (by kernel_rfl))
 f295 := Tryz.func151.trans (congrArg some (by kernel_rfl))
 f296 := Tryz.func152.trans (congrArg some (by kernel_rfl))
 f297 := Tryz.func153.trans (congrArg some (by kernel_rfl))
 f298 := Tryz.func154.trans (congrArg some (by kernel_rfl))
 f299 := Tryz.func155.trans (congrArg some (by kernel_rfl))
 f300 := Tryz.func157.trans (congrArg some (by kernel_rfl))
 f301 := Tryz.func158.trans (congrArg some (by kernel_rfl))
 f328 := Tryz.func197.trans (congrArg some (by kernel_rfl))
 f329 := Tryz.func198.trans (congrArg some (by kernel_rfl))
 f330 := Tryz.func199.trans (congrArg some (by kernel_rfl))
 f331 := Tryz.func200.trans (congrArg some (by kernel_rfl))
 f332 := Tryz.func201.trans (congrArg some (by kernel_rfl))
 f343 := Tryz.func238.trans (congrArg some (by kernel_rfl))
 t0 := Tryz.underlying0
 a0 := Tryz.isAgg0
 z0 := Tryz.sizeOf0
 v0 := Tryz.zeroValue0
 t3 := Tryz.underlying3
 a3 := Tryz.isAgg3
 z3 := Tryz.sizeOf3
 v3 := Tryz.zeroValue3
 t4 := Tryz.underlying4
 a4 := Tryz.isAgg4
 z4 := Tryz.sizeOf4
 v4 := Tryz.zeroValue4
 t5 := Tryz.underlying5
 a5 := Tryz.isAgg5
 z5 := Tryz.sizeOf5
 v5 := Tryz.zeroValue5
 t9 := Tryz.underlying9
 a9 := Tryz.isAgg9
 z9 := Tryz.sizeOf9
 v9 := Tryz.zeroValue9
 t28 := Tryz.underlying23
 a28 := Tryz.isAgg23
 z28 := Tryz.sizeOf23
 v28 := Tryz.zeroValue23
 t46 := Tryz.underlying119
 a46 := Tryz.isAgg119
 z46 := Tryz.sizeOf119
 v46 := Tryz.zeroValue119
 t51 := Tryz.underlying181
 a51 := Tryz.isAgg181
 z51 := Tryz.sizeOf181
 v51 := Tryz.zeroValue181
 t53 := Tryz.underlying130
 a53 := Tryz.isAgg130
 z53 := Tryz.sizeOf130
 v53 := Tryz.zeroValue130
 t131 := Tryz.underlying95
 a131 := Tryz.isAgg95
 z131 := Tryz.sizeOf95
 v131 := Tryz.zeroValue95
 t182 := Tryz.underlying173
 a182 := Tryz.isAgg173
 z182 := Tryz.sizeOf173
 v182 := Tryz.zeroValue173
 t183 := Tryz.underlying174
 a183 := Tryz.isAgg174
 z183 := Tryz.sizeOf174
 v183 := Tryz.zeroValue174
 t218 := Tryz.underlying220
 a218 := Tryz.isAgg220
 z218 := Tryz.sizeOf220
 v218 := Tryz.zeroValue220
 t222 := Tryz.underlying78
 a222 := Tryz.isAgg78
 z222 := Tryz.sizeOf78
 v222 := Tryz.zeroValue78
 t228 := Tryz.underlying254
 a228 := Tryz.isAgg254
 z228 := Tryz.sizeOf254
 v228 := Tryz.zeroValue254
 t229 := Tryz.underlying29
 a229 := Tryz.isAgg29
 z229 := Tryz.sizeOf29
 v229 := Tryz.zeroValue29 }
open Go.Sort Go.RowKit in
theorem Tryz.slices_Sort_int (blk off cap : Nat) (zs : List Int) (w : World) (hH : Holds (Value.int .i64) w blk off zs.toArray) (hblk : blk < w.heap.size) (hsz : zs.length < 4611686018427387904) :
  Calls Tryz.prog 54 #[.slice (some ⟨blk, off, none⟩) zs.length cap] w fun e w' =>
   e = .returned (.tuple #[]) ∧ ∃ n os, w' = grow (putRow (Value.int .i64) (Sort.ahead w n) blk off (zs.mergeSort fun x y => decide (x ≤ y)).toArray) os := Any.slices_Sort_int Tryz.lays189 blk off cap zs w hH hblk hsz
def Tryz.laysNm220_ren : Go.Shelf.Ren := ⟨fun | 20 => 55 | n => n, fun | 22 => 23 | 3 => 3 | 4 => 4 | 0 => 0 | n => n, fun | n => n⟩
theorem Tryz.laysNm220 : Go.Proofs.Lays2.n20 Tryz.prog Tryz.laysNm220_ren := {
 mixed := by kernel_rfl
 f20 := Tryz.func55.trans (congrArg some (by kernel_rfl))
 t0 := Tryz.underlying0
 a0 := Tryz.isAgg0
 z0 := Tryz.sizeOf0
 v0 := Tryz.zeroValue0
 t3 := Tryz.underlying3
 a3 := Tryz.isAgg3
 z3 := Tryz.sizeOf3
 v3 := Tryz.zeroValue3
 t4 := Tryz.underlying4
 a4 := Tryz.isAgg4
 z4 := Tryz.sizeOf4
 v4 := Tryz.zeroValue4
 t22 := Tryz.underlying23
 a22 := Tryz.isAgg23
 z22 := Tryz.sizeOf23
 v22 := Tryz.zeroValue23
 i3 := by kernel_rfl }
open Go.RowKit Go.Lib Go.Sort in
theorem Tryz.slices_Compact_int (blk off cap : Nat) (zs : List Int) (w : World) (hH : Holds (Value.int .i64) w blk off zs.toArray) (hsz : zs.length ≤ 9223372036854775807) (hcap : zs.length ≤ cap) :
  Calls Tryz.prog 55 #[.slice (some ⟨blk, off, none⟩) zs.length cap] w fun e w' => e = .returned (.slice (some ⟨blk, off, none⟩) (Lib.compact zs).length cap) ∧ ∃ q, w' = putRow (Value.int .i64) (Sort.ahead w q) blk off (Lib.compact zs ++ List.replicate (zs.length - (Lib.compact zs).length) 0).toArray := Any.slices_Compact_int Tryz.laysNm220 blk off cap zs w hH hsz hcap
open Go.RowKit Go.Lib Go.Sort in
theorem Tryz.slices_Compact_int_empty (a : Option Addr) (cap : Nat) (w : World) :
  Calls Tryz.prog 55 #[.slice a 0 cap] w fun e w' => e = .returned (.slice a 0 cap) ∧ w' = w := Any.slices_Compact_int_empty Tryz.laysNm220 a cap w
open Go.RowKit Go.Sort in
theorem Tryz.slices_Sort_int_none (p : Option Addr) (cap : Nat) (w : World) :
  Calls Tryz.prog 54 #[.slice p 0 cap] w fun e w' => e = .returned (.tuple #[]) ∧ w' = w := Any.slices_Sort_int_none Tryz.lays189 p cap w
end Go.Proofs

namespace Go.AL
theorem cJ : (∀ a b : Bool, ((a && b) = true) = (a = true ∧ b = true)) ∧ (∀ a b : Bool, ((a && b) = false) ↔ (a = false ∨ b = false)) ∧ (∀ a b : Bool, ((a || b) = true) = (a = true ∨ b = true)) ∧ (∀ a b : Bool, ((a || b) = false) ↔ (a = false ∧ b = false)) ∧
  (∀ (p : Prop) [Decidable p], (decide p = true) = p) ∧ (∀ (p : Prop) [Decidable p], (decide p = false) ↔ ¬ p) ∧ (∀ a : Bool, ((!a) = true) ↔ a = false) ∧ (∀ a : Bool, ((!a) = false) ↔ a = true) ∧ ((!true) = false) ∧ ((!false) = true) ∧ (∀ a b : Int, ¬ a < b ↔ b ≤ a) ∧ (∀ a b : Int, ¬ a ≤ b ↔ b < a) :=
 ⟨fun a b => Bool.and_eq_true a b, fun a b => Bool.and_eq_false_iff, fun a b => Bool.or_eq_true a b, fun a b => Bool.or_eq_false_iff, fun p _ => by simp, fun p _ => decide_eq_false_iff_not, fun a => by simp, fun a => by simp, rfl, rfl, fun _ _ => Int.not_lt, fun _ _ => Int.not_le⟩
theorem fY : (∀ {α : Type} (a b : List α), (a ++ b).length = a.length + b.length) ∧ (∀ {α : Type} (a : α) (b : List α), (a :: b).length = b.length + 1) ∧ (∀ {α : Type}, ([] : List α).length = 0) ∧ (∀ {α : Type} (a : List α) (i : Nat) (x : α), (a.set i x).length = a.length) ∧ (∀ {α : Type} (i : Nat) (a : List α), (a.take i).length = min i a.length) ∧
  (∀ {α β : Type} (f : α → β) (a : List α), (a.map f).length = a.length) ∧ (∀ {α : Type} (n : Nat) (a : α), (List.replicate n a).length = n) ∧ (∀ (l : List Stmt) (b : Nat), (iI b l).length = eX l) ∧ (∀ n : Nat, n * 1 = n) ∧ (∀ n : Nat, 0 + n = n) ∧ (∀ n : Nat, n + 0 = n) :=
 ⟨fun _ _ => List.length_append, fun _ _ => rfl, rfl, fun _ _ _ => List.length_set, fun _ _ => List.length_take, fun _ _ => List.length_map _, fun _ _ => List.length_replicate, dG, Nat.mul_one, Nat.zero_add, Nat.add_zero⟩
theorem dJ {α : Type} {p q r : α → Prop} (x : α) (h3 : r x) (h1 : p x) (h2 : q x) : ∃ x, p x ∧ q x ∧ r x := ⟨x, h1, h2, h3⟩
end Go.AL
