/-
 A part of the proofs over this program: rules and contracts of its functions (the rules).
-/
import Derived.Test.YtckihjkcgfphmaaGreatP4A02
import Derived.KernelRfl
import Derived.Test.YtckihjkcgfphmaaGreatProg
set_option linter.unusedVariables false
set_option linter.unusedSimpArgs false
namespace Go.AL
open Go.RowKit
set_option linter.unusedVariables false

section
variable {P : Program} {N : Nat} {Q : Exit → AS → Prop} {all : Array Oper} {rest : List Oper} {ts : List (Nat × AV)} {hs : List (Nat × Option (List AV))} {n : Nat} {z0 : Lo} {md : Md}
variable {d : Option Tmp} {ty : TypeId} {pos : String} {af : Array Edge}

def p8 (hs : List (Nat × Option (List AV))) (H0 : List (Nat × Option (List AV))) (mp : List Nat) : Nat → List Nat → Prop
 | _, [] => True
 | j, i :: is => (∃ cs cs', cK H0 j = some cs ∧ cK hs i = some cs' ∧ RnL (mp[·]?) cs cs') ∧ p8 hs H0 mp (j + 1) is
theorem oV {H0 : List (Nat × Option (List AV))} {mp : List Nat} : ∀ {is : List Nat} {j0 : Nat}, p8 hs H0 mp j0 is → ∀ (j i : Nat), is[j]? = some i → ∃ cs cs', cK H0 (j0 + j) = some cs ∧ cK hs i = some cs' ∧ RnL (mp[·]?) cs cs'
 | [], _, _, j, i, h => by simp at h
 | x :: is, j0, hh, j, i, h => by
  simp only [p8] at hh
  cases j with
  | zero => simp at h; subst h; simpa using hh.1
  | succ j =>
   have := oV hh.2 j i (by simpa using h)
   rwa [show j0 + 1 + j = j0 + (j + 1) from by omega] at this
def l8 (n : Nat) : List (Nat × Option (List AV)) → Bool
 | [] => true
 | (i, _) :: l => Nat.blt i n && l8 n l
theorem mU {n : Nat} : ∀ {l : List (Nat × Option (List AV))}, l8 n l = true → ∀ j cs, cK l j = some cs → j < n
 | [], _, j, cs, h => by simp [cK] at h
 | (i, c) :: l, hk, j, cs, h => by
  simp only [l8, Bool.and_eq_true] at hk
  simp only [gF] at h
  split at h
  ·rename_i e; subst e; exact eJ hk.1
  ·exact mU hk.2 j cs h

theorem ER {σ : Type} {k : FuncId} {args : Array Operand} {tys : Array TypeId} {avs avs0 : List AV} {H0 : List (Nat × Option (List AV))} {p : σ → Prop} {rr rr' : σ → AV} {hh ws : σ → List (Nat × Option (List AV))}
  (mp : List Nat) (n1 : Nat) (hc : fT P k = true) (ha : evL (lk ts) args.toList = some avs) (h : MC P k avs0 H0 mp.length p rr hh) (hd : distinct mp = true)
  (hH0 : p8 hs H0 mp 0 mp) (hk : l8 mp.length H0 = true) (har : RnL (mp[·]?) avs0 avs) (hM : Nat.ble (n + (n1 - mp.length)) eR = true)
  (hr : ∀ x, p x → RnV (wF mp n n1) (rr x) (rr' x)) (hw : ∀ x, p x → WsOk mp (wF mp n n1) (hh x) (ws x)) (hN : ∀ x, d = some x → x < N)
  (kk : ∀ x, p x → RW P N all Q .txt rest (put ⟨ts, iF hs (ws x), n + (n1 - mp.length), z0⟩ d (rr' x))) : RW P N all Q .txt (⟨d, .call ⟨.value (.func k), args, tys⟩, ty, pos, af, none⟩ :: rest) ⟨ts, hs, n, z0⟩ := by
 rintro C a w hCN ⟨h0, ι, g, gh⟩
 refine wpList_plain rfl (fun K hK => ?_)
 simp only [Oper.wp, jM hc, Oper.upon]
 have hM' := Nat.le_of_ble_eq_true hM
 refine (sG (nid := n) (n1 := n1) h hd gh (fun j i hj => by simpa using oV hH0 j i hj) (mU hk) har (fun j h1 h2 => ⟨h1, .inl (by omega)⟩) hr hw (j5 g ha)).mono ?_
 rintro e w' ⟨v, x, ι', rfl, hx, g', c', hrd⟩
 refine hK _ _ (kk x hx C _ _ hCN ?_)
 have g2 : HG C ι' (Fn (n + (n1 - mp.length)) z0) (kV (cK hs) (ws x)) w' := (g'.less (fun _ _ h => h) (fun j hj => ⟨⟨Nat.le_trans (Nat.le_add_right _ _) hj.1, hj.2⟩, by have := hj.1; omega⟩)).1
 rw [← rQ] at g2 c' hrd
 cases d with
 | none => exact ⟨h0, ι', g.carry c', g2⟩
 | some d =>
  refine ⟨h0, ι', ?_, g2⟩
  simp only [put]
  rw [jK]
  exact (g.carry c').put (hCN.symm ▸ hN d rfl) hrd

theorem EC {k : FuncId} {args : Array Operand} {tys : Array TypeId} {avs avs0 : List AV} {H0 : List (Nat × Option (List AV))} {rr rr' : AV} {hh ws : List (Nat × Option (List AV))}
  (mp : List Nat) (n1 : Nat) (hc : fT P k = true) (ha : evL (lk ts) args.toList = some avs) (h : MC P k avs0 H0 mp.length (fun _ : Unit => True) (fun _ => rr) (fun _ => hh)) (hd : distinct mp = true)
  (hH0 : p8 hs H0 mp 0 mp) (hk : l8 mp.length H0 = true) (har : RnL (mp[·]?) avs0 avs) (hM : Nat.ble (n + (n1 - mp.length)) eR = true)
  (hr : RnV (wF mp n n1) rr rr') (hw : WsOk mp (wF mp n n1) hh ws) (hN : ∀ x, d = some x → x < N)
  (kk : RW P N all Q (md.add (gL args.toList ++ mp.map .inr) (ws.map (fun p => .inr p.1) ++ wD d)) rest (put ⟨ts, iF hs ws, n + (n1 - mp.length), z0⟩ d rr')) : RW P N all Q md (⟨d, .call ⟨.value (.func k), args, tys⟩, ty, pos, af, none⟩ :: rest) ⟨ts, hs, n, z0⟩ := by
 have hM' := Nat.le_of_ble_eq_true hM
 refine kF (rs := gL args.toList ++ mp.map .inr) (ws := ws) (n' := n + (n1 - mp.length)) (out := rr') rfl (Nat.le_add_right _ _) (.inr hM') (fun C ι F T H a w K Q' hCN ag hF g gh hK => ?_) hN kk
 simp only [Oper.wp, jM hc, Oper.upon]
 refine (sG (nid := n) (n1 := n1) h hd gh (fun j i hj => ?_) (mU hk) har hF (fun _ _ => hr) (fun _ _ => hw) (j5 g (ag.l.evL.trans ha))).mono ?_
 ·obtain ⟨cs, cs', q1, q2, q3⟩ := oV hH0 j i hj
  exact ⟨cs, cs', by simpa using q1, by rw [ag.r.h i (List.mem_map_of_mem (List.mem_of_getElem? hj))]; exact q2, q3⟩
 ·rintro e w' ⟨v, x, ι', rfl, hx, g', c', hrd⟩
  exact hK ι' w' v (g.carry c') g' hrd

mutual
def AV.free : AV → Bool
 | .v _ => true
 | .any => true
 | .agg cs => sX cs
 | .tup cs => sX cs
 | _ => false
def sX : List AV → Bool
 | [] => true
 | c :: cs => c.free && sX cs
end
mutual
theorem Rd.free {w : World} {bad bad2 : Nat → Prop} {ι ι2 : Pl} : ∀ (av : AV) (y : Value), av.free = true → Rd w bad ι av y → Rd w bad2 ι2 av y
 | .v x, y, _, h => by simpa only [Rd] using h
 | .any, y, _, h => by simpa only [Rd] using h
 | .imm n cs, y, hp, h => by simp [AV.free] at hp
 | .iptr cs, y, hp, h => by simp [AV.free] at hp
 | .own id off n e, y, hp, h => by simp [AV.free] at hp
 | .ownc id off n c e, y, hp, h => by simp [AV.free] at hp
 | .optr id off, y, hp, h => by simp [AV.free] at hp
 | .clos _ _ _, y, hp, h => by simp [AV.free] at hp
 | .agg cs, y, hp, h => by
  simp only [AV.free] at hp
  simp only [Rd] at h ⊢
  obtain ⟨l, h1, h2⟩ := h
  exact ⟨l, h1, RdL.free cs l hp h2⟩
 | .tup cs, y, hp, h => by
  simp only [AV.free] at hp
  simp only [Rd] at h ⊢
  obtain ⟨l, h1, h2⟩ := h
  exact ⟨l, h1, RdV.free cs l hp h2⟩
theorem RdL.free {w : World} {bad bad2 : Nat → Prop} {ι ι2 : Pl} : ∀ (cs : List AV) (l : List Value), sX cs = true → RdL w bad ι cs l → RdL w bad2 ι2 cs l
 | [], l, _, h => by simpa only [RdL] using h
 | c :: cs, l, hp, h => by
  simp only [sX, Bool.and_eq_true] at hp
  simp only [RdL] at h ⊢
  obtain ⟨x, l', h0, h1, h2, h3⟩ := h
  exact ⟨x, l', h0, h1, Rd.free c x hp.1 h2, RdL.free cs l' hp.2 h3⟩
theorem RdV.free {w : World} {bad bad2 : Nat → Prop} {ι ι2 : Pl} : ∀ (cs : List AV) (l : List Value), sX cs = true → RdV w bad ι cs l → RdV w bad2 ι2 cs l
 | [], l, _, h => by simpa only [RdV] using h
 | c :: cs, l, hp, h => by
  simp only [sX, Bool.and_eq_true] at hp
  simp only [RdV] at h ⊢
  obtain ⟨x, l', h0, h2, h3⟩ := h
  exact ⟨x, l', h0, Rd.free c x hp.1 h2, RdV.free cs l' hp.2 h3⟩
end

def jX (H : Nat → Option (List AV)) : AV → Option AV
 | .own id off m e => (H id).bind fun cs => if c9 cs then some (.imm m (cs.drop off)) else none
 | .optr id off => (H id).bind fun cs => if c9 cs then some (.iptr (cs.drop off)) else none
 | .agg cs => if c9 cs then some (.agg cs) else none
 | .tup cs => if c9 cs then some (.tup cs) else none
 | .imm m cs => if c9 cs then some (.imm m cs) else none
 | .iptr cs => if c9 cs then some (.iptr cs) else none
 | .v x => some (.v x)
 | .any => some .any
 | _ => none
def kE (H : Nat → Option (List AV)) : List AV → Option (List AV)
 | [] => some []
 | c :: cs => match jX H c, kE H cs with | some x, some l => some (x :: l) | _, _ => none
def rL (H : List AV) : List jH := H.flatMap fun av => match av with | .own id _ _ _ => [.inr id] | .optr id _ => [.inr id] | _ => []

theorem DW {T : Nat → Option AV} {H : Nat → Option (List AV)} : ∀ {av : AV}, Agr (rL [av]) ts hs T H → jX H av = jX (cK hs) av
 | .own id off m e, g => by simp only [jX]; rw [g.h id (by simp [rL])]
 | .optr id off, g => by simp only [jX]; rw [g.h id (by simp [rL])]
 | .v _, _ => rfl
 | .any, _ => rfl
 | .imm _ _, _ => rfl
 | .iptr _, _ => rfl
 | .agg _, _ => rfl
 | .tup _, _ => rfl
 | .clos _ _ _, _ => rfl
 | .ownc _ _ _ _ _, _ => rfl
theorem vK {T : Nat → Option AV} {H : Nat → Option (List AV)} : ∀ {l : List AV}, Agr (rL l) ts hs T H → kE H l = kE (cK hs) l
 | [], _ => rfl
 | c :: cs, g => by
  have h1 : Agr (rL [c]) ts hs T H := g.sub fun r hr => by simp only [rL, List.flatMap_cons, List.flatMap_nil, List.append_nil] at hr ⊢; exact List.mem_append_left _ hr
  have h2 : Agr (rL cs) ts hs T H := g.sub fun r hr => by simp only [rL, List.flatMap_cons] at hr ⊢; exact List.mem_append_right _ hr
  simp only [kE]
  rw [DW h1, vK h2]

theorem Es {H : Nat → Option (List AV)} : ∀ {av out : AV}, jX H av = some out → out.pur = true := by
 intro av out h
 have hdrop : ∀ (k : Nat) (cs : List AV), c9 cs = true → c9 (cs.drop k) = true := by
  intro k
  induction k with
  | zero => intro cs h; simpa using h
  | succ k ih =>
   intro cs h
   cases cs with
   | nil => simp [c9]
   | cons c cs => simp only [c9, Bool.and_eq_true] at h; simpa using ih cs h.2
 cases av <;> simp only [jX] at h
 ·cases h; rfl
 ·cases h; rfl
 ·split at h <;> cases h; rename_i hp; exact hp
 ·split at h <;> cases h; rename_i hp; exact hp
 ·rename_i id off m e
  cases hH : H id with
  | none => simp [hH] at h
  | some cs =>
   simp only [hH, Option.bind_some] at h
   split at h <;> cases h
   rename_i hp; exact hdrop _ _ hp
 ·rename_i id off
  cases hH : H id with
  | none => simp [hH] at h
  | some cs =>
   simp only [hH, Option.bind_some] at h
   split at h <;> cases h
   rename_i hp; exact hdrop _ _ hp
 ·split at h <;> cases h; rename_i hp; exact hp
 ·split at h <;> cases h; rename_i hp; exact hp
 ·cases h
 ·cases h

theorem Gz {C : Ctx} {ι : Pl} {F : Nat → Prop} {H : Nat → Option (List AV)} {w : World} (g : HG C ι F H w) {av out : AV} {y : Value} (h : jX H av = some out) (hy : Rd w (a7 C.X ι H) ι av y) : Rd w C.X (fun _ => none) out y := by
 have hc0 : ∀ ι2 : Pl, Carry w (a7 C.X ι H) ι2 w C.X ι2 := fun ι2 => ⟨fun b o x h1 h2 => ⟨fun q => h1 (.inl q), h2⟩, fun _ _ h => h, fun _ => Nat.le_refl _⟩
 have pure : ∀ {av : AV}, av.pur = true → Rd w (a7 C.X ι H) ι av y → Rd w C.X (fun _ => none) av y := fun hp hy => Rd.pur _ y hp (Rd.carry (hc0 ι) _ _ hy)
 cases av <;> simp only [jX] at h
 ·cases h; exact pure rfl hy
 ·cases h; exact pure rfl hy
 ·split at h <;> cases h; rename_i hp; exact pure hp hy
 ·split at h <;> cases h; rename_i hp; exact pure hp hy
 ·rename_i id off m e
  cases hH : H id with
  | none => simp [hH] at h
  | some cs =>
   simp only [hH, Option.bind_some] at h
   split at h <;> cases h
   rename_i hp
   simp only [Rd] at hy ⊢
   rcases hy with ⟨_, rfl, a, rfl⟩ | ⟨b, β, c, h1, rfl, h2, h3⟩
   ·exact ⟨a, 0, rfl, .inl rfl⟩
   ·rcases g.obj id cs hH with ⟨q, _⟩ | ⟨b', β', arr, e', q, q4, q5, q6, q7, q8⟩
    ·rw [q] at h1; cases h1
    ·rw [q] at h1; cases h1
     exact ⟨_, c, rfl, .inr ⟨_, _, h2, rfl, fC off (.inr ⟨q7, RdC.pur cs b β hp (RdC.carryB (hc0 ι) _ _ _ (fun o x hx => hx) q6)⟩)⟩⟩
 ·rename_i id off
  cases hH : H id with
  | none => simp [hH] at h
  | some cs =>
   simp only [hH, Option.bind_some] at h
   split at h <;> cases h
   rename_i hp
   simp only [Rd] at hy ⊢
   obtain ⟨b, β, h1, rfl⟩ := hy
   rcases g.obj id cs hH with ⟨q, _⟩ | ⟨b', β', arr, e', q, q4, q5, q6, q7, q8⟩
   ·rw [q] at h1; cases h1
   ·rw [q] at h1; cases h1
    exact ⟨_, _, rfl, fC off (.inr ⟨q7, RdC.pur cs b β hp (RdC.carryB (hc0 ι) _ _ _ (fun o x hx => hx) q6)⟩)⟩
 ·split at h <;> cases h; rename_i hp; exact pure hp hy
 ·split at h <;> cases h; rename_i hp; exact pure hp hy
 ·cases h
 ·cases h
theorem zI {C : Ctx} {ι : Pl} {F : Nat → Prop} {H : Nat → Option (List AV)} {w : World} (g : HG C ι F H w) : ∀ {l out : List AV} {ys : List Value}, kE H l = some out → RdV w (a7 C.X ι H) ι l ys → RdV w C.X (fun _ => none) out ys ∧ c9 out = true
 | [], out, ys, h, hy => by simp only [kE, Option.some.injEq] at h; subst h; simp only [RdV] at hy ⊢; exact ⟨hy, rfl⟩
 | c :: cs, out, ys, h, hy => by
  simp only [kE] at h
  split at h
  ·rename_i x l h1 h2
   cases h
   simp only [RdV] at hy ⊢
   obtain ⟨y, ys', rfl, q1, q2⟩ := hy
   obtain ⟨q3, q4⟩ := zI g h2 q2
   exact ⟨⟨y, ys', rfl, Gz g h1 q1, q3⟩, by simp only [c9, Bool.and_eq_true]; exact ⟨Es h1, q4⟩⟩
  ·cases h

theorem Ix {k : FuncId} {args : Array Operand} {tys : Array TypeId} {avs avs2 : List AV} {r : AV} {d : Nat} (hc : fT P k = true) (ha : evL (lk ts) args.toList = some avs) (hl : kE (cK hs) avs = some avs2) (h : PC P k avs2 (fun x => x = r)) (hfr : r.free = true) (hN : d < N)
  (kk : RW P N all Q (md.add (gL args.toList ++ rL avs) [.inl d]) rest ⟨(d, r) :: ts, hs, n, z0⟩) : RW P N all Q md (⟨some d, .call ⟨.value (.func k), args, tys⟩, ty, pos, af, none⟩ :: rest) ⟨ts, hs, n, z0⟩ := by
 refine kF (rs := gL args.toList ++ rL avs) (ws := []) (n' := n) (out := r) rfl (Nat.le_refl _) (.inl rfl) (fun C ι F T H a w K Q' hCN ag hF g gh hK => ?_) (fun x hx => by cases hx; exact hN) kk
 simp only [Oper.wp, jM hc, Oper.upon]
 obtain ⟨hv, hp⟩ := zI gh ((vK ag.r).trans hl) (j5 g (ag.l.evL.trans ha))
 let C' : Ctx := { N := 0, w0 := w, W0 := fun _ => False, X := C.X, ι0 := fun _ => none, xlt := fun b hb => Nat.lt_of_lt_of_le (C.xlt b hb) gh.fr.size }
 have hbad : ∀ b, a7 C'.X (fun _ => none) (cK []) b ↔ C.X b := fun b => ⟨fun h => (by rcases h with h | ⟨id, cs, β, h1, h2⟩ <;> first | exact h | cases h2), fun h => Or.inl h⟩
 have g' : HG C' (fun _ => none) (fun j => 0 ≤ j) (cK []) w :=
  ⟨fun id cs h => by simp [cK] at h, fun id id' cs cs' b β β' h => by simp [cK] at h, Fr.refl _ _, fun _ _ h => h, fun _ _ => rfl⟩
 have hcar : Carry w C.X (fun _ => none) w (a7 C'.X (fun _ => none) (cK [])) (fun _ => none) := ⟨fun b o x h1 h2 => ⟨fun h => h1 ((hbad b).1 h), h2⟩, fun _ _ h => h, fun _ => Nat.le_refl _⟩
 refine (h C' _ w _ rfl rfl g' (RdV.carry hcar _ _ hv)).mono ?_
 rintro e w' ⟨v, r', H', ι', rfl, ⟨rfl, _⟩, h4, h5⟩
 obtain ⟨g2, c2⟩ := gh.ext h5.fr
 exact hK ι w' v (g.carry c2) (g2.less (fun _ _ h => h) (fun j hj => hj.1)).1 (Rd.free _ _ hfr h4)
end
end Go.AL

namespace Go.AL
open Go.RowKit
set_option linter.unusedVariables false

class SlT (P : Program) (t : Nat) (e : outParam Nat) : Prop where pf : mG P t = some e
class SzT (P : Program) (t : Nat) (e : outParam Nat) : Prop where pf : gJ P t = some e
class ByT (P : Program) (t : Nat) (e : outParam Nat) : Prop where pf : Ce P t = some e
class AgT (P : Program) (t : Nat) (e : outParam Bool) : Prop where pf : tV P t = some e
class ZrT (P : Program) (t : Nat) (e : outParam (List Value)) : Prop where pf : oU P t = some e
class FdT (P : Program) (t f : Nat) (o ft : outParam Nat) : Prop where pf : zH P t f = some (o, ft)
class ArT (P : Program) (t : Nat) (n e : outParam Nat) : Prop where pf : Bt P t = some (n, e)
class InT (P : Program) (t : Nat) (k : outParam IntKind) : Prop where pf : Aq P t = some k
class StT (P : Program) (t : Nat) : Prop where pf : P.underlying t = some .string
class PtT (P : Program) (t : Nat) (l : outParam (List (Nat × Nat))) : Prop where pf : Hw P t = some l
class CaT (P : Program) (k : Nat) : Prop where pf : fT P k = true

class MdA (md : Md) (rs ws : List jH) (md' : outParam Md) : Prop where pf : md.add rs ws = md'
instance (rs ws : List jH) : MdA .txt rs ws .txt := ⟨rfl⟩
instance (ks : List (List jH × List jH)) (p rs ws : List jH) : MdA (.drw ks p) rs ws (.drw (ks ++ [(p ++ rs, ws)]) []) := ⟨rfl⟩
class MdP (md : Md) (r : jH) (md' : outParam Md) : Prop where pf : md.pen r = md'
instance (r : jH) : MdP .txt r .txt := ⟨rfl⟩
instance (ks : List (List jH × List jH)) (p : List jH) (r : jH) : MdP (.drw ks p) r (.drw ks (r :: p)) := ⟨rfl⟩

def aI {α : Type} (f : α → List AV) (xs : List α) : List AV := xs.flatMap f
class FlT {α : Type} (f : α → List AV) (e : outParam Nat) : Prop where pf : ∀ x, (f x).length = e

theorem aR {α : Type} (f : α → List AV) {e : Nat} [h : FlT f e] : ∀ (xs : List α), (aI f xs).length = xs.length * e
 | [] => by simp [aI]
 | x :: xs => by
  have := aR f (e := e) xs
  simp only [aI, List.flatMap_cons, List.length_append, List.length_cons, h.pf] at this ⊢
  rw [this, Nat.add_mul]; omega

theorem gM {α : Type} [Inhabited α] (f : α → List AV) {e : Nat} [h : FlT f e] : ∀ (xs : List α) (k : Nat), k < xs.length → (aI f xs).drop (k * e) = f xs[k]! ++ aI f (xs.drop (k + 1))
 | [], k, hk => by simp at hk
 | x :: xs, 0, _ => by simp [aI]
 | x :: xs, k + 1, hk => by
  have := gM f (e := e) xs k (by simpa using hk)
  simp only [aI, List.flatMap_cons, List.drop_succ_cons] at this ⊢
  rw [show (k + 1) * e = (f x).length + k * e from by rw [h.pf, Nat.add_mul]; omega, ← List.drop_drop, List.drop_left, this]
  simp

theorem fA {α : Type} (f : α → List AV) {e : Nat} [h : FlT f e] : ∀ (xs : List α) (k : Nat), (aI f xs).take (k * e) = aI f (xs.take k)
 | [], k => by simp [aI]
 | x :: xs, 0 => by simp [aI]
 | x :: xs, k + 1 => by
  have := fA f (e := e) xs k
  simp only [aI, List.flatMap_cons, List.take_succ_cons] at this ⊢
  rw [show (k + 1) * e = (f x).length + k * e from by rw [h.pf, Nat.add_mul]; omega, List.take_length_add_append, this]

theorem j6 {α : Type} (f : α → List AV) {e : Nat} [h : FlT f e] : ∀ (xs : List α) (k : Nat), (aI f xs).drop (k * e) = aI f (xs.drop k)
 | [], k => by simp [aI]
 | x :: xs, 0 => by simp [aI]
 | x :: xs, k + 1 => by
  have := j6 f (e := e) xs k
  simp only [aI, List.flatMap_cons, List.drop_succ_cons] at this ⊢
  rw [show (k + 1) * e = (f x).length + k * e from by rw [h.pf, Nat.add_mul]; omega, ← List.drop_drop, List.drop_left, this]

theorem dQ {α : Type} (f : α → List AV) (xs ys : List α) : aI f xs ++ aI f ys = aI f (xs ++ ys) := by simp [aI]
theorem AX {α : Type} (f : α → List AV) (x : α) : aI f [x] = f x := by simp [aI]

theorem G9 {α : Type} (f : α → List AV) {e : Nat} [h : FlT f e] (xs : List α) (k : Nat) (y : α) (hk : k < xs.length) : iV (aI f xs) (k * e) (f y) = aI f (xs.set k y) := by
 unfold iV
 rw [fA, h.pf, show k * e + e = (k + 1) * e from by rw [Nat.add_mul]; omega, j6, ← AX f y, dQ, dQ]
 congr 1
 rw [List.set_eq_take_append_cons_drop, if_pos hk]
 simp

abbrev sl {α : Type} (f : α → List AV) (xs : List α) : AV := .imm xs.length (aI f xs)
abbrev iv (n : Int) : AV := .v (.int .i64 n)
abbrev bv (b : Bool) : AV := .v (.bool b)
abbrev sv (s : ByteArray) : AV := .v (.string s)
def cI (n : Int) : List AV := [.v (.int .i64 n)]
instance : FlT cI 1 := ⟨fun _ => rfl⟩
theorem jI : ∀ (xs ys : List AV), c9 (xs ++ ys) = (c9 xs && c9 ys)
 | [], ys => by simp [c9]
 | x :: xs, ys => by simp [c9, jI xs ys, Bool.and_assoc]
theorem tU {α : Type} (f : α → List AV) (h : ∀ x, c9 (f x) = true) : ∀ xs, c9 (aI f xs) = true
 | [] => rfl
 | x :: xs => by
  have := tU f h xs
  simp only [aI, List.flatMap_cons, jI, h, Bool.true_and] at this ⊢
  exact this
class FE {α : Type} (f : α → List AV) (g : outParam (α → List AV)) : Prop where pf : ∀ x, f x = g x
instance : FE cI (fun n => [.v (.int .i64 n)]) := ⟨fun _ => rfl⟩
class Pur (av : List AV) : Prop where pf : c9 av = true
instance (n : Int) : Pur (cI n) := ⟨rfl⟩
instance {α : Type} (f : α → List AV) [h : ∀ x, Pur (f x)] (xs : List α) : Pur (aI f xs) := ⟨tU f (fun x => (h x).pf) xs⟩
theorem aY {α : Type} (f : α → List AV) [h : ∀ x, Pur (f x)] (xs : List α) : (sl f xs).pur = true := by simp only [AV.pur]; exact tU f (fun x => (h x).pf) xs

section
variable {P : Program} {N : Nat} {Q : Exit → AS → Prop} {all : Array Oper} {rest : List Oper} {ts : List (Nat × AV)} {hs : List (Nat × Option (List AV))} {n : Nat} {z0 : Lo} {md : Md}
variable {d : Nat} {ty : TypeId} {pos : String} {af : Array Edge}


theorem aE {x : Operand} {av : AV} (hx : ev (lk ts) x = some av) (hN : Nat.blt d N = true) {md' : Md} [hmd : MdA md (rO x) [.inl d] md'] (k : RW P N all Q md' rest ⟨(d, av) :: ts, hs, n, z0⟩) : RW P N all Q md (⟨some d, .move x, ty, pos, af, none⟩ :: rest) ⟨ts, hs, n, z0⟩ := Ig hx (eJ hN) (by rw [hmd.pf]; exact k)
theorem aC {x : Operand} {av : AV} (hx : ev (lk ts) x = some av) (hN : Nat.blt d N = true) {md' : Md} [hmd : MdA md (rO x) [.inl d] md'] (k : RW P N all Q md' rest ⟨(d, av) :: ts, hs, n, z0⟩) : RW P N all Q md (⟨some d, .assign x, ty, pos, af, none⟩ :: rest) ⟨ts, hs, n, z0⟩ := DL hx (eJ hN) (by rw [hmd.pf]; exact k)
theorem aU {op : BinOp} {t t' : TypeId} {x y : Operand} {k : IntKind} {m m' : Int} {v : Value} (hx : ev (lk ts) x = some (.v (.int k m))) (hy : ev (lk ts) y = some (.v (.int k m')))
  (h : hG op k m m' = some v) (hN : Nat.blt d N = true) {md' : Md} [hmd : MdA md (rO x ++ rO y) [.inl d] md'] (kk : RW P N all Q md' rest ⟨(d, .v v) :: ts, hs, n, z0⟩) : RW P N all Q md (⟨some d, .binOp op t x y t', ty, pos, af, none⟩ :: rest) ⟨ts, hs, n, z0⟩ := eX hx hy (.inl rfl) h (eJ hN) (by rw [hmd.pf]; exact kk)
theorem bS {t t' : TypeId} {x y : Operand} {m m' : Int} (hx : ev (lk ts) x = some (.v (.int .i64 m))) (hy : ev (lk ts) y = some (.v (.int .i64 m')))
  (h : -9223372036854775808 ≤ m + m' ∧ m + m' ≤ 9223372036854775807) (hN : Nat.blt d N = true) {md' : Md} [hmd : MdA md (rO x ++ rO y) [.inl d] md'] (kk : RW P N all Q md' rest ⟨(d, .v (.int .i64 (m + m'))) :: ts, hs, n, z0⟩) : RW P N all Q md (⟨some d, .binOp .add t x y t', ty, pos, af, none⟩ :: rest) ⟨ts, hs, n, z0⟩ := Kz hx hy h (eJ hN) (by rw [hmd.pf]; exact kk)
theorem hU {t t' : TypeId} {x y : Operand} {m m' : Int} (hx : ev (lk ts) x = some (.v (.int .i64 m))) (hy : ev (lk ts) y = some (.v (.int .i64 m')))
  (h : -9223372036854775808 ≤ m - m' ∧ m - m' ≤ 9223372036854775807) (hN : Nat.blt d N = true) {md' : Md} [hmd : MdA md (rO x ++ rO y) [.inl d] md'] (kk : RW P N all Q md' rest ⟨(d, .v (.int .i64 (m - m'))) :: ts, hs, n, z0⟩) : RW P N all Q md (⟨some d, .binOp .sub t x y t', ty, pos, af, none⟩ :: rest) ⟨ts, hs, n, z0⟩ := JV hx hy h (eJ hN) (by rw [hmd.pf]; exact kk)
theorem cF {t : TypeId} {x : Operand} {b : Bool} (hx : ev (lk ts) x = some (.v (.bool b))) (hN : Nat.blt d N = true) {md' : Md} [hmd : MdA md (rO x) [.inl d] md'] (kk : RW P N all Q md' rest ⟨(d, .v (.bool !b)) :: ts, hs, n, z0⟩) : RW P N all Q md (⟨some d, .unOp .not t x, ty, pos, af, none⟩ :: rest) ⟨ts, hs, n, z0⟩ := JG hx (eJ hN) (by rw [hmd.pf]; exact kk)
theorem b8 {x : Operand} {av : AV} (hx : ev (lk ts) x = some av) (hp : CX av = true) (hN : Nat.blt d N = true) {md' : Md} [hmd : MdA md (rO x) [.inl d] md'] (kk : RW P N all Q md' rest ⟨(d, av) :: ts, hs, n, z0⟩) : RW P N all Q md (⟨some d, .nilCheck x, ty, pos, af, none⟩ :: rest) ⟨ts, hs, n, z0⟩ := HV hx hp (eJ hN) (by rw [hmd.pf]; exact kk)
theorem aD {s : TypeId} {f : Nat} {x : Operand} {av out : AV} {fo ft z : Nat} [hf : FdT P s f fo ft] [hz : SzT P ft (z + 1)] (hx : ev (lk ts) x = some av) (hp : zC fo av = some out) (hN : Nat.blt d N = true)
  {md' : Md} [hmd : MdA md (rO x) [.inl d] md'] (kk : RW P N all Q md' rest ⟨(d, out) :: ts, hs, n, z0⟩) : RW P N all Q md (⟨some d, .fieldAddr s x f, ty, pos, af, none⟩ :: rest) ⟨ts, hs, n, z0⟩ := yX hx hf.pf hz.pf hp (eJ hN) (by rw [hmd.pf]; exact kk)
theorem aZ {α : Type} {hα : Inhabited α} {f g : α → List AV} {xs : List α} {t el e m k : Nat} {x i : Operand} {kk0 : IntKind} [ht : SlT P t el] [he : SzT P el e] (hx : ev (lk ts) x = some (.imm m (aI f xs)))
  (hi : ev (lk ts) i = some (.v (.int kk0 (k : Int)))) (hm : k < m) (hml : m = xs.length) (hf : FlT f e) (hg : FE f g) (hN : Nat.blt d N = true) {md' : Md} [hmd : MdA md (rO x ++ rO i) [.inl d] md'] (kk : RW P N all Q md' rest ⟨(d, .iptr (g xs[k]! ++ aI f (xs.drop (k + 1)))) :: ts, hs, n, z0⟩) :
  RW P N all Q md (⟨some d, .indexAddr t x i, ty, pos, af, none⟩ :: rest) ⟨ts, hs, n, z0⟩ :=
 gY hx hi ht.pf he.pf (by simp only [A4]; rw [if_pos (by omega), Int.toNat_natCast, gM f xs k (by omega), hg.pf]) (eJ hN) (by rw [hmd.pf]; exact kk)
theorem cP {α : Type} {hα : Inhabited α} {f g : α → List AV} {xs : List α} {t el e m : Nat} {x i : Operand} {kk0 : IntKind} {k : Int} [ht : SlT P t el] [he : SzT P el e] (hx : ev (lk ts) x = some (.imm m (aI f xs)))
  (hi : ev (lk ts) i = some (.v (.int kk0 k))) (hm : 0 ≤ k ∧ k < m) (hml : m = xs.length) (hf : FlT f e) (hg : FE f g) (hN : Nat.blt d N = true) {md' : Md} [hmd : MdA md (rO x ++ rO i) [.inl d] md'] (kk : RW P N all Q md' rest ⟨(d, .iptr (g xs[k.toNat]! ++ aI f (xs.drop (k.toNat + 1)))) :: ts, hs, n, z0⟩) :
  RW P N all Q md (⟨some d, .indexAddr t x i, ty, pos, af, none⟩ :: rest) ⟨ts, hs, n, z0⟩ :=
 gY hx hi ht.pf he.pf (by simp only [A4]; rw [if_pos hm, gM f xs k.toNat (by omega), hg.pf]) (eJ hN) (by rw [hmd.pf]; exact kk)
theorem cM {t el e m k id off e' : Nat} {x i : Operand} {kk0 : IntKind} [ht : SlT P t el] [he : SzT P el e] (hx : ev (lk ts) x = some (.own id off m e'))
  (hi : ev (lk ts) i = some (.v (.int kk0 (k : Int)))) (hm : k < m) (hN : Nat.blt d N = true) {md' : Md} [hmd : MdA md (rO x ++ rO i) [.inl d] md'] (kk : RW P N all Q md' rest ⟨(d, .optr id (off + k * e)) :: ts, hs, n, z0⟩) :
  RW P N all Q md (⟨some d, .indexAddr t x i, ty, pos, af, none⟩ :: rest) ⟨ts, hs, n, z0⟩ :=
 gY hx hi ht.pf he.pf (by simp only [A4]; rw [if_pos (by omega), Int.toNat_natCast]) (eJ hN) (by rw [hmd.pf]; exact kk)
theorem cQ {t el e m id off e' : Nat} {x i : Operand} {kk0 : IntKind} {k : Int} [ht : SlT P t el] [he : SzT P el e] (hx : ev (lk ts) x = some (.own id off m e'))
  (hi : ev (lk ts) i = some (.v (.int kk0 k))) (hm : 0 ≤ k ∧ k < m) (hN : Nat.blt d N = true) {md' : Md} [hmd : MdA md (rO x ++ rO i) [.inl d] md'] (kk : RW P N all Q md' rest ⟨(d, .optr id (off + k.toNat * e)) :: ts, hs, n, z0⟩) :
  RW P N all Q md (⟨some d, .indexAddr t x i, ty, pos, af, none⟩ :: rest) ⟨ts, hs, n, z0⟩ :=
 gY hx hi ht.pf he.pf (by simp only [A4]; rw [if_pos hm]) (eJ hN) (by rw [hmd.pf]; exact kk)
theorem aN {t : TypeId} {x : Operand} {av c : AV} {cs : List AV} [ha : AgT P t false] (hx : ev (lk ts) x = some av)
  (hd : deref (cK hs) av = some cs) (hc : cs[0]? = some c) (hN : Nat.blt d N = true) {md' : Md} [hmd : MdA md (rO x ++ rA av) [.inl d] md'] (kk : RW P N all Q md' rest ⟨(d, c) :: ts, hs, n, z0⟩) : RW P N all Q md (⟨some d, .load t x, ty, pos, af, none⟩ :: rest) ⟨ts, hs, n, z0⟩ := oE hx ha.pf hd hc (eJ hN) (by rw [hmd.pf]; exact kk)
theorem aV {t : TypeId} {x : Operand} {av : AV} {z : Nat} {cs cs' : List AV} [ha : AgT P t true] [hz : SzT P t z] (hx : ev (lk ts) x = some av)
  (hd : deref (cK hs) av = some cs) (hc : cs.take z = cs') (hn : cs'.length = z) (h0 : Nat.blt 0 z = true) (hN : Nat.blt d N = true) {md' : Md} [hmd : MdA md (rO x ++ rA av) [.inl d] md'] (kk : RW P N all Q md' rest ⟨(d, .agg cs') :: ts, hs, n, z0⟩) :
  RW P N all Q md (⟨some d, .load t x, ty, pos, af, none⟩ :: rest) ⟨ts, hs, n, z0⟩ := k6 hx ha.pf hz.pf hd hc hn (by have := eJ h0; omega) (eJ hN) (by rw [hmd.pf]; exact kk)
theorem bQ {t el m : Nat} {x : Operand} {av : AV} {l : List TypeId} [ht : SlT P t el] (hx : ev (lk ts) x = some av)
  (hn : (match qM av with | .own _ _ n _ => some n | .imm n _ => some n | _ => none) = some m) (hN : Nat.blt d N = true) {md' : Md} [hmd : MdA md (rO x) [.inl d] md'] (kk : RW P N all Q md' rest ⟨(d, .v (.int .i64 (m : Int))) :: ts, hs, n, z0⟩) :
  RW P N all Q md (⟨some d, .call ⟨.builtin .len, #[x], (t :: l).toArray⟩, ty, pos, af, none⟩ :: rest) ⟨ts, hs, n, z0⟩ := Kv (by simp) hx ht.pf hn (eJ hN) (by rw [hmd.pf]; exact kk)
theorem kL {t : Nat} {x : Operand} {l : List TypeId} {s : ByteArray} [ht : StT P t] (hx : ev (lk ts) x = some (.v (.string s))) (hN : Nat.blt d N = true) {md' : Md} [hmd : MdA md (rO x) [.inl d] md'] (kk : RW P N all Q md' rest ⟨(d, .v (.int .i64 (s.size : Int))) :: ts, hs, n, z0⟩) :
  RW P N all Q md (⟨some d, .call ⟨.builtin .len, #[x], (t :: l).toArray⟩, ty, pos, af, none⟩ :: rest) ⟨ts, hs, n, z0⟩ := I7 (by simp) hx ht.pf (eJ hN) (by rw [hmd.pf]; exact kk)
theorem bC {x : Operand} {i : Nat} {cs : List AV} {c : AV} (hx : ev (lk ts) x = some (.tup cs)) (hc : cs[i]? = some c) (hN : Nat.blt d N = true) {md' : Md} [hmd : MdA md (rO x) [.inl d] md'] (kk : RW P N all Q md' rest ⟨(d, c) :: ts, hs, n, z0⟩) :
  RW P N all Q md (⟨some d, .extract x i, ty, pos, af, none⟩ :: rest) ⟨ts, hs, n, z0⟩ := BZ hx hc (eJ hN) (by rw [hmd.pf]; exact kk)
theorem z7 {t : TypeId} {parts : Array (Nat × Operand)} {pl : List (Nat × Nat)} {zs : List Value} {l : List (Nat × AV)} {cs : List AV} [hp : PtT P t pl] [hz : ZrT P t zs]
  (hl : evs (lk ts) parts.toList = some l) (hf : jZ (pl[·]?) (zs.map .v) l = some cs) (hN : Nat.blt d N = true) {md' : Md} [hmd : MdA md (Jx parts.toList) [.inl d] md'] (kk : RW P N all Q md' rest ⟨(d, .agg cs) :: ts, hs, n, z0⟩) :
  RW P N all Q md (⟨some d, .build t parts, ty, pos, af, none⟩ :: rest) ⟨ts, hs, n, z0⟩ := Gg hp.pf hz.pf hl hf (eJ hN) (by rw [hmd.pf]; exact kk)
theorem bD {t : TypeId} {zs : List Value} [hz : ZrT P t zs] (hM : Nat.blt n eR = true) (hN : Nat.blt d N = true) {md' : Md} [hmd : MdA md ([]) [.inr n, .inl d] md'] (kk : RW P N all Q md' rest ⟨(d, .optr n 0) :: ts, (n, some (zs.map .v)) :: hs, n + 1, z0⟩) :
  RW P N all Q md (⟨some d, .alloc t, ty, pos, af, none⟩ :: rest) ⟨ts, hs, n, z0⟩ := ES hz.pf hM (eJ hN) (by rw [hmd.pf]; exact kk)
theorem bH {t : TypeId} {x : Operand} {av : AV} {cs : List AV} (hx : ev (lk ts) x = some av) (hc : cellsOf av = some cs) (hM : Nat.blt n eR = true) (hN : Nat.blt d N = true) {md' : Md} [hmd : MdA md (rO x) [.inr n, .inl d] md'] (kk : RW P N all Q md' rest ⟨(d, .optr n 0) :: ts, (n, some cs) :: hs, n + 1, z0⟩) :
  RW P N all Q md (⟨some d, .box t x, ty, pos, af, none⟩ :: rest) ⟨ts, hs, n, z0⟩ := JX hx hc hM (eJ hN) (by rw [hmd.pf]; exact kk)
theorem b0 {t el len e : Nat} {parts : Array (Nat × Operand)} {zs : List Value} {l : List (Nat × AV)} {cs : List AV} [ht : SlT P t el] [he : SzT P el e] [hz : ZrT P el zs] (hze : zs.length = e) (hsm : Nat.ble (len * e) 16777216 = true)
  (hl : evs (lk ts) parts.toList = some l) (hfl : jZ (fun i => some (i * e, e)) ((List.replicate len (zs.map .v)).flatten) l = some cs) (hM : Nat.blt n eR = true) (hN : Nat.blt d N = true) {md' : Md} [hmd : MdA md (Jx parts.toList) [.inr n, .inl d] md'] (kk : RW P N all Q md' rest ⟨(d, .own n 0 len e) :: ts, (n, some cs) :: hs, n + 1, z0⟩) :
  RW P N all Q md (⟨some d, .buildSlice t len parts, ty, pos, af, none⟩ :: rest) ⟨ts, hs, n, z0⟩ := uV ht.pf he.pf hz.pf hze (by simpa using hsm) hl hfl hM (eJ hN) (by rw [hmd.pf]; exact kk)
theorem aW {t : TypeId} {x y : Operand} {id off z : Nat} {av : AV} {cs new cs' : List AV} [hz : SzT P t z] (hx : ev (lk ts) x = some (.optr id off)) (hy : ev (lk ts) y = some av)
  (hc : cellsOf av = some new) (hn : new.length = z) (hH : cK hs id = some cs) (hl : off + new.length ≤ cs.length) (hcs : iV cs off new = cs')
  {md' : Md} [hmd : MdA md (rO x ++ (rO y ++ [.inr id])) [.inr id] md'] (kk : RW P N all Q md' rest ⟨ts, (id, some cs') :: hs, n, z0⟩) : RW P N all Q md (⟨none, .store t x y, ty, pos, af, none⟩ :: rest) ⟨ts, hs, n, z0⟩ := AQ hx hy hz.pf hc hn hH hl hcs (by rw [hmd.pf]; exact kk)
theorem bY {t el id off m m' e by' : Nat} {x y : Operand} {av : AV} {cs new cs' : List AV} {zs : List Value} [ht : SlT P t el] [he : SzT P el e] [hb : ByT P el by'] [hz : ZrT P el zs]
  (hx : ev (lk ts) x = some (.own id off m e)) (hy : ev (lk ts) y = some av) (hze : zs.length = e) (he0 : Nat.blt 0 e = true)
  (hH : cK hs id = some cs) (hl : off + m * e ≤ cs.length) (hs' : sCells (cK hs) e (qM av) = some (m', new)) (hbig : (m + m') * by' ≤ 140737488355328) (hmx : m + m' ≤ 9223372036854775807)
  (hcs : (cs.drop off).take (m * e) ++ new = cs') (hM : Nat.blt n eR = true) (hN : Nat.blt d N = true) {md' : Md} [hmd : MdA md (rO x ++ (rO y ++ ([.inr id] ++ rA av))) [.inr id, .inr n, .inl d] md'] (kk : RW P N all Q md' rest ⟨(d, .own n 0 (m + m') e) :: ts, (n, some cs') :: (id, none) :: hs, n + 1, z0⟩) :
  RW P N all Q md (⟨some d, .call ⟨.builtin .append, #[x, y], #[t, t]⟩, ty, pos, af, none⟩ :: rest) ⟨ts, hs, n, z0⟩ := EI hx hy ht.pf he.pf hb.pf hz.pf hze (eJ he0) rfl hH hl hs' hbig hmx hcs hM (eJ hN) (by rw [hmd.pf]; exact kk)
theorem jL {k : FuncId} {args : Array Operand} {tys : Array TypeId} {avs : List AV} {Q1 : AV → Prop} [hc : CaT P k] (ha : evL (lk ts) args.toList = some avs) (h : PC P k avs Q1) (hp : c9 avs = true) (hN : Nat.blt d N = true)
  (kk : ∀ r, Q1 r → r.pur = true → RW P N all Q .txt rest ⟨(d, r) :: ts, hs, n, z0⟩) : RW P N all Q .txt (⟨some d, .call ⟨.value (.func k), args, tys⟩, ty, pos, af, none⟩ :: rest) ⟨ts, hs, n, z0⟩ := IC hc.pf ha h hp (eJ hN) kk
theorem aJ {k : FuncId} {args : Array Operand} {tys : Array TypeId} {avs : List AV} {r : AV} [hc : CaT P k] (ha : evL (lk ts) args.toList = some avs) (h : PC P k avs (fun x => x = r)) (hp : c9 avs = true) (hN : Nat.blt d N = true)
  {md' : Md} [hmd : MdA md (gL args.toList) [.inl d] md'] (kk : RW P N all Q md' rest ⟨(d, r) :: ts, hs, n, z0⟩) : RW P N all Q md (⟨some d, .call ⟨.value (.func k), args, tys⟩, ty, pos, af, none⟩ :: rest) ⟨ts, hs, n, z0⟩ := GS hc.pf ha h hp (eJ hN) (by rw [hmd.pf]; exact kk)
theorem a6 {dst : Option Tmp} {op : Op} {j d : Nat} {want b : Bool} {mdp : Md} [hmp : MdP md (.inl d) mdp] (hj : (all[j]?).bind (·.dst) = some d) (hb : lk ts d = some (.v (.bool b))) (hN : (match dst with | some d => Nat.blt d N | none => true) = true) (hw : b = want)
  (h1 : RW P N all Q mdp (⟨dst, op, ty, pos, af, none⟩ :: rest) ⟨ts, hs, n, z0⟩) : RW P N all Q md (⟨dst, op, ty, pos, af, some (j, want)⟩ :: rest) ⟨ts, hs, n, z0⟩ :=
 sY hj hb (fun d h => by subst h; exact eJ hN) (fun _ => hmp.pf ▸ h1) (fun h => by subst hw; cases b <;> simp at h)
theorem bU {c x y : Operand} {b : Bool} {av : AV} (hc : ev (lk ts) c = some (.v (.bool b))) (hb : b = true) (hx : ev (lk ts) x = some av) (hN : Nat.blt d N = true) {md' : Md} [hmd : MdA md (rO c ++ rO x) [.inl d] md'] (k : RW P N all Q md' rest ⟨(d, av) :: ts, hs, n, z0⟩) :
  RW P N all Q md (⟨some d, .pick c x y, ty, pos, af, none⟩ :: rest) ⟨ts, hs, n, z0⟩ := FV hc hb hx (eJ hN) (by rw [hmd.pf]; exact k)
theorem bG {c x y : Operand} {b : Bool} {av : AV} (hc : ev (lk ts) c = some (.v (.bool b))) (hb : b = false) (hx : ev (lk ts) y = some av) (hN : Nat.blt d N = true) {md' : Md} [hmd : MdA md (rO c ++ rO y) [.inl d] md'] (k : RW P N all Q md' rest ⟨(d, av) :: ts, hs, n, z0⟩) :
  RW P N all Q md (⟨some d, .pick c x y, ty, pos, af, none⟩ :: rest) ⟨ts, hs, n, z0⟩ := FM hc hb hx (eJ hN) (by rw [hmd.pf]; exact k)
end

section
variable {P : Program} {N : Nat} {Q : Exit → AS → Prop} {K : AS → Prop} {s : AS}
theorem aA (h : K s) : wJ K Q .normal s := h
theorem bE (h : Q .ret s) : wJ K Q .ret s := h
theorem bI {i : Nat} (h : Q (.exit i) s) : wJ K Q (.exit i) s := h
theorem aX {i : Nat} (h : Q .normal s) : B7 i Q .normal s := h
theorem cO {i : Nat} (h : Q .ret s) : B7 i Q .ret s := h
theorem bJ {i : Nat} (h : Q .normal s) : B7 i Q (.exit i) s := by simp [B7, h]
theorem aO {res : Array ResultVar} {Q : AV → (Nat → Option (List AV)) → Prop} {l : List AV} (hr : u6 P (lk s.ts) (cK s.hs) res.toList = some l) (h : Q (bW l) (cK s.hs)) : Ag P res Q .ret s :=
 ⟨.inl rfl, s, l, Le.refl _, hr, h⟩
theorem BT {res : Array ResultVar} {Q : AV → (Nat → Option (List AV)) → Prop} {l : List AV} (hr : u6 P (lk s.ts) (cK s.hs) res.toList = some l) (h : Q (bW l) (cK s.hs)) : Ag P res Q .normal s :=
 ⟨.inr rfl, s, l, Le.refl _, hr, h⟩
theorem cE {res : Array ResultVar} {Q : AV → (Nat → Option (List AV)) → Prop} {e : Exit} {s' : AS} (hl : Le s s') (h : Ag P res Q e s') : Ag P res Q e s := by
 obtain ⟨h1, s2, l, h2, h3, h4⟩ := h
 exact ⟨h1, s2, l, fun C a w g => h2 C a w (hl C a w g), h3, h4⟩
theorem bZ {x y : Code} {c : Operand} {b : Bool} (hc : ev (lk s.ts) c = some (.v (.bool b))) (hb : b = true) (h : AW P N x Q s) : AW P N (.cond c x y) Q s := aP hc (fun _ => h) (fun e => by subst hb; cases e)
theorem cG {x y : Code} {c : Operand} {b : Bool} (hc : ev (lk s.ts) c = some (.v (.bool b))) (hb : b = false) (h : AW P N y Q s) : AW P N (.cond c x y) Q s := aP hc (fun e => by subst hb; cases e) (fun _ => h)
end
end Go.AL

namespace Go.AL
open Go.RowKit
set_option linter.unusedVariables false

def cU (b : UInt8) : List AV := [.v (.int .u8 (b.toNat : Int))]
instance : FlT cU 1 := ⟨fun _ => rfl⟩
instance : FE cU (fun b => [.v (.int .u8 (b.toNat : Int))]) := ⟨fun _ => rfl⟩
instance (n : UInt8) : Pur (cU n) := ⟨rfl⟩
theorem K9 (b : UInt8) : -9223372036854775808 ≤ (b.toNat : Int) ∧ (b.toNat : Int) ≤ 9223372036854775807 := by have := UInt8.toNat_lt b; omega

section
variable {P : Program} {N : Nat} {Q : Exit → AS → Prop} {all : Array Oper} {rest : List Oper} {ts : List (Nat × AV)} {hs : List (Nat × Option (List AV))} {n : Nat} {z0 : Lo} {md : Md}
variable {d : Nat} {ty : TypeId} {pos : String} {af : Array Edge}

theorem KJ {t t' : TypeId} {x y : Operand} {m m' : Int} (hx : ev (lk ts) x = some (.v (.int .i64 m))) (hy : ev (lk ts) y = some (.v (.int .i64 m')))
  (h : -9223372036854775808 ≤ m * m' ∧ m * m' ≤ 9223372036854775807) (hN : Nat.blt d N = true) {md' : Md} [hmd : MdA md (rO x ++ rO y) [.inl d] md'] (kk : RW P N all Q md' rest ⟨(d, .v (.int .i64 (m * m'))) :: ts, hs, n, z0⟩) : RW P N all Q md (⟨some d, .binOp .mul t x y t', ty, pos, af, none⟩ :: rest) ⟨ts, hs, n, z0⟩ :=
 eX (v := .int .i64 (m * m')) hx hy (.inl rfl) (by simp only [hG, IntWalk.i64_in _ h]) (eJ hN) (by rw [hmd.pf]; exact kk)
theorem Gh {t t' : TypeId} {x y : Operand} {k : IntKind} {m m' : Int} (hx : ev (lk ts) x = some (.v (.int k m))) (hy : ev (lk ts) y = some (.v (.int k m')))
  (h : 0 ≤ m ∧ 0 < m') (hN : Nat.blt d N = true) {md' : Md} [hmd : MdA md (rO x ++ rO y) [.inl d] md'] (kk : RW P N all Q md' rest ⟨(d, .v (.int k (m % m'))) :: ts, hs, n, z0⟩) : RW P N all Q md (⟨some d, .binOp .rem t x y t', ty, pos, af, none⟩ :: rest) ⟨ts, hs, n, z0⟩ :=
 eX (v := .int k (m % m')) hx hy (.inl rfl) (by simp only [hG]; rw [if_neg (by omega), Int.tmod_eq_emod_of_nonneg h.1]) (eJ hN) (by rw [hmd.pf]; exact kk)
theorem Fz {t t' : TypeId} {x y : Operand} {m m' : Int} (hx : ev (lk ts) x = some (.v (.int .i64 m))) (hy : ev (lk ts) y = some (.v (.int .i64 m')))
  (h : 0 ≤ m ∧ 0 < m' ∧ m ≤ 9223372036854775807) (hN : Nat.blt d N = true) {md' : Md} [hmd : MdA md (rO x ++ rO y) [.inl d] md'] (kk : RW P N all Q md' rest ⟨(d, .v (.int .i64 (m / m'))) :: ts, hs, n, z0⟩) : RW P N all Q md (⟨some d, .binOp .quo t x y t', ty, pos, af, none⟩ :: rest) ⟨ts, hs, n, z0⟩ :=
 eX (v := .int .i64 (m / m')) hx hy (.inl rfl) (by
  have h1 : 0 ≤ m / m' := Int.ediv_nonneg h.1 (by omega)
  have h2 : m / m' ≤ m := Int.ediv_le_self _ h.1
  simp only [hG]; rw [if_neg (by omega), Int.tdiv_eq_ediv_of_nonneg h.1, IntWalk.i64_in _ ⟨by omega, by omega⟩]) (eJ hN) (by rw [hmd.pf]; exact kk)
theorem pK {s t : TypeId} {x : Operand} {k' : IntKind} {m : Int} [hd : InT P t .i64] [hs' : InT P s k'] (hx : ev (lk ts) x = some (.v (.int k' m))) (h : -9223372036854775808 ≤ m ∧ m ≤ 9223372036854775807) (hN : Nat.blt d N = true) {md' : Md} [hmd : MdA md (rO x) [.inl d] md'] (kk : RW P N all Q md' rest ⟨(d, .v (.int .i64 m)) :: ts, hs, n, z0⟩) :
  RW P N all Q md (⟨some d, .convert s t x, ty, pos, af, none⟩ :: rest) ⟨ts, hs, n, z0⟩ := C8 hx hd.pf hs'.pf (eJ hN) (by rw [hmd.pf, IntWalk.i64_in _ h]; exact kk)
theorem xH {t el e by' m : Nat} {x y : Operand} {zs : List Value} {k k' : IntKind} [ht : SlT P t el] [he : SzT P el e] [hb : ByT P el by'] [hz : ZrT P el zs]
  (hx : ev (lk ts) x = some (.v (.int k (m : Int)))) (hy : ev (lk ts) y = some (.v (.int k' (m : Int)))) (hze : zs.length = e) (hsm : by' * m ≤ 281474976710656) (hmx : m ≤ 9223372036854775807)
  (hM : Nat.blt n eR = true) (hN : Nat.blt d N = true) {md' : Md} [hmd : MdA md (rO x ++ rO y) [.inr n, .inl d] md'] (kk : RW P N all Q md' rest ⟨(d, .own n 0 m e) :: ts, (n, some ((List.replicate m (zs.map .v)).flatten)) :: hs, n + 1, z0⟩) :
  RW P N all Q md (⟨some d, .makeSlice t x y, ty, pos, af, none⟩ :: rest) ⟨ts, hs, n, z0⟩ :=
 xQ hx hy ht.pf he.pf hb.pf hz.pf hze hsm hmx hM (eJ hN) (by rw [hmd.pf]; exact kk)
theorem iS {t el : TypeId} {x : Operand} {lo hi : Option Operand} {av out : AV} {m e l h : Nat} [ht : SlT P t el] [he : SzT P el e] (hx : ev (lk ts) x = some av) (hn : L0 av = some m)
  (hl : iD (lk ts) lo 0 = some l) (hh : iD (lk ts) hi m = some h) (hp : JI e l h av = some out) (hN : Nat.blt d N = true) {md' : Md} [hmd : MdA md (rO x ++ (rB lo ++ rB hi)) [.inl d] md'] (kk : RW P N all Q md' rest ⟨(d, out) :: ts, hs, n, z0⟩) :
  RW P N all Q md (⟨some d, .slice t x lo hi none, ty, pos, af, none⟩ :: rest) ⟨ts, hs, n, z0⟩ :=
 GG hx ht.pf he.pf hn hl hh hp (eJ hN) (by rw [hmd.pf]; exact kk)
theorem iW {t el : TypeId} {x i : Operand} {av out : AV} {z e : Nat} {k : IntKind} {m : Int} [ht : ArT P t z el] [he : SzT P el e] (hx : ev (lk ts) x = some av)
  (hi : ev (lk ts) i = some (.v (.int k m))) (hm : 0 ≤ m ∧ m < z) (hp : zC (m.toNat * e) av = some out) (hN : Nat.blt d N = true) {md' : Md} [hmd : MdA md (rO x ++ rO i) [.inl d] md'] (kk : RW P N all Q md' rest ⟨(d, out) :: ts, hs, n, z0⟩) :
  RW P N all Q md (⟨some d, .indexAddr t x i, ty, pos, af, none⟩ :: rest) ⟨ts, hs, n, z0⟩ :=
 y5 hx hi ht.pf he.pf hm hp (eJ hN) (by rw [hmd.pf]; exact kk)
theorem Hz {k : FuncId} {args : Array Operand} {tys : Array TypeId} {avs avs2 : List AV} {r : AV} [hc : CaT P k] (ha : evL (lk ts) args.toList = some avs) (hl : kE (cK hs) avs = some avs2) (h : PC P k avs2 (fun x => x = r)) (hfr : r.free = true) (hN : Nat.blt d N = true)
  {md' : Md} [hmd : MdA md (gL args.toList ++ rL avs) [.inl d] md'] (kk : RW P N all Q md' rest ⟨(d, r) :: ts, hs, n, z0⟩) : RW P N all Q md (⟨some d, .call ⟨.value (.func k), args, tys⟩, ty, pos, af, none⟩ :: rest) ⟨ts, hs, n, z0⟩ :=
 Ix hc.pf ha hl h hfr (eJ hN) (by rw [hmd.pf]; exact kk)
end

theorem pF (m : Int) (h : 0 ≤ m ∧ m ≤ 9223372036854775807) : (BitVec.ofInt 64 m) = BitVec.ofNat 64 m.toNat := by
 obtain ⟨k, rfl⟩ := Int.eq_ofNat_of_zero_le h.1
 apply BitVec.eq_of_toInt_eq
 simp [BitVec.toInt_ofInt]
theorem tY {m : Int} (h : 0 ≤ m ∧ m ≤ 9223372036854775807) : m.toNat < 2 ^ 63 := by omega
theorem A7 {k : Nat} (h : k < 2 ^ 63) : IntKind.i64.wrap (k : Int) = (k : Int) := IntWalk.i64_in _ ⟨by omega, by omega⟩
theorem Kx {m m' : Int} (h : 0 ≤ m ∧ m ≤ 9223372036854775807) (h' : 0 ≤ m' ∧ m' ≤ 9223372036854775807) : hG .xor .i64 m m' = some (.int .i64 ((m.toNat ^^^ m'.toNat : Nat) : Int)) := by
 have e : (BitVec.ofInt 64 m ^^^ BitVec.ofInt 64 m').toNat = m.toNat ^^^ m'.toNat := by
  rw [pF m h, pF m' h', BitVec.toNat_xor, BitVec.toNat_ofNat, BitVec.toNat_ofNat, Nat.mod_eq_of_lt (by omega), Nat.mod_eq_of_lt (by omega)]
 simp only [hG]
 rw [show IntKind.i64.bits = 64 from rfl, e, A7 (Nat.xor_lt_two_pow (tY h) (tY h'))]
section
variable {P : Program} {N : Nat} {Q : Exit → AS → Prop} {all : Array Oper} {rest : List Oper} {ts : List (Nat × AV)} {hs : List (Nat × Option (List AV))} {n : Nat} {z0 : Lo} {md : Md}
variable {d : Nat} {ty : TypeId} {pos : String} {af : Array Edge}
theorem KW {t t' : TypeId} {x y : Operand} {m m' : Int} (hx : ev (lk ts) x = some (.v (.int .i64 m))) (hy : ev (lk ts) y = some (.v (.int .i64 m')))
  (h : 0 ≤ m ∧ m ≤ 9223372036854775807) (h' : 0 ≤ m' ∧ m' ≤ 9223372036854775807) (hN : Nat.blt d N = true) {md' : Md} [hmd : MdA md (rO x ++ rO y) [.inl d] md'] (kk : RW P N all Q md' rest ⟨(d, .v (.int .i64 ((m.toNat ^^^ m'.toNat : Nat) : Int))) :: ts, hs, n, z0⟩) : RW P N all Q md (⟨some d, .binOp .xor t x y t', ty, pos, af, none⟩ :: rest) ⟨ts, hs, n, z0⟩ :=
 eX hx hy (.inl rfl) (Kx h h') (eJ hN) (by rw [hmd.pf]; exact kk)
theorem FP {s t : TypeId} {x : Operand} {k' : IntKind} {b : UInt8} [hd : InT P t .i64] [hs' : InT P s k'] (hx : ev (lk ts) x = some (.v (.int k' (b.toNat : Int)))) (hN : Nat.blt d N = true) {md' : Md} [hmd : MdA md (rO x) [.inl d] md'] (kk : (b.toNat : Int) ≤ 255 → RW P N all Q md' rest ⟨(d, .v (.int .i64 (b.toNat : Int))) :: ts, hs, n, z0⟩) :
  RW P N all Q md (⟨some d, .convert s t x, ty, pos, af, none⟩ :: rest) ⟨ts, hs, n, z0⟩ := pK hx (K9 b) hN (kk (by have := UInt8.toNat_lt b; omega))
theorem bB {dst : Nat} {op : Op} {j d : Nat} {want b : Bool} {md' : Md} [hmd : MdA md [.inl d] [.inl dst] md'] (hj : (all[j]?).bind (·.dst) = some d) (hb : lk ts d = some (.v (.bool b))) (hN : Nat.blt dst N = true) (hw : b = !want)
  (h2 : RW P N all Q md' rest ⟨(dst, .v undef) :: ts, hs, n, z0⟩) : RW P N all Q md (⟨some dst, op, ty, pos, af, some (j, want)⟩ :: rest) ⟨ts, hs, n, z0⟩ :=
 sY hj hb (fun d h => by cases h; exact eJ hN) (fun h => by subst hw; cases want <;> simp at h) (fun _ => hmd.pf ▸ h2)
theorem bR {dst : Nat} {op : Op} {j d : Nat} {want b : Bool} {mdp : Md} [hmp : MdP md (.inl d) mdp] {md' : Md} [hmd : MdA md [.inl d] [.inl dst] md'] (hj : (all[j]?).bind (·.dst) = some d) (hb : lk ts d = some (.v (.bool b))) (hN : Nat.blt dst N = true)
  (h1 : b = want → RW P N all Q mdp (⟨some dst, op, ty, pos, af, none⟩ :: rest) ⟨ts, hs, n, z0⟩) (h2 : b = (!want) → RW P N all Q md' rest ⟨(dst, .v undef) :: ts, hs, n, z0⟩) : RW P N all Q md (⟨some dst, op, ty, pos, af, some (j, want)⟩ :: rest) ⟨ts, hs, n, z0⟩ :=
 sY hj hb (fun d h => by cases h; exact eJ hN) (fun e => hmp.pf ▸ h1 e) (fun e => hmd.pf ▸ h2 e)
end

class PurV (v : AV) : Prop where pf : v.pur = true
instance (x : Value) : PurV (.v x) := ⟨rfl⟩
instance (n : Nat) (cs : List AV) [h : Pur cs] : PurV (.imm n cs) := ⟨h.pf⟩
instance (cs : List AV) [h : Pur cs] : PurV (.iptr cs) := ⟨h.pf⟩
instance (cs : List AV) [h : Pur cs] : PurV (.agg cs) := ⟨h.pf⟩
instance (cs : List AV) [h : Pur cs] : PurV (.tup cs) := ⟨h.pf⟩
instance : Pur [] := ⟨rfl⟩
instance (c : AV) (cs : List AV) [h : PurV c] [h2 : Pur cs] : Pur (c :: cs) := ⟨by simp only [c9, h.pf, h2.pf, Bool.and_self]⟩
theorem RnV.purI {ρ : Nat → Option Nat} {v : AV} (h : PurV v) : RnV ρ v v := .pur h.pf
theorem RnL.purI {ρ : Nat → Option Nat} {v : List AV} (h : Pur v) : RnL ρ v v := .pur h.pf

def qJ (ρ : Nat → Option Nat) (hh : List (Nat × Option (List AV))) : List (Nat × Option (List AV)) → Prop
 | [] => True
 | (_, none) :: l => qJ ρ hh l
 | (i, some cs') :: l => (∃ j cs, ρ j = some i ∧ cK hh j = some cs ∧ RnL ρ cs cs') ∧ qJ ρ hh l
def dI (mp : List Nat) (ws : List (Nat × Option (List AV))) : Bool := mp.all fun i => ws.any fun p => Nat.beq p.1 i
theorem xY {mp : List Nat} {ρ : Nat → Option Nat} {hh ws : List (Nat × Option (List AV))} (h1 : dI mp ws = true) (h2 : qJ ρ hh ws) : WsOk mp ρ hh ws := by
 refine ⟨fun i hi => ?_, fun i cs' hm => ?_⟩
 ·simp only [dI, List.all_eq_true, List.any_eq_true] at h1
  obtain ⟨⟨j, c⟩, hp, hb⟩ := h1 i hi
  have := Nat.eq_of_beq_eq_true hb
  simp only at this
  subst this
  exact ⟨c, hp⟩
 ·clear h1
  induction ws with
  | nil => simp at hm
  | cons q ws ih =>
   obtain ⟨j, c⟩ := q
   cases c with
   | none =>
    simp only [qJ] at h2
    rcases List.mem_cons.1 hm with e | e
    ·cases e
    ·exact ih h2 e
   | some c =>
    simp only [qJ] at h2
    rcases List.mem_cons.1 hm with e | e
    ·cases e; exact h2.1
    ·exact ih h2.2 e
section
variable {P : Program} {N : Nat} {Q : Exit → AS → Prop} {all : Array Oper} {rest : List Oper} {ts : List (Nat × AV)} {hs : List (Nat × Option (List AV))} {n : Nat} {z0 : Lo} {md : Md}
variable {ty : TypeId} {pos : String} {af : Array Edge}
theorem cB {d : Nat} {k : FuncId} {args : Array Operand} {tys : Array TypeId} {avs avs0 : List AV} {H0 : List (Nat × Option (List AV))} {rr rr' : AV} {hh : List (Nat × Option (List AV))}
  (mp : List Nat) (n1 : Nat) (ws : List (Nat × Option (List AV))) (h : MC P k avs0 H0 mp.length (fun _ : Unit => True) (fun _ => rr) (fun _ => hh)) [hc : CaT P k] (ha : evL (lk ts) args.toList = some avs) (hd : distinct mp = true)
  (hH0 : p8 hs H0 mp 0 mp) (hk : l8 mp.length H0 = true) (har : RnL (mp[·]?) avs0 avs) (hM : Nat.ble (n + (n1 - mp.length)) eR = true)
  (hr : RnV (wF mp n n1) rr rr') (hwa : dI mp ws = true) (hw : qJ (wF mp n n1) hh ws) (hN : Nat.blt d N = true)
  {md' : Md} [hmd : MdA md (gL args.toList ++ mp.map .inr) (ws.map (fun p => .inr p.1) ++ [.inl d]) md']
  (kk : RW P N all Q md' rest ⟨(d, rr') :: ts, iF hs ws, n + (n1 - mp.length), z0⟩) : RW P N all Q md (⟨some d, .call ⟨.value (.func k), args, tys⟩, ty, pos, af, none⟩ :: rest) ⟨ts, hs, n, z0⟩ :=
 EC mp n1 hc.pf ha h hd hH0 hk har hM hr (xY hwa hw) (fun x e => by cases e; exact eJ hN) (by simp only [wD]; rw [hmd.pf]; exact kk)
theorem Gn {σ : Type} {d : Nat} {k : FuncId} {args : Array Operand} {tys : Array TypeId} {avs avs0 : List AV} {H0 : List (Nat × Option (List AV))} {p : σ → Prop} {rr rr' : σ → AV} {hh : σ → List (Nat × Option (List AV))}
  (mp : List Nat) (n1 : Nat) (ws : σ → List (Nat × Option (List AV))) (h : MC P k avs0 H0 mp.length p rr hh) [hc : CaT P k] (ha : evL (lk ts) args.toList = some avs) (hd : distinct mp = true)
  (hH0 : p8 hs H0 mp 0 mp) (hk : l8 mp.length H0 = true) (har : RnL (mp[·]?) avs0 avs) (hM : Nat.ble (n + (n1 - mp.length)) eR = true)
  (hr : ∀ x, p x → RnV (wF mp n n1) (rr x) (rr' x)) (hwa : ∀ x, p x → dI mp (ws x) = true) (hw : ∀ x, p x → qJ (wF mp n n1) (hh x) (ws x)) (hN : Nat.blt d N = true)
  (kk : ∀ x, p x → RW P N all Q .txt rest ⟨(d, rr' x) :: ts, iF hs (ws x), n + (n1 - mp.length), z0⟩) : RW P N all Q .txt (⟨some d, .call ⟨.value (.func k), args, tys⟩, ty, pos, af, none⟩ :: rest) ⟨ts, hs, n, z0⟩ :=
 ER mp n1 hc.pf ha h hd hH0 hk har hM hr (fun x hx => xY (hwa x hx) (hw x hx)) (fun x e => by cases e; exact eJ hN) kk
end

theorem Cu {α : Type} [Inhabited α] {f g : α → List AV} {e : Nat} [h : FlT f e] [hg : FE f g] {xs : List α} {k j : Nat} {c : AV} (hk : k < xs.length) (hc : (g xs[k]!)[j]? = some c) : ((aI f xs).drop (0 + k * e + j))[0]? = some c := by
 rw [Nat.zero_add, ← List.drop_drop, gM f xs k hk]
 rw [← hg.pf] at hc
 have hj : j < (f xs[k]!).length := by
  rcases Nat.lt_or_ge j (f xs[k]!).length with q | q
  ·exact q
  ·rw [List.getElem?_eq_none q] at hc; cases hc
 rw [List.drop_append_of_le_length (Nat.le_of_lt hj), List.getElem?_append_left (by rw [List.length_drop]; omega), List.getElem?_drop, Nat.add_zero]
 exact hc
section
variable {P : Program} {N : Nat} {Q : Exit → AS → Prop} {all : Array Oper} {rest : List Oper} {ts : List (Nat × AV)} {hs : List (Nat × Option (List AV))} {n : Nat} {z0 : Lo} {md : Md}
variable {d : Nat} {ty : TypeId} {pos : String} {af : Array Edge}
theorem cV {α : Type} {hα : Inhabited α} {f g : α → List AV} {xs : List α} {e id k j : Nat} {t : TypeId} {x : Operand} {c : AV} [ha : AgT P t false] (hx : ev (lk ts) x = some (.optr id (0 + k * e + j)))
  (hH : cK hs id = some (aI f xs)) (hf : FlT f e) (hg : FE f g) (hk : k < xs.length) (hc : (g xs[k]!)[j]? = some c) (hN : Nat.blt d N = true) {md' : Md} [hmd : MdA md (rO x ++ rA (.optr id (0 + k * e + j))) [.inl d] md']
  (kk : RW P N all Q md' rest ⟨(d, c) :: ts, hs, n, z0⟩) : RW P N all Q md (⟨some d, .load t x, ty, pos, af, none⟩ :: rest) ⟨ts, hs, n, z0⟩ :=
 oE (cs := (aI f xs).drop (0 + k * e + j)) hx ha.pf (by simp only [deref, hH, Option.map_some]) (Cu hk hc) (eJ hN) (by rw [hmd.pf]; exact kk)
theorem eZ {α : Type} {hα : Inhabited α} {f g : α → List AV} {xs : List α} {e id k : Nat} {t : TypeId} {x : Operand} {c : AV} [ha : AgT P t false] (hx : ev (lk ts) x = some (.optr id (0 + k * e)))
  (hH : cK hs id = some (aI f xs)) (hf : FlT f e) (hg : FE f g) (hk : k < xs.length) (hc : (g xs[k]!)[0]? = some c) (hN : Nat.blt d N = true) {md' : Md} [hmd : MdA md (rO x ++ rA (.optr id (0 + k * e))) [.inl d] md']
  (kk : RW P N all Q md' rest ⟨(d, c) :: ts, hs, n, z0⟩) : RW P N all Q md (⟨some d, .load t x, ty, pos, af, none⟩ :: rest) ⟨ts, hs, n, z0⟩ :=
 oE (cs := (aI f xs).drop (0 + k * e)) hx ha.pf (by simp only [deref, hH, Option.map_some]) (Cu (f := f) (j := 0) hk hc) (eJ hN) (by rw [hmd.pf]; exact kk)
theorem gS {α : Type} {hα : Inhabited α} {f g : α → List AV} {xs : List α} {e id k : Nat} {t : TypeId} {x : Operand} [ha : AgT P t true] [hz : SzT P t e] (hx : ev (lk ts) x = some (.optr id (0 + k * e)))
  (hH : cK hs id = some (aI f xs)) (hf : FlT f e) (hg : FE f g) (hk : k < xs.length) (h0 : Nat.blt 0 e = true) (hN : Nat.blt d N = true) {md' : Md} [hmd : MdA md (rO x ++ rA (.optr id (0 + k * e))) [.inl d] md']
  (kk : RW P N all Q md' rest ⟨(d, .agg (g xs[k]!)) :: ts, hs, n, z0⟩) : RW P N all Q md (⟨some d, .load t x, ty, pos, af, none⟩ :: rest) ⟨ts, hs, n, z0⟩ :=
 k6 (cs := (aI f xs).drop (0 + k * e)) hx ha.pf hz.pf (by simp only [deref, hH, Option.map_some]) (cs' := g xs[k]!) (by rw [Nat.zero_add, gM f xs k hk, ← hg.pf]; exact List.take_left' (hf.pf _)) (by rw [← hg.pf]; exact hf.pf _) (by have := eJ h0; omega) (eJ hN) (by rw [hmd.pf]; exact kk)
end

theorem zW {w : World} {bad : Nat → Prop} {ι : Pl} {n k : Nat} {cs : List AV} {y : Value} (h : Rd w bad ι (.imm n cs) y) : Rd w bad ι (.imm n (cs.take k)) y := by
 simp only [Rd] at h ⊢
 obtain ⟨a, c, rfl, h⟩ := h
 refine ⟨a, c, rfl, ?_⟩
 rcases h with h | ⟨b, o, hn, rfl, h⟩
 ·exact .inl h
 ·refine .inr ⟨b, o, hn, rfl, ?_⟩
  rcases h with h | ⟨hb, h⟩
  ·subst h; exact .inl (by simp)
  ·exact .inr ⟨hb, RdC.take k h⟩
section
variable {P : Program} {N : Nat} {Q : Exit → AS → Prop} {all : Array Oper} {rest : List Oper} {ts : List (Nat × AV)} {hs : List (Nat × Option (List AV))} {n : Nat} {z0 : Lo} {md : Md}
variable {d : Nat} {ty : TypeId} {pos : String} {af : Array Edge}
theorem jP {α : Type} {f : α → List AV} {xs : List α} {t el : TypeId} {x : Operand} {lo hi : Option Operand} {e l h : Nat} [ht : SlT P t el] [he : SzT P el e] (hx : ev (lk ts) x = some (sl f xs)) (hf : FlT f e)
  (hl : iD (lk ts) lo 0 = some l) (hh : iD (lk ts) hi xs.length = some h) (hb : l ≤ h ∧ h ≤ xs.length) (hN : Nat.blt d N = true) {md' : Md} [hmd : MdA md (rO x ++ (rB lo ++ rB hi)) [.inl d] md']
  (kk : RW P N all Q md' rest ⟨(d, sl f ((xs.drop l).take (h - l))) :: ts, hs, n, z0⟩) : RW P N all Q md (⟨some d, .slice t x lo hi none, ty, pos, af, none⟩ :: rest) ⟨ts, hs, n, z0⟩ := by
 refine e8 (rs := rO x ++ (rB lo ++ rB hi)) (out := sl f ((xs.drop l).take (h - l))) rfl rfl (eJ hN) (fun C ι F T H a w ag g gh => ?_) (by rw [hmd.pf]; exact kk)
 obtain ⟨y, h1, h2⟩ := y1 (P := P) (o := ⟨some d, .slice t x lo hi none, ty, pos, af, none⟩) (out := .imm (h - l) ((aI f xs).drop (l * e))) g rfl (ag.l.ev.trans hx) ht.pf he.pf rfl (ag.r.l.bnd.trans hl) (ag.r.r.bnd.trans hh) (by simp only [JI]; rw [if_pos hb])
 refine ⟨y, h1, ?_⟩
 have hlen : ((xs.drop l).take (h - l)).length = h - l := by rw [List.length_take, List.length_drop]; omega
 show Rd w _ ι (.imm ((xs.drop l).take (h - l)).length (aI f ((xs.drop l).take (h - l)))) y
 rw [hlen, ← fA f, ← j6 f]
 exact zW h2
end

theorem CH {w : World} {bad : Nat → Prop} {ι : Pl} : ∀ {cs : List AV} {l : List Value}, RdL w bad ι cs l → RdL w bad ι (cs.map qM) l
 | [], l, h => by simpa only [RdL, List.map_nil] using h
 | c :: cs, l, h => by
  simp only [RdL, List.map_cons] at h ⊢
  obtain ⟨x, l', h0, h1, h2, h3⟩ := h
  exact ⟨x, l', h0, h1, nY h2, CH h3⟩
section
variable {P : Program} {N : Nat} {Q : Exit → AS → Prop} {all : Array Oper} {rest : List Oper} {ts : List (Nat × AV)} {hs : List (Nat × Option (List AV))} {n : Nat} {z0 : Lo} {md : Md}
variable {d : Nat} {ty : TypeId} {pos : String} {af : Array Edge}
theorem cC {t : TypeId} {parts : Array (Nat × Operand)} {pl : List (Nat × Nat)} {zs : List Value} {l : List (Nat × AV)} {cs cs' : List AV} [hp : PtT P t pl] [hz : ZrT P t zs]
  (hl : evs (lk ts) parts.toList = some l) (hf : jZ (pl[·]?) (zs.map .v) l = some cs) (hk : cs.map qM = cs') (hN : Nat.blt d N = true) {md' : Md} [hmd : MdA md (Jx parts.toList) [.inl d] md'] (kk : RW P N all Q md' rest ⟨(d, .agg cs') :: ts, hs, n, z0⟩) :
  RW P N all Q md (⟨some d, .build t parts, ty, pos, af, none⟩ :: rest) ⟨ts, hs, n, z0⟩ := by
 subst hk
 refine e8 (rs := Jx parts.toList) (out := .agg (cs.map qM)) rfl rfl (eJ hN) (fun C ι F T H a w ag g gh => ?_) (by rw [hmd.pf]; exact kk)
 obtain ⟨y, h1, h2⟩ := AU (P := P) (o := ⟨some d, .build t parts, ty, pos, af, none⟩) g rfl hp.pf hz.pf (ag.evs.trans hl) hf
 refine ⟨y, h1, ?_⟩
 simp only [Rd] at h2 ⊢
 obtain ⟨l', h3, h4⟩ := h2
 exact ⟨l', h3, CH h4⟩
end

theorem bX {σ : Type} {P : Program} {k : FuncId} {fn : Func} {c : Code} {args : List AV} {H0 : List (Nat × Option (List AV))} {n : Nat} {p : σ → Prop} {rr : σ → AV} {hh : σ → List (Nat × Option (List AV))} (hf : P.funcs[k]? = some fn) (hb : fn.body = some c)
  (hN : args.length ≤ fn.ntmps) (h : AW P fn.ntmps c (Ag P fn.results (fun r H' => ∃ x, p x ∧ r = rr x ∧ ∀ id cs, cK (hh x) id = some cs → H' id = some cs)) ⟨p9 0 args, H0, n, ⟨n, eR⟩⟩) : MC P k args H0 n p rr hh :=
 oA hf hb hN h
theorem bV {σ : Type} {s : AS} {r : AV} {p : σ → Prop} {rr : σ → AV} {hh : σ → List (Nat × Option (List AV))} (x : σ) (hp : p x) (hr : r = rr x) (hh' : uL s.hs (hh x)) : ∃ x, p x ∧ r = rr x ∧ ∀ id cs, cK (hh x) id = some cs → cK s.hs id = some cs :=
 ⟨x, hp, hr, mV hh'⟩
end Go.AL

namespace Go.AL
open Go.RowKit
set_option linter.unusedVariables false

def y6 : List (Nat × Nat) → Nat → Option Nat
 | [], _ => none
 | (t, v) :: l, u => cond (Nat.beq u t) (some v) (y6 l u)
theorem EP (t v : Nat) (l : List (Nat × Nat)) (u : Nat) : y6 ((t, v) :: l) u = if u = t then some v else y6 l u := by
 simp only [y6]
 by_cases h : u = t
 ·subst h; simp
 ·rw [if_neg h]
  have : Nat.beq u t = false := by
   cases hb : Nat.beq u t with
   | false => rfl
   | true => exact absurd (Nat.eq_of_beq_eq_true hb) h
  rw [this]; rfl

def pE (m : List (Nat × Nat)) (lo : Lo) (id : Nat) : Option Nat := if id < lo.lo then some id else match y6 m id with
 | some j => some j
 | none => if eR ≤ id ∧ id < lo.fb then some id else none
def IP (m : List (Nat × Nat)) (lo : Lo) : AV → Option AV
 | .own id o n e => (pE m lo id).map fun j => .own j o n e
 | .optr id o => (pE m lo id).map fun j => .optr j o
 | _ => none

def uW (m : List (Nat × Nat)) (lo : Lo) (v v0 : AV) : Prop := (v0 = v ∧ v.pur = true) ∨ IP m lo v = some v0
inductive All2 {α β : Type} (R : α → β → Prop) : List α → List β → Prop
 | nil : All2 R [] []
 | cons {a b l l'} : R a b → All2 R l l' → All2 R (a :: l) (b :: l')
theorem All2.len {α β : Type} {R : α → β → Prop} {l : List α} {l' : List β} (h : All2 R l l') : l.length = l'.length := by
 induction h with
 | nil => rfl
 | cons _ _ ih => simp [ih]
def I2 (m : List (Nat × Nat)) (lo : Lo) (cs cs0 : List AV) : Prop := (cs0 = cs ∧ c9 cs = true) ∨ All2 (uW m lo) cs cs0

def HR (m : List (Nat × Nat)) (lo : Lo) (l : List (Nat × AV)) : List (Nat × AV) → Prop
 | [] => True
 | (t, v) :: l' => (∃ v0, lk l t = some v0 ∧ uW m lo v v0) ∧ HR m lo l l'
def B1 (m : List (Nat × Nat)) (lo : Lo) (l : List (Nat × Option (List AV))) : List (Nat × Option (List AV)) → Prop
 | [] => True
 | (t, none) :: l' => B1 m lo l l'
 | (t, some cs) :: l' => (∃ j cs0, pE m lo t = some j ∧ cK l j = some cs0 ∧ I2 m lo cs cs0) ∧ B1 m lo l l'

theorem CG {m : List (Nat × Nat)} {lo : Lo} {l : List (Nat × AV)} : ∀ {l' : List (Nat × AV)}, HR m lo l l' → ∀ t v, lk l' t = some v → ∃ v0, lk l t = some v0 ∧ uW m lo v v0
 | [], _, t, v, h => by simp [lk] at h
 | (u, x) :: l', hr, t, v, h => by
  simp only [HR] at hr
  simp only [mH] at h
  split at h
  ·rename_i e; subst e; cases h; exact hr.1
  ·exact CG hr.2 t v h
theorem iH {m : List (Nat × Nat)} {lo : Lo} {l : List (Nat × Option (List AV))} : ∀ {l' : List (Nat × Option (List AV))}, B1 m lo l l' → ∀ t cs, cK l' t = some cs →
  ∃ j cs0, pE m lo t = some j ∧ cK l j = some cs0 ∧ I2 m lo cs cs0
 | [], _, t, v, h => by simp [cK] at h
 | (u, none) :: l', hr, t, v, h => by
  simp only [B1] at hr
  simp only [gF] at h
  split at h
  ·cases h
  ·exact iH hr t v h
 | (u, some x) :: l', hr, t, v, h => by
  simp only [B1] at hr
  simp only [gF] at h
  split at h
  ·rename_i e; subst e; cases h; exact hr.1
  ·exact iH hr.2 t v h

def Kb (lo n' : Nat) : List (Nat × Nat) → Bool
 | [] => true
 | (a, b) :: l => Nat.ble lo a && Nat.blt a n' && (Nat.ble lo b && (Nat.blt a eR && Nat.blt b eR)) && l.all (fun p => !Nat.beq p.1 a && !Nat.beq p.2 b) && Kb lo n' l

theorem fX {lo n' : Nat} : ∀ {m : List (Nat × Nat)}, Kb lo n' m = true → ∀ a b, y6 m a = some b → lo ≤ a ∧ a < n' ∧ lo ≤ b ∧ a < eR ∧ b < eR
 | [], _, a, b, h => by simp [y6] at h
 | (u, v) :: l, hk, a, b, h => by
  simp only [Kb, Bool.and_eq_true] at hk
  obtain ⟨⟨⟨⟨h1, h2⟩, h3⟩, _⟩, h5⟩ := hk
  simp only [EP] at h
  split at h
  ·rename_i e
   subst e; cases h
   have q1 := Nat.le_of_ble_eq_true h1
   have q2 := eJ h2
   have q3 := Nat.le_of_ble_eq_true h3.1
   exact ⟨q1, q2, q3, eJ h3.2.1, eJ h3.2.2⟩
  ·exact fX h5 a b h
theorem C0 : ∀ {m : List (Nat × Nat)} {a b : Nat}, y6 m a = some b → (a, b) ∈ m
 | [], a, b, h => by simp [y6] at h
 | (u, v) :: l, a, b, h => by
  simp only [EP] at h
  split at h
  ·rename_i e; subst e; cases h; simp
  ·exact List.mem_cons_of_mem _ (C0 h)
theorem xK {lo n' : Nat} : ∀ {m : List (Nat × Nat)}, Kb lo n' m = true → ∀ a a' b, y6 m a = some b → y6 m a' = some b → a = a'
 | [], _, a, a', b, h, _ => by simp [y6] at h
 | (u, v) :: l, hk, a, a', b, h, h' => by
  simp only [Kb, Bool.and_eq_true] at hk
  obtain ⟨⟨_, h4⟩, h5⟩ := hk
  have key : ∀ x, y6 l x = some v → False := by
   intro x hx
   have hm := C0 hx
   rw [List.all_eq_true] at h4
   have := h4 _ hm
   simp at this
  simp only [EP] at h h'
  split at h
  ·rename_i e
   split at h'
   ·rename_i e'; omega
   ·cases h; exact (key _ h').elim
  ·split at h'
   ·cases h'; exact (key _ h).elim
   ·exact xK h5 a a' b h h'

theorem Le.ren (m : List (Nat × Nat)) {ts ts' : List (Nat × AV)} {hs hs' : List (Nat × Option (List AV))} {n n' : Nat} {lo : Lo} (hm : Kb lo.lo n' m = true) (hn : lo.lo ≤ n') (h1 : HR m lo ts ts') (h2 : B1 m lo hs hs') :
  Le ⟨ts, hs, n, lo⟩ ⟨ts', hs', n', lo⟩ := by
 rintro C a w ⟨h0, ι, g, gh⟩
 let ι' : Pl := fun id => match pE m lo id with | some j => ι j | none => none
 have hlow : ∀ id, id < lo.lo → ι' id = ι id := fun id h => by simp [ι', pE, h]
 have hto : ∀ id j, pE m lo id = some j → ι' id = ι j := by
  intro id j h
  simp only [ι', h]
 have hcs0 : ∀ a b, pE m lo a = some b → (a < lo.lo ∧ b = a) ∨ (lo.lo ≤ a ∧ y6 m a = some b) ∨ (lo.lo ≤ a ∧ (eR ≤ a ∧ a < lo.fb) ∧ b = a) := by
  intro a b q
  unfold pE at q
  split at q
  ·rename_i h; cases q; exact .inl ⟨h, rfl⟩
  ·rename_i h
   split at q
   ·rename_i j hj; cases q; exact .inr (.inl ⟨by omega, hj⟩)
   ·split at q
    ·rename_i h3; cases q; exact .inr (.inr ⟨by omega, h3, rfl⟩)
    ·cases q
 have hinj : ∀ a a' b, pE m lo a = some b → pE m lo a' = some b → a = a' := by
  intro a a' b q q'
  rcases hcs0 a b q with ⟨e1, e2⟩ | ⟨e1, e2⟩ | ⟨e1, e2, e3⟩ <;> rcases hcs0 a' b q' with ⟨f1, f2⟩ | ⟨f1, f2⟩ | ⟨f1, f2, f3⟩
  ·omega
  ·have := fX hm _ _ f2; omega
  ·omega
  ·have := fX hm _ _ e2; omega
  ·exact xK hm _ _ _ e2 f2
  ·have := fX hm _ _ e2; omega
  ·omega
  ·have := fX hm _ _ f2; omega
  ·omega
 have hbad : ∀ b, a7 C.X ι' (cK hs') b → a7 C.X ι (cK hs) b := by
  rintro b (h | ⟨id, cs, β, q1, q2⟩)
  ·exact .inl h
  ·obtain ⟨j, cs0, q3, q4, _⟩ := iH h2 id cs q1
   rw [hto _ _ q3] at q2
   exact .inr ⟨j, cs0, β, q4, q2⟩
 have hc0 : Carry w (a7 C.X ι (cK hs)) ι w (a7 C.X ι' (cK hs')) ι := ⟨fun b o x q1 q2 => ⟨fun h => q1 (hbad b h), q2⟩, fun _ _ h => h, fun _ => Nat.le_refl _⟩
 have hv : ∀ v v0 y, uW m lo v v0 → Rd w (a7 C.X ι (cK hs)) ι v0 y → Rd w (a7 C.X ι' (cK hs')) ι' v y := by
  intro v v0 y hr hy
  rcases hr with ⟨rfl, hp⟩ | hr
  ·exact Rd.pur _ y hp (Rd.carry hc0 _ _ hy)
  ·cases v <;> simp only [IP] at hr <;> first | (cases hr; done) | skip
   ·rename_i id o k e
    cases hj : pE m lo id with
    | none => simp [hj] at hr
    | some j =>
     simp only [hj, Option.map_some, Option.some.injEq] at hr
     subst hr
     simp only [Rd, hto _ _ hj] at hy ⊢
     exact hy
   ·rename_i id o
    cases hj : pE m lo id with
    | none => simp [hj] at hr
    | some j =>
     simp only [hj, Option.map_some, Option.some.injEq] at hr
     subst hr
     simp only [Rd, hto _ _ hj] at hy ⊢
     exact hy
 have hcs : ∀ cs cs0 b o, I2 m lo cs cs0 → RdC w (a7 C.X ι (cK hs)) ι cs0 b o → RdC w (a7 C.X ι' (cK hs')) ι' cs b o := by
  intro cs cs0 b o hr hy
  rcases hr with ⟨rfl, hp⟩ | hf
  ·exact RdC.pur _ b o hp (RdC.carryB hc0 _ _ _ (fun o x hx => hx) hy)
  ·induction hf generalizing o with
   | nil => simp only [RdC]
   | cons h1 _ ih =>
    simp only [RdC] at hy ⊢
    obtain ⟨⟨x, q1, q2, q3⟩, q4⟩ := hy
    exact ⟨⟨x, q1, q2, hv _ _ _ h1 q3⟩, ih _ q4⟩
 refine ⟨h0, ι', ⟨g.df, g.sz, fun t v ht => ?_⟩, ⟨fun id cs h => ?_, fun id id' cs cs' b β β' q1 q2 q3 q4 => ?_, gh.fr, fun id p hp => ?_, fun id hid => ?_⟩⟩
 ·obtain ⟨v0, q1, q2⟩ := CG h1 t v ht
  obtain ⟨y, q3, q4⟩ := g.tm t v0 q1
  exact ⟨y, q3, hv _ _ _ q2 q4⟩
 ·obtain ⟨j, cs0, q3, q4, q5⟩ := iH h2 id cs h
  have hlen : cs.length = cs0.length := by
   rcases q5 with ⟨rfl, _⟩ | hf
   ·rfl
   ·exact hf.len
  rcases gh.obj j cs0 q4 with ⟨p1, p2⟩ | ⟨b, β, arr, e, p1, p2, p3, p4, p5, p6⟩
  ·refine .inl ⟨by rw [hto _ _ q3]; exact p1, ?_⟩
   subst p2; exact List.eq_nil_of_length_eq_zero hlen
  ·exact .inr ⟨b, β, arr, e, by rw [hto _ _ q3]; exact p1, p2, by rw [hlen]; exact p3, hcs _ _ _ _ q5 p4, p5, p6⟩
 ·obtain ⟨j, c1, r1, r2, _⟩ := iH h2 id cs q1
  obtain ⟨j', c2, r3, r4, _⟩ := iH h2 id' cs' q2
  rw [hto _ _ r1] at q3
  rw [hto _ _ r3] at q4
  have := gh.sep _ _ _ _ _ _ _ r2 r4 q3 q4
  subst this
  exact hinj _ _ _ r1 r3
 ·have hl : id < lo.lo ∨ (lo.lo ≤ id ∧ eR ≤ id ∧ id < lo.fb) := by
   rcases Nat.lt_or_ge id lo.lo with h | h
   ·exact .inl h
   ·rcases h0 id h with h1 | h1
    ·exact .inr ⟨h, h1⟩
    ·rw [h1] at hp; cases hp
  rcases hl with hl | ⟨hl, h1, h2⟩
  ·rw [hlow id hl]; exact gh.ex id p hp
  ·have : pE m lo id = some id := by
    unfold pE
    rw [if_neg (by omega)]
    cases hj : y6 m id with
    | some j => have := fX hm _ _ hj; omega
    | none => simp [h1, h2]
   rw [hto _ _ this]; exact gh.ex id p hp
 ·show ι' id = none
  simp only [ι']
  cases hj : pE m lo id with
  | none => rfl
  | some j =>
   have h3 : n' ≤ id := hid.1
   have h4 : id < eR ∨ lo.fb ≤ id := hid.2
   rcases hcs0 id j hj with ⟨e1, e2⟩ | ⟨e1, e2⟩ | ⟨e1, e2, e3⟩
   ·omega
   ·have := fX hm _ _ e2; omega
   ·omega
end Go.AL

namespace Go.Proofs.YtckihjkcgfphmaaGreat
open Go.AL

instance : SzT Tryz.prog 3 1 := ⟨by kernel_rfl⟩
instance : ByT Tryz.prog 3 8 := ⟨by kernel_rfl⟩
instance : AgT Tryz.prog 3 false := ⟨by kernel_rfl⟩
instance : InT Tryz.prog 3 .i64 := ⟨by kernel_rfl⟩
instance : ZrT Tryz.prog 3 [.int .i64 0] := ⟨by kernel_rfl⟩
instance : SzT Tryz.prog 4 1 := ⟨by kernel_rfl⟩
instance : AgT Tryz.prog 4 false := ⟨by kernel_rfl⟩
instance : SzT Tryz.prog 5 1 := ⟨by kernel_rfl⟩
instance : AgT Tryz.prog 5 false := ⟨by kernel_rfl⟩
instance : InT Tryz.prog 5 .u8 := ⟨by kernel_rfl⟩
instance : ZrT Tryz.prog 5 [.int .u8 0] := ⟨by kernel_rfl⟩
instance : SzT Tryz.prog 9 1 := ⟨by kernel_rfl⟩
instance : AgT Tryz.prog 9 false := ⟨by kernel_rfl⟩
instance : StT Tryz.prog 9 := ⟨by kernel_rfl⟩
instance : ZrT Tryz.prog 9 [.string ⟨#[]⟩] := ⟨by kernel_rfl⟩
instance : SzT Tryz.prog 22 1 := ⟨by kernel_rfl⟩
instance : AgT Tryz.prog 22 false := ⟨by kernel_rfl⟩
instance : SlT Tryz.prog 22 5 := ⟨by kernel_rfl⟩
instance : SzT Tryz.prog 23 1 := ⟨by kernel_rfl⟩
instance : AgT Tryz.prog 23 false := ⟨by kernel_rfl⟩
instance : SlT Tryz.prog 23 3 := ⟨by kernel_rfl⟩
instance : ZrT Tryz.prog 23 [.slice none 0 0] := ⟨by kernel_rfl⟩
instance : SzT Tryz.prog 24 1 := ⟨by kernel_rfl⟩
instance : AgT Tryz.prog 24 false := ⟨by kernel_rfl⟩
instance : SlT Tryz.prog 24 123 := ⟨by kernel_rfl⟩
instance : SzT Tryz.prog 26 2 := ⟨by kernel_rfl⟩
instance : AgT Tryz.prog 26 true := ⟨by kernel_rfl⟩
instance : FdT Tryz.prog 26 0 0 23 := ⟨by kernel_rfl⟩
instance : FdT Tryz.prog 26 1 1 24 := ⟨by kernel_rfl⟩
instance : PtT Tryz.prog 26 [(0, 1), (1, 1)] := ⟨by kernel_rfl⟩
instance : ZrT Tryz.prog 26 [.slice none 0 0, .slice none 0 0] := ⟨by kernel_rfl⟩
instance : SlT Tryz.prog 43 46 := ⟨by kernel_rfl⟩
instance : SzT Tryz.prog 46 3 := ⟨by kernel_rfl⟩
instance : ByT Tryz.prog 46 24 := ⟨by kernel_rfl⟩
instance : PtT Tryz.prog 46 [(0, 1), (1, 1), (2, 1)] := ⟨by kernel_rfl⟩
instance : ZrT Tryz.prog 46 [.int .i64 0, .int .i64 0, .int .i64 0] := ⟨by kernel_rfl⟩
instance : SzT Tryz.prog 57 1 := ⟨by kernel_rfl⟩
instance : AgT Tryz.prog 57 false := ⟨by kernel_rfl⟩
instance : SlT Tryz.prog 57 157 := ⟨by kernel_rfl⟩
instance : SzT Tryz.prog 58 1 := ⟨by kernel_rfl⟩
instance : AgT Tryz.prog 58 false := ⟨by kernel_rfl⟩
instance : SlT Tryz.prog 58 213 := ⟨by kernel_rfl⟩
instance : SzT Tryz.prog 60 3 := ⟨by kernel_rfl⟩
instance : AgT Tryz.prog 60 true := ⟨by kernel_rfl⟩
instance : FdT Tryz.prog 60 0 0 57 := ⟨by kernel_rfl⟩
instance : FdT Tryz.prog 60 1 1 58 := ⟨by kernel_rfl⟩
instance : FdT Tryz.prog 60 2 2 23 := ⟨by kernel_rfl⟩
instance : PtT Tryz.prog 60 [(0, 1), (1, 1), (2, 1)] := ⟨by kernel_rfl⟩
instance : ZrT Tryz.prog 60 [.slice none 0 0, .slice none 0 0, .slice none 0 0] := ⟨by kernel_rfl⟩
instance : SzT Tryz.prog 71 1 := ⟨by kernel_rfl⟩
instance : AgT Tryz.prog 71 false := ⟨by kernel_rfl⟩
instance : SlT Tryz.prog 71 74 := ⟨by kernel_rfl⟩
instance : SzT Tryz.prog 74 5 := ⟨by kernel_rfl⟩
instance : ByT Tryz.prog 74 56 := ⟨by kernel_rfl⟩
instance : AgT Tryz.prog 74 true := ⟨by kernel_rfl⟩
instance : FdT Tryz.prog 74 0 0 3 := ⟨by kernel_rfl⟩
instance : FdT Tryz.prog 74 1 1 3 := ⟨by kernel_rfl⟩
instance : FdT Tryz.prog 74 2 2 3 := ⟨by kernel_rfl⟩
instance : FdT Tryz.prog 74 3 3 3 := ⟨by kernel_rfl⟩
instance : FdT Tryz.prog 74 4 4 23 := ⟨by kernel_rfl⟩
instance : PtT Tryz.prog 74 [(0, 1), (1, 1), (2, 1), (3, 1), (4, 1)] := ⟨by kernel_rfl⟩
instance : ZrT Tryz.prog 74 [.int .i64 0, .int .i64 0, .int .i64 0, .int .i64 0, .slice none 0 0] := ⟨by kernel_rfl⟩
instance : SzT Tryz.prog 81 1 := ⟨by kernel_rfl⟩
instance : AgT Tryz.prog 81 false := ⟨by kernel_rfl⟩
instance : FdT Tryz.prog 86 0 0 26 := ⟨by kernel_rfl⟩
instance : FdT Tryz.prog 86 1 2 71 := ⟨by kernel_rfl⟩
instance : PtT Tryz.prog 86 [(0, 2), (2, 1)] := ⟨by kernel_rfl⟩
instance : ZrT Tryz.prog 86 [.slice none 0 0, .slice none 0 0, .slice none 0 0] := ⟨by kernel_rfl⟩
instance : FdT Tryz.prog 107 0 0 81 := ⟨by kernel_rfl⟩
instance : FdT Tryz.prog 107 1 1 57 := ⟨by kernel_rfl⟩
instance : FdT Tryz.prog 107 2 2 58 := ⟨by kernel_rfl⟩
instance : FdT Tryz.prog 107 3 3 23 := ⟨by kernel_rfl⟩
instance : PtT Tryz.prog 107 [(0, 1), (1, 1), (2, 1), (3, 1)] := ⟨by kernel_rfl⟩
instance : ZrT Tryz.prog 107 [.pointer none, .slice none 0 0, .slice none 0 0, .slice none 0 0] := ⟨by kernel_rfl⟩
instance : SzT Tryz.prog 123 6 := ⟨by kernel_rfl⟩
instance : ByT Tryz.prog 123 80 := ⟨by kernel_rfl⟩
instance : AgT Tryz.prog 123 true := ⟨by kernel_rfl⟩
instance : FdT Tryz.prog 123 0 0 3 := ⟨by kernel_rfl⟩
instance : FdT Tryz.prog 123 1 1 3 := ⟨by kernel_rfl⟩
instance : FdT Tryz.prog 123 2 2 3 := ⟨by kernel_rfl⟩
instance : FdT Tryz.prog 123 3 3 3 := ⟨by kernel_rfl⟩
instance : FdT Tryz.prog 123 4 4 24 := ⟨by kernel_rfl⟩
instance : FdT Tryz.prog 123 5 5 24 := ⟨by kernel_rfl⟩
instance : PtT Tryz.prog 123 [(0, 1), (1, 1), (2, 1), (3, 1), (4, 1), (5, 1)] := ⟨by kernel_rfl⟩
instance : ZrT Tryz.prog 123 [.int .i64 0, .int .i64 0, .int .i64 0, .int .i64 0, .slice none 0 0, .slice none 0 0] := ⟨by kernel_rfl⟩
instance : SzT Tryz.prog 126 1 := ⟨by kernel_rfl⟩
instance : AgT Tryz.prog 126 false := ⟨by kernel_rfl⟩
instance : SlT Tryz.prog 126 132 := ⟨by kernel_rfl⟩
instance : ZrT Tryz.prog 126 [.slice none 0 0] := ⟨by kernel_rfl⟩
instance : SzT Tryz.prog 130 1 := ⟨by kernel_rfl⟩
instance : ByT Tryz.prog 130 8 := ⟨by kernel_rfl⟩
instance : AgT Tryz.prog 130 false := ⟨by kernel_rfl⟩
instance : ZrT Tryz.prog 130 [.int .u64 0] := ⟨by kernel_rfl⟩
instance : SzT Tryz.prog 132 6 := ⟨by kernel_rfl⟩
instance : ByT Tryz.prog 132 48 := ⟨by kernel_rfl⟩
instance : AgT Tryz.prog 132 true := ⟨by kernel_rfl⟩
instance : ArT Tryz.prog 132 6 130 := ⟨by kernel_rfl⟩
instance : ZrT Tryz.prog 132 [.int .u64 0, .int .u64 0, .int .u64 0, .int .u64 0, .int .u64 0, .int .u64 0] := ⟨by kernel_rfl⟩
instance : FdT Tryz.prog 147 0 0 22 := ⟨by kernel_rfl⟩
instance : FdT Tryz.prog 147 1 1 3 := ⟨by kernel_rfl⟩
instance : PtT Tryz.prog 147 [(0, 1), (1, 1)] := ⟨by kernel_rfl⟩
instance : ZrT Tryz.prog 147 [.slice none 0 0, .int .i64 0] := ⟨by kernel_rfl⟩
instance : SlT Tryz.prog 149 9 := ⟨by kernel_rfl⟩
instance : SzT Tryz.prog 155 2 := ⟨by kernel_rfl⟩
instance : AgT Tryz.prog 155 true := ⟨by kernel_rfl⟩
instance : FdT Tryz.prog 155 0 0 3 := ⟨by kernel_rfl⟩
instance : FdT Tryz.prog 155 1 1 3 := ⟨by kernel_rfl⟩
instance : PtT Tryz.prog 155 [(0, 1), (1, 1)] := ⟨by kernel_rfl⟩
instance : ZrT Tryz.prog 155 [.int .i64 0, .int .i64 0] := ⟨by kernel_rfl⟩
instance : SzT Tryz.prog 157 4 := ⟨by kernel_rfl⟩
instance : ByT Tryz.prog 157 32 := ⟨by kernel_rfl⟩
instance : AgT Tryz.prog 157 true := ⟨by kernel_rfl⟩
instance : FdT Tryz.prog 157 0 0 4 := ⟨by kernel_rfl⟩
instance : FdT Tryz.prog 157 1 1 3 := ⟨by kernel_rfl⟩
instance : FdT Tryz.prog 157 2 2 155 := ⟨by kernel_rfl⟩
instance : PtT Tryz.prog 157 [(0, 1), (1, 1), (2, 2)] := ⟨by kernel_rfl⟩
instance : ZrT Tryz.prog 157 [.bool false, .int .i64 0, .int .i64 0, .int .i64 0] := ⟨by kernel_rfl⟩
instance : SlT Tryz.prog 186 130 := ⟨by kernel_rfl⟩
instance : SzT Tryz.prog 211 1 := ⟨by kernel_rfl⟩
instance : AgT Tryz.prog 211 false := ⟨by kernel_rfl⟩
instance : SlT Tryz.prog 211 215 := ⟨by kernel_rfl⟩
instance : SzT Tryz.prog 213 4 := ⟨by kernel_rfl⟩
instance : ByT Tryz.prog 213 48 := ⟨by kernel_rfl⟩
instance : AgT Tryz.prog 213 true := ⟨by kernel_rfl⟩
instance : FdT Tryz.prog 213 0 0 3 := ⟨by kernel_rfl⟩
instance : FdT Tryz.prog 213 1 1 4 := ⟨by kernel_rfl⟩
instance : FdT Tryz.prog 213 2 2 3 := ⟨by kernel_rfl⟩
instance : FdT Tryz.prog 213 3 3 211 := ⟨by kernel_rfl⟩
instance : PtT Tryz.prog 213 [(0, 1), (1, 1), (2, 1), (3, 1)] := ⟨by kernel_rfl⟩
instance : ZrT Tryz.prog 213 [.int .i64 0, .bool false, .int .i64 0, .slice none 0 0] := ⟨by kernel_rfl⟩
instance : SzT Tryz.prog 215 2 := ⟨by kernel_rfl⟩
instance : ByT Tryz.prog 215 16 := ⟨by kernel_rfl⟩
instance : AgT Tryz.prog 215 true := ⟨by kernel_rfl⟩
instance : FdT Tryz.prog 215 0 0 3 := ⟨by kernel_rfl⟩
instance : FdT Tryz.prog 215 1 1 4 := ⟨by kernel_rfl⟩
instance : PtT Tryz.prog 215 [(0, 1), (1, 1)] := ⟨by kernel_rfl⟩
instance : ZrT Tryz.prog 215 [.int .i64 0, .bool false] := ⟨by kernel_rfl⟩
instance : SlT Tryz.prog 228 231 := ⟨by kernel_rfl⟩
instance : SzT Tryz.prog 231 2 := ⟨by kernel_rfl⟩
instance : ByT Tryz.prog 231 16 := ⟨by kernel_rfl⟩
instance : AgT Tryz.prog 231 true := ⟨by kernel_rfl⟩
instance : FdT Tryz.prog 231 0 0 3 := ⟨by kernel_rfl⟩
instance : FdT Tryz.prog 231 1 1 4 := ⟨by kernel_rfl⟩
instance : PtT Tryz.prog 231 [(0, 1), (1, 1)] := ⟨by kernel_rfl⟩
instance : ZrT Tryz.prog 231 [.int .i64 0, .bool false] := ⟨by kernel_rfl⟩
instance : CaT Tryz.prog 13 := ⟨by kernel_rfl⟩
instance : CaT Tryz.prog 14 := ⟨by kernel_rfl⟩
instance : CaT Tryz.prog 15 := ⟨by kernel_rfl⟩
instance : CaT Tryz.prog 19 := ⟨by kernel_rfl⟩
instance : CaT Tryz.prog 21 := ⟨by kernel_rfl⟩
instance : CaT Tryz.prog 25 := ⟨by kernel_rfl⟩
instance : CaT Tryz.prog 26 := ⟨by kernel_rfl⟩
instance : CaT Tryz.prog 27 := ⟨by kernel_rfl⟩
instance : CaT Tryz.prog 28 := ⟨by kernel_rfl⟩
instance : CaT Tryz.prog 29 := ⟨by kernel_rfl⟩
instance : CaT Tryz.prog 32 := ⟨by kernel_rfl⟩
instance : CaT Tryz.prog 41 := ⟨by kernel_rfl⟩
instance : CaT Tryz.prog 42 := ⟨by kernel_rfl⟩
instance : CaT Tryz.prog 43 := ⟨by kernel_rfl⟩
instance : CaT Tryz.prog 44 := ⟨by kernel_rfl⟩
instance : CaT Tryz.prog 45 := ⟨by kernel_rfl⟩
instance : CaT Tryz.prog 47 := ⟨by kernel_rfl⟩
instance : CaT Tryz.prog 48 := ⟨by kernel_rfl⟩
instance : CaT Tryz.prog 49 := ⟨by kernel_rfl⟩
instance : CaT Tryz.prog 50 := ⟨by kernel_rfl⟩
instance : CaT Tryz.prog 51 := ⟨by kernel_rfl⟩
instance : CaT Tryz.prog 52 := ⟨by kernel_rfl⟩
instance : CaT Tryz.prog 53 := ⟨by kernel_rfl⟩
instance : CaT Tryz.prog 54 := ⟨by kernel_rfl⟩
instance : CaT Tryz.prog 55 := ⟨by kernel_rfl⟩
instance : CaT Tryz.prog 57 := ⟨by kernel_rfl⟩
instance : CaT Tryz.prog 58 := ⟨by kernel_rfl⟩
instance : CaT Tryz.prog 59 := ⟨by kernel_rfl⟩
instance : CaT Tryz.prog 60 := ⟨by kernel_rfl⟩
instance : CaT Tryz.prog 62 := ⟨by kernel_rfl⟩
instance : CaT Tryz.prog 63 := ⟨by kernel_rfl⟩
instance : CaT Tryz.prog 78 := ⟨by kernel_rfl⟩
instance : CaT Tryz.prog 79 := ⟨by kernel_rfl⟩
instance : CaT Tryz.prog 80 := ⟨by kernel_rfl⟩
instance : CaT Tryz.prog 81 := ⟨by kernel_rfl⟩
instance : CaT Tryz.prog 83 := ⟨by kernel_rfl⟩
instance : CaT Tryz.prog 84 := ⟨by kernel_rfl⟩
instance : CaT Tryz.prog 85 := ⟨by kernel_rfl⟩
instance : CaT Tryz.prog 86 := ⟨by kernel_rfl⟩
instance : CaT Tryz.prog 87 := ⟨by kernel_rfl⟩
instance : CaT Tryz.prog 88 := ⟨by kernel_rfl⟩
instance : CaT Tryz.prog 89 := ⟨by kernel_rfl⟩
instance : CaT Tryz.prog 90 := ⟨by kernel_rfl⟩
instance : CaT Tryz.prog 91 := ⟨by kernel_rfl⟩
instance : CaT Tryz.prog 92 := ⟨by kernel_rfl⟩
instance : CaT Tryz.prog 93 := ⟨by kernel_rfl⟩
instance : CaT Tryz.prog 96 := ⟨by kernel_rfl⟩
instance : CaT Tryz.prog 97 := ⟨by kernel_rfl⟩
instance : CaT Tryz.prog 98 := ⟨by kernel_rfl⟩
instance : CaT Tryz.prog 99 := ⟨by kernel_rfl⟩
instance : CaT Tryz.prog 100 := ⟨by kernel_rfl⟩
instance : CaT Tryz.prog 101 := ⟨by kernel_rfl⟩
instance : CaT Tryz.prog 102 := ⟨by kernel_rfl⟩
instance : CaT Tryz.prog 103 := ⟨by kernel_rfl⟩
instance : CaT Tryz.prog 104 := ⟨by kernel_rfl⟩
instance : CaT Tryz.prog 107 := ⟨by kernel_rfl⟩
instance : CaT Tryz.prog 110 := ⟨by kernel_rfl⟩
instance : CaT Tryz.prog 116 := ⟨by kernel_rfl⟩
instance : CaT Tryz.prog 119 := ⟨by kernel_rfl⟩
instance : CaT Tryz.prog 120 := ⟨by kernel_rfl⟩
instance : CaT Tryz.prog 124 := ⟨by kernel_rfl⟩
instance : CaT Tryz.prog 125 := ⟨by kernel_rfl⟩
instance : CaT Tryz.prog 126 := ⟨by kernel_rfl⟩
instance : CaT Tryz.prog 127 := ⟨by kernel_rfl⟩
instance : CaT Tryz.prog 128 := ⟨by kernel_rfl⟩
instance : CaT Tryz.prog 129 := ⟨by kernel_rfl⟩
instance : CaT Tryz.prog 130 := ⟨by kernel_rfl⟩
instance : CaT Tryz.prog 131 := ⟨by kernel_rfl⟩
instance : CaT Tryz.prog 132 := ⟨by kernel_rfl⟩
instance : CaT Tryz.prog 133 := ⟨by kernel_rfl⟩
instance : CaT Tryz.prog 134 := ⟨by kernel_rfl⟩
instance : CaT Tryz.prog 135 := ⟨by kernel_rfl⟩
instance : CaT Tryz.prog 136 := ⟨by kernel_rfl⟩
instance : CaT Tryz.prog 137 := ⟨by kernel_rfl⟩
instance : CaT Tryz.prog 138 := ⟨by kernel_rfl⟩
instance : CaT Tryz.prog 139 := ⟨by kernel_rfl⟩
instance : CaT Tryz.prog 140 := ⟨by kernel_rfl⟩
instance : CaT Tryz.prog 141 := ⟨by kernel_rfl⟩
instance : CaT Tryz.prog 142 := ⟨by kernel_rfl⟩
instance : CaT Tryz.prog 143 := ⟨by kernel_rfl⟩
instance : CaT Tryz.prog 144 := ⟨by kernel_rfl⟩
instance : CaT Tryz.prog 145 := ⟨by kernel_rfl⟩
instance : CaT Tryz.prog 146 := ⟨by kernel_rfl⟩
instance : CaT Tryz.prog 147 := ⟨by kernel_rfl⟩
instance : CaT Tryz.prog 148 := ⟨by kernel_rfl⟩
instance : CaT Tryz.prog 149 := ⟨by kernel_rfl⟩
instance : CaT Tryz.prog 161 := ⟨by kernel_rfl⟩
instance : CaT Tryz.prog 162 := ⟨by kernel_rfl⟩
instance : CaT Tryz.prog 163 := ⟨by kernel_rfl⟩
instance : CaT Tryz.prog 164 := ⟨by kernel_rfl⟩
instance : CaT Tryz.prog 165 := ⟨by kernel_rfl⟩
instance : CaT Tryz.prog 166 := ⟨by kernel_rfl⟩
instance : CaT Tryz.prog 167 := ⟨by kernel_rfl⟩
instance : CaT Tryz.prog 168 := ⟨by kernel_rfl⟩
instance : CaT Tryz.prog 169 := ⟨by kernel_rfl⟩
instance : CaT Tryz.prog 170 := ⟨by kernel_rfl⟩
instance : CaT Tryz.prog 171 := ⟨by kernel_rfl⟩
instance : CaT Tryz.prog 172 := ⟨by kernel_rfl⟩
instance : CaT Tryz.prog 179 := ⟨by kernel_rfl⟩
instance : CaT Tryz.prog 180 := ⟨by kernel_rfl⟩
instance : CaT Tryz.prog 181 := ⟨by kernel_rfl⟩
instance : CaT Tryz.prog 182 := ⟨by kernel_rfl⟩
instance : CaT Tryz.prog 183 := ⟨by kernel_rfl⟩
instance : CaT Tryz.prog 184 := ⟨by kernel_rfl⟩
instance : CaT Tryz.prog 185 := ⟨by kernel_rfl⟩
instance : CaT Tryz.prog 186 := ⟨by kernel_rfl⟩
instance : CaT Tryz.prog 187 := ⟨by kernel_rfl⟩
instance : CaT Tryz.prog 188 := ⟨by kernel_rfl⟩
instance : CaT Tryz.prog 189 := ⟨by kernel_rfl⟩
instance : CaT Tryz.prog 190 := ⟨by kernel_rfl⟩
instance : CaT Tryz.prog 191 := ⟨by kernel_rfl⟩
instance : CaT Tryz.prog 192 := ⟨by kernel_rfl⟩
instance : CaT Tryz.prog 193 := ⟨by kernel_rfl⟩
instance : CaT Tryz.prog 194 := ⟨by kernel_rfl⟩
instance : CaT Tryz.prog 195 := ⟨by kernel_rfl⟩
instance : CaT Tryz.prog 196 := ⟨by kernel_rfl⟩
instance : CaT Tryz.prog 203 := ⟨by kernel_rfl⟩
instance : CaT Tryz.prog 204 := ⟨by kernel_rfl⟩
instance : CaT Tryz.prog 205 := ⟨by kernel_rfl⟩
instance : CaT Tryz.prog 206 := ⟨by kernel_rfl⟩
instance : CaT Tryz.prog 207 := ⟨by kernel_rfl⟩
instance : CaT Tryz.prog 208 := ⟨by kernel_rfl⟩
instance : CaT Tryz.prog 209 := ⟨by kernel_rfl⟩
instance : CaT Tryz.prog 210 := ⟨by kernel_rfl⟩
instance : CaT Tryz.prog 211 := ⟨by kernel_rfl⟩
instance : CaT Tryz.prog 212 := ⟨by kernel_rfl⟩
instance : CaT Tryz.prog 213 := ⟨by kernel_rfl⟩
instance : CaT Tryz.prog 224 := ⟨by kernel_rfl⟩
instance : CaT Tryz.prog 225 := ⟨by kernel_rfl⟩
instance : CaT Tryz.prog 226 := ⟨by kernel_rfl⟩
instance : CaT Tryz.prog 227 := ⟨by kernel_rfl⟩
instance : CaT Tryz.prog 228 := ⟨by kernel_rfl⟩
instance : CaT Tryz.prog 229 := ⟨by kernel_rfl⟩
instance : CaT Tryz.prog 230 := ⟨by kernel_rfl⟩
instance : CaT Tryz.prog 231 := ⟨by kernel_rfl⟩
instance : CaT Tryz.prog 232 := ⟨by kernel_rfl⟩
instance : CaT Tryz.prog 233 := ⟨by kernel_rfl⟩
instance : CaT Tryz.prog 234 := ⟨by kernel_rfl⟩
instance : CaT Tryz.prog 235 := ⟨by kernel_rfl⟩
instance : CaT Tryz.prog 236 := ⟨by kernel_rfl⟩
instance : CaT Tryz.prog 237 := ⟨by kernel_rfl⟩
instance : CaT Tryz.prog 239 := ⟨by kernel_rfl⟩
instance : CaT Tryz.prog 246 := ⟨by kernel_rfl⟩
instance : CaT Tryz.prog 247 := ⟨by kernel_rfl⟩
instance : CaT Tryz.prog 248 := ⟨by kernel_rfl⟩
instance : CaT Tryz.prog 249 := ⟨by kernel_rfl⟩
instance : CaT Tryz.prog 250 := ⟨by kernel_rfl⟩
instance : CaT Tryz.prog 251 := ⟨by kernel_rfl⟩
instance : CaT Tryz.prog 252 := ⟨by kernel_rfl⟩
end Go.Proofs.YtckihjkcgfphmaaGreat

namespace Go.AL

inductive Stmt where
 | mk (op x y n : Int) (th el : List Stmt)
 deriving Inhabited
namespace Stmt
def op : Stmt → Int | .mk o _ _ _ _ _ => o
def x : Stmt → Int | .mk _ o _ _ _ _ => o
def y : Stmt → Int | .mk _ _ o _ _ _ => o
def n : Stmt → Int | .mk _ _ _ o _ _ => o
def th : Stmt → List Stmt | .mk _ _ _ _ o _ => o
def el : Stmt → List Stmt | .mk _ _ _ _ _ o => o
end Stmt
structure Prg where
 types : List Int
 body : List Stmt
 deriving Inhabited
structure Pnt where
 op : Int
 x : Int
 y : Int
 n : Int
 next : List Int
 deriving Inhabited, DecidableEq
structure Iss where
 point : Int
 kind : Int
 with_ : Int
 deriving Inhabited, DecidableEq
structure Acc where
 var : Int
 write : Bool
 deriving Inhabited, DecidableEq

mutual
def bO : Stmt → List AV
 | .mk o x y n t e => [iv o, iv x, iv y, iv n, .imm t.length (mQ t), .imm e.length (mQ e)]
def mQ : List Stmt → List AV
 | [] => []
 | s :: l => bO s ++ mQ l
end
theorem wR : ∀ l, mQ l = aI bO l
 | [] => by simp [mQ, aI]
 | s :: l => by have := wR l; simp only [mQ, this, aI, List.flatMap_cons]
theorem eC (s : Stmt) : bO s = [iv s.op, iv s.x, iv s.y, iv s.n, sl bO s.th, sl bO s.el] := by
 cases s; simp only [bO, wR, Stmt.op, Stmt.x, Stmt.y, Stmt.n, Stmt.th, Stmt.el]
def dT (p : Pnt) : List AV := [iv p.op, iv p.x, iv p.y, iv p.n, sl cI p.next]
def pG (p : Iss) : List AV := [iv p.point, iv p.kind, iv p.with_]
def Ia (p : Acc) : List AV := [iv p.var, bv p.write]
instance : FlT bO 6 := ⟨fun s => by rw [eC]; rfl⟩
instance : FlT dT 5 := ⟨fun s => rfl⟩
instance : FlT pG 3 := ⟨fun s => rfl⟩
instance : FlT Ia 2 := ⟨fun s => rfl⟩
instance : FE bO (fun s => [iv s.op, iv s.x, iv s.y, iv s.n, sl bO s.th, sl bO s.el]) := ⟨eC⟩
instance : FE dT (fun p => [iv p.op, iv p.x, iv p.y, iv p.n, sl cI p.next]) := ⟨fun _ => rfl⟩
instance : FE Ia (fun p => [iv p.var, bv p.write]) := ⟨fun _ => rfl⟩
mutual
theorem vR : ∀ s, c9 (bO s) = true
 | .mk o x y n t e => by simp only [bO, c9, AV.pur, nW t, nW e, Bool.and_self]
theorem nW : ∀ l, c9 (mQ l) = true
 | [] => rfl
 | s :: l => by simp only [mQ, jI, vR s, nW l, Bool.and_self]
end
instance (s : Stmt) : Pur (bO s) := ⟨vR s⟩
instance (s : Pnt) : Pur (dT s) := ⟨by simp only [dT, c9, AV.pur, aY, Bool.and_self]; simp only [(inferInstance : Pur (aI cI s.next)).pf, Bool.and_self]⟩
instance (s : Iss) : Pur (pG s) := ⟨rfl⟩
instance (s : Acc) : Pur (Ia s) := ⟨rfl⟩
abbrev fQ (s : Stmt) : AV := .agg [iv s.op, iv s.x, iv s.y, iv s.n, sl bO s.th, sl bO s.el]
abbrev fK (p : Pnt) : AV := .agg [iv p.op, iv p.x, iv p.y, iv p.n, sl cI p.next]
abbrev dM (p : Prg) : AV := .agg [sl cI p.types, sl bO p.body]
def gB (types : List Int) (v : Int) : Int := if 0 ≤ v ∧ v < types.length then types[v.toNat]! else 0
def nH (t : Int) : Bool := decide (t = 3) || decide (t = 4)
def cD (types : List Int) (x : Pnt) (v : Int) : Int :=
 if x.op = 3 then (if v = x.y then (if types[v.toNat]! = 2 ∨ types[v.toNat]! = 4 then 2 else 1) else 0)
 else if x.op = 4 ∨ x.op = 5 ∨ x.op = 6 then (if v = x.y then 3 else 0)
 else if x.op = 7 then (if v = x.x then 3 else if v = x.y then 1 else 0)
 else if x.op = 8 then (if v = x.x then 2 else 0) else 0
def bT (x : Pnt) : Int := if 1 ≤ x.op ∧ x.op ≤ 6 then x.x else -1
end Go.AL

namespace Go.AL
theorem cT {α : Type} [Inhabited α] (xs : List α) (i : Nat) (h : i < xs.length) : xs[i]! = xs[i] := getElem!_pos xs i h
theorem kJ {α : Type} [Inhabited α] (p : α → Bool) (xs : List α) : xs.all p = true ↔ ∀ i, i < xs.length → p xs[i]! = true := by
 rw [List.all_eq_true]
 constructor
 ·intro h i hi; rw [cT _ _ hi]; exact h _ (List.getElem_mem hi)
 ·intro h x hx
  obtain ⟨i, hi, rfl⟩ := List.getElem_of_mem hx
  have := h i hi; rwa [cT _ _ hi] at this
theorem m3 {α : Type} [Inhabited α] (p : α → Bool) (xs : List α) (i : Nat) (hi : i < xs.length) (h : p xs[i]! = false) : xs.all p = false := by
 rw [Bool.eq_false_iff]; intro h2; rw [kJ] at h2; have := h2 i hi; rw [h] at this; cases this
theorem c6 {α : Type} [Inhabited α] (xs : List α) (k : Nat) (h : k < xs.length) : xs.take (k + 1) = xs.take k ++ [xs[k]!] := by
 rw [cT _ _ h, List.take_succ_eq_append_getElem h]
theorem uJ {α : Type} [Inhabited α] (xs : List α) (k : Nat) (h : k < xs.length) : xs.drop k = xs[k]! :: xs.drop (k + 1) := by
 rw [cT _ _ h, List.drop_eq_getElem_cons h]
end Go.AL

namespace Go.AL
def dB (ts : List Int) : Bool := ts.all (fun t => decide (1 ≤ t) && decide (t ≤ 4)) && decide (ts.length ≤ 6)
theorem lM {ts : List Int} (h : dB ts = true) (i : Nat) (hi : i < ts.length) : 1 ≤ ts[i]! ∧ ts[i]! ≤ 4 := by
 unfold dB at h; grind [kJ]
theorem iU {ts : List Int} (h : dB ts = true) : ts.length ≤ 6 := by
 unfold dB at h; grind
theorem jO {ts : List Int} (h : dB ts = true) (v : Int) : 0 ≤ gB ts v ∧ gB ts v ≤ 4 := by
 unfold gB; split
 ·rename_i h1; have := lM h v.toNat (by omega); omega
 ·omega
theorem lQ {ts : List Int} (h : dB ts = true) (v : Int) : 0 < gB ts v ↔ 0 ≤ v ∧ v < ts.length := by
 unfold gB; split
 ·rename_i h1; have := lM h v.toNat (by omega); omega
 ·omega
def eQ (ts : List Int) (s : Stmt) : Bool :=
 let x := gB ts s.x; let y := gB ts s.y
 if s.op = 1 then decide (x = 1 ∧ s.y = 0 ∧ 0 ≤ s.n ∧ s.n ≤ 9)
 else if s.op = 2 then decide (x = 2 ∧ s.y = 0 ∧ 0 ≤ s.n ∧ s.n ≤ 9)
 else if s.n ≠ 0 then false
 else if s.op = 3 then decide (x = y ∧ 0 < x ∧ s.x ≠ s.y)
 else if s.op = 4 then decide (x = 3 ∧ 2 ≤ y ∧ s.x ≠ s.y)
 else if s.op = 5 then decide (x = 4 ∧ (y = 2 ∨ y = 4) ∧ s.x ≠ s.y)
 else if s.op = 6 then decide (x = 1 ∧ 2 ≤ y)
 else if s.op = 7 then decide ((x = 2 ∨ x = 4) ∧ y = 1)
 else if s.op = 8 then decide (x = 2 ∧ s.y = 0)
 else false
theorem cJ {α : Type} [Inhabited α] (xs : List α) (i : Nat) (h : i < xs.length) : xs[i]! ∈ xs := by
 rw [cT _ _ h]; exact List.getElem_mem h
mutual
def sR (ts : List Int) (d : Nat) : Stmt → Bool
 | .mk op x y n th el => if op ≠ 9 ∧ op ≠ 10 then th.isEmpty && el.isEmpty && eQ ts (.mk op x y n th el)
  else match d with
   | 0 => false
   | d + 1 => decide (x = 0 ∧ y = 0 ∧ n = 0) && !(decide (op = 10) && !el.isEmpty) && okL ts d th && okL ts d el
def okL (ts : List Int) (d : Nat) : List Stmt → Bool
 | [] => true
 | s :: l => sR ts d s && okL ts d l
end
mutual
def dP : Stmt → Nat
 | .mk _ _ _ _ th el => 1 + cA th + cA el
def cA : List Stmt → Nat
 | [] => 0
 | s :: l => dP s + cA l
end
theorem gZ (s : Stmt) : dP s = 1 + cA s.th + cA s.el := by cases s; simp only [dP, Stmt.th, Stmt.el]
theorem Dr (ts : List Int) (d : Nat) (s : Stmt) : sR ts d s = if s.op ≠ 9 ∧ s.op ≠ 10 then s.th.isEmpty && s.el.isEmpty && eQ ts s
  else match d with
   | 0 => false
   | d + 1 => decide (s.x = 0 ∧ s.y = 0 ∧ s.n = 0) && !(decide (s.op = 10) && !s.el.isEmpty) && okL ts d s.th && okL ts d s.el := by
 cases s; cases d <;> simp only [sR, Stmt.th, Stmt.el, Stmt.op, Stmt.x, Stmt.y, Stmt.n] <;> rfl
theorem x7 (ts : List Int) (d : Nat) : ∀ l, okL ts d l = l.all (sR ts d)
 | [] => by simp [okL]
 | s :: l => by simp [okL, x7 ts d l]
theorem gP : ∀ a b, cA (a ++ b) = cA a + cA b
 | [], b => by simp [cA]
 | s :: a, b => by simp only [List.cons_append, cA, gP a b]; omega
theorem zO : ∀ {l : List Stmt} {s : Stmt}, s ∈ l → dP s ≤ cA l
 | s :: l, _, .head _ => by simp only [cA]; omega
 | _ :: l, s, .tail _ h => by have := zO h; simp only [cA]; omega
theorem gX (l : List Stmt) (i : Nat) (h : i < l.length) : dP l[i]! ≤ cA l := zO (cJ l i h)
theorem lL (s : Stmt) : cA s.th + cA s.el < dP s := by rw [gZ]; omega
theorem eY : ∀ l : List Stmt, l.length ≤ cA l
 | [] => by simp [cA]
 | s :: l => by have := eY l; simp only [cA, List.length_cons, gZ]; omega
def c8 (p : Prg) : Bool := dB p.types && okL p.types 4 p.body && decide (cA p.body ≤ 30)
end Go.AL
namespace Go.AL
theorem HE (ts : List Int) (d : Int) (hd : 0 ≤ d) (s : Stmt) : sR ts d.toNat s = if s.op ≠ 9 ∧ s.op ≠ 10 then s.th.isEmpty && s.el.isEmpty && eQ ts s
  else if d < 1 then false else decide (s.x = 0 ∧ s.y = 0 ∧ s.n = 0) && !(decide (s.op = 10) && !s.el.isEmpty) && okL ts (d - 1).toNat s.th && okL ts (d - 1).toNat s.el := by
 rw [Dr]
 by_cases h : s.op ≠ 9 ∧ s.op ≠ 10
 ·rw [if_pos h, if_pos h]
 ·rw [if_neg h, if_neg h]
  by_cases h2 : d < 1
  ·obtain rfl : d = 0 := by omega
   rfl
  ·obtain ⟨k, rfl⟩ : ∃ k : Nat, d = ((k + 1 : Nat) : Int) := ⟨(d - 1).toNat, by omega⟩
   have e1 : (((k + 1 : Nat) : Int)).toNat = k + 1 := rfl
   have e2 : (((k + 1 : Nat) : Int) - 1).toNat = k := by omega
   rw [e1, e2, if_neg h2]
end Go.AL
namespace Go.AL
theorem F9 {ts : List Int} {d : Nat} {l : List Stmt} {k : Nat} (hk : k < l.length) (h : sR ts d l[k]! = false) : okL ts d l = false := by
 rw [x7]; exact m3 _ _ k hk h
theorem HQ {ts : List Int} {d : Nat} {l : List Stmt} (h : ∀ i, i < l.length → sR ts d l[i]! = true) : okL ts d l = true := by
 rw [x7, kJ]; exact h
mutual
def GV (most n : Int) : Stmt → Int
 | .mk _ _ _ _ th el => let n1 := n + 1 + nG (most - n) 0 th; if n1 ≤ most then n1 + nG (most - n1) 0 el else n1
def nG (most n : Int) : List Stmt → Int
 | [] => n
 | s :: l => if n ≤ most then nG most (GV most n s) l else n
end
theorem HI (most n : Int) (s : Stmt) : GV most n s = if n + 1 + nG (most - n) 0 s.th ≤ most then (n + 1 + nG (most - n) 0 s.th) + nG (most - (n + 1 + nG (most - n) 0 s.th)) 0 s.el else n + 1 + nG (most - n) 0 s.th := by
 cases s; simp only [GV, Stmt.th, Stmt.el]; rfl
mutual
theorem Gq : ∀ (s : Stmt) (most n : Int), n ≤ GV most n s ∧ GV most n s ≤ n + dP s ∧ (GV most n s ≤ most → GV most n s = n + dP s)
 | .mk o x y k th el, most, n => by
  have h1 := mA th (most - n) 0
  have h2 := fun m => mA el m 0
  simp only [GV, dP]
  split
  ·have := h2 (most - (n + 1 + nG (most - n) 0 th)); omega
  ·omega
theorem mA : ∀ (l : List Stmt) (most n : Int), n ≤ nG most n l ∧ nG most n l ≤ n + cA l ∧ (nG most n l ≤ most → nG most n l = n + cA l)
 | [], most, n => by simp [nG, cA]
 | s :: l, most, n => by
  have h1 := Gq s most n
  have h2 := mA l most (GV most n s)
  simp only [nG, cA]
  split <;> omega
end
theorem Kf (l : List Stmt) (m : Int) : decide (nG m 0 l ≤ m) = decide ((cA l : Int) ≤ m) := by
 have := mA l m 0; simp only [decide_eq_decide]; omega
theorem Fv (most n : Int) (l : List Stmt) (k : Nat) (hk : k < l.length) (h : n ≤ most) : nG most n (l.drop k) = nG most (GV most n l[k]!) (l.drop (k + 1)) := by
 rw [uJ _ _ hk, nG, if_pos h]
theorem Hi (most n : Int) (l : List Stmt) (h : ¬ n ≤ most) : nG most n l = n := by cases l <;> simp [nG, h]
theorem I8 (most n : Int) (l : List Stmt) (k : Nat) (hk : ¬ k < l.length) : nG most n (l.drop k) = n := by
 rw [List.drop_of_length_le (by omega)]; simp [nG]
end Go.AL

namespace Go.AL
mutual
def mK (ts : List Int) (nest c : Int) : Stmt → Bool × Int
 | .mk op x y n th el => if 30 < c + 1 then (false, c + 1) else
   if op ≠ 9 ∧ op ≠ 10 then (th.isEmpty && el.isEmpty && eQ ts (.mk op x y n th el), c + 1)
   else if nest = 4 ∨ x ≠ 0 ∨ y ≠ 0 ∨ n ≠ 0 ∨ (op = 10 ∧ el ≠ []) then (false, c + 1)
   else if (kT ts (nest + 1) (c + 1) th).1 = true then kT ts (nest + 1) (kT ts (nest + 1) (c + 1) th).2 el else (false, (kT ts (nest + 1) (c + 1) th).2)
def kT (ts : List Int) (nest c : Int) : List Stmt → Bool × Int
 | [] => (true, c)
 | s :: l => if (mK ts nest c s).1 = true then kT ts nest (mK ts nest c s).2 l else (false, (mK ts nest c s).2)
end
theorem Ja (ts : List Int) (nest c : Int) (s : Stmt) : mK ts nest c s = if 30 < c + 1 then (false, c + 1) else
   if s.op ≠ 9 ∧ s.op ≠ 10 then (s.th.isEmpty && s.el.isEmpty && eQ ts s, c + 1)
   else if nest = 4 ∨ s.x ≠ 0 ∨ s.y ≠ 0 ∨ s.n ≠ 0 ∨ (s.op = 10 ∧ s.el ≠ []) then (false, c + 1)
   else if (kT ts (nest + 1) (c + 1) s.th).1 = true then kT ts (nest + 1) (kT ts (nest + 1) (c + 1) s.th).2 s.el else (false, (kT ts (nest + 1) (c + 1) s.th).2) := by
 cases s; simp only [mK, Stmt.th, Stmt.el, Stmt.op, Stmt.x, Stmt.y, Stmt.n]; rfl
mutual
theorem CR (ts : List Int) : ∀ (s : Stmt) (d : Nat) (c : Int), d ≤ 4 → 0 ≤ c → c ≤ 30 → c ≤ (mK ts (4 - d) c s).2 ∧ (mK ts (4 - d) c s).2 ≤ c + dP s ∧ (mK ts (4 - d) c s).2 ≤ 31 ∧
  ((mK ts (4 - d) c s).1 = true ↔ sR ts d s = true ∧ c + dP s ≤ 30) ∧ ((mK ts (4 - d) c s).1 = true → (mK ts (4 - d) c s).2 = c + dP s)
 | .mk op x y n th el, d, c, hd, hc0, hc => by
  have hS : dP (.mk op x y n th el) = 1 + cA th + cA el := by simp only [dP]
  rw [hS]
  simp only [mK]
  split
  ·simp; omega
  ·rename_i h30
   split
   ·rename_i hop
    simp only [sR, hop, if_true, ne_eq, not_false_eq_true, and_self]
    cases th with
    | cons a b => simp [cA]; have := gZ a; omega
    | nil => cases el with
     | cons a b => simp [cA]; have := gZ a; omega
     | nil => simp [cA, hop]; omega
   ·rename_i hop
    split
    ·rename_i hb
     have : sR ts d (.mk op x y n th el) = false := by
      simp only [sR, hop, if_false]
      cases d with
      | zero => rfl
      | succ d =>
       simp only [Bool.and_eq_false_iff, decide_eq_false_iff_not, Bool.not_eq_false', Bool.and_eq_true, decide_eq_true_eq]
       rcases hb with h | h | h | h | ⟨h1, h2⟩
       ·omega
       ·exact .inl (.inl (.inl (by omega)))
       ·exact .inl (.inl (.inl (by omega)))
       ·exact .inl (.inl (.inl (by omega)))
       ·exact .inl (.inl (.inr ⟨h1, by cases el; exact absurd rfl h2; rfl⟩))
     simp [this]; omega
    ·rename_i hb
     cases d with
     | zero => exact absurd (.inl rfl) hb
     | succ d =>
      have e : ((4 : Int) - ((d + 1 : Nat) : Int)) + 1 = 4 - (d : Int) := by omega
      rw [e]
      have h1 := pB ts th d (c + 1) (by omega) (by omega) (by omega)
      have hok : sR ts (d + 1) (.mk op x y n th el) = (okL ts d th && okL ts d el) := by
       simp only [sR, hop, if_false]
       have e1 : (x = 0 ∧ y = 0 ∧ n = 0) := by omega
       have e2 : (decide (op = 10) && !el.isEmpty) = false := by
        rw [Bool.and_eq_false_iff, decide_eq_false_iff_not]
        by_cases ho : op = 10
        ·right; cases el with
         | nil => rfl
         | cons a b => exact absurd (.inr (.inr (.inr (.inr ⟨ho, by simp⟩)))) hb
        ·exact .inl ho
       simp [e1, e2]
      rw [hok]
      generalize kT ts (4 - (d : Int)) (c + 1) th = r1 at h1
      obtain ⟨b1, c1⟩ := r1
      dsimp only at h1 ⊢
      cases b1 with
      | true =>
       have h3 := h1.2.2.2.1.1 rfl
       have h4 := h1.2.2.2.2 rfl
       have h2 := pB ts el d c1 (by omega) (by omega) (by omega)
       simp only [if_true, h3.1, Bool.true_and]
       refine ⟨by omega, by omega, by omega, ⟨fun q => ?_, fun q => ?_⟩, fun q => ?_⟩
       ·have := h2.2.2.2.1.1 q; exact ⟨this.1, by omega⟩
       ·exact h2.2.2.2.1.2 ⟨q.1, by omega⟩
       ·have := h2.2.2.2.2 q; omega
      | false =>
       simp only [Bool.false_eq_true, if_false, false_iff]
       refine ⟨by omega, by omega, by omega, ?_, fun h => h.elim⟩
       rintro ⟨q1, q2⟩
       simp only [Bool.and_eq_true] at q1
       exact absurd (h1.2.2.2.1.2 ⟨q1.1, by omega⟩) (by simp)
theorem pB (ts : List Int) : ∀ (l : List Stmt) (d : Nat) (c : Int), d ≤ 4 → 0 ≤ c → c ≤ 30 → c ≤ (kT ts (4 - d) c l).2 ∧ (kT ts (4 - d) c l).2 ≤ c + cA l ∧ (kT ts (4 - d) c l).2 ≤ 31 ∧
  ((kT ts (4 - d) c l).1 = true ↔ okL ts d l = true ∧ c + cA l ≤ 30) ∧ ((kT ts (4 - d) c l).1 = true → (kT ts (4 - d) c l).2 = c + cA l)
 | [], d, c, hd, hc0, hc => by simp [kT, okL, cA]; omega
 | s :: l, d, c, hd, hc0, hc => by
  have h1 := CR ts s d c hd hc0 hc
  simp only [kT, okL, cA]
  generalize mK ts (4 - (d : Int)) c s = r1 at h1
  obtain ⟨b1, c1⟩ := r1
  dsimp only at h1 ⊢
  cases b1 with
  | true =>
   have h3 := h1.2.2.2.1.1 rfl
   have h4 := h1.2.2.2.2 rfl
   have h2 := pB ts l d c1 (by omega) (by omega) (by omega)
   simp only [if_true, h3.1, Bool.true_and]
   refine ⟨by omega, by omega, by omega, ⟨fun q => ?_, fun q => ?_⟩, fun q => ?_⟩
   ·have := h2.2.2.2.1.1 q; exact ⟨this.1, by omega⟩
   ·exact h2.2.2.2.1.2 ⟨q.1, by omega⟩
   ·have := h2.2.2.2.2 q; omega
  | false =>
   simp only [Bool.false_eq_true, if_false, false_iff]
   refine ⟨by omega, by omega, by omega, ?_, fun h => h.elim⟩
   rintro ⟨q1, q2⟩
   simp only [Bool.and_eq_true] at q1
   exact absurd (h1.2.2.2.1.2 ⟨q1.1, by omega⟩) (by simp)
end
theorem ED (p : Prg) : (dB p.types && (kT p.types 0 0 p.body).1) = c8 p := by
 have h := (pB p.types p.body 4 0 (by omega) (by omega) (by omega)).2.2.2.1
 have e : ((4 : Int) - ((4 : Nat) : Int)) = 0 := by omega
 rw [e] at h
 unfold c8
 rw [Bool.and_assoc]
 congr 1
 rw [Bool.eq_iff_iff, h]
 simp only [Bool.and_eq_true, decide_eq_true_eq]
 constructor
 ·exact fun ⟨a, b⟩ => ⟨a, by omega⟩
 ·exact fun ⟨a, b⟩ => ⟨a, by omega⟩
theorem scL_stop {ts : List Int} {nest c : Int} {l : List Stmt} {k : Nat} (hk : k < l.length) : kT ts nest c (l.drop k) = if (mK ts nest c l[k]!).1 = true then kT ts nest (mK ts nest c l[k]!).2 (l.drop (k + 1)) else (false, (mK ts nest c l[k]!).2) := by
 rw [uJ _ _ hk, kT]
end Go.AL
namespace Go.AL
theorem Km (ts : List Int) (l : List Stmt) (nest c : Int) (h0 : 0 ≤ nest) (h1 : nest ≤ 4) (h2 : 0 ≤ c) (h3 : c ≤ 30) : 0 ≤ (kT ts nest c l).2 ∧ (kT ts nest c l).2 ≤ 31 ∧ ((kT ts nest c l).1 = true → (kT ts nest c l).2 ≤ 30) := by
 obtain ⟨k, hk⟩ : ∃ k : Nat, nest = 4 - (k : Int) := ⟨(4 - nest).toNat, by omega⟩
 have := pB ts l k c (by omega) h2 h3
 rw [← hk] at this
 refine ⟨by omega, by omega, fun h => ?_⟩
 have h4 := this.2.2.2.1.1 h
 have h5 := this.2.2.2.2 h
 omega
theorem JQ (ts : List Int) (s : Stmt) (nest c : Int) (h0 : 0 ≤ nest) (h1 : nest ≤ 4) (h2 : 0 ≤ c) (h3 : c ≤ 30) : 0 ≤ (mK ts nest c s).2 ∧ (mK ts nest c s).2 ≤ 31 ∧ ((mK ts nest c s).1 = true → (mK ts nest c s).2 ≤ 30) := by
 obtain ⟨k, hk⟩ : ∃ k : Nat, nest = 4 - (k : Int) := ⟨(4 - nest).toNat, by omega⟩
 have := CR ts s k c (by omega) h2 h3
 rw [← hk] at this
 refine ⟨by omega, by omega, fun h => ?_⟩
 have h4 := this.2.2.2.1.1 h
 have h5 := this.2.2.2.2 h
 omega
end Go.AL

namespace Go.AL
open Go.RowKit
set_option linter.unusedVariables false

def EJ (ks : List Nat) (ts : List (Nat × AV)) : List (Nat × AV) := ks.filterMap fun t => (lk ts t).map fun v => (t, v)
def GD (ks : List Nat) (hs : List (Nat × Option (List AV))) : List (Nat × Option (List AV)) := ks.map fun t => (t, cK hs t)
theorem oI {ts : List (Nat × AV)} : ∀ (ks : List Nat), vD ts (EJ ks ts)
 | [] => trivial
 | k :: ks => by
  simp only [EJ, List.filterMap_cons]
  cases h : lk ts k with
  | none => exact oI ks
  | some v => exact ⟨h, oI ks⟩
theorem sK {hs : List (Nat × Option (List AV))} : ∀ (ks : List Nat), uL hs (GD ks hs)
 | [] => trivial
 | k :: ks => ⟨.inr rfl, sK ks⟩
theorem qH {ts a b : List (Nat × AV)} (h1 : vD ts a) (h2 : vD ts b) : vD ts (a ++ b) := by
 induction a with
 | nil => exact h2
 | cons x a ih => exact ⟨h1.1, ih h1.2⟩
theorem qK {ts a b : List (Nat × Option (List AV))} (h1 : uL ts a) (h2 : uL ts b) : uL ts (a ++ b) := by
 induction a with
 | nil => exact h2
 | cons x a ih => exact ⟨h1.1, ih h1.2⟩
variable {P : Program} {N : Nat} {Q : Exit → AS → Prop}
theorem a8 {σ : Type} {c : Code} {ts : List (Nat × AV)} {hs : List (Nat × Option (List AV))} {n : Nat} {z0 : Lo} (ks : List Nat) (kt : List (Nat × AV)) (js : List Nat) (kh : List (Nat × Option (List AV)))
  (ot : σ → List (Nat × AV)) (oh : σ → List (Nat × Option (List AV))) (p : σ → Prop) (μ : σ → Nat) (i0 : σ) (h0 : p i0) (hk : EJ ks ts = kt) (hj : GD js hs = kh)
  (h1 : vD ts (ot i0)) (h2 : uL hs (oh i0))
  (round : ∀ i, p i → AW P N c (wJ (fun s' => ∃ j, p j ∧ μ j < μ i ∧ Le s' ⟨ot j ++ kt, oh j ++ kh, n, z0⟩) Q) ⟨ot i ++ kt, oh i ++ kh, n, z0⟩) :
  AW P N (.loop c) Q ⟨ts, hs, n, z0⟩ := by
 subst hk hj
 exact Jd p (fun i => ⟨ot i ++ EJ ks ts, oh i ++ GD js hs, n, z0⟩) μ ⟨i0, h0, Le.lit (qH h1 (oI ks)) (qK h2 (sK js)) (Nat.le_refl _)⟩ round
end Go.AL

namespace Go.AL
open Go.RowKit
set_option linter.unusedVariables false
set_option linter.unusedSimpArgs false
section
variable {P : Program} {N : Nat} {all : Array Oper} {Q : Exit → AS → Prop} {m : Md} {rest : List Oper} {s : AS}
theorem Ez {dst : Option Tmp} {op : Op} {ty : TypeId} {pos : String} {af : Array Edge} {j d : Nat} {want : Bool} (hj : (all[j]?).bind (·.dst) = some d) (hb : lk s.ts d = some (.v undef))
  (hdN : ∀ d, dst = some d → d < N)
  (h2 : RW P N all Q (m.add [.inl d] (wD dst)) rest (put s dst (.v undef))) : RW P N all Q m (⟨dst, op, ty, pos, af, some (j, want)⟩ :: rest) s := by
 have hyl : ∀ (C : Ctx) (ι : Pl) (T : Nat → Option AV) (H : Nat → Option (List AV)) (a : Act) (w : World), T d = lk s.ts d → TG C ι T H a w → yielded all a.tmps j = none := by
  intro C ι T H a w hT g
  obtain ⟨y, hy, hr⟩ := g.tm d _ (by rw [hT]; exact hb)
  simp only [Rd] at hr
  subst hr
  simp [yielded, hj, hy, undef]
 cases m with
 | txt =>
  rintro C a w hN ⟨h0, ι, g, gh⟩
  have hyl' := hyl C ι _ _ a w rfl g
  unfold wpList
  simp only [Region.wanted, hyl']
  rw [if_neg (by simp)]
  refine h2 C _ w hN ?_
  cases hd : dst with
  | none => exact ⟨h0, ι, g, gh⟩
  | some d' =>
   refine ⟨h0, ι, ?_, gh⟩
   simp only [put]
   rw [jK]
   exact g.put (hN.symm ▸ hdN d' hd) (by simp [Rd])
 | drw ks pend =>
  obtain ⟨As, S', n2, tr, hc, hn2, _, s', e1, e2, e3, hQ⟩ := h2
  refine ⟨⟨pend ++ [.inl d], CJ dst (.v undef), s.nid, s.nid⟩ :: As, S', n2, .cons ?_ rfl (Nat.le_refl _) ?_, ?_, hn2, fun _ => ⟨_, _, rfl, fun r hr => List.mem_append_left _ hr⟩, s', e1, e2, ?_, hQ⟩
  ·intro C ι F S a w hN hag hF g gh K Q' hK
   have hT : uR S d = lk s.ts d := by rw [← nD]; simp only [uR, hag _ (List.mem_append_right _ (by simp : Sum.inl d ∈ [Sum.inl d]))]
   have hyl' := hyl C ι _ _ a w hT g
   rw [if_neg (by simp [Region.wanted, hyl'])]
   refine hK ι _ w ?_ ?_
   ·rw [mX]; exact yD g (fun x hx => hN.symm ▸ hdN x hx) (by simp [Rd])
   ·rw [mX]; exact (gh.less (fun _ _ h => h) (fun j hj => hj.1)).1
  ·rw [w6] at tr
   have hnid : (put s dst (.v undef)).nid = s.nid := by cases dst <;> rfl
   rw [hnid] at tr
   exact tr
  ·have hk : wU ⟨pend ++ [.inl d], CJ dst (.v undef), s.nid, s.nid⟩ = (pend ++ [.inl d], wD dst) := by
    simp only [wU, lX]
    congr 1
    cases dst <;> rfl
   rw [List.map_cons, hk]
   simpa using hc
  ·rw [e3]; cases dst <;> rfl
end
section
variable {P : Program} {N : Nat} {all : Array Oper} {Q : Exit → AS → Prop} {md : Md} {rest : List Oper} {ts : List (Nat × AV)} {hs : List (Nat × Option (List AV))} {n : Nat} {z0 : Lo} {ty : TypeId} {pos : String} {af : Array Edge}
theorem nF {dst : Nat} {op : Op} {j d : Nat} {want : Bool} {md' : Md} [hmd : MdA md [.inl d] [.inl dst] md'] (hj : (all[j]?).bind (·.dst) = some d) (hb : lk ts d = some (.v undef)) (hN : Nat.blt dst N = true)
  (k : RW P N all Q md' rest ⟨(dst, .v undef) :: ts, hs, n, z0⟩) : RW P N all Q md (⟨some dst, op, ty, pos, af, some (j, want)⟩ :: rest) ⟨ts, hs, n, z0⟩ :=
 Ez hj hb (fun d h => by cases h; exact eJ hN) (by rw [show wD (some dst) = [Sum.inl dst] from rfl, hmd.pf]; exact k)
end
end Go.AL

namespace Go.AL
open Go.RowKit
section
variable {P : Program} {N : Nat} {all : Array Oper} {Q : Exit → AS → Prop} {md : Md} {rest : List Oper} {s : AS} {ty : TypeId} {pos : String} {af : Array Edge} {dst : Option Tmp} {op : Op}
theorem aK {l : List Oper} (h : RW P N all Q md l s) : RW P N all Q md l s := h
theorem aL {c : Code} (h : AW P N c Q s) : AW P N c Q s := h
end
end Go.AL
