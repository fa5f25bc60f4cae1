/-
 A part of the proofs over this program: rules and contracts of its functions (the rules).
-/
import Derived.Test.YtjcpngimjdckmaaGreatQ3A06
set_option linter.unusedVariables false
set_option linter.unusedSimpArgs false
namespace Go.AL
open Go.RowKit
set_option linter.unusedVariables false
theorem ED (c : Int) : gU .and .i64 c 1 = some (.int .i64 (c % 2)) := by
 have h : (BitVec.ofInt 64 c &&& BitVec.ofInt 64 1).toNat = (c % 2).toNat := by
  rw [BitVec.toNat_and, show (BitVec.ofInt 64 1).toNat = 1 from rfl, Nat.and_one_is_mod, BitVec.toNat_ofInt]
  omega
 have e : gU .and .i64 c 1 = some (.int .i64 (IntKind.i64.wrap ((BitVec.ofInt 64 c &&& BitVec.ofInt 64 1).toNat : Int))) := rfl
 rw [e, h]
 rcases Int.emod_two_eq c with h2 | h2 <;> rw [h2] <;> rfl
section
variable {P : Program} {N : Nat} {Q : Exit → AS → Prop} {all : Array Oper} {rest : List Oper} {ts : List (Nat × AV)} {hs : List (Nat × Option (List AV))} {n : Nat} {z0 : Lo} {md : Md}
variable {d : Nat} {ty : TypeId} {pos : String} {af : Array Edge}
theorem Ii {t t' : TypeId} {x y : Operand} {c : Int} (hx : ev (lk ts) x = some (.v (.int .i64 c))) (hy : ev (lk ts) y = some (.v (.int .i64 1)))
  (hN : Nat.blt d N = true) {md' : Md} [hmd : MdA md (rO x ++ rO y) [.inl d] md'] (kk : RW P N all Q md' rest ⟨(d, .v (.int .i64 (c % 2))) :: ts, hs, n, z0⟩) : RW P N all Q md (⟨some d, .binOp .and t x y t', ty, pos, af, none⟩ :: rest) ⟨ts, hs, n, z0⟩ :=
 e6 hx hy (.inl rfl) (ED c) (eG hN) (by rw [hmd.pf]; exact kk)
end
end Go.AL
namespace Go.AL
open Go.RowKit
set_option linter.unusedVariables false
class EqS (P : Program) (t : Nat) (S : outParam (List Value → Prop)) : Prop where
 g : P.eqGuardType P.depth t = false
 e : ∀ l, S l → ∀ w : World, (Op.equalIn 10000 t (.agg l.toArray) (.agg l.toArray)).run P w = .ok true w
theorem FG {w : World} {bad : Nat → Prop} {ι : Pl} : ∀ {vs l : List Value}, RdL w bad ι (vs.map .v) l → l = vs
 | [], l, h => by simp only [List.map_nil, RdL] at h; exact h
 | n :: ns, l, h => by
  simp only [List.map_cons, RdL] at h
  obtain ⟨x, l', rfl, h0, h1, h2⟩ := h
  simp only [Rd] at h1
  rw [h1, FG h2]
section
variable {P : Program} {N : Nat} {Q : Exit → AS → Prop} {all : Array Oper} {rest : List Oper} {ts : List (Nat × AV)} {hs : List (Nat × Option (List AV))} {n : Nat} {z0 : Lo} {md : Md}
variable {d : Nat} {ty : TypeId} {pos : String} {af : Array Edge}
theorem I6 {t t' : TypeId} {x y : Operand} {cs : List AV} {S : List Value → Prop} (vs : List Value) [he : EqS P t S] (hx : ev (lk ts) x = some (.agg cs)) (hy : ev (lk ts) y = some (.agg cs)) (hc : vs.map .v = cs) (hS : S vs)
  (hN : Nat.blt d N = true) {md' : Md} [hmd : MdA md (rO x ++ rO y) [.inl d] md'] (kk : RW P N all Q md' rest ⟨(d, .v (.bool false)) :: ts, hs, n, z0⟩) : RW P N all Q md (⟨some d, .binOp .neq t x y t', ty, pos, af, none⟩ :: rest) ⟨ts, hs, n, z0⟩ := by
 subst hc
 refine eY rfl rfl (eG hN) (fun C ι F T H a w ag g gh => ?_) (by rw [hmd.pf]; exact kk)
 have key : ∀ (z : Operand), ev T z = some (.agg (vs.map .v)) → a.eval z = .agg vs.toArray := by
  intro z hz
  have h1 := dE g hz
  simp only [Rd] at h1
  obtain ⟨l, h2, h3⟩ := h1
  rw [h2, FG h3]
 refine ⟨.bool false, ?_, by simp [Rd]⟩
 have hb : (binOp .neq t (.agg vs.toArray) (.agg vs.toArray)).run P w = .ok (.bool false) w := by
  rw [run_neq_struct, he.e _ hS]; rfl
 simp only [execOp, key x (ag.l.ev.trans hx), key y (ag.r.ev.trans hy), Sem.run_bind, run_eqGuard_agg w .neq t x y _ _ he.g, Result.andThen_ok, hb, Sem.run_pure]
end
end Go.AL
namespace Go.AL
open Go.RowKit
set_option linter.unusedVariables false
theorem D2 {P : Program} {N : Nat} {Q : Exit → AS → Prop} {all : Array Oper} {rest : List Oper} {ts : List (Nat × AV)} {hs : List (Nat × Option (List AV))} {n : Nat} {z0 : Lo} {d : Nat} {ty : TypeId} {pos : String} {af : Array Edge}
  {t t' el : TypeId} {x : Operand} {id off m e : Nat} [ht : SlT P t el] (hx : ev (lk ts) x = some (.own id off m e)) (hN : Nat.blt d N = true)
  (kk : ∀ b : Bool, (b = true → m = 0) → RW P N all Q .txt rest ⟨(d, .v (.bool b)) :: ts, hs, n, z0⟩) : RW P N all Q .txt (⟨some d, .binOp .eql t x (.const (.slice none 0 0)) t', ty, pos, af, none⟩ :: rest) ⟨ts, hs, n, z0⟩ := by
 rintro C a w hCN ⟨h0, ι, g, gh⟩
 refine wpList_plain rfl (fun K hK => ?_)
 have h1 := dE g hx
 simp only [Rd] at h1
 obtain ⟨a', m', c, h2, hb⟩ : ∃ a' m' c, a.eval x = .slice a' m' c ∧ (a'.isNone = true → m = 0) := by
  rcases h1 with ⟨_, rfl, a', h2⟩ | ⟨b, β, c, _, h2, _⟩
  ·exact ⟨a', 0, 0, h2, fun _ => rfl⟩
  ·exact ⟨_, m, c, h2, fun h => by cases h⟩
 have hu := kD ht.pf
 have hg : (eqGuard .eql t x (.const (.slice none 0 0)) (.slice a' m' c) (.slice none 0 0)).run P w = .ok () w := by simp [eqGuard]
 have hr : (execOp a.eval ⟨some d, .binOp .eql t x (.const (.slice none 0 0)) t', ty, pos, af, none⟩).run P w = .ok (.value (.bool a'.isNone)) w := by
  have e2 : a.eval (.const (.slice none 0 0)) = .slice none 0 0 := rfl
  simp only [execOp, h2, e2, Sem.run_bind, hg, Result.andThen_ok, vO w t el hu, Sem.run_pure]
 simp only [Oper.wp, hr, Oper.upon]
 refine hK _ _ (kk a'.isNone hb C _ _ hCN ⟨h0, ι, ?_, gh⟩)
 show TG C ι (lk ((d, AV.v (.bool a'.isNone)) :: ts)) _ _ _
 rw [iW]
 exact g.put (by have := eG hN; omega) (by simp [Rd])
end Go.AL
namespace Go.AL
set_option linter.unusedVariables false
section
variable {P : Program} {N : Nat} {Q : Exit → AS → Prop} {all : Array Oper} {rest : List Oper} {ts : List (Nat × AV)} {hs : List (Nat × Option (List AV))} {n : Nat} {z0 : Lo} {md : Md}
variable {d : Nat} {ty : TypeId} {pos : String} {af : Array Edge}
theorem pC {k : FuncId} {t : Nat} {args : Array Operand} {tys : Array TypeId} {avs avs0 f c : List AV} {fv : AV} {H0 : List (Nat × Option (List AV))} {rr rr' : AV} {hh : List (Nat × Option (List AV))}
  (mp : List Nat) (n1 : Nat) (ws : List (Nat × Option (List AV))) (h : MC P k avs0 H0 mp.length (fun _ : Unit => True) (fun _ => rr) (fun _ => hh)) (hx : lk ts t = some fv) (hcl : tQ fv = some (k, f, c)) [hc : CaT P k] (ha : evL (lk ts) args.toList = some avs) (hd : distinct mp = true)
  (hH0 : qC hs H0 mp 0 mp) (hk : lW mp.length H0 = true) (har : RnL (mp[·]?) avs0 (f ++ avs ++ c)) (hM : Nat.ble (n + (n1 - mp.length)) fD = true)
  (hr : RnV (v8 mp n n1) rr rr') (hwa : dQ mp ws = true) (hw : qB (v8 mp n n1) hh ws) (hN : Nat.blt d N = true)
  {md' : Md} [hmd : MdA md (rO (.tmp t) ++ gS args.toList ++ mp.map .inr) (ws.map (fun p => .inr p.1) ++ [.inl d]) md']
  (kk : RW P N all Q md' rest ⟨(d, rr') :: ts, iK hs ws, n + (n1 - mp.length), z0⟩) : RW P N all Q md (⟨some d, .call ⟨.value (.tmp t), args, tys⟩, ty, pos, af, none⟩ :: rest) ⟨ts, hs, n, z0⟩ := by
 have hM' := Nat.le_of_ble_eq_true hM
 have kk2 : RW P N all Q (md.add (rO (.tmp t) ++ gS args.toList ++ mp.map .inr) (ws.map (fun p => .inr p.1) ++ wD (some d))) rest (put ⟨ts, iK hs ws, n + (n1 - mp.length), z0⟩ (some d) rr') := by
  simp only [wD]; rw [hmd.pf]; exact kk
 refine j4 (rs := rO (.tmp t) ++ gS args.toList ++ mp.map .inr) (ws := ws) (n' := n + (n1 - mp.length)) (out := rr') rfl (Nat.le_add_right _ _) (.inr hM') (fun C ι F T H a w K Q' hCN ag hF g gh hK => ?_) (fun x e => by cases e; exact eG hN) kk2
 obtain ⟨lf, lc, hy, h1, h2⟩ := vW hcl (dE g (x := .tmp t) (ag.l.l.ev.trans hx))
 simp only [Oper.wp, tU hc.pf _ a w hy, Oper.upon]
 refine (rZ (nid := n) (n1 := n1) h hd gh (fun j i hj => ?_) (mT hk) har hF (fun _ _ => hr) (fun _ _ => xF hwa hw) (jO (jO h1 (jK g (ag.l.r.evL.trans ha))) h2)).mono ?_
 ·obtain ⟨cs, cs', q1, q2, q3⟩ := nV hH0 j i hj
  exact ⟨cs, cs', by simpa using q1, by rw [ag.r.h i (List.mem_map_of_mem (List.mem_of_getElem? hj))]; exact q2, q3⟩
 ·rintro e w' ⟨v, x, ι', rfl, hx, g', c', hrd⟩
  exact hK ι' w' v (g.carry c') g' hrd
end
end Go.AL
namespace Go.AL
structure Ren (ts ts' : List Int) (σ : Nat → Nat) : Prop where
 l : ts'.length = ts.length
 b : ∀ v, v < ts.length → σ v < ts.length
 i : ∀ v u, v < ts.length → u < ts.length → σ v = σ u → v = u
 t : ∀ v, v < ts.length → ts'[σ v]! = ts[v]!
 s : ∀ u, u < ts.length → ∃ v, v < ts.length ∧ σ v = u
structure XOk (n : Nat) (x : Pnt) : Prop where
 x0 : 0 ≤ x.x
 x1 : x.op ≤ 8 → x.x < n
 y0 : 0 ≤ x.y
 y1 : 3 ≤ x.op → x.op ≤ 7 → x.y < n
 o : 1 ≤ x.op
section
variable {ts ts' : List Int} {σ : Nat → Nat} {x : Pnt} {v : Nat}
theorem Ren.eq (r : Ren ts ts' σ) (hv : v < ts.length) {z : Int} (h0 : 0 ≤ z) (h1 : z < ts.length) : ((σ v : Nat) : Int) = (σ z.toNat : Nat) ↔ (v : Int) = z := by
 constructor
 ·intro h
  have := r.i v z.toNat hv (by omega) (by omega)
  omega
 ·intro h
  rw [← h, Int.toNat_natCast]
structure SimR (n : Nat) (σ : Nat → Nat) (s s' : Mc) : Prop where
 l : s.slots.length = n
 l' : s'.slots.length = n
 c : s'.cells = s.cells
 r : s'.read = s.read
 s : ∀ v, v < n → s'.slots[σ v]! = s.slots[v]!
theorem SimR.set {s s' : Mc} (r : Ren ts ts' σ) (h : SimR ts.length σ s s') (hv : v < ts.length) (z : Sl) (c : List Cl) (d : List Int) : SimR ts.length σ ⟨s.slots.set v z, c, d⟩ ⟨s'.slots.set (σ v) z, c, d⟩ := by
 refine ⟨by dsimp only; rw [List.length_set]; exact h.l, by dsimp only; rw [List.length_set]; exact h.l', rfl, rfl, fun u hu => ?_⟩
 dsimp only
 have b1 := r.b v hv
 have b2 := r.b u hu
 have l1 := h.l
 have l2 := h.l'
 have := h.s u hu
 rw [cL _ _ (by omega), cL _ _ (by omega)] at this
 rw [cL _ _ (by rw [List.length_set]; omega), cL _ _ (by rw [List.length_set]; omega), List.getElem_set, List.getElem_set]
 by_cases e : v = u
 ·rw [if_pos (by rw [e]), if_pos e]
 ·rw [if_neg (fun q => e (r.i v u hv hu q)), if_neg e]; exact this
end
end Go.AL
namespace Go.AL
section
variable {ts ts' : List Int} {pts : List Pnt} {σ : Nat → Nat}
theorem XOk.of (w : WG ts pts) {a : Nat} (ha : a < pts.length) : XOk ts.length pts[a]! :=
 ⟨(w.x a ha).1, (w.x a ha).2, (w.y a ha).1, (w.y a ha).2, (w.op a ha).1⟩
theorem SimR.start (r : Ren ts ts' σ) : SimR ts.length σ (mc0 ts.length) (mc0 ts'.length) := by
 refine ⟨by simp [mc0], by simp [mc0, r.l], rfl, rfl, fun v hv => ?_⟩
 have b := r.b v hv
 show (List.replicate ts'.length iT)[σ v]! = (List.replicate ts.length iT)[v]!
 rw [cL _ _ (by rw [List.length_replicate, r.l]; exact b), cL _ _ (by rw [List.length_replicate]; exact hv), List.getElem_replicate, List.getElem_replicate]
end
end Go.AL
namespace Go.AL
section
variable {ts ts' : List Int} {pts : List Pnt} {σ : Nat → Nat}
theorem LF {x : Pnt} (h : eD x = true) : x.op = 4 ∨ x.op = 5 := by
 unfold eD at h; simpa using h
end
end Go.AL
namespace Go.AL
section
variable {ts ts' : List Int} {pts : List Pnt} {σ : Nat → Nat}
theorem Kj (w : WG ts pts) (f : Flows ts pts) {a l : Nat} (ha : a < pts.length) (h : (EJ ts pts f.Am f.Al f.Af f.Ap a).testBit l = true) : Cf ts pts a l := by
 obtain ⟨hl, hln⟩ := HF w f ha h
 have ho := LF hln
 have hyl := (w.y l hl).2 (by omega) (by omega)
 have hy0 := (w.y l hl).1
 have htl := w.tl
 rw [AZ w f ha hl hln, Bool.and_eq_true, Bool.and_eq_true] at h
 obtain ⟨h1, h2, h3⟩ := h
 obtain ⟨c, hc, hn⟩ := List.any_eq_true.1 h1
 unfold uW at hn
 rw [Bool.and_eq_true, decide_eq_true_eq] at hn
 obtain ⟨hv, hw⟩ := hn
 have hp := (f.gp.2 a ha l).1 h3
 unfold yR at h2
 rw [iG] at h2
 rcases h2 with h2 | ⟨z, hz, h2⟩
 ·simp at h2
 obtain ⟨v, _, hb, rfl⟩ := dU.1 hz
 rw [eB, Nat.testBit_or, dX, Di] at hb
 simp only [Bool.and_eq_true, Bool.not_eq_true', Bool.or_eq_false_iff] at hb
 obtain ⟨b1, b2, b3⟩ := hb
 have hvl : v < ts.length := by obtain ⟨k, _, q⟩ := (f.gl.2 a ha v).1 b1; exact rS w q
 rw [Int.toNat_natCast, hG f.gf.1 ha (by omega)] at h2
 have hk : Kp ts pts a v := by
  refine ⟨(f.gl.2 a ha v).1 b1, by simpa using b3, ?_⟩
  rw [decide_eq_true hvl, Bool.true_and] at b2
  simpa using b2
 have hf := (f.gf.2 a v ha (by omega) l).1 h2
 refine ⟨v, pts[l]!.y.toNat, c.write, hk, ?_, hf, hp, by omega, by simpa using hw⟩
 unfold nL at hc
 have ec : ∀ (x : Int) (b : Bool), c = ⟨x, b⟩ → x = ((pts[l]!.y.toNat : Nat) : Int) ∧ c.write = b := fun x b e => by
  rw [e] at hv ⊢; dsimp only at hv ⊢; exact ⟨by omega, rfl⟩
 rcases List.mem_append.1 hc with hc | hc
 ·split at hc
  ·rename_i q; obtain ⟨e1, e2⟩ := ec _ _ (List.mem_singleton.1 hc); exact .inl ⟨q, e1, e2⟩
  ·split at hc
   ·rename_i q; obtain ⟨e1, e2⟩ := ec _ _ (List.mem_singleton.1 hc); exact .inr (.inl ⟨q, e1, e2⟩)
   ·split at hc
    ·rename_i q; obtain ⟨e1, e2⟩ := ec _ _ (List.mem_singleton.1 hc); exact .inr (.inr (.inl ⟨q, e1, e2⟩))
    ·split at hc
     ·rename_i q; obtain ⟨e1, e2⟩ := ec _ _ (List.mem_singleton.1 hc)
      refine .inr (.inr (.inr (.inl ⟨q.1, ?_, e1, e2⟩)))
      have := q.2; rw [e1, Int.toNat_natCast] at this; exact this
     ·cases hc
 ·split at hc
  ·rename_i q; obtain ⟨e1, e2⟩ := ec _ _ (List.mem_singleton.1 hc)
   obtain ⟨q1, q2, q3⟩ := q
   rw [e1, Int.toNat_natCast] at q2 q3
   exact .inr (.inr (.inr (.inr ⟨e1, q2, (f.gm.2 a ha _).1 q3, e2⟩)))
  ·cases hc
end
end Go.AL
namespace Go.AL
theorem nB : ∀ (L M : List Int), L.Nodup → (∀ x ∈ L, x ∈ M) → L.length ≤ M.length
 | [], M, _, _ => Nat.zero_le _
 | x :: L, M, h, hs => by
  have hx := hs x List.mem_cons_self
  obtain ⟨h1, h2⟩ := List.nodup_cons.1 h
  have := nB L (M.erase x) h2 fun y hy => (List.mem_erase_of_ne (fun e => h1 (by rw [← e]; exact hy))).2 (hs y (List.mem_cons_of_mem _ hy))
  rw [List.length_erase_of_mem hx] at this
  have := List.length_pos_of_mem hx
  rw [List.length_cons]; omega
def nmOk (n : Nat) (nm : List Int) : Prop := ∀ v, v < n → 0 ≤ nm[v]! ∧ nm[v]! < n ∧ ∀ u, u < v → nm[u]! ≠ nm[v]!
def nmAll (n : Nat) (nm : List Int) : Prop := ∀ i : Nat, i < n → (i : Int) ∈ nm
theorem nmOk.all {n : Nat} {nm : List Int} (hl : nm.length = n) (h : nmOk n nm) : nmAll n nm := by
 intro i hi
 by_cases q : (i : Int) ∈ nm
 ·exact q
 exfalso
 have hn : nm.Nodup := by
  rw [List.nodup_iff_pairwise_ne, List.pairwise_iff_getElem]
  intro u v hu hv huv
  have := (h v (by omega)).2.2 u huv
  rw [cL _ _ hu, cL _ _ hv] at this; exact this
 have := nB ((i : Int) :: nm) ((List.range n).map fun v : Nat => (v : Int)) (List.nodup_cons.2 ⟨q, hn⟩) fun z hz => by
  rw [List.mem_map]
  rcases List.mem_cons.1 hz with rfl | hz
  ·exact ⟨i, List.mem_range.2 hi, rfl⟩
  ·obtain ⟨v, hv, e⟩ := List.getElem_of_mem hz
   have := h v (by omega)
   rw [cL _ _ hv, e] at this
   exact ⟨z.toNat, List.mem_range.2 (by omega), by omega⟩
 simp at this; omega
theorem nmAll.ok {n : Nat} {nm : List Int} (hl : nm.length = n) (h : nmAll n nm) : nmOk n nm := by
 intro v hv
 have bad : ¬ ((¬ (0 ≤ nm[v]! ∧ nm[v]! < n)) ∨ ∃ u, u < v ∧ nm[u]! = nm[v]!) := by
  intro q
  have hr : ((List.range n).map fun v : Nat => (v : Int)).Nodup := by
   rw [List.nodup_iff_pairwise_ne, List.pairwise_map]
   exact List.Pairwise.imp (fun {a b} (z : a < b) => by omega) List.pairwise_lt_range
  have := nB _ (nm.eraseIdx v) hr fun z hz => by
   obtain ⟨i, hi, rfl⟩ := List.mem_map.1 hz
   have hi := List.mem_range.1 hi
   obtain ⟨w, hw, e⟩ := List.getElem_of_mem (h i hi)
   rw [List.mem_eraseIdx_iff_getElem]
   by_cases hwv : w = v
   ·subst hwv
    rw [cL _ _ hw, e] at q
    rcases q with q | ⟨u, hu, q⟩
    ·omega
    ·refine ⟨u, by omega, by omega, ?_⟩
     rw [cL _ _ (by omega)] at q; exact q
   ·exact ⟨w, hw, hwv, e⟩
  rw [List.length_map, List.length_range, List.length_eraseIdx_of_lt (by omega)] at this
  omega
 refine ⟨?_, ?_, fun u hu e => bad (.inr ⟨u, hu, e⟩)⟩
 ·exact Decidable.byContradiction fun z => bad (.inl fun y => z y.1)
 ·exact Decidable.byContradiction fun z => bad (.inl fun y => z y.2)
theorem Ren.of {ts ts' : List Int} {nm : List Int} (hl : nm.length = ts.length) (hl' : ts'.length = ts.length) (h : nmOk ts.length nm) (ht : ∀ v, v < ts.length → ts'[nm[v]!.toNat]! = ts[v]!) : Ren ts ts' (fun v => nm[v]!.toNat) := by
 refine ⟨hl', fun v hv => ?_, fun v u hv hu e => ?_, ht, fun u hu => ?_⟩
 ·have := h v hv; omega
 ·have h1 := h v hv
  have h2 := h u hu
  rcases Nat.lt_trichotomy v u with q | q | q
  ·exact absurd (by omega) (h2.2.2 v q)
  ·exact q
  ·exact absurd (by omega) (h1.2.2 u q)
 ·obtain ⟨v, hv, e⟩ := List.getElem_of_mem (h.all hl u hu)
  refine ⟨v, by omega, ?_⟩
  rw [cL _ _ hv, e, Int.toNat_natCast]
end Go.AL
namespace Go.AL
section
variable {ts : List Int} {pts : List Pnt}
structure NoI (ts : List Int) (pts : List Pnt) : Prop where
 u : ∀ a v, a < pts.length → v < ts.length → bO ts pts[a]! (v : Nat) ≠ 0 → ¬ Na ts pts (a, v)
 c : ∀ a L, a < pts.length → ¬ Cf ts pts a L
theorem NoI.iff (w : WG ts pts) (f : Flows ts pts) : f.iss = [] ↔ NoI ts pts := by
 have htl := w.tl
 constructor
 ·intro h
  refine ⟨fun a v ha hv hu hn => ?_, fun a L ha hc => ?_⟩
  ·have : (⟨(a : Int), 1, (v : Int)⟩ : Iss) ∈ f.iss := by
    refine B5 ha (List.mem_append_left _ (List.mem_map.2 ⟨(v : Int), dU.2 ⟨v, by omega, ?_, rfl⟩, rfl⟩))
    rw [eB, dX, decide_eq_true hv, Bool.true_and, Bool.and_eq_true]
    have hb := nX ts pts[a]! (v : Int)
    refine ⟨decide_eq_true ?_, ?_⟩
    ·simp only [List.mem_cons, List.not_mem_nil, or_false]; omega
    ·cases q : f.Aa[a]!.testBit v with
     | false => rfl
     | true => exact absurd hn ((f.ga.2 a ha v).1 q).2
   rw [h] at this; cases this
  ·have := Hg w f ha hc
   rw [h] at this; cases this
 ·intro h
  apply List.eq_nil_iff_forall_not_mem.2
  intro i hi
  obtain ⟨a, ha, h1⟩ := List.mem_flatMap.1 hi
  rw [List.mem_range] at ha
  rcases List.mem_append.1 h1 with h1 | h1
  ·obtain ⟨z, hz, _⟩ := List.mem_map.1 h1
   obtain ⟨v, _, hb, _⟩ := dU.1 hz
   rw [eB, dX, Bool.and_eq_true, Bool.and_eq_true] at hb
   obtain ⟨⟨b1, b2⟩, b3⟩ := hb
   have hv := of_decide_eq_true b1
   refine h.u a v ha hv ?_ ?_
   ·intro q; rw [q] at b2; simp at b2
   ·apply Classical.byContradiction; intro hn
    rw [(f.ga.2 a ha v).2 ⟨hv, hn⟩] at b3; cases b3
  ·obtain ⟨z, hz, _⟩ := List.mem_map.1 h1
   obtain ⟨v, _, hb, _⟩ := dU.1 hz
   exact h.c a v ha (Kj w f ha hb)
end
def Hj (x : Pnt) : Prop := x.op = 9 ∨ x.op = 10
def Alike (x z : Pnt) : Prop := (x.op = z.op ∧ x.x = z.x ∧ x.y = z.y ∧ x.n = z.n) ∨ (Hj x ∧ Hj z)
section
variable {ts : List Int} {x z : Pnt}
theorem Df (h : Hj x) (v : Int) : bO ts x v = 0 := by
 unfold Hj at h
 unfold bO; rw [if_neg (by omega), if_neg (by omega), if_neg (by omega), if_neg (by omega)]
theorem Cr (h : Hj x) : bD x = -1 := B3 (by unfold Hj at h; omega)
theorem Gr (h : Hj x) : eD x = false := by
 unfold Hj at h
 unfold eD; rw [decide_eq_false (by omega), decide_eq_false (by omega)]; rfl
theorem Alike.use (h : Alike x z) (v : Int) : bO ts x v = bO ts z v := by
 rcases h with ⟨h1, h2, h3, _⟩ | ⟨h1, h2⟩
 ·unfold bO; rw [h1, h2, h3]
 ·rw [Df h1, Df h2]
theorem Alike.set (h : Alike x z) : bD x = bD z := by
 rcases h with ⟨h1, h2, h3, _⟩ | ⟨h1, h2⟩
 ·unfold bD; rw [h1, h2]
 ·rw [Cr h1, Cr h2]
theorem Alike.ln (h : Alike x z) : eD x = eD z := by
 rcases h with ⟨h1, h2, h3, _⟩ | ⟨h1, h2⟩
 ·unfold eD; rw [h1]
 ·rw [Gr h1, Gr h2]
theorem Alike.eq (h : Alike x z) (hn : ¬ Hj x) : x.op = z.op ∧ x.x = z.x ∧ x.y = z.y ∧ x.n = z.n := by
 rcases h with h | h
 ·exact h
 ·exact absurd h.1 hn
end
end Go.AL
namespace Go.AL
section
variable {ts : List Int} {P Q : List Pnt} {κ : Nat → Nat} {J c : Nat}
theorem oM {s : Mc} {x z : Pnt} (h : Alike x z) : cO ts s x = cO ts s z ∧ cX ts s x = cX ts s z := by
 have hu : cX ts s x = cX ts s z := by
  unfold cX
  simp only [h.use]
 refine ⟨?_, hu⟩
 rcases h with ⟨h1, h2, h3, h4⟩ | ⟨h1, h2⟩
 ·unfold cO; rw [h1, h2, h3, h4]
 ·unfold Hj at h1 h2
  rw [uV (by omega) (by omega), uV (by omega) (by omega)]
def iJ (ts : List Int) (pts : List Pnt) (n a : Nat) (cs : List Int) (s : Mc) (last : Nat) : Mc × Int × Nat := gD ts pts (eH pts n a cs).1 s last
theorem Ls {a : Nat} {s : Mc} {l : Nat} : gD ts P [a] s l = if cX ts s P[a]! = true then (s, 2, a) else if (cO ts s P[a]!).2 = -1 then ((cO ts s P[a]!).1, 1, a) else ((cO ts s P[a]!).1, (cO ts s P[a]!).2, a) := by
 rw [gD]; rfl
theorem nR {n a : Nat} {cs : List Int} {s : Mc} {last : Nat} (h : P[a]!.op = 11) : iJ ts P n a cs s last = gD ts P [a] s last := by
 have e : (eH P n a cs).1 = [a] := by cases n <;> (rw [eH, if_pos h])
 unfold iJ; rw [e]
theorem pN {a : Nat} {cs : List Int} {s : Mc} {last : Nat} (h : P[a]!.op ≠ 11) : iJ ts P 0 a cs s last = (s, 1, last) := by
 have e : (eH P 0 a cs).1 = [] := by rw [eH, if_neg h]
 unfold iJ; rw [e]; rfl
theorem Gv {n a : Nat} {cs : List Int} {s : Mc} {last : Nat} (h : P[a]!.op ≠ 11) : iJ ts P (n + 1) a cs s last =
  if cX ts s P[a]! = true then (s, 2, a) else if (cO ts s P[a]!).2 = -1 then iJ ts P n (eS P a cs).1 (eS P a cs).2 (cO ts s P[a]!).1 a else ((cO ts s P[a]!).1, (cO ts s P[a]!).2, a) := by
 have e : (eH P (n + 1) a cs).1 = a :: (eH P n (eS P a cs).1 (eS P a cs).2).1 := by rw [eH, if_neg h]
 unfold iJ; rw [e, gD]
end
end Go.AL
namespace Go.AL
def LP (d : Nat) (x : Pnt) : Pnt := ⟨x.op, x.x, x.y, x.n, x.next.map (· + (d : Int))⟩
mutual
theorem Kh (d : Nat) : ∀ (s : Stmt) (b : Nat), yH (b + d) s = (yH b s).map (LP d)
 | .mk op x y n th el, b => by
  have h1 := Br d th (b + 1)
  have h2 := Br d el (b + 2 + eA th)
  simp only [yH]
  rw [show b + d + 1 = b + 1 + d by omega, show b + d + 2 + eA th = b + 2 + eA th + d by omega, h1, h2]
  split
  ·simp only [List.map_append, List.map_cons, List.map_nil, LP]
   congr 1
   ·congr 1
    ·congr 1
     congr 1
     simp only [List.cons.injEq, Pnt.mk.injEq, and_true, true_and]
     omega
    ·simp only [List.cons.injEq, Pnt.mk.injEq, and_true, true_and]
     omega
  ·split
   ·simp only [List.map_append, List.map_cons, List.map_nil, LP]
    congr 1
    ·congr 1
     simp only [List.cons.injEq, Pnt.mk.injEq, and_true, true_and]
     omega
   ·simp only [List.map_cons, List.map_nil, LP, List.cons.injEq, Pnt.mk.injEq, and_true, true_and]
    omega
theorem Br (d : Nat) : ∀ (l : List Stmt) (b : Nat), gA (b + d) l = (gA b l).map (LP d)
 | [], b => rfl
 | s :: l, b => by
  simp only [gA, List.map_append]
  rw [Kh d s b, show b + d + pS s = b + pS s + d by omega, Br d l (b + pS s)]
end
mutual
theorem Jt : ∀ (s : Stmt) (b : Nat), ∀ x ∈ yH b s, ∀ k ∈ x.next, (b : Int) ≤ k ∧ k ≤ (b : Int) + pS s
 | .mk op x y n th el, b => by
  have h1 := sV th (b + 1)
  have h2 := sV el (b + 2 + eA th)
  simp only [yH, pS]
  by_cases h9 : op = 9
  ·rw [if_pos h9, if_pos h9]
   intro z hz k hk
   simp only [List.mem_append, List.mem_singleton] at hz
   rcases hz with ((rfl | hz) | rfl) | hz
   ·simp only [List.mem_cons, List.not_mem_nil, or_false] at hk
    omega
   ·have := h1 z hz k hk; omega
   ·simp only [List.mem_cons, List.not_mem_nil, or_false] at hk
    omega
   ·have := h2 z hz k hk; omega
  ·rw [if_neg h9, if_neg h9]
   by_cases h10 : op = 10
   ·rw [if_pos h10, if_pos h10]
    intro z hz k hk
    simp only [List.mem_append, List.mem_singleton] at hz
    rcases hz with (rfl | hz) | rfl
    ·simp only [List.mem_cons, List.not_mem_nil, or_false] at hk
     omega
    ·have := h1 z hz k hk; omega
    ·simp only [List.mem_cons, List.not_mem_nil, or_false] at hk
     omega
   ·rw [if_neg h10, if_neg h10]
    intro z hz k hk
    rw [List.mem_singleton] at hz
    rw [hz] at hk
    simp only [List.mem_cons, List.not_mem_nil, or_false] at hk
    omega
theorem sV : ∀ (l : List Stmt) (b : Nat), ∀ x ∈ gA b l, ∀ k ∈ x.next, (b : Int) ≤ k ∧ k ≤ (b : Int) + eA l
 | [], b => by simp [gA]
 | s :: l, b => by
  have h1 := Jt s b
  have h2 := sV l (b + pS s)
  simp only [gA, eA]
  intro z hz k hk
  rcases List.mem_append.1 hz with hz | hz
  ·have := h1 z hz k hk; omega
  ·have := h2 z hz k hk; omega
end
end Go.AL
namespace Go.AL
theorem xU {α : Type} [Inhabited α] {A B : List α} {n i : Nat} (h : A.length = n) : (A ++ B)[i]! = if i < n then A[i]! else B[i - n]! := by
 rw [HO, h]
theorem F8 {α : Type} [Inhabited α] {x : α} {R : List α} {i : Nat} : (x :: R)[i]! = if i < 1 then x else R[i - 1]! := by
 rw [show x :: R = [x] ++ R from rfl, xU (n := 1) rfl]
 by_cases h : i < 1
 ·rw [if_pos h, if_pos h]
  obtain rfl : i = 0 := by omega
  rfl
 ·rw [if_neg h, if_neg h]
end Go.AL
namespace Go.AL
section
variable {ts : List Int} {P Q : List Pnt} {s t : Mc}
def vl (m : List Cl) (j : Nat) : Int := m[j]!.val
theorem Fx {m : List Cl} {k j : Nat} {c : Cl} : vl (m.set k c) j = if k = j ∧ k < m.length then c.val else vl m j := by
 unfold vl; rw [c8]
 by_cases q : k = j ∧ k < m.length
 ·rw [if_pos q, if_pos ⟨q.1, by omega⟩]
 ·rw [if_neg q, if_neg (fun z => q ⟨z.1, by omega⟩)]
theorem yN {m : List Cl} {k : Nat} {c : Cl} (h : c.val = m[k]!.val) (j : Nat) : vl (m.set k c) j = vl m j := by
 rw [Fx]; split
 ·rename_i q; rw [h, q.1]; rfl
 ·rfl
theorem KI (m : List Cl) (x : Pt) (wr : Bool) (j : Nat) : vl (fL m x wr) j = vl m j := by
 unfold fL; split
 ·exact yN (by rfl) j
 ·rfl
theorem F3 (m : List Cl) (x : Pt) (j : Nat) : vl (jB m x) j = vl m j := by
 unfold jB; split
 ·exact yN (by rfl) j
 ·rfl
theorem Lw (m : List Cl) (x : Pt) (b : Bool) (j : Nat) : vl (m8 m x b) j = vl m j := by
 unfold m8; split
 ·exact yN (by rfl) j
 ·rfl
theorem B0 {m : List Cl} {x : Pt} {v : Int} (h : qP m x v = 0) : cR m x true = 0 := by
 unfold qP at h; split at h
 ·exact h
 ·cases h
theorem LH {m : List Cl} {x : Pt} {v : Int} (h : qP m x v = 0) (j : Nat) : vl (oZ m x v) j = if x.cell.toNat = j then v else vl m j := by
 have hk := (dN (B0 h)).2.2
 unfold oZ
 rw [if_pos h, Fx]
 by_cases q : x.cell.toNat = j
 ·rw [if_pos ⟨q, hk⟩, if_pos q]
 ·rw [if_neg (fun z => q z.1), if_neg q]
theorem Kf {m : List Cl} {n : Int} {j : Nat} (h : j ≤ m.length) : vl (m ++ [oY n]) j = if j = m.length then n else vl m j := by
 unfold vl
 by_cases q : j = m.length
 ·rw [if_pos q, q, Cb]; rfl
 ·rw [if_neg q, mB (by omega)]
theorem nM {x : Pnt} (A : PtA ts x) (hop : 1 ≤ x.op) (hx : x.op = 3 → x.x.toNat ≠ x.y.toNat) (h11 : x.op ≠ 11) (hgo : (cO ts s x).2 = -1) :
  (cO ts s x).1.cells.length = s.cells.length + (if x.op = 2 then 1 else 0) ∧
  ∀ j, j < (cO ts s x).1.cells.length → vl (cO ts s x).1.cells j = if x.op = 2 ∧ j = s.cells.length then x.n else if x.op = 7 ∧ s.slots[x.x.toNat]!.ptr.cell.toNat = j then s.slots[x.y.toNat]!.num else vl s.cells j := by
 have same : ∀ m : List Cl, x.op ≠ 2 → x.op ≠ 7 → (cO ts s x).1.cells = m → m.length = s.cells.length → (∀ j, vl m j = vl s.cells j) → (cO ts s x).1.cells.length = s.cells.length + (if x.op = 2 then 1 else 0) ∧
  ∀ j, j < (cO ts s x).1.cells.length → vl (cO ts s x).1.cells j = if x.op = 2 ∧ j = s.cells.length then x.n else if x.op = 7 ∧ s.slots[x.x.toNat]!.ptr.cell.toNat = j then s.slots[x.y.toNat]!.num else vl s.cells j := by
  intro m h2 h7 e el ev
  rw [e]
  refine ⟨by rw [if_neg h2, el]; rfl, fun j _ => ?_⟩
  rw [if_neg (fun q => h2 q.1), if_neg (fun q => h7 q.1), ev]
 by_cases h1 : x.op = 1
 ·exact same _ (by omega) (by omega) (E2 A h1) rfl (fun _ => rfl)
 by_cases h2 : x.op = 2
 ·rw [EX h2 hgo]
  have key : ∀ m : List Cl, m.length = s.cells.length + 1 → (∀ j, vl m j = vl (s.cells ++ [oY x.n]) j) → m.length = s.cells.length + (if x.op = 2 then 1 else 0) ∧
   ∀ j, j < m.length → vl m j = if x.op = 2 ∧ j = s.cells.length then x.n else if x.op = 7 ∧ s.slots[x.x.toNat]!.ptr.cell.toNat = j then s.slots[x.y.toNat]!.num else vl s.cells j := by
   intro m e1 e2
   refine ⟨by rw [if_pos h2, e1], fun j hj => ?_⟩
   rw [e2, Kf (by omega)]
   by_cases q : j = s.cells.length
   ·rw [if_pos q, if_pos ⟨h2, q⟩]
   ·rw [if_neg q, if_neg (fun z => q z.2), if_neg (fun z => by omega)]
  by_cases q : ts[x.x.toNat]! = 2 ∧ s.slots[x.x.toNat]!.set = true
  ·rw [if_pos q]; exact key (jB (s.cells ++ [oY x.n]) s.slots[x.x.toNat]!.ptr) (by rw [j1, List.length_append, List.length_singleton]) (fun j => F3 _ _ j)
  ·rw [if_neg q]; exact key (s.cells ++ [oY x.n]) (by rw [List.length_append, List.length_singleton]) (fun j => rfl)
 by_cases h3 : x.op = 3
 ·refine same _ (by omega) (by omega) (EY h3 (hx h3)) ?_ ?_
  ·split
   ·exact j1 _ _
   ·rfl
  ·intro j; split
   ·exact F3 _ _ j
   ·rfl
 by_cases h4 : x.op = 4 ∨ x.op = 5
 ·exact same _ (by omega) (by omega) (pX A h4 hgo).2 (qS _ _ _) (Lw _ _ _)
 by_cases h6 : x.op = 6
 ·exact same _ (by omega) (by omega) (iQ A h6 hgo).2 (l0 _ _ _) (KI _ _ _)
 by_cases h7 : x.op = 7
 ·obtain ⟨e1, e2⟩ := m5 h7 hgo
  rw [e2]
  refine ⟨by rw [yC, if_neg h2]; rfl, fun j _ => ?_⟩
  rw [if_neg (fun q => h2 q.1), LH e1]
  by_cases q : s.slots[x.x.toNat]!.ptr.cell.toNat = j
  ·rw [if_pos q, if_pos ⟨h7, q⟩]
  ·rw [if_neg q, if_neg (fun z => q z.2)]
 by_cases h8 : x.op = 8
 ·exact same _ (by omega) (by omega) (FV h8 hgo).2 (j1 _ _) (F3 _ _)
 ·exact same s.cells (by omega) (by omega) (by rw [uV (by omega) h11]) rfl (fun _ => rfl)
theorem Jc {x : Pnt} (h11 : x.op ≠ 11) (hgo : (cO ts s x).2 = -1) : (cO ts s x).1.read = if x.op = 6 then s.read ++ [uK s.cells s.slots[x.y.toNat]!.ptr] else s.read := by
 unfold cO at hgo ⊢
 by_cases h1 : x.op = 1
 ·rw [if_pos h1, fT, if_neg (by omega)]
 rw [if_neg h1] at hgo ⊢
 by_cases h2 : x.op = 2
 ·rw [if_pos h2] at hgo ⊢
  rw [if_neg (show ¬ x.op = 6 by omega)]
  split at hgo
  ·cases hgo
  ·rename_i q; rw [if_neg q, fT]
 rw [if_neg h2] at hgo ⊢
 by_cases h3 : x.op = 3
 ·rw [if_pos h3, fT, if_neg (show ¬ x.op = 6 by omega)]
  split <;> rfl
 rw [if_neg h3] at hgo ⊢
 by_cases h4 : x.op = 4 ∨ x.op = 5
 ·rw [if_pos h4] at hgo ⊢
  rw [if_neg (show ¬ x.op = 6 by omega)]
  split at hgo
  ·rename_i q; rw [if_pos q, fT]
  ·exact (mY hgo).elim
 rw [if_neg h4] at hgo ⊢
 by_cases h6 : x.op = 6
 ·rw [if_pos h6] at hgo ⊢
  rw [if_pos h6]
  split at hgo
  ·rename_i q; rw [if_pos q, fT]
  ·exact (mY hgo).elim
 rw [if_neg h6, if_neg h6]
 by_cases h7 : x.op = 7
 ·rw [if_pos h7]
 rw [if_neg h7]
 by_cases h8 : x.op = 8
 ·rw [if_pos h8]
 rw [if_neg h8, if_neg h11]
structure VE (ts : List Int) (π : Nat → Nat) (F : Nat → Prop) (r : Prop) (s t : Mc) : Prop where
 l : s.slots.length = ts.length ∧ t.slots.length = ts.length
 n : t.cells.length = s.cells.length
 c : ∀ j, j < s.cells.length → vl t.cells (π j) = vl s.cells j
 i : ∀ i j, π i = π j → i = j
 p : ∀ j, s.cells.length ≤ j → π j = j
 v : ∀ v, v < ts.length → F v → t.slots[v]!.set = s.slots[v]!.set ∧ t.slots[v]!.num = s.slots[v]!.num ∧ (2 ≤ ts[v]! → s.slots[v]!.set = true → t.slots[v]!.ptr.cell.toNat = π s.slots[v]!.ptr.cell.toNat)
 z : ∀ v, v < ts.length → ts[v]! = 1 → s.slots[v]!.ptr = ⟨0, 0⟩ ∧ t.slots[v]!.ptr = ⟨0, 0⟩
 r : r → t.read = s.read
theorem VE.mono {π : Nat → Nat} {F F' : Nat → Prop} {r : Prop} (h : VE ts π F r s t) (hF : ∀ v, F' v → F v) : VE ts π F' r s t := ⟨h.l, h.n, h.c, h.i, h.p, fun v hv q => h.v v hv (hF v q), h.z, h.r⟩
def Iz (ts : List Int) (s : Mc) : Prop := ∀ v, v < ts.length → ts[v]! = 1 → s.slots[v]!.ptr = ⟨0, 0⟩
theorem Iz.start : Iz ts (mc0 ts.length) := fun v hv _ => by
 show ((List.replicate ts.length iT)[v]!).ptr = _
 rw [cL _ _ (by simpa using hv)]; simp [iT]
theorem VE.refl (h : Iz ts s) (hl : s.slots.length = ts.length) (F : Nat → Prop) (r : Prop) : VE ts (fun j => j) F r s s :=
 ⟨⟨hl, hl⟩, rfl, fun _ _ => rfl, fun _ _ e => e, fun _ _ => rfl, fun _ _ _ => ⟨rfl, rfl, fun _ _ => rfl⟩, fun v hv h1 => ⟨h v hv h1, h v hv h1⟩, fun _ => rfl⟩
theorem KU (h : Iz ts s) {x : Pnt} (A : PtA ts x) {v : Nat} (hop : 1 ≤ x.op ∧ x.op ≤ 6) (hxv : x.x = (v : Int)) (hy : 3 ≤ x.op → 0 ≤ x.y ∧ x.y < ts.length) (h1 : ts[v]! = 1) : (yF s x).ptr = ⟨0, 0⟩ := by
 have hv : x.x.toNat = v := by omega
 have t2 := A.t2
 have t3 := A.t3
 have t4 := A.t4
 have t5 := A.t5
 rw [hv, h1] at t2 t3 t4 t5
 unfold yF
 by_cases c1 : x.op = 1
 ·rw [if_pos c1]
 rw [if_neg c1]
 by_cases c2 : x.op = 2
 ·have := t2 (.inl c2); omega
 rw [if_neg c2]
 by_cases c3 : x.op = 3
 ·rw [if_pos c3]
  have := hy (by omega)
  exact h _ (by omega) (t3 c3).1.symm
 rw [if_neg c3]
 by_cases c4 : x.op = 4 ∨ x.op = 5
 ·exfalso
  rcases c4 with c4 | c4
  ·have := (t4 c4).1; omega
  ·have := (t5 c4).1; omega
 rw [if_neg c4]
theorem Iz.step (w : WG ts P) (A : WA ts P) {a : Nat} (ha : a < P.length) (hl : s.slots.length = ts.length) (h : Iz ts s) (hu : cX ts s P[a]! = false) (h11 : P[a]!.op ≠ 11) (hgo : (cO ts s P[a]!).2 = -1) : Iz ts (cO ts s P[a]!).1 := by
 intro v hv h1
 rw [w.doY A ha hl hu h11 hgo v hv]
 by_cases q : bD P[a]! = (v : Int)
 ·rw [if_pos q]
  have hop : 1 ≤ P[a]!.op ∧ P[a]!.op ≤ 6 := by
   apply Classical.byContradiction; intro hh
   unfold bD at q; rw [if_neg hh] at q; omega
  rw [k6 hop] at q
  exact KU h (A.a a ha) hop q (fun h3 => ⟨(w.y a ha).1, (w.y a ha).2 h3 (by omega)⟩) h1
 ·rw [if_neg q]
  split
  ·rfl
  ·exact h v hv h1
end
end Go.AL
namespace Go.AL
section
variable {ts : List Int} {P Q : List Pnt} {s t : Mc}
theorem wN {m : List Cl} {x : Pt} (h : cR m x false = 0) : uK m x = vl m x.cell.toNat := by unfold uK; rw [if_pos h]; rfl
theorem VE.lt {π : Nat → Nat} {F : Nat → Prop} {r : Prop} (h : VE ts π F r s t) {j : Nat} (hj : j < s.cells.length) : π j < s.cells.length := by
 apply Classical.byContradiction; intro q
 have := h.i _ _ (h.p (π j) (by omega))
 omega
theorem VE.yF {π : Nat → Nat} {F : Nat → Prop} {r : Prop} (h : VE ts π F r s t) (w : WG ts P) (A : WA ts P) {a : Nat} (ha : a < P.length) (hu : cX ts s P[a]! = false) (hgo : (cO ts s P[a]!).2 = -1) (hgo' : (cO ts t P[a]!).2 = -1)
  (hF : ∀ v, v < ts.length → bO ts P[a]! v ≠ 0 → F v) {v : Nat} (q : bD P[a]! = (v : Int)) :
  (yF t P[a]!).set = (yF s P[a]!).set ∧ (yF t P[a]!).num = (yF s P[a]!).num ∧ (2 ≤ ts[v]! → (yF s P[a]!).set = true → (yF t P[a]!).ptr.cell.toNat = π (yF s P[a]!).ptr.cell.toNat) := by
 have hop : 1 ≤ P[a]!.op ∧ P[a]!.op ≤ 6 := by
  apply Classical.byContradiction; intro hh
  unfold bD at q; rw [if_neg hh] at q; omega
 rw [k6 hop] at q
 have PA := A.a a ha
 have hy := w.y a ha
 have hv' : P[a]!.x.toNat = v := by omega
 have t1 := PA.t1
 have t3 := PA.t3
 have t4 := PA.t4
 have t5 := PA.t5
 have t6 := PA.t6
 rw [hv'] at t1 t3 t4 t5 t6
 unfold Go.AL.yF
 by_cases c1 : P[a]!.op = 1
 ·rw [if_pos c1, if_pos c1]
  exact ⟨rfl, rfl, fun h2 => by have := t1 c1; omega⟩
 rw [if_neg c1, if_neg c1]
 by_cases c2 : P[a]!.op = 2
 ·rw [if_pos c2, if_pos c2]
  refine ⟨rfl, rfl, fun _ _ => ?_⟩
  dsimp only
  rw [h.n, Int.toNat_natCast, h.p _ (Nat.le_refl _)]
 rw [if_neg c2, if_neg c2]
 have hyb : 0 ≤ P[a]!.y ∧ P[a]!.y < ts.length := ⟨hy.1, hy.2 (by omega) (by omega)⟩
 have hyn : ((P[a]!.y.toNat : Nat) : Int) = P[a]!.y := by omega
 have hyl : P[a]!.y.toNat < ts.length := by omega
 by_cases c3 : P[a]!.op = 3
 ·rw [if_pos c3, if_pos c3]
  have hf := hF _ hyl (Ao c3 hyn)
  have hh := h.v _ hyl hf
  refine ⟨hh.1, hh.2.1, fun h2 hs => hh.2.2 ?_ hs⟩
  rw [← (t3 c3).1]; exact h2
 rw [if_neg c3, if_neg c3]
 have hus : bO ts P[a]! (P[a]!.y.toNat : Nat) ≠ 0 := jE (by omega) hyn
 have hf := hF _ hyl hus
 have hset := eL hu hyl hus
 have hh := h.v _ hyl hf
 by_cases c4 : P[a]!.op = 4 ∨ P[a]!.op = 5
 ·rw [if_pos c4, if_pos c4]
  refine ⟨rfl, rfl, fun _ _ => ?_⟩
  dsimp only
  unfold zW
  rw [if_pos (pX PA c4 hgo).1, if_pos (pX PA c4 hgo').1]
  refine hh.2.2 ?_ hset
  rcases c4 with c4 | c4
  ·exact (t4 c4).2.2
  ·have := (t5 c4).2.2; omega
 rw [if_neg c4, if_neg c4]
 have c6 : P[a]!.op = 6 := by omega
 have k1 := (iQ PA c6 hgo).1
 have k2 := (iQ PA c6 hgo').1
 refine ⟨rfl, ?_, fun h2 => by have := (t6 c6).1; omega⟩
 dsimp only
 rw [wN k1, wN k2, hh.2.2 (t6 c6).2 hset, h.c _ (dN k1).2.2]
theorem VE.step {π : Nat → Nat} {F : Nat → Prop} {r : Prop} (h : VE ts π F r s t) (w : WG ts P) (A : WA ts P) {a : Nat} (ha : a < P.length) (hu : cX ts s P[a]! = false) (hu' : cX ts t P[a]! = false) (h11 : P[a]!.op ≠ 11)
  (hgo : (cO ts s P[a]!).2 = -1) (hgo' : (cO ts t P[a]!).2 = -1) (hF : ∀ v, v < ts.length → bO ts P[a]! v ≠ 0 → F v) :
  VE ts π (fun v => F v ∨ bD P[a]! = (v : Int)) r (cO ts s P[a]!).1 (cO ts t P[a]!).1 := by
 have PA := A.a a ha
 have hx := w.x a ha
 have hy := w.y a ha
 have hop := w.op a ha
 have ne3 : P[a]!.op = 3 → P[a]!.x.toNat ≠ P[a]!.y.toNat := fun c q => by
  have := (PA.t3 c).2; omega
 obtain ⟨e1, e2⟩ := nM (s := s) PA hop.1 ne3 h11 hgo
 obtain ⟨e1', e2'⟩ := nM (s := t) PA hop.1 ne3 h11 hgo'
 have hn := h.n
 refine ⟨⟨by rw [iM]; exact h.l.1, by rw [iM]; exact h.l.2⟩, by rw [e1, e1', hn], fun j hj => ?_, h.i, fun j hj => h.p j (by omega), fun v hv hf => ?_, fun v hv h1 => ?_, fun hr => ?_⟩
 ·rw [e2 j hj]
  rw [e1] at hj
  by_cases q : P[a]!.op = 2 ∧ j = s.cells.length
  ·have hp := h.p j (by omega)
   rw [if_pos q, hp, e2' j (by rw [e1', if_pos q.1]; omega), if_pos ⟨q.1, by omega⟩]
  ·have hjl : j < s.cells.length := by
    by_cases q2 : P[a]!.op = 2
    ·rw [if_pos q2] at hj
     have : j ≠ s.cells.length := fun z => q ⟨q2, z⟩
     omega
    ·rw [if_neg q2] at hj; omega
   have hpj := h.lt hjl
   rw [if_neg q, e2' (π j) (by rw [e1']; omega), if_neg (fun z => by omega)]
   by_cases c7 : P[a]!.op = 7
   ·have hxl : P[a]!.x.toNat < ts.length := by have := hx.2 (by omega); omega
    have hyl : P[a]!.y.toNat < ts.length := by have := hy.2 (by omega) (by omega); omega
    have ux : bO ts P[a]! (P[a]!.x.toNat : Nat) ≠ 0 := AB c7 (by omega)
    have uy : bO ts P[a]! (P[a]!.y.toNat : Nat) ≠ 0 := by
     unfold bO; rw [if_neg (by omega), if_neg (by omega), if_pos c7]
     split
     ·decide
     ·rw [if_pos (by omega)]; decide
    have vx := (h.v _ hxl (hF _ hxl ux)).2.2 (by rcases (PA.t7 c7).1 with z | z <;> omega) (eL hu hxl ux)
    have vy := (h.v _ hyl (hF _ hyl uy)).2.1
    by_cases z : s.slots[P[a]!.x.toNat]!.ptr.cell.toNat = j
    ·rw [if_pos ⟨c7, by rw [vx, z]⟩, if_pos ⟨c7, z⟩, vy]
    ·rw [if_neg (fun y => z (h.i _ _ (by rw [← vx]; exact y.2))), if_neg (fun y => z y.2), h.c j hjl]
   ·rw [if_neg (fun z => c7 z.1), if_neg (fun z => c7 z.1), h.c j hjl]
 ·rw [w.doY A ha h.l.1 hu h11 hgo v hv, w.doY A ha h.l.2 hu' h11 hgo' v hv]
  by_cases q : bD P[a]! = (v : Int)
  ·rw [if_pos q, if_pos q]
   exact h.yF w A ha hu hgo hgo' hF q
  ·rw [if_neg q, if_neg q]
   by_cases q2 : bO ts P[a]! v = 2
   ·rw [if_pos q2, if_pos q2]
    exact ⟨rfl, rfl, fun _ z => by cases z⟩
   ·rw [if_neg q2, if_neg q2]
    exact h.v v hv (hf.resolve_right q)
 ·exact ⟨Iz.step w A ha h.l.1 (fun v hv h1 => (h.z v hv h1).1) hu h11 hgo v hv h1, Iz.step w A ha h.l.2 (fun v hv h1 => (h.z v hv h1).2) hu' h11 hgo' v hv h1⟩
 ·rw [Jc h11 hgo, Jc h11 hgo']
  by_cases c6 : P[a]!.op = 6
  ·rw [if_pos c6, if_pos c6, h.r hr]
   have hyl : P[a]!.y.toNat < ts.length := by have := hy.2 (by omega) (by omega); omega
   have uy : bO ts P[a]! (P[a]!.y.toNat : Nat) ≠ 0 := jE (by omega) (by omega)
   have k1 := (iQ PA c6 hgo).1
   have k2 := (iQ PA c6 hgo').1
   rw [wN k1, wN k2, (h.v _ hyl (hF _ hyl uy)).2.2 (PA.t6 c6).2 (eL hu hyl uy), h.c _ (dN k1).2.2]
  ·rw [if_neg c6, if_neg c6]; exact h.r hr
theorem j8 {n i : Nat} {cs : List Int} {l : Nat} (h11 : P[i]!.op = 11) (h : (iJ ts P n i cs s l).2.1 = 0) : (iJ ts P n i cs s l).1 = (dT ts ts.length 0 s).1 ∧ (dT ts ts.length 0 s).2 = 0 := by
 rw [nR h11, Ls] at h ⊢
 by_cases q : cX ts s P[i]! = true
 ·rw [if_pos q] at h; cases h
 ·rw [if_neg q] at h ⊢
  by_cases q2 : (cO ts s P[i]!).2 = -1
  ·rw [if_pos q2] at h; cases h
  ·rw [if_neg q2] at h ⊢
   rw [qG h11] at h ⊢
   exact ⟨rfl, h⟩
theorem w9 {n i : Nat} {cs : List Int} {l : Nat} (h11 : P[i]!.op ≠ 11) (h : (iJ ts P n i cs s l).2.1 = 0) : ∃ n', n = n' + 1 ∧ cX ts s P[i]! = false ∧ (cO ts s P[i]!).2 = -1 ∧ iJ ts P n i cs s l = iJ ts P n' (eS P i cs).1 (eS P i cs).2 (cO ts s P[i]!).1 i := by
 cases n with
 | zero => rw [pN h11] at h; cases h
 | succ n =>
  rw [Gv h11] at h ⊢
  by_cases q : cX ts s P[i]! = true
  ·rw [if_pos q] at h; cases h
  ·rw [if_neg q] at h ⊢
   by_cases q2 : (cO ts s P[i]!).2 = -1
   ·rw [if_pos q2]; exact ⟨n, rfl, by simpa using q, q2, rfl⟩
   ·rw [if_neg q2] at h
    dsimp only at h
    rcases xD (ts := ts) (s := s) h11 with e | e | e | e
    ·exact absurd e q2
    all_goals (rw [e] at h; cases h)
theorem CJ {i k : Nat} {cs : List Int} (h : P[i]!.next = [(k : Int)]) : eS P i cs = (k, cs) := by unfold eS; rw [h]; rfl
structure Bis (ts : List Int) (P Q : List Pnt) (R : Nat → Nat → Nat → Mc → Mc → Prop) : Prop where
 h : ∀ n i j s t, R n i j s t → (P[i]!.op = 11 ∧ Q[j]!.op = 11) ∨
  (P[i]!.op ≠ 11 ∧ ∃ k : Nat, P[i]!.next = [(k : Int)] ∧ ∀ n', n = n' + 1 → cX ts s P[i]! = false → (cO ts s P[i]!).2 = -1 → R n' k j (cO ts s P[i]!).1 t) ∨
  (Q[j]!.op ≠ 11 ∧ ∃ k : Nat, Q[j]!.next = [(k : Int)] ∧ (cX ts t Q[j]! = false → (cO ts t Q[j]!).2 = -1 → R n i k s (cO ts t Q[j]!).1)) ∨
  (P[i]!.op ≠ 11 ∧ Q[j]!.op ≠ 11 ∧ ∀ n' cs, n = n' + 1 → cX ts s P[i]! = false → (cO ts s P[i]!).2 = -1 → cX ts t Q[j]! = false → (cO ts t Q[j]!).2 = -1 →
   (eS P i cs).2 = (eS Q j cs).2 ∧ R n' (eS P i cs).1 (eS Q j cs).1 (cO ts s P[i]!).1 (cO ts t Q[j]!).1)
theorem Bis.run {R : Nat → Nat → Nat → Mc → Mc → Prop} (H : Bis ts P Q R) : ∀ N n m, n + m ≤ N → ∀ i j cs s t l l', R n i j s t → (iJ ts P n i cs s l).2.1 = 0 → (iJ ts Q m j cs t l').2.1 = 0 →
  ∃ n' i' j' s' t', R n' i' j' s' t' ∧ P[i']!.op = 11 ∧ (iJ ts P n i cs s l).1 = (dT ts ts.length 0 s').1 ∧ (dT ts ts.length 0 s').2 = 0 ∧ (iJ ts Q m j cs t l').1 = (dT ts ts.length 0 t').1 ∧ (dT ts ts.length 0 t').2 = 0 := by
 intro N
 induction N with
 | zero =>
  intro n m hN i j cs s t l l' hR h1 h2
  have hn : n = 0 := by omega
  have hm : m = 0 := by omega
  subst hn hm
  rcases H.h _ _ _ _ _ hR with ⟨a, b⟩ | ⟨a, _⟩ | ⟨a, _⟩ | ⟨a, _⟩
  ·exact ⟨_, _, _, _, _, hR, a, (j8 a h1).1, (j8 a h1).2, (j8 b h2).1, (j8 b h2).2⟩
  ·rw [pN a] at h1; cases h1
  ·rw [pN a] at h2; cases h2
  ·rw [pN a] at h1; cases h1
 | succ N IH =>
  intro n m hN i j cs s t l l' hR h1 h2
  rcases H.h _ _ _ _ _ hR with ⟨a, b⟩ | ⟨a, k, b, c⟩ | ⟨a, k, b, c⟩ | ⟨a, b, c⟩
  ·exact ⟨_, _, _, _, _, hR, a, (j8 a h1).1, (j8 a h1).2, (j8 b h2).1, (j8 b h2).2⟩
  ·obtain ⟨n', rfl, p1, p2, p3⟩ := w9 a h1
   rw [CJ b] at p3
   rw [p3] at h1 ⊢
   exact IH n' m (by omega) k j cs _ t _ l' (c n' rfl p1 p2) h1 h2
  ·obtain ⟨m', rfl, p1, p2, p3⟩ := w9 a h2
   rw [CJ b] at p3
   rw [p3] at h2 ⊢
   exact IH n m' (by omega) i k cs s _ l _ (c p1 p2) h1 h2
  ·obtain ⟨n', rfl, p1, p2, p3⟩ := w9 a h1
   obtain ⟨m', rfl, q1, q2, q3⟩ := w9 b h2
   obtain ⟨c1, c2⟩ := c n' cs rfl p1 p2 q1 q2
   rw [p3] at h1 ⊢
   rw [q3, ← c1] at h2 ⊢
   exact IH n' m' (by omega) _ _ _ _ _ _ _ c2 h1 h2
end
end Go.AL
namespace Go.AL
theorem k8 {s : Stmt} (h : s.op ≠ 9 ∧ s.op ≠ 10) : pS s = 1 := GB s h.1 h.2
def Bd (s : Stmt) (at_ : Nat) : Pnt := ⟨s.op, s.x, s.y, s.n, [(at_ : Int) + 1]⟩
theorem uZ {p : Prg} {k : Nat} (hk : k < p.body.length) (hs : p.body[k]!.op ≠ 9 ∧ p.body[k]!.op ≠ 10) :
  dF p = gA 0 (p.body.take k) ++ Bd p.body[k]! (eA (p.body.take k)) :: (gA (eA (p.body.take k) + 1) (p.body.drop (k + 1)) ++ [⟨11, 0, 0, 0, []⟩]) := by
 have eb : p.body = p.body.take k ++ p.body[k]! :: p.body.drop (k + 1) := by
  have := List.take_append_drop k p.body
  rw [m9 _ _ hk] at this; exact this.symm
 unfold dF
 conv => lhs; rw [eb]
 rw [k5, gA, jX, if_neg hs.1, if_neg hs.2, k8 hs, Nat.zero_add]
 simp only [List.append_assoc, List.cons_append, List.nil_append]
 rfl
structure Top (pts : List Pnt) (a : Nat) : Prop where
 n : pts[a]!.next = [(a : Int) + 1]
 l : a + 1 < pts.length
 lo : ∀ i, i < a → ∀ k ∈ pts[i]!.next, k ≤ (a : Int)
 hi : ∀ i, a < i → ∀ k ∈ pts[i]!.next, (a : Int) + 1 ≤ k
theorem Top.of {p : Prg} {k : Nat} (hk : k < p.body.length) (hs : p.body[k]!.op ≠ 9 ∧ p.body[k]!.op ≠ 10) : Top (dF p) (eA (p.body.take k)) ∧ (dF p)[eA (p.body.take k)]! = Bd p.body[k]! (eA (p.body.take k)) := by
 have e := uZ hk hs
 have hA : (gA 0 (p.body.take k)).length = eA (p.body.take k) := dR _ _
 have hB : (gA (eA (p.body.take k) + 1) (p.body.drop (k + 1))).length = eA (p.body.drop (k + 1)) := dR _ _
 have loA := sV (p.body.take k) 0
 have Mm := sV (p.body.drop (k + 1)) (eA (p.body.take k) + 1)
 generalize eA (p.body.take k) = a at *
 rw [e]
 have get : ∀ i, (gA 0 (p.body.take k) ++ Bd p.body[k]! a :: (gA (a + 1) (p.body.drop (k + 1)) ++ [⟨11, 0, 0, 0, []⟩]))[i]! = if i < a then (gA 0 (p.body.take k))[i]! else if i - a < 1 then Bd p.body[k]! a else
   if i - a - 1 < eA (p.body.drop (k + 1)) then (gA (a + 1) (p.body.drop (k + 1)))[i - a - 1]! else [(⟨11, 0, 0, 0, []⟩ : Pnt)][i - a - 1 - eA (p.body.drop (k + 1))]! := fun i => by
  rw [xU hA, F8, xU hB]
 have ga := get a
 rw [if_neg (by omega), if_pos (by omega)] at ga
 refine ⟨⟨by rw [ga]; rfl, ?_, fun i hi z hz => ?_, fun i hi z hz => ?_⟩, ga⟩
 ·simp only [List.length_append, List.length_cons, List.length_nil, hA]; omega
 ·rw [get i, if_pos hi] at hz
  have := loA _ (bY _ _ (by omega)) z hz
  omega
 ·rw [get i, if_neg (by omega), if_neg (by omega)] at hz
  by_cases q : i - a - 1 < eA (p.body.drop (k + 1))
  ·rw [if_pos q] at hz
   have := Mm _ (bY _ _ (by omega)) z hz
   omega
  ·rw [if_neg q] at hz
   by_cases q2 : i - a - 1 - eA (p.body.drop (k + 1)) < 1
   ·rw [show i - a - 1 - eA (p.body.drop (k + 1)) = 0 by omega] at hz
    cases hz
   ·rw [getElem!_neg _ _ (by simp; omega)] at hz
    cases hz
section
variable {ts : List Int} {P Q : List Pnt} {a : Nat}
theorem Top.from (T : Top P a) {i k : Nat} (he : edge P i k) : (i < a → k ≤ a) ∧ (i = a → k = a + 1) ∧ (a < i → a + 1 ≤ k) := by
 refine ⟨fun h => ?_, fun h => ?_, fun h => ?_⟩
 ·have := T.lo i h _ he.2; omega
 ·have := he.2
  rw [h, T.n, List.mem_singleton] at this; omega
 ·have := T.hi i h _ he.2; omega
theorem Top.edge (T : Top P a) : edge P a (a + 1) := ⟨by have := T.l; omega, by rw [T.n]; simp⟩
theorem I1 (hop : ∀ i : Nat, P[i]!.op = 11 ↔ Q[i]!.op = 11) (hn : ∀ i : Nat, P[i]!.next = Q[i]!.next) : ∀ n a cs (s t : Mc) l l', s.cells.length + n ≤ 199 → t.cells.length + n ≤ 199 →
  ((iJ ts P n a cs s l).2.1 = 0 ∨ (iJ ts P n a cs s l).2.1 = 1) → ((iJ ts Q n a cs t l').2.1 = 0 ∨ (iJ ts Q n a cs t l').2.1 = 1) → (iJ ts P n a cs s l).2.1 = (iJ ts Q n a cs t l').2.1 := by
 have stop : ∀ (P : List Pnt) (s : Mc) a l, P[a]!.op = 11 → ((gD ts P [a] s l).2.1 = 0 ∨ (gD ts P [a] s l).2.1 = 1) → (gD ts P [a] s l).2.1 = 0 := by
  intro P s a l h11 h
  rw [Ls, qG h11] at h ⊢
  by_cases q : cX ts s P[a]! = true
  ·rw [if_pos q] at h
   rcases h with h | h <;> cases h
  ·rw [if_neg q] at h ⊢
   have hf := mJ ts ts.length 0 s
   by_cases q2 : (dT ts ts.length 0 s).2 = -1
   ·rcases hf with e | e | e <;> (rw [e] at q2; cases q2)
   ·rw [if_neg q2] at h ⊢
    dsimp only at h ⊢
    rcases h with h | h
    ·exact h
    ·rcases hf with e | e | e <;> (rw [e] at h; cases h)
 have step : ∀ (P : List Pnt) (s : Mc) n a cs l, P[a]!.op ≠ 11 → s.cells.length < 200 → ((iJ ts P (n + 1) a cs s l).2.1 = 0 ∨ (iJ ts P (n + 1) a cs s l).2.1 = 1) → iJ ts P (n + 1) a cs s l = iJ ts P n (eS P a cs).1 (eS P a cs).2 (cO ts s P[a]!).1 a := by
  intro P s n a cs l h11 hc h
  rw [Gv h11] at h ⊢
  by_cases q : cX ts s P[a]! = true
  ·rw [if_pos q] at h
   rcases h with h | h <;> cases h
  ·rw [if_neg q] at h ⊢
   by_cases q2 : (cO ts s P[a]!).2 = -1
   ·rw [if_pos q2]
   ·exfalso
    rw [if_neg q2] at h
    dsimp only at h
    rcases xD (ts := ts) (s := s) h11 with e | e | e | e
    ·exact q2 e
    ·-- only a new cell may be refused
     unfold cO at e
     by_cases h1 : P[a]!.op = 1
     ·rw [if_pos h1] at e
      rcases mV ts s P[a]!.x.toNat ⟨true, P[a]!.n, ⟨0, 0⟩⟩ with z | z | z <;> (rw [z] at e; cases e)
     rw [if_neg h1] at e
     by_cases h2 : P[a]!.op = 2
     ·rw [if_pos h2, if_neg (by omega)] at e
      rcases mV ts ⟨s.slots, s.cells ++ [oY P[a]!.n], s.read⟩ P[a]!.x.toNat ⟨true, 0, ⟨s.cells.length, 0⟩⟩ with z | z | z <;> (rw [z] at e; cases e)
     rw [if_neg h2] at e
     by_cases h3 : P[a]!.op = 3
     ·rw [if_pos h3] at e
      rcases mV ts (if Cq ts[P[a]!.y.toNat]! = true then ⟨s.slots.set P[a]!.y.toNat iT, s.cells, s.read⟩ else s) P[a]!.x.toNat s.slots[P[a]!.y.toNat]! with z | z | z <;> (rw [z] at e; cases e)
     rw [if_neg h3] at e
     by_cases h4 : P[a]!.op = 4 ∨ P[a]!.op = 5
     ·rw [if_pos h4] at e
      split at e
      ·rcases mV ts ⟨s.slots, m8 s.cells s.slots[P[a]!.y.toNat]!.ptr (decide (P[a]!.op = 5)), s.read⟩ P[a]!.x.toNat ⟨true, 0, zW s.cells s.slots[P[a]!.y.toNat]!.ptr (decide (P[a]!.op = 5))⟩ with z | z | z <;> (rw [z] at e; cases e)
      ·rcases lA (qI s.cells s.slots[P[a]!.y.toNat]!.ptr (decide (P[a]!.op = 5))) with z | z <;> (rw [z] at e; cases e)
     rw [if_neg h4] at e
     by_cases h6 : P[a]!.op = 6
     ·rw [if_pos h6] at e
      split at e
      ·rcases mV ts ⟨s.slots, fL s.cells s.slots[P[a]!.y.toNat]!.ptr false, s.read ++ [uK s.cells s.slots[P[a]!.y.toNat]!.ptr]⟩ P[a]!.x.toNat ⟨true, uK s.cells s.slots[P[a]!.y.toNat]!.ptr, ⟨0, 0⟩⟩ with z | z | z <;> (rw [z] at e; cases e)
      ·rcases lA (cR s.cells s.slots[P[a]!.y.toNat]!.ptr false) with z | z <;> (rw [z] at e; cases e)
     rw [if_neg h6] at e
     by_cases h7 : P[a]!.op = 7
     ·rw [if_pos h7] at e
      rcases yO (qP s.cells s.slots[P[a]!.x.toNat]!.ptr s.slots[P[a]!.y.toNat]!.num) with z | z | z <;> (rw [z] at e; cases e)
     rw [if_neg h7] at e
     by_cases h8 : P[a]!.op = 8
     ·rw [if_pos h8] at e
      rcases yO (cR s.cells s.slots[P[a]!.x.toNat]!.ptr true) with z | z | z <;> (rw [z] at e; cases e)
     rw [if_neg h8, if_neg h11] at e
     cases e
    ·rw [e] at h; rcases h with h | h <;> cases h
    ·rw [e] at h; rcases h with h | h <;> cases h
 intro n
 induction n with
 | zero =>
  intro a cs s t l l' h1 h2 h3 h4
  by_cases h11 : P[a]!.op = 11
  ·rw [nR h11] at h3 ⊢
   rw [nR ((hop a).1 h11)] at h4 ⊢
   rw [stop P s a l h11 h3, stop Q t a l' ((hop a).1 h11) h4]
  ·rw [pN h11, pN (fun q => h11 ((hop a).2 q))]
 | succ n IH =>
  intro a cs s t l l' h1 h2 h3 h4
  by_cases h11 : P[a]!.op = 11
  ·rw [nR h11] at h3 ⊢
   rw [nR ((hop a).1 h11)] at h4 ⊢
   rw [stop P s a l h11 h3, stop Q t a l' ((hop a).1 h11) h4]
  ·have e1 := step P s n a cs l h11 (by omega) h3
   have e2 := step Q t n a cs l' (fun q => h11 ((hop a).2 q)) (by omega) h4
   have c1 := zE ts s P[a]!
   have c2 := zE ts t Q[a]!
   have es : eS Q a cs = eS P a cs := by unfold eS; rw [hn a]
   rw [es] at e2
   rw [e1] at h3 ⊢
   rw [e2] at h4 ⊢
   exact IH _ _ _ _ _ _ (by omega) (by omega) h3 h4
end
end Go.AL
namespace Go.AL
section
variable {ts : List Int} {B S : List Pnt} {a : Nat}
theorem Lt {x y : Sl} (h1 : y.set = x.set) (h2 : y.num = x.num) (h3 : x.ptr = ⟨0, 0⟩) (h4 : y.ptr = ⟨0, 0⟩) : x = y := by
 cases x; cases y
 simp only at h1 h2 h3 h4
 rw [h1, h2, h3, h4]
end
end Go.AL
namespace Go.AL
theorem G7 {T : List Tg} {id : Int} {j : Nat} (hj : j < T.length) (h : T[j]!.id = id) : 0 ≤ cP T id ∧ cP T id ≤ j := by
 have h0 : 0 ≤ cP T id := by
  apply Classical.byContradiction; intro q
  exact mM.1 (by omega : cP T id < 0) _ (bY _ _ hj) h
 refine ⟨h0, ?_⟩
 unfold cP at h0 ⊢
 split
 ·rename_i k hk
  obtain ⟨h1, h2, h3⟩ := List.findIdx?_eq_some_iff_getElem.1 hk
  by_cases q : k ≤ j
  ·omega
  ·have := h3 j (by omega)
   rw [cL _ _ hj] at h
   simp [h] at this
 ·rename_i hk; rw [hk] at h0; dsimp only at h0; omega
theorem pF {T : List Tg} {id : Int} {k : Nat} {t : Tg} (h : t ∈ T.take k) (e : t.id = id) : 0 ≤ cP T id ∧ cP T id < k := by
 obtain ⟨j, hj, hjt⟩ := List.getElem_of_mem h
 rw [List.length_take] at hj
 have := G7 (T := T) (id := id) (j := j) (by omega) (by rw [cL _ _ (by omega), ← e, ← hjt, List.getElem_take])
 omega
theorem Jq {T : List Tg} (hn : (T.map (·.id)).Nodup) {x y : Int} {wr : Bool} (hx : 0 ≤ cP T x) (hy : 0 ≤ cP T y) (hu : T[(cP T x).toNat]!.uq = true)
  (h1 : 0 ≤ cP (eQ T (cP T x).toNat true) y) (h2 : 0 ≤ cP (eQ T (cP T y).toNat wr) x) : x = y := by
 have bx := e7 T x
 have by' := e7 T y
 have ax := kX hx
 have ay := kX hy
 have k1 : cP T y ≤ cP T x := by
  have hb := e7 (eQ T (cP T x).toNat true) y
  have ha := kX h1
  have hm := bY (eQ T (cP T x).toNat true) (cP (eQ T (cP T x).toNat true) y).toNat (by omega)
  generalize (eQ T (cP T x).toNat true)[(cP (eQ T (cP T x).toNat true) y).toNat]! = t at ha hm
  unfold eQ at hm
  rw [if_pos rfl] at hm
  have := (pF hm ha).2
  omega
 have k2 : cP T x ≤ cP T y := by
  have hb := e7 (eQ T (cP T y).toNat wr) x
  have ha := kX h2
  have hm := bY (eQ T (cP T y).toNat wr) (cP (eQ T (cP T y).toNat wr) x).toNat (by omega)
  generalize (eQ T (cP T y).toNat wr)[(cP (eQ T (cP T y).toNat wr) x).toNat]! = t at ha hm
  unfold eQ at hm
  split at hm
  ·have := (pF hm ha).2
   omega
  ·rcases List.mem_append.1 hm with hm | hm
   ·have := (pF hm ha).2
    omega
   ·exfalso
    rw [List.mem_filter] at hm
    have hT : t ∈ T := List.mem_of_mem_drop hm.1
    have hd : T[(cP T x).toNat]! = t := Cs hn (bY _ _ (by omega)) hT (by rw [ax, ha])
    rw [← hd, hu] at hm
    simp at hm
 rw [show cP T x = cP T y by omega] at ax
 rw [← ax, ay]
section
variable {ts : List Int} {P Q : List Pnt} {a : Nat} {s : Mc}
theorem Cj {m m' : List Cl} {x y : Pt} {w1 w2 : Bool} (h : cR m x w1 = 0) (hs : m'[x.cell.toNat]!.stk = (fL m x w1)[x.cell.toNat]!.stk) (hc : x.cell.toNat = y.cell.toNat) (h2 : cR m' y w2 = 0) :
  0 ≤ cP (eQ m[x.cell.toNat]!.stk (cP m[x.cell.toNat]!.stk x.tag).toNat w1) y.tag := by
 have h0 := dN h
 have e : (fL m x w1)[x.cell.toNat]!.stk = eQ m[x.cell.toNat]!.stk (cP m[x.cell.toNat]!.stk x.tag).toNat w1 := by
  rw [o5 h, if_pos rfl]; rfl
 have h3 : ¬ cP m'[y.cell.toNat]!.stk y.tag < 0 := by
  intro q
  unfold cR at h2
  split at h2
  ·cases h2
  ·split at h2
   ·cases h2
   ·first | cases h2 | (rw [if_pos q] at h2; cases h2)
 rw [← hc, hs, e] at h3
 omega
theorem BI {m : List Cl} {x : Pt} {wr : Bool} (h : cR m x wr = 0) : 0 ≤ cP m[x.cell.toNat]!.stk x.tag ∧ (wr = true → m[x.cell.toNat]!.stk[(cP m[x.cell.toNat]!.stk x.tag).toNat]!.uq = true) := by
 unfold cR at h
 split at h
 ·cases h
 ·split at h
  ·cases h
  ·split at h
   ·cases h
   ·rename_i h3
    refine ⟨by omega, fun hw => ?_⟩
    split at h
    ·cases h
    ·rename_i h4
     cases q : m[x.cell.toNat]!.stk[(cP m[x.cell.toNat]!.stk x.tag).toNat]!.uq with
     | true => rfl
     | false => exact absurd ⟨hw, q⟩ h4
theorem Im {N : Int} (hty : ∀ v, v < ts.length → 1 ≤ ts[v]! ∧ ts[v]! ≤ 4) (B : Bs ts N s) {d f : Nat} (hd : d < ts.length) (hf : f < ts.length) (hne : d ≠ f) (td : ts[d]! = 2 ∨ ts[d]! = 4) (tf : 2 ≤ ts[f]!) (sd : s.slots[d]!.set = true) (sf : s.slots[f]!.set = true)
  (hc : s.slots[d]!.ptr.cell.toNat = s.slots[f]!.ptr.cell.toNat) (ht : s.slots[d]!.ptr.tag = s.slots[f]!.ptr.tag) (hr : ts[f]! = 3 → iA ts s.slots f ∈ s.cells[gE s.slots f]!.stk) (hk : cR s.cells s.slots[d]!.ptr true = 0) : False := by
 have hfb := hty f hf
 rcases td with td | td
 ·have o1 := B.w.o d hd td sd
  by_cases q : ts[f]! = 2
  ·have o2 := B.w.o f hf q sf
   exact hne (B.w.d d f hd hf td q sd sf (by omega))
  ·have := B.f f hf (by omega) sf
   omega
 ·have f1 := B.f d hd (by omega) sd
  by_cases q : ts[f]! = 2
  ·have o2 := B.w.o f hf q sf
   omega
  ·by_cases q4 : ts[f]! = 4
   ·exact hne (B.d d f hd hf td q4 sd sf hc ht)
   ·have h3 : ts[f]! = 3 := by omega
    have hm := hr h3
    obtain ⟨i1, i2⟩ := BI hk
    have i3 := i2 rfl
    have i4 := kX i1
    have i5 := e7 s.cells[s.slots[d]!.ptr.cell.toNat]!.stk s.slots[d]!.ptr.tag
    have hl := (dN hk).2.2
    unfold gE at hm
    rw [← hc] at hm
    have hdm := bY s.cells[s.slots[d]!.ptr.cell.toNat]!.stk (cP s.cells[s.slots[d]!.ptr.cell.toNat]!.stk s.slots[d]!.ptr.tag).toNat (by omega)
    have := Cs (B.w.k.m.at hl).d hdm hm (by rw [i4, ht]; rfl)
    rw [this] at i3
    unfold iA at i3
    rw [h3] at i3
    simp at i3
theorem qV (w : WG ts P) (A : WA ts P) (ha : a < P.length) (hl : s.slots.length = ts.length) (hu : cX ts s P[a]! = false) (h11 : P[a]!.op ≠ 11) (hgo : (cO ts s P[a]!).2 = -1) {v : Nat} (hv : v < ts.length) (h1 : bD P[a]! ≠ (v : Int)) (h2 : bO ts P[a]! v ≠ 2) : (cO ts s P[a]!).1.slots[v]! = s.slots[v]! := by
 rw [w.doY A ha hl hu h11 hgo v hv, if_neg h1, if_neg h2]
theorem FM {b : Nat} (w : WG ts P) (A : WA ts P) (ha : a < P.length) (hb : b < P.length) (hl : s.slots.length = ts.length) (a11 : P[a]!.op ≠ 11) (hu : cX ts s P[a]! = false) (hgo : (cO ts s P[a]!).2 = -1)
  (hgb : (cO ts s P[b]!).2 = -1) (hgb1 : (cO ts (cO ts s P[a]!).1 P[b]!).2 = -1)
  (ap : ∀ v, v < ts.length → bO ts P[b]! (v : Nat) ≠ 0 → bO ts P[a]! v = 0 ∧ bD P[a]! ≠ (v : Int)) (hne : P[a]!.op = 7 → P[b]!.op = 6 → s.slots[P[a]!.x.toNat]!.ptr.cell.toNat ≠ s.slots[P[b]!.y.toNat]!.ptr.cell.toNat)
  (h6 : 1 ≤ P[b]!.op ∧ P[b]!.op ≤ 6) : (yF (cO ts s P[a]!).1 P[b]!).set = (yF s P[b]!).set ∧ (yF (cO ts s P[a]!).1 P[b]!).num = (yF s P[b]!).num ∧ (yF (cO ts s P[a]!).1 P[b]!).ptr.cell.toNat = (yF s P[b]!).ptr.cell.toNat + (if P[a]!.op = 2 ∧ P[b]!.op = 2 then 1 else 0) := by
 have PA := A.a a ha
 have PB := A.a b hb
 have hy := w.y b hb
 obtain ⟨v1, v2⟩ := nM (s := s) PA (w.op a ha).1 (fun q => by have := (PA.t3 q).2; have := w.x a ha; have := w.y a ha; omega) a11 hgo
 unfold yF
 by_cases c1 : P[b]!.op = 1
 ·rw [if_pos c1, if_pos c1, if_neg (fun q => by omega)]; exact ⟨rfl, rfl, rfl⟩
 rw [if_neg c1, if_neg c1]
 by_cases c2 : P[b]!.op = 2
 ·rw [if_pos c2, if_pos c2]
  refine ⟨rfl, rfl, ?_⟩
  dsimp only
  rw [v1, Int.toNat_natCast, Int.toNat_natCast]
  by_cases q : P[a]!.op = 2
  ·rw [if_pos q, if_pos ⟨q, c2⟩]
  ·rw [if_neg q, if_neg (fun z => q z.1)]
 rw [if_neg c2, if_neg c2]
 have hyl : P[b]!.y.toNat < ts.length := by have := hy.2 (by omega) (by omega); omega
 have hus : bO ts P[b]! (P[b]!.y.toNat : Nat) ≠ 0 := by
  by_cases c3 : P[b]!.op = 3
  ·exact Ao c3 (by omega)
  ·exact jE (by omega) (by omega)
 obtain ⟨p1, p2⟩ := ap _ hyl hus
 have hk := qV w A ha hl hu a11 hgo hyl p2 (by rw [p1]; decide)
 rw [if_neg (show ¬ (P[a]!.op = 2 ∧ P[b]!.op = 2) from fun z => c2 z.2)]
 by_cases c3 : P[b]!.op = 3
 ·rw [if_pos c3, if_pos c3, hk]; exact ⟨rfl, rfl, rfl⟩
 rw [if_neg c3, if_neg c3]
 by_cases c4 : P[b]!.op = 4 ∨ P[b]!.op = 5
 ·rw [if_pos c4, if_pos c4]
  refine ⟨rfl, rfl, ?_⟩
  dsimp only
  have k1 := (pX PB c4 hgb).1
  have k2 := (pX PB c4 hgb1).1
  rw [hk] at k2 ⊢
  unfold zW
  rw [if_pos k1, if_pos k2]; rfl
 rw [if_neg c4, if_neg c4]
 have c6 : P[b]!.op = 6 := by omega
 have k1 := (iQ PB c6 hgb).1
 have k2 := (iQ PB c6 hgb1).1
 rw [hk] at k2 ⊢
 refine ⟨rfl, ?_, rfl⟩
 dsimp only
 have hcl := (dN k1).2.2
 rw [wN k1, wN k2, v2 _ (by rw [v1]; omega), if_neg (fun z => by omega), if_neg (fun z => hne z.1 c6 z.2)]
end
end Go.AL
namespace Go.AL
structure Sw (ts : List Int) (P Q : List Pnt) (a : Nat) : Prop where
 t1 : Top P a
 t2 : Top P (a + 1)
 q1 : Q[a]!.op = P[a + 1]!.op ∧ Q[a]!.x = P[a + 1]!.x ∧ Q[a]!.y = P[a + 1]!.y ∧ Q[a]!.n = P[a + 1]!.n
 q2 : Q[a + 1]!.op = P[a]!.op ∧ Q[a + 1]!.x = P[a]!.x ∧ Q[a + 1]!.y = P[a]!.y ∧ Q[a + 1]!.n = P[a]!.n
 n1 : Q[a]!.next = P[a]!.next
 n2 : Q[a + 1]!.next = P[a + 1]!.next
 ne : ∀ i, i ≠ a → i ≠ a + 1 → Q[i]! = P[i]!
 l : Q.length = P.length
 sa : P[a]!.op ≤ 8
 sb : P[a + 1]!.op ≤ 8
 ap : ∀ v, v < ts.length → (bO ts P[a]! (v : Nat) ≠ 0 ∨ bD P[a]! = (v : Int)) → bO ts P[a + 1]! v = 0 ∧ bD P[a + 1]! ≠ (v : Int)
section
variable {ts : List Int} {P Q : List Pnt} {a : Nat} {s : Mc}
theorem wX {N : Int} (w : WG ts P) (A : WA ts P) {b : Nat} (ha : a < P.length) (hb : b < P.length) (B : Bs ts N s) (h7 : P[a]!.op = 7) {f : Nat} {wr : Bool} (hf : f < ts.length) (tf : 2 ≤ ts[f]!) (hne : P[a]!.x ≠ (f : Int)) (b11 : P[b]!.op ≠ 11)
  (hu : cX ts s P[a]! = false) (hgo : (cO ts s P[a]!).2 = -1) (hub : cX ts s P[b]! = false) (hgb : (cO ts s P[b]!).2 = -1)
  (hg1 : (cO ts (cO ts s P[b]!).1 P[a]!).2 = -1) (sf : s.slots[f]!.set = true) (hr : ts[f]! = 3 → iA ts s.slots f ∈ s.cells[gE s.slots f]!.stk)
  (k1 : cR s.cells s.slots[f]!.ptr wr = 0) (k2 : cR (cO ts s P[a]!).1.cells s.slots[f]!.ptr wr = 0) (k3 : ∀ c : Nat, (cO ts s P[b]!).1.cells[c]!.stk = (fL s.cells s.slots[f]!.ptr wr)[c]!.stk)
  (hxb : bD P[b]! ≠ P[a]!.x) (hub2 : bO ts P[b]! P[a]!.x ≠ 2) : s.slots[P[a]!.x.toNat]!.ptr.cell.toNat ≠ s.slots[f]!.ptr.cell.toNat := by
 intro hc
 have hx := w.x a ha
 have hxl : P[a]!.x.toNat < ts.length := by have := hx.2 (by omega); omega
 have hxn : ((P[a]!.x.toNat : Nat) : Int) = P[a]!.x := by omega
 have td := ((A.a a ha).t7 h7).1
 have hl := B.w.k.l
 have sd := eL hu hxl (AB h7 hxn)
 obtain ⟨c1, c2⟩ := m5 h7 hgo
 have kd := B0 c1
 have hk := qV w A hb hl hub b11 hgb hxl (by rw [hxn]; exact hxb) (by rw [hxn]; exact hub2)
 obtain ⟨d1, _⟩ := m5 h7 hg1
 have kd2 := B0 d1
 rw [hk] at kd2
 have hcl := (dN kd).2.2
 have i1 := BI kd
 have i2 := BI k1
 have e1 := Cj (m' := (cO ts s P[a]!).1.cells) kd (by rw [c2]; exact (GF c1 _).2) hc k2
 have e2 := Cj (m' := (cO ts s P[b]!).1.cells) k1 (k3 _) hc.symm kd2
 rw [hc] at i1 e1
 have ht := Jq (B.w.k.m.at (by rw [← hc]; exact hcl)).d i1.1 i2.1 (i1.2 rfl) e1 e2
 exact Im w.ty B hxl hf (fun q => hne (by rw [← hxn, q])) td tf sd sf hc ht hr kd
def EH (n j : Nat) : Nat := if j = n then n + 1 else if j = n + 1 then n else j
theorem IC {n i j : Nat} (h : EH n i = EH n j) : i = j := by
 unfold EH at h
 repeat' split at h
 all_goals omega
end
end Go.AL
namespace Go.AL
section
variable {ts : List Int} {P Q : List Pnt} {a : Nat} {s : Mc}
theorem LQ {n j : Nat} (h : j < n) : EH n j = j := by unfold EH; rw [if_neg (by omega), if_neg (by omega)]
theorem La {n : Nat} : EH n n = n + 1 ∧ EH n (n + 1) = n := by
 refine ⟨by unfold EH; rw [if_pos rfl], ?_⟩
 unfold EH; rw [if_neg (by omega), if_pos rfl]
theorem L0 {n j : Nat} (h : n + 2 ≤ j) : EH n j = j := by unfold EH; rw [if_neg (by omega), if_neg (by omega)]
theorem Sw.comm {N : Int} (F : Sw ts P Q a) (w : WG ts P) (A : WA ts P) (B : Bs ts N s) (hz : Iz ts s) (R : RfI ts (fun v => Nd ts P (a, v)) (Ln ts P a) s.slots s.cells)
  (u1 : cX ts s P[a]! = false) (g1 : (cO ts s P[a]!).2 = -1) (u2 : cX ts (cO ts s P[a]!).1 P[a + 1]! = false) (g2 : (cO ts (cO ts s P[a]!).1 P[a + 1]!).2 = -1)
  (u3 : cX ts s P[a + 1]! = false) (g3 : (cO ts s P[a + 1]!).2 = -1) (u4 : cX ts (cO ts s P[a + 1]!).1 P[a]! = false) (g4 : (cO ts (cO ts s P[a + 1]!).1 P[a]!).2 = -1) :
  ∃ π, VE ts π (fun _ => True) False (cO ts (cO ts s P[a]!).1 P[a + 1]!).1 (cO ts (cO ts s P[a + 1]!).1 P[a]!).1 := by
 have hb : a + 1 < P.length := F.t1.l
 have ha : a < P.length := by omega
 have sa := F.sa
 have sb := F.sb
 have a11 : P[a]!.op ≠ 11 := by omega
 have b11 : P[a + 1]!.op ≠ 11 := by omega
 have ap := F.ap
 have ap' : ∀ v, v < ts.length → (bO ts P[a + 1]! (v : Nat) ≠ 0 ∨ bD P[a + 1]! = (v : Int)) → bO ts P[a]! v = 0 ∧ bD P[a]! ≠ (v : Int) := fun v hv h => by
  have h1 : ¬ (bO ts P[a]! (v : Nat) ≠ 0 ∨ bD P[a]! = (v : Int)) := fun q => by
   have := ap v hv q
   rcases h with h | h
   ·exact h this.1
   ·exact this.2 h
  exact ⟨Classical.byContradiction fun q => h1 (.inl q), fun q => h1 (.inr q)⟩
 have L := B.w.k.l
 have L1 : (cO ts s P[a]!).1.slots.length = ts.length := by rw [iM]; exact L
 have L3 : (cO ts s P[a + 1]!).1.slots.length = ts.length := by rw [iM]; exact L
 have dy1 := w.doY A ha L u1 a11 g1
 have dy2 := w.doY A hb L1 u2 b11 g2
 have dy3 := w.doY A hb L u3 b11 g3
 have dy4 := w.doY A ha L3 u4 a11 g4
 have nea : P[a]!.op = 3 → P[a]!.x.toNat ≠ P[a]!.y.toNat := fun q => by have := ((A.a a ha).t3 q).2; have := w.x a ha; have := w.y a ha; omega
 have neb : P[a + 1]!.op = 3 → P[a + 1]!.x.toNat ≠ P[a + 1]!.y.toNat := fun q => by have := ((A.a _ hb).t3 q).2; have := w.x _ hb; have := w.y _ hb; omega
 obtain ⟨v1, w1⟩ := nM (s := s) (A.a a ha) (w.op a ha).1 nea a11 g1
 obtain ⟨v2, w2⟩ := nM (s := (cO ts s P[a]!).1) (A.a _ hb) (w.op _ hb).1 neb b11 g2
 obtain ⟨v3, w3⟩ := nM (s := s) (A.a _ hb) (w.op _ hb).1 neb b11 g3
 obtain ⟨v4, w4⟩ := nM (s := (cO ts s P[a + 1]!).1) (A.a a ha) (w.op a ha).1 nea a11 g4
 -- the variables of the two points
 have use7 : ∀ i : Nat, P[i]!.op = 7 → ∀ v : Nat, ((v : Int) = P[i]!.x ∨ (v : Int) = P[i]!.y) → bO ts P[i]! v ≠ 0 := fun i h v hv => by
  rcases hv with hv | hv
  ·exact AB h hv
  ·unfold bO; rw [if_neg (by omega), if_neg (by omega), if_pos h]
   by_cases q : (v : Int) = P[i]!.x
   ·rw [if_pos q]; decide
   ·rw [if_neg q, if_pos hv]; decide
 have inX : ∀ i : Nat, i < P.length → P[i]!.op ≤ 8 → P[i]!.x.toNat < ts.length ∧ ((P[i]!.x.toNat : Nat) : Int) = P[i]!.x := fun i hi h => by have := w.x i hi; have := this.2 h; omega
 have inY : ∀ i : Nat, i < P.length → 3 ≤ P[i]!.op → P[i]!.op ≤ 7 → P[i]!.y.toNat < ts.length ∧ ((P[i]!.y.toNat : Nat) : Int) = P[i]!.y := fun i hi h h2 => by have := w.y i hi; have := this.2 h h2; omega
 have keep1 : ∀ v, v < ts.length → bO ts P[a + 1]! (v : Nat) ≠ 0 → (cO ts s P[a]!).1.slots[v]! = s.slots[v]! := fun v hv h => by
  have := ap' v hv (.inl h)
  exact qV w A ha L u1 a11 g1 hv this.2 (by rw [this.1]; decide)
 have keep3 : ∀ v, v < ts.length → bO ts P[a]! (v : Nat) ≠ 0 → (cO ts s P[a + 1]!).1.slots[v]! = s.slots[v]! := fun v hv h => by
  have := ap v hv (.inl h)
  exact qV w A hb L u3 b11 g3 hv this.2 (by rw [this.1]; decide)
 have nd1 : ∀ v, v < ts.length → bO ts P[a]! (v : Nat) ≠ 0 → Nd ts P (a, v) := fun v hv h => .base ⟨ha, hv, h⟩
 have nd2 : ∀ v, v < ts.length → bO ts P[a + 1]! (v : Nat) ≠ 0 → Nd ts P (a, v) := fun v hv h => .step (a := (a + 1, v)) (.base ⟨hb, hv, h⟩) ⟨rfl, F.t1.edge, (ap' v hv (.inl h)).2⟩
 have rl : ∀ v, v < ts.length → s.slots[v]!.set = true → Nd ts P (a, v) → ts[v]! = 3 → iA ts s.slots v ∈ s.cells[gE s.slots v]!.stk := fun v hv hs hn h3 => (R.l v hv (by omega) hs hn).2
 -- no write in the way of another access
 have X1 : P[a]!.op = 7 → P[a + 1]!.op = 6 → s.slots[P[a]!.x.toNat]!.ptr.cell.toNat ≠ s.slots[P[a + 1]!.y.toNat]!.ptr.cell.toNat := fun h7 h6 => by
  obtain ⟨x1, x2⟩ := inX a ha sa
  obtain ⟨y1, y2⟩ := inY (a + 1) hb (by omega) (by omega)
  have ux := use7 a h7 _ (.inl x2)
  have uy : bO ts P[a + 1]! (P[a + 1]!.y.toNat : Nat) ≠ 0 := jE (by omega) y2
  have px := ap _ x1 (.inl ux)
  rw [x2] at px
  have k2 := (iQ (A.a _ hb) h6 g2).1
  rw [keep1 _ y1 uy] at k2
  refine wX w A ha hb B h7 y1 ((A.a _ hb).t6 h6).2 (fun q => uy ?_) b11 u1 g1 u3 g3 g4 (eL u3 y1 uy) (rl _ y1 (eL u3 y1 uy) (nd2 _ y1 uy)) (iQ (A.a _ hb) h6 g3).1 k2 (fun c => by rw [(iQ (A.a _ hb) h6 g3).2]) px.2 (by rw [px.1]; decide)
  rw [← q]; exact px.1
 have X2 : P[a + 1]!.op = 7 → P[a]!.op = 6 → s.slots[P[a + 1]!.x.toNat]!.ptr.cell.toNat ≠ s.slots[P[a]!.y.toNat]!.ptr.cell.toNat := fun h7 h6 => by
  obtain ⟨x1, x2⟩ := inX (a + 1) hb sb
  obtain ⟨y1, y2⟩ := inY a ha (by omega) (by omega)
  have ux := use7 (a + 1) h7 _ (.inl x2)
  have uy : bO ts P[a]! (P[a]!.y.toNat : Nat) ≠ 0 := jE (by omega) y2
  have px := ap' _ x1 (.inl ux)
  rw [x2] at px
  have k2 := (iQ (A.a _ ha) h6 g4).1
  rw [keep3 _ y1 uy] at k2
  refine wX w A hb ha B h7 y1 ((A.a _ ha).t6 h6).2 (fun q => uy ?_) a11 u3 g3 u1 g1 g2 (eL u1 y1 uy) (rl _ y1 (eL u1 y1 uy) (nd1 _ y1 uy)) (iQ (A.a _ ha) h6 g1).1 k2 (fun c => by rw [(iQ (A.a _ ha) h6 g1).2]) px.2 (by rw [px.1]; decide)
  rw [← q]; exact px.1
 have X3 : P[a]!.op = 7 → P[a + 1]!.op = 7 → s.slots[P[a]!.x.toNat]!.ptr.cell.toNat ≠ s.slots[P[a + 1]!.x.toNat]!.ptr.cell.toNat := fun h7 h7' => by
  obtain ⟨x1, x2⟩ := inX a ha sa
  obtain ⟨y1, y2⟩ := inX (a + 1) hb sb
  have ux := use7 a h7 _ (.inl x2)
  have uy := use7 (a + 1) h7' _ (.inl y2)
  have px := ap _ x1 (.inl ux)
  rw [x2] at px
  have k1 := (m5 h7' g3).1
  have k2 := (m5 h7' g2).1
  rw [keep1 _ y1 uy] at k2
  have ty := ((A.a _ hb).t7 h7').1
  refine wX w A ha hb B h7 y1 (by omega) (fun q => uy ?_) b11 u1 g1 u3 g3 g4 (eL u3 y1 uy) (fun h3 => by omega) (B0 k1) (B0 k2) (fun c => by rw [(m5 h7' g3).2]; exact (GF k1 c).2) px.2 (by rw [px.1]; decide)
  rw [← q]; exact px.1
 have yB := fun h6 => FM w A ha hb L a11 u1 g1 g3 g2 (fun v hv h => ap' v hv (.inl h)) X1 h6
 have yA := fun h6 => FM w A hb ha L b11 u3 g3 g1 g4 (fun v hv h => ap v hv (.inl h)) X2 h6
 -- where pointers lead
 have rng : ∀ v, v < ts.length → 2 ≤ ts[v]! → s.slots[v]!.set = true → s.slots[v]!.ptr.cell.toNat < s.cells.length := fun v hv h2 hs => by
  by_cases q : ts[v]! = 2
  ·have := B.w.o v hv q hs; omega
  ·have := B.f v hv (by omega) hs; omega
 have z1 : Iz ts (cO ts s P[a]!).1 := Iz.step w A ha L hz u1 a11 g1
 have z3 : Iz ts (cO ts s P[a + 1]!).1 := Iz.step w A hb L hz u3 b11 g3
 have z2 := Iz.step w A hb L1 z1 u2 b11 g2
 have z4 := Iz.step w A ha L3 z3 u4 a11 g4
 have opS : ∀ i v : Nat, bD P[i]! = (v : Int) → 1 ≤ P[i]!.op ∧ P[i]!.op ≤ 6 := fun i v h => by
  apply Classical.byContradiction; intro q
  unfold bD at h; rw [if_neg q] at h; omega
 obtain ⟨π, p0, p1, p2, p3, p4⟩ : ∃ π : Nat → Nat, (∀ j, j < s.cells.length → π j = j) ∧ ((P[a]!.op = 2 ∧ P[a + 1]!.op = 2) → π s.cells.length = s.cells.length + 1 ∧ π (s.cells.length + 1) = s.cells.length) ∧ (¬ (P[a]!.op = 2 ∧ P[a + 1]!.op = 2) → ∀ j, π j = j) ∧ (∀ i j, π i = π j → i = j) ∧ (∀ j, s.cells.length + 2 ≤ j → π j = j) := by
  by_cases q : P[a]!.op = 2 ∧ P[a + 1]!.op = 2
  ·exact ⟨EH s.cells.length, fun j h => LQ h, fun _ => La, fun h => absurd q h, fun i j h => IC h, fun j h => L0 h⟩
  ·exact ⟨fun j => j, fun _ _ => rfl, fun h => absurd h q, fun _ _ => rfl, fun _ _ h => h, fun _ _ => rfl⟩
 refine ⟨π, ⟨by rw [iM, iM]; exact L, by rw [iM, iM]; exact L⟩, ?_, fun j hj => ?_, p3, fun j hj => ?_, fun v hv _ => ?_, fun v hv h1 => ⟨z2 v hv h1, z4 v hv h1⟩, fun h => h.elim⟩
 ·rw [v2, v4, v1, v3]; omega
 ·-- values
  have hj' := hj
  rw [v2, v1] at hj'
  have e2 := w2 j hj
  have k7a : P[a]!.op = 7 → s.slots[P[a]!.x.toNat]!.ptr.cell.toNat < s.cells.length := fun h7 => (dN (B0 (m5 h7 g1).1)).2.2
  have k7b : P[a + 1]!.op = 7 → s.slots[P[a + 1]!.x.toNat]!.ptr.cell.toNat < s.cells.length := fun h7 => (dN (B0 (m5 h7 g3).1)).2.2
  have c7b : P[a + 1]!.op = 7 → (cO ts s P[a]!).1.slots[P[a + 1]!.x.toNat]! = s.slots[P[a + 1]!.x.toNat]! ∧ (cO ts s P[a]!).1.slots[P[a + 1]!.y.toNat]! = s.slots[P[a + 1]!.y.toNat]! := fun h7 => by
   obtain ⟨x1, x2⟩ := inX (a + 1) hb sb
   obtain ⟨y1, y2⟩ := inY (a + 1) hb (by omega) (by omega)
   exact ⟨keep1 _ x1 (use7 _ h7 _ (.inl x2)), keep1 _ y1 (use7 _ h7 _ (.inr y2))⟩
  have c7a : P[a]!.op = 7 → (cO ts s P[a + 1]!).1.slots[P[a]!.x.toNat]! = s.slots[P[a]!.x.toNat]! ∧ (cO ts s P[a + 1]!).1.slots[P[a]!.y.toNat]! = s.slots[P[a]!.y.toNat]! := fun h7 => by
   obtain ⟨x1, x2⟩ := inX a ha sa
   obtain ⟨y1, y2⟩ := inY a ha (by omega) (by omega)
   exact ⟨keep3 _ x1 (use7 _ h7 _ (.inl x2)), keep3 _ y1 (use7 _ h7 _ (.inr y2))⟩
  by_cases hjl : j < s.cells.length
  ·rw [p0 j hjl, e2, w4 j (by rw [v4, v3]; omega), w1 j (by rw [v1]; omega), w3 j (by rw [v3]; omega), if_neg (show ¬ (P[a]!.op = 2 ∧ j = (cO ts s P[a + 1]!).1.cells.length) from fun z => by rw [v3] at z; omega), if_neg (show ¬ (P[a + 1]!.op = 2 ∧ j = (cO ts s P[a]!).1.cells.length) from fun z => by rw [v1] at z; omega),
    if_neg (show ¬ (P[a + 1]!.op = 2 ∧ j = s.cells.length) from fun z => by omega), if_neg (show ¬ (P[a]!.op = 2 ∧ j = s.cells.length) from fun z => by omega)]
   by_cases q7 : P[a]!.op = 7
   ·rw [(c7a q7).1, (c7a q7).2]
    by_cases r7 : P[a + 1]!.op = 7
    ·have hx3 := X3 q7 r7
     rw [(c7b r7).1, (c7b r7).2]
     by_cases qa : s.slots[P[a]!.x.toNat]!.ptr.cell.toNat = j
     ·rw [if_pos ⟨q7, qa⟩, if_neg (fun z => hx3 (by rw [qa, z.2])), if_pos ⟨q7, qa⟩]
     ·rw [if_neg (fun z => qa z.2)]
      by_cases qb : s.slots[P[a + 1]!.x.toNat]!.ptr.cell.toNat = j
      ·rw [if_pos ⟨r7, qb⟩, if_pos ⟨r7, qb⟩]
      ·rw [if_neg (fun z => qb z.2), if_neg (fun z => qb z.2), if_neg (fun z => qa z.2)]
    ·rw [if_neg (show ¬ (P[a + 1]!.op = 7 ∧ (cO ts s P[a]!).1.slots[P[a + 1]!.x.toNat]!.ptr.cell.toNat = j) from fun z => r7 z.1), if_neg (show ¬ (P[a + 1]!.op = 7 ∧ s.slots[P[a + 1]!.x.toNat]!.ptr.cell.toNat = j) from fun z => r7 z.1)]
   ·rw [if_neg (show ¬ (P[a]!.op = 7 ∧ (cO ts s P[a + 1]!).1.slots[P[a]!.x.toNat]!.ptr.cell.toNat = j) from fun z => q7 z.1), if_neg (show ¬ (P[a]!.op = 7 ∧ s.slots[P[a]!.x.toNat]!.ptr.cell.toNat = j) from fun z => q7 z.1)]
    by_cases r7 : P[a + 1]!.op = 7
    ·rw [(c7b r7).1, (c7b r7).2]
    ·rw [if_neg (fun z => r7 z.1), if_neg (fun z => r7 z.1)]
  ·-- new cells
   by_cases q2 : P[a]!.op = 2
   ·by_cases r2 : P[a + 1]!.op = 2
    ·obtain ⟨s1, s2⟩ := p1 ⟨q2, r2⟩
     rw [if_pos q2] at v1 v4 hj'
     rw [if_pos r2] at v2 v3 hj'
     by_cases qj : j = s.cells.length
     ·subst qj
      rw [s1, e2, w4 _ (by omega), if_pos ⟨q2, by omega⟩, if_neg (fun z => by omega), if_neg (fun z => by omega), w1 _ (by omega), if_pos ⟨q2, rfl⟩]
     ·have : j = s.cells.length + 1 := by omega
      subst this
      rw [s2, e2, w4 _ (by omega), if_neg (fun z => by omega), if_neg (fun z => by omega), w3 _ (by omega), if_pos ⟨r2, rfl⟩, if_pos ⟨r2, by omega⟩]
    ·rw [if_pos q2] at v1 v4 hj'
     rw [if_neg r2] at v2 v3 hj'
     have qj : j = s.cells.length := by omega
     rw [p2 (fun z => r2 z.2), e2, w4 _ (by omega), if_pos ⟨q2, by omega⟩, if_neg (fun z => r2 z.1), if_neg, w1 _ (by omega), if_pos ⟨q2, qj⟩]
     intro z
     have := k7b z.1
     rw [(c7b z.1).1] at z
     omega
   ·by_cases r2 : P[a + 1]!.op = 2
    ·rw [if_neg q2] at v1 v4 hj'
     rw [if_pos r2] at v2 v3 hj'
     have qj : j = s.cells.length := by omega
     rw [p2 (fun z => q2 z.1), e2, w4 _ (by omega), if_neg (fun z => q2 z.1), if_neg, w3 _ (by omega), if_pos ⟨r2, qj⟩, if_pos ⟨r2, by omega⟩]
     intro z
     have := k7a z.1
     rw [(c7a z.1).1] at z
     omega
    ·rw [if_neg q2, if_neg r2] at hj'
     omega
 ·rw [v2, v1] at hj
  by_cases q : P[a]!.op = 2 ∧ P[a + 1]!.op = 2
  ·rw [if_pos q.1, if_pos q.2] at hj; exact p4 j (by omega)
  ·exact p2 q j
 ·-- slots
  rw [dy2 v hv, dy4 v hv]
  by_cases qb : bD P[a + 1]! = (v : Int)
  ·have h6 := opS _ _ qb
   obtain ⟨b1, b2, b3⟩ := yB h6
   have pa := ap' v hv (.inr qb)
   rw [if_pos qb, if_neg pa.2, if_neg (by rw [pa.1]; decide), dy3 v hv, if_pos qb]
   refine ⟨b1.symm, b2.symm, fun h2 hs => ?_⟩
   rw [b3]
   by_cases q : P[a]!.op = 2 ∧ P[a + 1]!.op = 2
   ·have e : (yF s P[a + 1]!).ptr.cell.toNat = s.cells.length := by
     unfold yF; rw [if_neg (by omega), if_pos q.2]; exact Int.toNat_natCast _
    rw [if_pos q, e, (p1 q).2]
   ·rw [if_neg q, p2 q]; rfl
  ·rw [if_neg qb]
   by_cases qa : bD P[a]! = (v : Int)
   ·have h6 := opS _ _ qa
    obtain ⟨b1, b2, b3⟩ := yA h6
    have pb := ap v hv (.inr qa)
    rw [if_pos qa, if_neg (by rw [pb.1]; decide), dy1 v hv, if_pos qa]
    refine ⟨b1, b2, fun h2 hs => ?_⟩
    rw [b3]
    by_cases q : P[a]!.op = 2 ∧ P[a + 1]!.op = 2
    ·have e : (yF s P[a]!).ptr.cell.toNat = s.cells.length := by
      unfold yF; rw [if_neg (by omega), if_pos q.1]; exact Int.toNat_natCast _
     rw [if_pos ⟨q.2, q.1⟩, e, (p1 q).1]
    ·rw [if_neg (fun z => q ⟨z.2, z.1⟩), p2 q]; rfl
   ·rw [if_neg qa]
    have e3 : (cO ts s P[a + 1]!).1.slots[v]! = if bO ts P[a + 1]! v = 2 then iT else s.slots[v]! := by rw [dy3 v hv, if_neg qb]
    have e1 : (cO ts s P[a]!).1.slots[v]! = if bO ts P[a]! v = 2 then iT else s.slots[v]! := by rw [dy1 v hv, if_neg qa]
    rw [e3, e1]
    by_cases ra : bO ts P[a]! v = 2
    ·rw [if_pos ra, if_pos ra]
     split
     ·exact ⟨rfl, rfl, fun _ z => by cases z⟩
     ·exact ⟨rfl, rfl, fun _ z => by cases z⟩
    ·rw [if_neg ra, if_neg ra]
     by_cases rb : bO ts P[a + 1]! v = 2
     ·rw [if_pos rb]; exact ⟨rfl, rfl, fun _ z => by cases z⟩
     ·rw [if_neg rb]
      exact ⟨rfl, rfl, fun h2 hs => (p0 _ (rng v hv h2 hs)).symm⟩
end
end Go.AL
namespace Go.AL
section
variable {ts : List Int} {P Q : List Pnt} {a : Nat}
theorem Sw.al1 (F : Sw ts P Q a) : Alike Q[a]! P[a + 1]! := .inl F.q1
theorem Sw.al2 (F : Sw ts P Q a) : Alike Q[a + 1]! P[a]! := .inl F.q2
theorem Sw.nx (F : Sw ts P Q a) (i : Nat) : Q[i]!.next = P[i]!.next := by
 by_cases q : i = a
 ·rw [q]; exact F.n1
 ·by_cases q2 : i = a + 1
  ·rw [q2]; exact F.n2
  ·rw [F.ne i q q2]
theorem Sw.o11 (F : Sw ts P Q a) (i : Nat) : P[i]!.op = 11 ↔ Q[i]!.op = 11 := by
 have h1 := F.q1.1
 have h2 := F.q2.1
 have sa := F.sa
 have sb := F.sb
 by_cases q : i = a
 ·rw [q]; omega
 ·by_cases q2 : i = a + 1
  ·rw [q2]; omega
  ·rw [F.ne i q q2]
theorem Sw.bis (F : Sw ts P Q a) (w : WG ts P) (A : WA ts P) (hP : NoI ts P) :
  Bis ts P Q (fun n i j s t => i = j ∧ i < P.length ∧ s.slots.length = ts.length ∧ Iz ts s ∧
   (i ≤ a → s = t ∧ (∃ N : Int, 1 ≤ N ∧ N + n ≤ 198 ∧ Bs ts N s) ∧ Vs ts P i s ∧ RfI ts (fun v => Nd ts P (i, v)) (Ln ts P i) s.slots s.cells) ∧
   (i = a + 1 → ∃ s0 N, Bs ts N s0 ∧ Iz ts s0 ∧ RfI ts (fun v => Nd ts P (a, v)) (Ln ts P a) s0.slots s0.cells ∧ cX ts s0 P[a]! = false ∧ (cO ts s0 P[a]!).2 = -1 ∧ s = (cO ts s0 P[a]!).1 ∧ cX ts s0 P[a + 1]! = false ∧ (cO ts s0 P[a + 1]!).2 = -1 ∧ t = (cO ts s0 P[a + 1]!).1) ∧
   (a + 2 ≤ i → ∃ π, VE ts π (fun _ => True) False s t)) := by
 have sa := F.sa
 have sb := F.sb
 refine ⟨fun n i j s t ⟨e, hi, hl, hz, r1, r2, r3⟩ => ?_⟩
 subst e
 by_cases h11 : P[i]!.op = 11
 ·exact .inl ⟨h11, (F.o11 i).1 h11⟩
 ·refine .inr (.inr (.inr ⟨h11, fun q => h11 ((F.o11 i).2 q), fun n' cs hn u1 u2 u3 u4 => ?_⟩))
  have es : eS Q i cs = eS P i cs := by unfold eS; rw [F.nx i]
  have he := oO w A hi h11 cs
  have b1 := F.t1.from he
  have b2 := F.t2.from he
  rw [es]
  refine ⟨rfl, rfl, fK w he, by rw [iM]; exact hl, Iz.step w A hi hl hz u1 h11 u2, fun hk => ?_, fun hk => ?_, fun hk => ?_⟩
  ·have hia : i < a := by omega
   obtain ⟨e, ⟨N, hN1, hN2, B⟩, V, R⟩ := r1 (by omega)
   subst e
   rw [F.ne i (by omega) (by omega)]
   refine ⟨rfl, ⟨N + 1, by omega, by omega, B.step w A hi h11 hN1 u1 u2⟩, V.step w A i s _ hi h11 he u1 u2, R.step w A he h11 B V (fun L hL => hP.c i L hi hL) u1 u2⟩
  ·have hia : i = a := by omega
   subst hia
   obtain ⟨e, ⟨N, hN1, hN2, B⟩, V, R⟩ := r1 (by omega)
   subst e
   rw [(oM F.al1).2] at u3
   rw [(oM F.al1).1] at u4 ⊢
   exact ⟨s, N, B, hz, R, u1, u2, rfl, u3, u4, rfl⟩
  ·by_cases q : i = a + 1
   ·obtain ⟨s0, N, B, hz0, R, c1, c2, c3, c4, c5, c6⟩ := r2 q
    subst q c3 c6
    rw [(oM F.al2).2] at u3
    rw [(oM F.al2).1] at u4 ⊢
    exact F.comm w A B hz0 R c1 c2 u1 u2 c4 c5 u3 u4
   ·obtain ⟨π, h3⟩ := r3 (by omega)
    rw [F.ne i (by omega) q] at u3 u4 ⊢
    exact ⟨π, (h3.step w A hi u1 u3 h11 u2 u4 (fun _ _ _ => trivial)).mono (fun _ _ => .inl trivial)⟩
theorem Sw.run (F : Sw ts P Q a) (w : WG ts P) (A : WA ts P) (hP : NoI ts P) (cs : List Int) (n m : Nat) (hn : n ≤ 197) (h1 : (dZ ts P cs n).2.1 = 0) (h2 : (dZ ts Q cs m).2.1 = 0) (v : Nat) (hv : v < ts.length) (ht : ts[v]! = 1) :
  (dZ ts P cs n).1.slots[v]! = (dZ ts Q cs m).1.slots[v]! := by
 have J := Jv.start (ts := ts) (pts := P) hn
 have hR : RfI ts (fun v => Nd ts P (0, v)) (Ln ts P 0) (mc0 ts.length).slots (mc0 ts.length).cells := by
  rcases J.r with ⟨c, L, hc, hr⟩ | h
  ·have hcl : c < P.length := by
    clear hc
    generalize 0 = b at hr
    induction hr with
    | base h => exact h.1
    | step _ _ ih => exact ih
   exact absurd hc (hP.c c L hcl)
  ·exact h
 obtain ⟨n', i, j, s, t, ⟨e, hi, hl, hz, r1, r2, r3⟩, q1, q2, q3, q4, q5⟩ := (F.bis w A hP).run _ n m (Nat.le_refl _) 0 0 cs (mc0 ts.length) (mc0 ts.length) 0 0
  ⟨rfl, w.p0, by simp [mc0], Iz.start, fun _ => ⟨rfl, J.b, J.v, hR⟩, fun h => by omega, fun h => by omega⟩ h1 h2
 change (dZ ts P cs n).1 = _ at q2
 change (dZ ts Q cs m).1 = _ at q4
 have sb := F.sb
 rw [q2, q4, mF _ _ _ _ _ (by omega), mF _ _ _ _ _ (by omega)]
 by_cases c1 : i ≤ a
 ·rw [(r1 c1).1]
 ·by_cases c2 : i = a + 1
  ·rw [c2] at q1; omega
  ·obtain ⟨π, h⟩ := r3 (by omega)
   have e1 := h.v v hv trivial
   have e2 := h.z v hv ht
   exact Lt e1.1 e1.2.1 e2.1 e2.2
end
end Go.AL
namespace Go.AL
theorem fP {p : Prg} (h : dC p = true) : dB p.types = true ∧ okL p.types 4 p.body = true ∧ bT p.body ≤ 30 := by
 unfold dC at h
 simp only [Bool.and_eq_true, decide_eq_true_eq] at h
 exact ⟨h.1.1, h.1.2, h.2⟩
theorem He {ts : List Int} {b : List Stmt} (h1 : dB ts = true) (h2 : okL ts 4 b = true) (h3 : bT b ≤ 30) : dC ⟨ts, b⟩ = true := by
 unfold dC
 simp only [Bool.and_eq_true, decide_eq_true_eq]
 exact ⟨⟨h1, h2⟩, h3⟩
theorem lP {p : Prg} (h : dC p = true) {k : Nat} (hk : k < p.body.length) : oP p.types 4 p.body[k]! = true := by
 have := (fP h).2.1
 rw [sO, List.all_eq_true] at this
 exact this _ (bY _ _ hk)
theorem CF {ts : List Int} {d : Nat} : ∀ {l : List Stmt} {k : Nat} {s : Stmt}, okL ts d l = true → oP ts d s = true → okL ts d (l.set k s) = true
 | [], _, _, h, _ => by simpa using h
 | a :: l, 0, s, h, hs => by
  simp only [List.set_cons_zero, okL, Bool.and_eq_true] at h ⊢
  exact ⟨hs, h.2⟩
 | a :: l, k + 1, s, h, hs => by
  simp only [List.set_cons_succ, okL, Bool.and_eq_true] at h ⊢
  exact ⟨h.1, CF h.2 hs⟩
theorem vP : ∀ (l : List Stmt) (k : Nat) (s : Stmt), k < l.length → bT (l.set k s) + dK l[k]! = bT l + dK s
 | a :: l, 0, s, _ => by simp [bT]; omega
 | a :: l, k + 1, s, h => by
  have := vP l k s (by simpa using h)
  have e : (a :: l)[k + 1]! = l[k]! := by rw [cL _ _ h, cL _ _ (by simpa using h)]; rfl
  rw [e]
  simp only [List.set_cons_succ, bT]
  omega
theorem vX {p : Prg} (h : dC p = true) {k : Nat} (hk : k < p.body.length) {s : Stmt} (hs : oP p.types 4 s = true) (hc : dK s ≤ dK p.body[k]!) : dC ⟨p.types, p.body.set k s⟩ = true := by
 obtain ⟨h1, h2, h3⟩ := fP h
 have := vP p.body k s hk
 exact He h1 (CF h2 hs) (by omega)
theorem kY {ts : List Int} {d : Nat} {s : Stmt} (h : oP ts d s = true) (h1 : s.op ≠ 9 ∧ s.op ≠ 10) : eO ts s = true ∧ s.th = [] ∧ s.el = [] := by
 rw [xS, if_pos h1, Bool.and_eq_true, Bool.and_eq_true] at h
 exact ⟨h.2, by simpa using h.1.1, by simpa using h.1.2⟩
theorem pZ {ts : List Int} {d : Nat} {s : Stmt} (h : oP ts d s = true) (h1 : s.op ≠ 9 ∧ s.op ≠ 10) : dK s = 1 := by
 obtain ⟨_, h2, h3⟩ := kY h h1
 rw [gH, h2, h3]; rfl
theorem Cv {p : Prg} {k : Nat} (hk : k < p.body.length) {s : Stmt} (h1 : p.body[k]!.op ≠ 9 ∧ p.body[k]!.op ≠ 10) (h2 : s.op ≠ 9 ∧ s.op ≠ 10) : dF ⟨p.types, p.body.set k s⟩ = (dF p).set (eA (p.body.take k)) (Bd s (eA (p.body.take k))) := by
 have e := uZ hk h1
 have hA : (gA 0 (p.body.take k)).length = eA (p.body.take k) := dR _ _
 have e2 : dF ⟨p.types, p.body.set k s⟩ = gA 0 (p.body.take k) ++ Bd s (eA (p.body.take k)) :: (gA (eA (p.body.take k) + 1) (p.body.drop (k + 1)) ++ [⟨11, 0, 0, 0, []⟩]) := by
  unfold dF
  dsimp only
  rw [List.set_eq_take_append_cons_drop, if_pos hk, k5, gA, jX, if_neg h2.1, if_neg h2.2, k8 h2, Nat.zero_add]
  simp only [List.append_assoc, List.cons_append, List.nil_append]
  rfl
 rw [e, e2]
 have := oU (gA 0 (p.body.take k)) (Bd p.body[k]! (eA (p.body.take k))) (Bd s (eA (p.body.take k))) (gA (eA (p.body.take k) + 1) (p.body.drop (k + 1)) ++ [⟨11, 0, 0, 0, []⟩])
 rw [hA] at this
 exact this.symm
end Go.AL
namespace Go.AL
theorem Az {ts : List Int} {x : Pnt} {v : Nat} (h : ¬ ((v : Int) = x.x ∨ (3 ≤ x.op ∧ x.op ≤ 7 ∧ (v : Int) = x.y))) (ho : x.op ≤ 8) : bO ts x v = 0 ∧ bD x ≠ (v : Int) := by
 unfold bO bD
 constructor
 ·repeat' split
  all_goals first | rfl | (exfalso; omega) | omega
 ·split <;> omega
theorem Hh {ts : List Int} {x : Pnt} {v : Nat} (ho : x.op ≤ 8) (h : bO ts x v ≠ 0 ∨ bD x = (v : Int)) : (v : Int) = x.x ∨ (3 ≤ x.op ∧ x.op ≤ 7 ∧ (v : Int) = x.y) := by
 apply Classical.byContradiction
 intro q
 have := Az (ts := ts) q ho
 omega
def Mh (s : Stmt) (v : Nat) : Prop := (v : Int) = s.x ∨ (3 ≤ s.op ∧ s.op ≤ 7 ∧ (v : Int) = s.y)
theorem Sw.of {p : Prg} (hv : dC p = true) {k : Nat} (hk : k + 1 < p.body.length) (h1 : p.body[k]!.op ≠ 9 ∧ p.body[k]!.op ≠ 10) (h2 : p.body[k + 1]!.op ≠ 9 ∧ p.body[k + 1]!.op ≠ 10)
  (hap : ∀ v : Nat, Mh p.body[k]! v → ¬ Mh p.body[k + 1]! v) :
  Sw p.types (dF p) (dF ⟨p.types, (p.body.set k p.body[k + 1]!).set (k + 1) p.body[k]!⟩) (eA (p.body.take k)) ∧ dC ⟨p.types, (p.body.set k p.body[k + 1]!).set (k + 1) p.body[k]!⟩ = true := by
 obtain ⟨t1, t2, t3⟩ := fP hv
 have o1 := lP hv (show k < p.body.length by omega)
 have o2 := lP hv hk
 have c1 := pZ o1 h1
 have c2 := pZ o2 h2
 have b1 := lE t1 (kY o1 h1).1
 have b2 := lE t1 (kY o2 h2).1
 have T1 := Top.of (show k < p.body.length by omega) h1
 have T2 := Top.of hk h2
 have en : eA (p.body.take (k + 1)) = eA (p.body.take k) + 1 := by rw [gY _ _ (by omega), k8 h1]
 rw [en] at T2
 have e1 := Cv (show k < p.body.length by omega) (s := p.body[k + 1]!) h1 h2
 have v1 : dC ⟨p.types, p.body.set k p.body[k + 1]!⟩ = true := vX hv (by omega) o2 (by omega)
 have g1 : (p.body.set k p.body[k + 1]!)[k + 1]! = p.body[k + 1]! := by rw [c8, if_neg (by omega)]
 have g0 : (p.body.set k p.body[k + 1]!)[k]! = p.body[k + 1]! := by rw [c8, if_pos ⟨rfl, by omega⟩]
 have hl1 : (p.body.set k p.body[k + 1]!).length = p.body.length := List.length_set
 have hk2 : k + 1 < (p.body.set k p.body[k + 1]!).length := by omega
 have en2 : eA ((p.body.set k p.body[k + 1]!).take (k + 1)) = eA (p.body.take k) + 1 := by
  rw [gY _ _ (by omega), g0, k8 h2, List.take_set_of_le (Nat.le_refl _)]
 have e2 := Cv (p := ⟨p.types, p.body.set k p.body[k + 1]!⟩) (k := k + 1) (s := p.body[k]!) hk2 (by rw [g1]; exact h2) h1
 dsimp only at e2
 rw [en2, e1] at e2
 have v2 : dC ⟨p.types, (p.body.set k p.body[k + 1]!).set (k + 1) p.body[k]!⟩ = true := vX v1 hk2 o1 (by rw [g1]; omega)
 refine ⟨?_, v2⟩
 rw [e2]
 have hl := T2.1.l
 generalize eA (p.body.take k) = n at *
 have q1 : (((dF p).set n (Bd p.body[k + 1]! n)).set (n + 1) (Bd p.body[k]! (n + 1)))[n]! = Bd p.body[k + 1]! n := by
  rw [c8, if_neg (by omega), c8, if_pos ⟨rfl, by omega⟩]
 have q2 : (((dF p).set n (Bd p.body[k + 1]! n)).set (n + 1) (Bd p.body[k]! (n + 1)))[n + 1]! = Bd p.body[k]! (n + 1) := by
  rw [c8, if_pos ⟨rfl, by rw [List.length_set]; omega⟩]
 refine ⟨T1.1, T2.1, ?_, ?_, ?_, ?_, fun i hi hj => ?_, by rw [List.length_set, List.length_set], ?_, ?_, fun v hvl hu => ?_⟩
 ·rw [q1, T2.2]; exact ⟨rfl, rfl, rfl, rfl⟩
 ·rw [q2, T1.2]; exact ⟨rfl, rfl, rfl, rfl⟩
 ·rw [q1, T1.2]; rfl
 ·rw [q2, T2.2]; rfl
 ·rw [c8, if_neg (fun q => hj q.1.symm), c8, if_neg (fun q => hi q.1.symm)]
 ·rw [T1.2]; exact b1.2.1
 ·rw [T2.2]; exact b2.2.1
 ·rw [T1.2] at hu
  rw [T2.2]
  have := hap v (Hh (x := Bd p.body[k]! n) b1.2.1 hu)
  exact Az (x := Bd p.body[k + 1]! (n + 1)) this b2.2.1
end Go.AL
namespace Go.AL
theorem cK : (∀ a b : Bool, ((a && b) = true) = (a = true ∧ b = true)) ∧ (∀ a b : Bool, ((a && b) = false) ↔ (a = false ∨ b = false)) ∧ (∀ a b : Bool, ((a || b) = true) = (a = true ∨ b = true)) ∧ (∀ a b : Bool, ((a || b) = false) ↔ (a = false ∧ b = false)) ∧
  (∀ (p : Prop) [Decidable p], (decide p = true) = p) ∧ (∀ (p : Prop) [Decidable p], (decide p = false) ↔ ¬ p) ∧ (∀ a : Bool, ((!a) = true) ↔ a = false) ∧ (∀ a : Bool, ((!a) = false) ↔ a = true) ∧ ((!true) = false) ∧ ((!false) = true) ∧ (∀ a b : Int, ¬ a < b ↔ b ≤ a) ∧ (∀ a b : Int, ¬ a ≤ b ↔ b < a) :=
 ⟨fun a b => Bool.and_eq_true a b, fun a b => Bool.and_eq_false_iff, fun a b => Bool.or_eq_true a b, fun a b => Bool.or_eq_false_iff, fun p _ => by simp, fun p _ => decide_eq_false_iff_not, fun a => by simp, fun a => by simp, rfl, rfl, fun _ _ => Int.not_lt, fun _ _ => Int.not_le⟩
theorem hZ : (∀ {α : Type} (a b : List α), (a ++ b).length = a.length + b.length) ∧ (∀ {α : Type} (a : α) (b : List α), (a :: b).length = b.length + 1) ∧ (∀ {α : Type}, ([] : List α).length = 0) ∧ (∀ {α : Type} (a : List α) (i : Nat) (x : α), (a.set i x).length = a.length) ∧ (∀ {α : Type} (i : Nat) (a : List α), (a.take i).length = min i a.length) ∧
  (∀ {α β : Type} (f : α → β) (a : List α), (a.map f).length = a.length) ∧ (∀ {α : Type} (n : Nat) (a : α), (List.replicate n a).length = n) ∧ (∀ (l : List Stmt) (b : Nat), (gA b l).length = eA l) ∧ (∀ n : Nat, n * 1 = n) ∧ (∀ n : Nat, 0 + n = n) ∧ (∀ n : Nat, n + 0 = n) :=
 ⟨fun _ _ => List.length_append, fun _ _ => rfl, rfl, fun _ _ _ => List.length_set, fun _ _ => List.length_take, fun _ _ => List.length_map _, fun _ _ => List.length_replicate, dR, Nat.mul_one, Nat.zero_add, Nat.add_zero⟩
theorem dV {α : Type} {p q r : α → Prop} (x : α) (h3 : r x) (h1 : p x) (h2 : q x) : ∃ x, p x ∧ q x ∧ r x := ⟨x, h1, h2, h3⟩
end Go.AL
