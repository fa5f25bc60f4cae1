/-
 A part of the proofs over this program: rules and contracts of its functions (the contracts).
-/
import Derived.Test.YtahdccneecdmmaaGreatQ5B02
set_option linter.unusedVariables false
set_option linter.unusedSimpArgs false
set_option maxHeartbeats 8000000
set_option maxRecDepth 4000
attribute [local irreducible] Go.AL.RW Go.AL.AW Go.AL.Stop
namespace Go.Proofs.YtahdccneecdmmaaGreat
open Go.AL Go.RowKit
def Gq (nv N : Nat) (i : Nat) : List AV := [.imm nv (flat (zR (i * (nv + 1)) N) (List.range nv)), .own (i * (nv + 1) + nv + aY) 0 N 1]
instance (nv N : Nat) : FlT (Gq nv N) 2 := ⟨fun _ => rfl⟩
instance (nv N : Nat) : FE (Gq nv N) (fun i => [.imm nv (flat (zR (i * (nv + 1)) N) (List.range nv)), .own (i * (nv + 1) + nv + aY) 0 N 1]) := ⟨fun _ => rfl⟩
theorem pW {m : List (Nat × Nat)} {lo : Lo} {pn : Option Nat} {nv N k M : Nat} (hk : k ≤ M) (h : lo.fb = aY + M * (nv + 1)) : RnL (jK m lo pn) (flat (Gq nv N) (List.range k)) (flat (Gq nv N) (List.range k)) :=
 RnL.flt fun i hi => by
  rw [List.mem_range] at hi
  have h1 : i * (nv + 1) + nv < M * (nv + 1) := gJ (by omega) (by omega)
  exact .cons (.imm (dD (by rw [h]; omega))) (.cons (.own (g0 (by omega) (by rw [h]; omega))) .nil)
theorem HL {m : List (Nat × Nat)} {lo : Lo} {pn : Option Nat} {nv N k : Nat} (h : lo.fb = aY + (k + 1) * (nv + 1)) : RnL (jK m lo pn) (flat (Gq nv N) (List.range (k + 1))) (((flat (Gq nv N) (List.range k)).drop 0).take (k * 2) ++ Gq nv N k) := by
 have e : ((flat (Gq nv N) (List.range k)).drop 0).take (k * 2) = flat (Gq nv N) (List.range k) := List.take_of_length_le (by rw [List.drop_zero, aL (Gq nv N) (e := 2)]; simp)
 have := pW (m := m) (pn := pn) (N := N) (Nat.le_refl (k + 1)) h
 rw [e]
 rw [List.range_succ, ← bO, mA] at this ⊢
 exact this
def O6 (s : List (List Bool) × List Bool) : List AV := [sl iA s.1, sl cB s.2]
instance : FlT O6 2 := ⟨fun _ => rfl⟩
instance : FE O6 (fun s => [sl iA s.1, sl cB s.2]) := ⟨fun _ => rfl⟩
theorem LX {D : List Nat} {hs : List (Nat × Option (List AV))} {R : List (List Bool)} {nv N M n : Nat} (hF : FamR R R hs hs) (hD : ∀ k, k < nv + 1 → n * (nv + 1) + k + aY ∈ D) (hlo : R.length = M * (nv + 1)) (hn : n < M) (hro : ∀ q, q < R.length → R[q]!.length = N) :
  LdL D (aS hs) (Gq nv N n) [sl iA (kC nv R n), sl cB (kR nv R n)] := by
 have h1 : n * (nv + 1) + nv < M * (nv + 1) := gJ hn (by omega)
 have h2 : (kC nv R n).length = nv := rZ hlo hn
 have h3 : (kR nv R n).length = N := hro _ (by omega)
 have e1 : sl iA (kC nv R n) = .imm nv (flat iA ((R.drop (n * (nv + 1))).take nv)) := by unfold sl;rw [h2]; rfl
 have e2 : sl cB (kR nv R n) = .imm N (flat cB (kR nv R n)) := by unfold sl;rw [h3]
 rw [e1, e2]
 exact .cons (.imm (LdL.rows hF (fun k hk => hD k (by omega)) (by omega) (fun k hk => hro _ (by omega)))) (.cons (.own (hD nv (by omega)) (hF.get (by omega)) (.pur (inferInstance : Pur (flat cB _)).pf)) .nil)
def KN (b : Nat) : List Nat := [b + 0 + aY, b + 1 + aY, b + 2 + aY, b + 3 + aY, b + 4 + aY, b + 5 + aY, b + 6 + aY]
theorem BL {b k : Nat} (h : k < 7) : b + k + aY ∈ KN b := by
 unfold KN
 match k, h with
 | 0, _ => simp
 | 1, _ => simp
 | 2, _ => simp
 | 3, _ => simp
 | 4, _ => simp
 | 5, _ => simp
 | 6, _ => simp
theorem tF {nv N n k : Nat} {R : List (List Bool)} (hlo : R.length = N * (nv + 1)) (hn : n < N) (hk : k < nv + 1) : ((R.drop (n * (nv + 1))).take (nv + 1))[k]! = R[n * (nv + 1) + k]! := by
 have h1 := gJ hn hk
 have h2 : n * (nv + 1) + nv < N * (nv + 1) := gJ hn (by omega)
 rw [aZ _ _ (by rw [List.length_take, List.length_drop]; omega), aZ _ _ (by omega), List.getElem_take, List.getElem_drop]
theorem kP {nv N n : Nat} {R : List (List Bool)} (hlo : R.length = N * (nv + 1)) (hn : n < N) : ((R.drop (n * (nv + 1))).take (nv + 1)).length = nv + 1 := by
 have h2 : n * (nv + 1) + nv < N * (nv + 1) := gJ hn (by omega)
 rw [List.length_take, List.length_drop]; omega
theorem Fc (ts : List Int) (pts : List Pnt) (w : WG ts pts) (i : Nat) (hi : i < pts.length) (R : List (List Bool)) (h : FSd ts pts R) :
  Od Tryz.prog 223 [sl cI ts, sl cF pts, iv (i : Int), M4 0 ts.length pts.length] ((R.drop (i * (ts.length + 1))).take (ts.length + 1)) (.agg [sl iA (pO ts pts i (kC ts.length R i)), sl cB (pP ts pts i (kR ts.length R i))]) [] := by
 have h1 := Fy ts pts w i hi ((R.drop (i * (ts.length + 1))).take (ts.length + 1)) (kP h.lo hi) (fun k hk => by rw [tF h.lo hi hk]; exact h.ro _ (by rw [h.lo]; exact gJ hi hk))
 rw [tF h.lo hi (by omega), List.take_take, show min ts.length (ts.length + 1) = ts.length from by omega] at h1
 exact h1
theorem D0 {ts : List Int} {pts : List Pnt} (w : WG ts pts) {R : List (List Bool)} (h : FSd ts pts R) {i v : Nat} (hi : i < pts.length) (hv : v < ts.length) : (pO ts pts i (kC ts.length R i))[v]!.length = pts.length := by
 rw [k9 _ _ _ _ _ hv]
 split
 ·exact jH _ _ _ _
 ·split
  ·simp
  ·rw [gS h.lo hi hv]; exact h.ro _ (by rw [h.lo]; exact gJ hi (by omega))
theorem tV {b : List Bool} {R : List (List Bool)} {k m : Nat} {N : Nat} {Q : Exit → AS → Prop} {all : Array Oper} {rest : List Oper} {tsl : List (Nat × AV)} {hsl : List (Nat × Option (List AV))} {nidl : Nat} {z0 : Lo} {md : Md} {d : Nat} {ty : TypeId} {pos : String} {af : Array Edge} {tys : Array TypeId} {x0 x1 : Operand} (ha0 : ev (lk tsl) x0 = some (.own (k + aY) 0 m 1)) (ha1 : ev (lk tsl) x1 = some (sl cB b))
  (hF : FamR R R hsl hsl) (hk : k < R.length) (hm : m = R[k]!.length) (hab : b.length ≤ R[k]!.length) (hl : R[k]!.length ≤ 1000000) (hM : Nat.ble (nidl + 0) aY = true) (hN : Nat.blt d N = true) {md' : Md} [hmd : MdA md (fK [x0, x1] ++ [.inr (k + aY)]) [.inr (k + aY), .inl d] md']
  (kk : RW Tryz.prog N all Q md' rest ⟨(d, .tup []) :: tsl, (k + aY, some (flat cB (gK R[k]! b))) :: hsl, nidl + 0, z0⟩) : RW Tryz.prog N all Q md (⟨some d, .call ⟨.value (.func 225), #[x0, x1], tys⟩, ty, pos, af, none⟩ :: rest) ⟨tsl, hsl, nidl, z0⟩ :=
 z5 (a := R[k]!) (b := b) (i0 := k + aY) ha0 ha1 (hF.get hk) (Du R[k]! b m hm hab hl) hM hN (md' := md') (hmd := hmd) kk
theorem Jl (p : Prg) (Af Ap : List Nat) (hs : aP p.body ≤ 1000000) (w : WG p.types (aC p)) (hAf : qQ p.types (aC p) Af) (hAp : qU p.types (aC p) Ap) : PC Tryz.prog 171 [bQ p] (fun r => r = sl O6 ((List.range (aC p).length).map (lO p.types.length (aC p).length Af Ap))) := by
 have hpl := w.pl
 have hp0 := w.p0
 have htl := w.tl
 refine aB Tryz.func171 Tryz.ntmps171 ?_
 repeat' (first|(apply aI;(apply aA (k := 132);rfl;exact k5 p hs;exact Pur.pf;rfl))|refine aD ?_|refine aE ?_|fail)
 refine eO (σ := Nat) (fun k => List.replicate ((p.types.length + 1) * k) (List.replicate (aC p).length false)) [1, 3] [0] (fun k => [(5, iv (k : Int)), (4, .own 1 0 k 2)]) (fun k => [(1, some (flat (Gq p.types.length (aC p).length) (List.range k)))]) (fun k => k ≤ (aC p).length) (fun k => (aC p).length - k) (0) (Nat.zero_le _) ?_
 intro k hk
 try dsimp only
 repeat' (first|(apply aI;first|(with_reducible apply a7 (d := 27))|(with_reducible apply a7 (d := 6)))|refine aD ?_|refine aE ?_|(refine aM ?_ ?_ <;> intro hc hq <;> try (exfalso;omega))|fail)
 ·have hrep : List.replicate ((p.types.length + 1) * k) (List.replicate (aC p).length false) ++ List.replicate (p.types.length + 1) (List.replicate (aC p).length false) = List.replicate ((p.types.length + 1) * (k + 1)) (List.replicate (aC p).length false) := by
   rw [List.replicate_append_replicate, Nat.mul_succ]
  refine cK ?_
  have hst := EU p.types.length (aC p).length htl hpl
  apply G2 (R := List.replicate ((p.types.length + 1) * k) (List.replicate (aC p).length false)) (avs := [iv (p.types.length : Int), iv ((aC p).length : Int)]) (rr' := M4 (k * (p.types.length + 1)) p.types.length (aC p).length) (h := hst)
  case ha => rfl
  case hp => rfl
  case hF => (repeat' (first|exact FamR.here|(apply FamR.cons;focus rfl)))
  case hz => rfl
  case hM => rfl
  case hN => rfl
  case hr =>
   refine .agg (.cons (.imm (rn_rows fun j hj => ?_)) (.cons (.own ?_) .nil))
   ·rw [if_pos (by rw [List.length_replicate]; omega)]; congr 1;rw [List.length_replicate, Nat.mul_comm]; omega
   ·rw [if_pos (by rw [List.length_replicate]; omega)]; congr 1;rw [List.length_replicate, Nat.mul_comm]; omega
  rw [hrep]
  repeat' (first|(apply aI;(apply cP;rfl;rfl;rfl;rfl;rfl;(case hl => (simp [aL]; done));(rfl);omega;omega;(rfl);rfl;rfl))|refine aD ?_|refine aE ?_|fail)
  (apply bH (k + 1);focus (refine Le.renF0 [(0, 0), (1, 3)] (R := ?qA1) (hF := ?qF1) (hz := ?qz1) (hm := ?qm1) (hn := ?qn1) (h1 := ?q11) (h2 := ?q21);(case qF1 => (repeat' (first|exact FamR.here|(apply FamR.cons;focus rfl))));(case qz1 => (rfl));(case qm1 => rfl);(case qn1 => decide);all_goals (repeat' (first|exact trivial|refine And.intro ⟨_, rfl, ?_⟩ ?_|refine And.intro ⟨_, _, rfl, rfl, ?_⟩ ?_|exact RnL.purI inferInstance|exact RnV.purI inferInstance|exact RnV.own rfl|exact RnV.optr rfl|exact HL (by show aY + (List.replicate ((p.types.length + 1) * (k + 1)) (List.replicate (aC p).length false)).length = _; rw [List.length_replicate, Nat.mul_comm])))))
  ·show k + 1 ≤ (aC p).length;omega
  ·show (aC p).length - (k + 1) < (aC p).length - k;omega
 ·have hkN : k = (aC p).length := by omega
  subst hkN
  refine cK (dW ?_ (Le.frzD (d := 4) (i := 1) rfl rfl))
  rw [Nat.mul_comm]
  repeat' (first|refine aD ?_|refine aE ?_|fail)
  refine eO (σ := List (List Bool) × Bool) (fun s => s.1) [1, 3, 4] [0] (fun s => [(6, bv s.2)]) (fun s => []) (fun s => FH p.types (aC p) s.1 s.2) (fun s => Px p.types (aC p) s.1 s.2) (List.replicate ((aC p).length * (p.types.length + 1)) (List.replicate (aC p).length false), true) (FH.init _ _) ?_
  rintro ⟨R, c⟩ hFH
  try dsimp only at hFH
  try dsimp only
  have hRl := hFH.d.lo
  have hRr := hFH.d.ro
  cases c with
  | false =>
   repeat' (first|refine aD ?_|refine aE ?_|fail)
   have hfin := hFH.final w hAf hAp
   refine aV (Le.frzAll (d := 2) (D := (List.range R.length).map fun k => k + aY) rfl (.imm (LdL.flt fun n hn => LX (R := R) (M := (aC p).length) (by (repeat' (first|exact FamR.here|(apply FamR.cons;focus rfl)))) (fun k hk => List.mem_map.2 ⟨n * (p.types.length + 1) + k, by rw [List.mem_range, hRl]; exact gJ (List.mem_range.1 hn) hk, rfl⟩) hRl (List.mem_range.1 hn) hRr))) ?_
   refine aF rfl ⟨?_, (by (exact bG _ _))⟩
   simp only [aQ]
   have e1 : (List.range (aC p).length).map (fun n => (kC p.types.length R n, kR p.types.length R n)) = (List.range (aC p).length).map (lO p.types.length (aC p).length Af Ap) := List.map_congr_left fun n hn => by
    have := hfin n (List.mem_range.1 hn)
    rw [this.1, this.2]
   have e2 : flat (fun n => [sl iA (kC p.types.length R n), sl cB (kR p.types.length R n)]) (List.range (aC p).length) = flat O6 ((List.range (aC p).length).map (lO p.types.length (aC p).length Af Ap)) := by
    rw [← e1, flat, flat, List.flatMap_map]; rfl
   rw [e2]
   simp only [sl, List.length_map, List.length_range]
  | true =>
   have hst := hFH.start
   repeat' (first|refine aD ?_|refine aE ?_|fail)
   refine eO (σ := Nat × List (List Bool) × Bool) (fun s => s.2.1) [1, 3, 4] [0] (fun s => [(6, bv s.2.2), (7, iv (s.1 : Int))]) (fun s => []) (fun s => s.1 ≤ (aC p).length ∧ FS p.types (aC p) R s.2.1 s.2.2 (DF s.1 0)) (fun s => (aC p).length - s.1) (0, R, false) ⟨Nat.zero_le _, hst⟩ ?_
   rintro ⟨j, R1, c1⟩ ⟨hj, hS1⟩
   dsimp only at hj hS1
   have hl1 := hS1.d.lo
   try dsimp only
   by_cases hjn : j < (aC p).length
   ·have hnl := w.nl j hjn
    repeat' (first|(apply aI;first|(apply Ae (k := 223) (R := R1) (avs0 := [sl cI p.types, sl cF (aC p), iv (j : Int), M4 0 p.types.length (aC p).length]) (b := j * (p.types.length + 1)) (n1 := 0) (D := KN (j * (p.types.length + 1))) (ws := []) (h := Fc p.types (aC p) w j hjn R1 hS1.d) (rr' := .agg [sl iA (pO p.types (aC p) j (kC p.types.length R1 j)), sl cB (pP p.types (aC p) j (kR p.types.length R1 j))]);(case ha => rfl);(case hF => (repeat' (first|exact FamR.here|(apply FamR.cons;focus rfl))));(case hb => (rw [kP hl1 hjn]; have := gJ (v := p.types.length) hjn (Nat.lt_succ_self _);omega));(case hR => exact fun k hk => tF hl1 hjn (by rwa [kP hl1 hjn] at hk));(case hD => exact fun k hk => BL (by rw [kP hl1 hjn] at hk;omega));(case har => exact .cons (RnV.purI inferInstance) (.cons (RnV.purI inferInstance) (.cons (RnV.purI inferInstance) (.cons (.agg (.cons (.imm (rn_rows fun k hk => (by rw [Nat.zero_add, nF (by rw [kP hl1 hjn]; omega)]))) (.cons (.own (by rw [Nat.zero_add, nF (by rw [kP hl1 hjn]; omega)])) .nil))) .nil))));(case hk => rfl);(case hr => exact RnV.purI inferInstance);(case hw => exact trivial);(case hM|hN => rfl))|(apply nX;rfl;rfl;(assumption);rfl;infer_instance;infer_instance;rfl)|(apply bT;rfl;rfl;rfl;rfl;rfl;(case hl => (simp;done));(exact (rfl:_=[_, _]))))|refine aD ?_|refine aE ?_|(refine aM ?_ ?_ <;> intro hc hq <;> try (exfalso;omega))|refine b0 ?_)
    refine eO (σ := Nat × List (List Bool) × Bool) (fun s => s.2.1) [1, 3, 4, 7, 8] [0, 2] (fun s => [(6, bv s.2.2), (9, iv (s.1 : Int))]) (fun s => []) (fun s => s.1 ≤ (aC p)[j]!.next.length ∧ FS p.types (aC p) R s.2.1 s.2.2 (DF j s.1) ∧ (s.2.2 = false → s.2.1 = R1)) (fun s => (aC p)[j]!.next.length - s.1) (0, R1, c1) ⟨Nat.zero_le _, hS1, fun _ => rfl⟩ ?_
    rintro ⟨kk, R2, c2⟩ ⟨hk, hS2, hc2⟩
    dsimp only at hk hS2 hc2
    have hl2 := hS2.d.lo
    have hr2 := hS2.d.ro
    try dsimp only
    by_cases hkn : kk < (aC p)[j]!.next.length
    ·have hnx := w.nx j hjn _ (aW _ _ hkn)
     have hnn : ((aC p)[j]!.next[kk]!).toNat < (aC p).length := by omega
     have hix : ((aC p)[j]!.next[kk]!).toNat * (p.types.length + 1) + p.types.length < R2.length := by rw [hl2]; exact gJ hnn (by omega)
     have hrix := hr2 _ hix
     have hqa := cX p.types (aC p) j (kR p.types.length R1 j)
     have hw1 := B5 (pO p.types (aC p) j (kC p.types.length R1 j)) (kC p.types.length R2 ((aC p)[j]!.next[kk]!).toNat) (pP p.types (aC p) j (kR p.types.length R1 j)) (kR p.types.length R2 ((aC p)[j]!.next[kk]!).toNat) (by rw [cX]; exact hpl) (by rw [eJ]; exact htl)
      (by rw [cX]; exact hr2 _ (by rw [hl2]; exact gJ hnn (by omega))) (by rw [eJ]; exact rZ hl2 hnn) (fun v hv => by rw [eJ] at hv;rw [cX]; exact D0 w hS1.d hjn hv) (fun v hv => by rw [eJ] at hv;rw [cX, gS hl2 hnn hv]; exact hr2 _ (by rw [hl2]; exact gJ hnn (by omega)))
     repeat' (first|(apply aI;first|((with_reducible apply mI (k := 224) (D := KN (((aC p)[j]!.next[kk]!).toNat * (p.types.length + 1))) (h := hw1));(case ha => rfl);(case hl => exact .cons (.pur (PurV.pf)) (.cons (.agg (LX (R := R2) (M := (aC p).length) (by (repeat' (first|exact FamR.here|(apply FamR.cons;focus rfl)))) (fun k hk => BL (by omega)) hl2 hnn hr2)) .nil));(case hfr|hN => rfl))|(apply tV;rfl;rfl;(case hF => (repeat' (first|exact FamR.here|(apply FamR.cons;focus rfl))));omega;omega;omega;omega;rfl;rfl)|(with_reducible apply a7 (d := 11))|(apply jT;rfl;rfl;(assumption);rfl;infer_instance;infer_instance;rfl))|refine aD ?_|refine aE ?_|(refine aM ?_ ?_ <;> intro hc hq <;> try (exfalso;omega))|refine b0 ?_)
     ·refine cK ?_
      apply dW
      case k =>
       apply Le.fset (R := R2) (hk := hix)
       (repeat' (first|exact FamR.here|(apply FamR.cons;focus rfl)))
      rw [HP hix]
      repeat' (first|refine aD ?_|refine aE ?_|fail)
      refine eO (σ := Nat) (fun v => BH R2 (((aC p)[j]!.next[kk]!).toNat * (p.types.length + 1)) p.types.length (pO p.types (aC p) j (kC p.types.length R1 j)) (pP p.types (aC p) j (kR p.types.length R1 j)) v) [1, 3, 4, 7, 8, 9, 10] [0, 2] (fun v => [(11, iv (v : Int))]) (fun v => []) (fun v => v ≤ p.types.length) (fun v => p.types.length - v) (0) (Nat.zero_le _) ?_
      intro v hv
      try dsimp only
      have hjl := fH R2 (((aC p)[j]!.next[kk]!).toNat * (p.types.length + 1)) p.types.length (pO p.types (aC p) j (kC p.types.length R1 j)) (pP p.types (aC p) j (kR p.types.length R1 j)) v
      have hal := eJ p.types (aC p) j (kC p.types.length R1 j)
      by_cases hvn : v < p.types.length
      ·have hav := D0 w hS1.d hjn hvn
       have hjr : (BH R2 (((aC p)[j]!.next[kk]!).toNat * (p.types.length + 1)) p.types.length (pO p.types (aC p) j (kC p.types.length R1 j)) (pP p.types (aC p) j (kR p.types.length R1 j)) v)[((aC p)[j]!.next[kk]!).toNat * (p.types.length + 1) + v]!.length = (aC p).length := by
        rw [fY _ _ _ _ _ _ _ (by omega), if_neg (by omega), if_neg (by omega)]; exact hr2 _ (by omega)
       repeat' (first|(apply aI;first|(apply tV;rfl;rfl;(case hF => (repeat' (first|exact FamR.here|(apply FamR.cons;focus rfl))));omega;omega;omega;omega;rfl;rfl)|(with_reducible apply a7 (d := 84))|(apply nX;rfl;rfl;(assumption);rfl;infer_instance;infer_instance;rfl)|(apply jT;rfl;rfl;(assumption);rfl;infer_instance;infer_instance;rfl))|refine aD ?_|refine aE ?_|(refine aM ?_ ?_ <;> intro hc hq <;> try (exfalso;omega))|refine b0 ?_)
       refine cK ?_
       apply dW
       case k =>
        apply Le.fset (R := BH R2 (((aC p)[j]!.next[kk]!).toNat * (p.types.length + 1)) p.types.length (pO p.types (aC p) j (kC p.types.length R1 j)) (pP p.types (aC p) j (kR p.types.length R1 j)) v) (hk := (by omega))
        (repeat' (first|exact FamR.here|(apply FamR.cons;focus rfl)))
       rw [G7 hix hvn]
       repeat' (first|refine aD ?_|refine aE ?_|fail)
       (apply bH (v + 1);focus (refine Le.renF0 [(0, 0), (2, 2)] (R := ?qA2) (hF := ?qF2) (hz := ?qz2) (hm := ?qm2) (hn := ?qn2) (h1 := ?q12) (h2 := ?q22);(case qF2 => (repeat' (first|exact FamR.here|(apply FamR.cons;focus rfl))));(case qz2 => (simp only [fH]));(case qm2 => rfl);(case qn2 => decide);all_goals (repeat' (first|exact trivial|refine And.intro ⟨_, rfl, ?_⟩ ?_|refine And.intro ⟨_, _, rfl, rfl, ?_⟩ ?_|exact RnL.purI inferInstance|exact RnV.purI inferInstance|exact RnV.optr rfl|exact RnV.imm (pW (M := (aC p).length) (Nat.le_refl _) (by show aY + (BH _ _ _ _ _ _).length = _; rw [fH, hl2]))))))
       ·show v + 1 ≤ p.types.length;omega
       ·show p.types.length - (v + 1) < p.types.length - v;omega
      ·repeat' (first | refine aD ?_ | refine aE ?_ | (refine aM ?_ ?_ <;> intro hc hq <;> try (exfalso; omega))|fail)
       have hvN : v = p.types.length := by omega
       subst hvN
       have hw3 : EC (pO p.types (aC p) j (kC p.types.length R1 j)) (kC p.types.length R2 ((aC p)[j]!.next[kk]!).toNat) (pP p.types (aC p) j (kR p.types.length R1 j)) (kR p.types.length R2 ((aC p)[j]!.next[kk]!).toNat) = false := by assumption
       (apply bH (kk + 1, _, true);focus (refine Le.renF0 [(0, 0), (2, 2)] (R := ?qA3) (hF := ?qF3) (hz := ?qz3) (hm := ?qm3) (hn := ?qn3) (h1 := ?q13) (h2 := ?q23);(case qF3 => (repeat' (first|exact FamR.here|(apply FamR.cons;focus rfl))));(case qz3 => (rfl));(case qm3 => rfl);(case qn3 => decide);all_goals (repeat' (first|exact trivial|refine And.intro ⟨_, rfl, ?_⟩ ?_|refine And.intro ⟨_, _, rfl, rfl, ?_⟩ ?_|exact RnL.purI inferInstance|exact RnV.purI inferInstance|exact RnV.optr rfl|exact RnV.imm (pW (M := (aC p).length) (Nat.le_refl _) (by show aY + (BH _ _ _ _ _ _).length = _; rw [fH, hl2]))))))
       ·exact ⟨(by show kk + 1 ≤ (aC p)[j]!.next.length;omega), hS2.hit w (DF j (kk + 1)) hS1.d hjn hkn hw3, fun h => (by cases h)⟩
       ·show (aC p)[j]!.next.length - (kk + 1) < (aC p)[j]!.next.length - kk;omega
     ·(apply bH (kk + 1, R2, c2); focus (refine Le.renF0 [(0, 0), (2, 2)] (R := ?qA4) (hF := ?qF4) (hz := ?qz4) (hm := ?qm4) (hn := ?qn4) (h1 := ?q14) (h2 := ?q24); (case qF4 => (repeat' (first | exact FamR.here | (apply FamR.cons; focus rfl)))); (case qz4 => (rfl)); (case qm4 => rfl); (case qn4 => decide); all_goals (repeat' (first | exact trivial | refine And.intro ⟨_, rfl, ?_⟩ ?_ | refine And.intro ⟨_, _, rfl, rfl, ?_⟩ ?_ | exact RnL.purI inferInstance | exact RnV.purI inferInstance | exact RnV.optr rfl | exact RnV.imm (pW (M := (aC p).length) (Nat.le_refl _) (by show aY + R2.length = _; rw [hl2]))))))
      ·refine ⟨(by show kk + 1 ≤ (aC p)[j]!.next.length;omega), hS2.skip (i := j) (k := kk) hc2 (by assumption) (fun i' k' _ _ hd => by unfold DF at hd ⊢; omega), hc2⟩
      ·show (aC p)[j]!.next.length - (kk + 1) < (aC p)[j]!.next.length - kk;omega
    ·repeat' (first | refine aD ?_ | refine aE ?_ | (refine aM ?_ ?_ <;> intro hc hq <;> try (exfalso; omega))|fail)
     (apply bH (j + 1, R2, c2);focus (refine Le.renF0 [(0, 0)] (R := ?qA5) (hF := ?qF5) (hz := ?qz5) (hm := ?qm5) (hn := ?qn5) (h1 := ?q15) (h2 := ?q25);(case qF5 => (repeat' (first|exact FamR.here|(apply FamR.cons;focus rfl))));(case qz5 => (rfl));(case qm5 => rfl);(case qn5 => decide);all_goals (repeat' (first|exact trivial|refine And.intro ⟨_, rfl, ?_⟩ ?_|refine And.intro ⟨_, _, rfl, rfl, ?_⟩ ?_|exact RnL.purI inferInstance|exact RnV.purI inferInstance|exact RnV.optr rfl|exact RnV.imm (pW (M := (aC p).length) (Nat.le_refl _) (by show aY + R2.length = _; rw [hl2]))))))
     ·refine ⟨(by show j + 1 ≤ (aC p).length; omega), hS2.mono fun i' k' _ hk' hd => ?_⟩
      unfold DF at hd ⊢
      by_cases e : i' = j
      ·subst e;omega
      ·omega
     ·show (aC p).length - (j + 1) < (aC p).length - j;omega
   ·repeat' (first | refine aD ?_ | refine aE ?_ | (refine aM ?_ ?_ <;> intro hc hq <;> try (exfalso; omega))|fail)
    (apply bH (R1, c1);focus (refine Le.renF0 [(0, 0)] (R := ?qA6) (hF := ?qF6) (hz := ?qz6) (hm := ?qm6) (hn := ?qn6) (h1 := ?q16) (h2 := ?q26);(case qF6 => (repeat' (first|exact FamR.here|(apply FamR.cons;focus rfl))));(case qz6 => (rfl));(case qm6 => rfl);(case qn6 => decide);all_goals (repeat' (first|exact trivial|refine And.intro ⟨_, rfl, ?_⟩ ?_|refine And.intro ⟨_, _, rfl, rfl, ?_⟩ ?_|exact RnL.purI inferInstance|exact RnV.purI inferInstance|exact RnV.optr rfl|exact RnV.imm (pW (M := (aC p).length) (Nat.le_refl _) (by show aY + R1.length = _; rw [hl1]))))))
    ·exact (hS1.fin (by omega)).1
    ·exact (hS1.fin (by omega)).2
instance (s : List (List Bool) × List Bool) : Pur (O6 s) := ⟨by show ((sl iA s.1).pur && ((sl cB s.2).pur && true)) = true; rw [bG, bG]; rfl⟩
def Mx (ts : List Int) (pts : List Pnt) (Aa : List Nat) (i k : Nat) : List Iss := ((List.range k).filter (Gv ts pts Aa i)).map (fun (v : Nat) => ⟨i, 1, v⟩)
def MY (pts : List Pnt) (cf : List Bool) (i k : Nat) : List Iss := ((List.range k).filter (fun (l : Nat) => cf[l]!)).map (fun (l : Nat) => ⟨i, NZ pts l, l⟩)
theorem LF {ts : List Int} {pts : List Pnt} {Aa : List Nat} {i k : Nat} (h : Gv ts pts Aa i k = true) : Mx ts pts Aa i (k + 1) = Mx ts pts Aa i k ++ [⟨i, 1, k⟩] := by
 unfold Mx;rw [iW, if_pos h, List.map_append]; rfl
theorem Bf {ts : List Int} {pts : List Pnt} {Aa : List Nat} {i k : Nat} (h : Gv ts pts Aa i k = false) : Mx ts pts Aa i (k + 1) = Mx ts pts Aa i k := by
 unfold Mx;rw [iW, if_neg (by rw [h]; decide), List.append_nil]
theorem DR {pts : List Pnt} {cf : List Bool} {i k : Nat} (h : cf[k]! = true) : MY pts cf i (k + 1) = MY pts cf i k ++ [⟨i, NZ pts k, k⟩] := by
 unfold MY;rw [iW, if_pos h, List.map_append]; rfl
theorem IV {pts : List Pnt} {cf : List Bool} {i k : Nat} (h : cf[k]! = false) : MY pts cf i (k + 1) = MY pts cf i k := by
 unfold MY;rw [iW, if_neg (by rw [h]; decide), List.append_nil]
theorem FP (p : Prg) (f : Flows p.types (aC p)) (hs : aP p.body ≤ 1000000) (w : WG p.types (aC p)) (hr : Rch (aC p)) : PC Tryz.prog 169 [bQ p, sl iA (dL p.types.length (aC p).length f.Al)] (fun r => r = sl lA f.iss) := by
 have hpl := w.pl
 have hp0 := w.p0
 have htl := w.tl
 have hfa := lZ p true f.Aa hs w hr (by unfold qK;exact f.ga)
 have hfm := lZ p false f.Am hs w hr (by unfold qK;exact f.gm)
 have hfl := Jl p f.Af f.Ap hs w f.gf f.gp
 have hra := fR p.types.length (aC p).length f.Aa
 have hrm := fR p.types.length (aC p).length f.Am
 have hrl := fR p.types.length (aC p).length f.Al
 have hfll : ((List.range (aC p).length).map (lO p.types.length (aC p).length f.Af f.Ap)).length = (aC p).length := by simp
 refine aB Tryz.func169 Tryz.ntmps169 ?_
 repeat' (first|(apply aI;first|(apply aA (k := 132);rfl;exact k5 p hs;exact Pur.pf;rfl)|(apply aA (k := 64) (d := 20);rfl;exact hfa;exact Pur.pf;rfl)|(apply aA (k := 64) (d := 22);rfl;exact hfm;exact Pur.pf;rfl)|(apply aA (k := 171);rfl;exact hfl;exact Pur.pf;rfl))|refine aD ?_|refine aE ?_|fail)
 refine aK (σ := Nat × List Iss × Nat) [1, 2, 6, 7, 8, 9] [0] (fun s => [(10, iv (s.1 : Int)), (5, .own 1 0 s.2.2 3)]) (fun s => [(1, some (flat lA s.2.1))]) (fun s => s.1 ≤ (aC p).length ∧ s.2.1 = zU p.types (aC p) f.Aa f.Am f.Al f.Af f.Ap s.1 ∧ s.2.2 = s.2.1.length ∧ s.2.2 ≤ 67 * s.1) (fun s => (aC p).length - s.1) (0, [], 0) ⟨Nat.zero_le _, rfl, rfl, Nat.le_refl _⟩ ?_
 rintro ⟨i, L, m⟩ ⟨hi, hL, hm, hmb⟩
 dsimp only at hi hL hm hmb
 try dsimp only
 by_cases hin : i < (aC p).length
 ·repeat' (first | refine aD ?_ | refine aE ?_ | (refine aM ?_ ?_ <;> intro hc hq <;> try (exfalso; omega))|fail)
  refine aK (σ := Nat × List Iss × Nat) [1, 2, 6, 7, 8, 9, 10] [0] (fun s => [(11, iv (s.1 : Int)), (5, .own 1 0 s.2.2 3)]) (fun s => [(1, some (flat lA s.2.1))]) (fun s => s.1 ≤ p.types.length ∧ s.2.1 = L ++ Mx p.types (aC p) f.Aa i s.1 ∧ s.2.2 = s.2.1.length ∧ s.2.2 ≤ 67 * i + s.1) (fun s => p.types.length - s.1) (0, L, m) ⟨Nat.zero_le _, (List.append_nil L).symm, hm, hmb⟩ ?_
  rintro ⟨v, L2, m2⟩ ⟨hv, hL2, hm2, hmb2⟩
  dsimp only at hv hL2 hm2 hmb2
  try dsimp only
  by_cases hvn : v < p.types.length
  ·have hga := kE p.types.length (aC p).length f.Aa i v hin hvn
   have hgl : (dL p.types.length (aC p).length f.Aa)[i]!.length = p.types.length := by rw [fQ _ _ _ _ hin]; simp
   repeat' (first|(apply aI;(apply aA (k := 173);rfl;(apply nA <;> (omega));exact Pur.pf;rfl))|refine aD ?_|refine aE ?_|(refine aM ?_ ?_ <;> intro hc hq <;> try (exfalso;omega))|(refine bU ?_ ?_ <;> intro hg hq <;> try (exfalso;omega))|refine b0 ?_|fail)
   ·(refine bH (v + 1, L2 ++ [⟨i, 1, v⟩], m2 + 1) (Le.renA [(0, 0), (1, 3)]) ?_ ?_)
    ·have hu : Gv p.types (aC p) f.Aa i v = true := by
      unfold Gv;rw [← hga, decide_eq_false (by assumption), (by assumption : (dL p.types.length (aC p).length f.Aa)[i]![v]! = false)]; rfl
     exact ⟨(by show v + 1 ≤ p.types.length;omega), (by show L2 ++ [⟨i, 1, v⟩] = _; rw [hL2, List.append_assoc, ← LF hu]), (by show m2 + 1 = (L2 ++ [_]).length;rw [List.length_append, List.length_singleton, hm2]), (by show m2 + 1 ≤ 67 * i + (v + 1);omega)⟩
    ·show p.types.length - (v + 1) < p.types.length - v;omega
   ·(refine bH (v + 1, L2, m2) (Le.renA [(0, 0), (1, 1)]) ?_ ?_)
    ·have hu : Gv p.types (aC p) f.Aa i v = false := by
      unfold Gv;rw [← hga, (by assumption : (dL p.types.length (aC p).length f.Aa)[i]![v]! = true)]; simp
     exact ⟨(by show v + 1 ≤ p.types.length;omega), (by show L2 = _; rw [Bf hu]; exact hL2), hm2, (by show m2 ≤ 67 * i + (v + 1);omega)⟩
    ·show p.types.length - (v + 1) < p.types.length - v;omega
   ·(refine bH (v + 1, L2, m2) (Le.renA [(0, 0), (1, 1)]) ?_ ?_)
    ·have hu : Gv p.types (aC p) f.Aa i v = false := by
      unfold Gv;rw [decide_eq_true (by assumption)]; rfl
     exact ⟨(by show v + 1 ≤ p.types.length;omega), (by show L2 = _; rw [Bf hu]; exact hL2), hm2, (by show m2 ≤ 67 * i + (v + 1);omega)⟩
    ·show p.types.length - (v + 1) < p.types.length - v;omega
  ·have hvN : v = p.types.length := by omega
   have hset := w.set i hin
   have hy := w.y i hin
   have hfi : ((List.range (aC p).length).map (lO p.types.length (aC p).length f.Af f.Ap))[i]! = lO p.types.length (aC p).length f.Af f.Ap i := bR _ _ _ hin
   have hgm : (dL p.types.length (aC p).length f.Am)[i]!.length = p.types.length := by rw [fQ _ _ _ _ hin]; simp
   have hgl : (dL p.types.length (aC p).length f.Al)[i]!.length = p.types.length := by rw [fQ _ _ _ _ hin]; simp
   have hf2 : (lO p.types.length (aC p).length f.Af f.Ap i).2.length = (aC p).length := by simp [lO]
   have hf1 : (lO p.types.length (aC p).length f.Af f.Ap i).1.length = p.types.length := by simp [lO]
   have hf3 : ∀ v, v < p.types.length → (lO p.types.length (aC p).length f.Af f.Ap i).1[v]!.length = (lO p.types.length (aC p).length f.Af f.Ap i).2.length := fun v hv => by
    rw [hf2]; unfold lO;dsimp only;rw [bR _ _ _ hv]; simp
   have hacc := x9 p.types (aC p)[i]! (dL p.types.length (aC p).length f.Am)[i]! htl hgm hset.1 hy
   have hlv := Hk p.types (aC p)[i]! ((List.range (aC p).length).map (lO p.types.length (aC p).length f.Af f.Ap))[i]!.1 ((List.range (aC p).length).map (lO p.types.length (aC p).length f.Af f.Ap))[i]!.2 (dL p.types.length (aC p).length f.Al)[i]! htl (by rw [hfi, hf2]; exact hpl) hgl (by rw [hfi]; exact hf1) (by rw [hfi]; exact hf3)
   have hlvl : (EW p.types (aC p)[i]! ((List.range (aC p).length).map (lO p.types.length (aC p).length f.Af f.Ap))[i]!.1 (dL p.types.length (aC p).length f.Al)[i]! ((List.range (aC p).length).map (lO p.types.length (aC p).length f.Af f.Ap))[i]!.2.length).length = (aC p).length := by unfold EW;rw [List.length_map, List.length_range, hfi, hf2]
   have hcn := vH (aC p) (iD p.types (aC p)[i]! (dL p.types.length (aC p).length f.Am)[i]![(aN (aC p)[i]!).toNat]!) ((List.range (aC p).length).map (lO p.types.length (aC p).length f.Af f.Ap))[i]!.1 ((List.range (aC p).length).map (lO p.types.length (aC p).length f.Af f.Ap))[i]!.2 (EW p.types (aC p)[i]! ((List.range (aC p).length).map (lO p.types.length (aC p).length f.Af f.Ap))[i]!.1 (dL p.types.length (aC p).length f.Al)[i]! ((List.range (aC p).length).map (lO p.types.length (aC p).length f.Af f.Ap))[i]!.2.length) hpl (by have := AX p.types (aC p)[i]! (dL p.types.length (aC p).length f.Am)[i]![(aN (aC p)[i]!).toNat]!; omega) (by rw [hfi]; exact hf2) hlvl
   have hcf : ME (aC p) (iD p.types (aC p)[i]! (dL p.types.length (aC p).length f.Am)[i]![(aN (aC p)[i]!).toNat]!) ((List.range (aC p).length).map (lO p.types.length (aC p).length f.Af f.Ap))[i]!.2 (EW p.types (aC p)[i]! ((List.range (aC p).length).map (lO p.types.length (aC p).length f.Af f.Ap))[i]!.1 (dL p.types.length (aC p).length f.Al)[i]! ((List.range (aC p).length).map (lO p.types.length (aC p).length f.Af f.Ap))[i]!.2.length) = L5 p.types (aC p) f.Am f.Al f.Af f.Ap i := by
    rw [hfi, hf2]; rfl
   have hcl : (L5 p.types (aC p) f.Am f.Al f.Af f.Ap i).length = (aC p).length := by unfold L5;rw [yD]
   repeat' (first|(apply aI;first|(apply aA (k := 175);rfl;exact hacc;exact Pur.pf;rfl)|(apply aA (k := 176);rfl;exact hlv;exact Pur.pf;rfl)|(apply aA (k := 174);rfl;exact hcn;exact Pur.pf;rfl)|(with_reducible apply a7 (d := 14)))|refine aD ?_|refine aE ?_|(refine aM ?_ ?_ <;> intro hc hq <;> try (exfalso;omega))|refine b0 ?_|fail)
   refine cK ?_
   rw [hcf]
   repeat' (first|refine aD ?_|refine aE ?_|fail)
   refine aK (σ := Nat × List Iss × Nat) [1, 2, 6, 7, 8, 9, 10, 13] [0] (fun s => [(14, iv (s.1 : Int)), (5, .own 1 0 s.2.2 3)]) (fun s => [(1, some (flat lA s.2.1))]) (fun s => s.1 ≤ (aC p).length ∧ s.2.1 = L2 ++ MY (aC p) (L5 p.types (aC p) f.Am f.Al f.Af f.Ap i) i s.1 ∧ s.2.2 = s.2.1.length ∧ s.2.2 ≤ 67 * i + 6 + s.1) (fun s => (aC p).length - s.1) (0, L2, m2) ⟨Nat.zero_le _, (List.append_nil L2).symm, hm2, by show m2 ≤ 67 * i + 6 + 0;omega⟩ ?_
   rintro ⟨l, L3, m3⟩ ⟨hl, hL3, hm3, hmb3⟩
   dsimp only at hl hL3 hm3 hmb3
   try dsimp only
   by_cases hln : l < (aC p).length
   ·repeat' (first | refine aD ?_ | refine aE ?_ | (refine aM ?_ ?_ <;> intro hc hq <;> try (exfalso; omega))|fail)
    ·(refine bH (l + 1, L3, m3) (Le.renA [(0, 0), (1, 1)]) ?_ ?_)
     ·exact ⟨(by show l + 1 ≤ (aC p).length;omega), (by show L3 = _; rw [IV (by assumption)]; exact hL3), hm3, (by show m3 ≤ 67 * i + 6 + (l + 1);omega)⟩
     ·show (aC p).length - (l + 1) < (aC p).length - l;omega
    ·(refine bH (l + 1, L3 ++ [⟨i, 3, l⟩], m3 + 1) (Le.renA [(0, 0), (1, 3)]) ?_ ?_)
     ·have hk : NZ (aC p) l = 3 := by unfold NZ; rw [if_pos (by assumption)]
      exact ⟨(by show l + 1 ≤ (aC p).length;omega), (by show L3 ++ [⟨i, 3, l⟩] = _; rw [hL3, List.append_assoc, ← hk, ← DR (by assumption)]), (by show m3 + 1 = (L3 ++ [_]).length;rw [List.length_append, List.length_singleton, hm3]), (by show m3 + 1 ≤ 67 * i + 6 + (l + 1);omega)⟩
     ·show (aC p).length - (l + 1) < (aC p).length - l;omega
    ·(refine bH (l + 1, L3 ++ [⟨i, 2, l⟩], m3 + 1) (Le.renA [(0, 0), (1, 3)]) ?_ ?_)
     ·have hk : NZ (aC p) l = 2 := by unfold NZ; rw [if_neg (by assumption)]
      exact ⟨(by show l + 1 ≤ (aC p).length;omega), (by show L3 ++ [⟨i, 2, l⟩] = _; rw [hL3, List.append_assoc, ← hk, ← DR (by assumption)]), (by show m3 + 1 = (L3 ++ [_]).length;rw [List.length_append, List.length_singleton, hm3]), (by show m3 + 1 ≤ 67 * i + 6 + (l + 1);omega)⟩
     ·show (aC p).length - (l + 1) < (aC p).length - l;omega
   ·repeat' (first | refine aD ?_ | refine aE ?_ | (refine aM ?_ ?_ <;> intro hc hq <;> try (exfalso; omega))|fail)
    (refine bH (i + 1, L3, m3) (Le.renA [(0, 0), (1, 1)]) ?_ ?_)
    ·refine ⟨(by show i + 1 ≤ (aC p).length; omega), ?_, hm3, (by show m3 ≤ 67 * (i + 1); omega)⟩
     show L3 = zU p.types (aC p) f.Aa f.Am f.Al f.Af f.Ap (i + 1)
     rw [wM, ← Ma w f hin, hL3, hL2, hL, hvN, show l = (aC p).length by omega, List.append_assoc]
     rfl
    ·show (aC p).length - (i + 1) < (aC p).length - i;omega
 ·repeat' (first | refine aD ?_ | refine aE ?_ | (refine aM ?_ ?_ <;> intro hc hq <;> try (exfalso; omega))|fail)
  have hiN : i = (aC p).length := by omega
  refine aV (Le.frzD (d := 4) (i := 1) rfl rfl) ?_
  refine aF rfl ⟨?_, (by (exact bG _ _))⟩
  simp only [aQ]
  rw [hm, hL, hiN]; rfl
theorem Iw (p : Prg) (f : Flows p.types (aC p)) (hl : p.types.length ≤ 1000000) (hs : aP p.body ≤ 1000000) : PC Tryz.prog 98 [bQ p] (fun r => r = sl lA (vM p f)) := by
 unfold vM
 cases hv : bB p
 ·have hval := gY p hl (by omega)
  rw [hv] at hval
  refine aB Tryz.func98 Tryz.ntmps98 ?_
  repeat' (first|(apply aI;first|(apply aA (k := 61);rfl;exact hval;exact Pur.pf;rfl)|(apply aO (t := _);rfl;rfl;rfl;(rfl);rfl;rfl))|refine aD ?_|refine aE ?_|fail)
  exact aF rfl ⟨rfl, rfl⟩
 ·have w := WG.of_valid hv
  have hr := Rch.of p
  have hval := gY p hl (by omega)
  rw [hv] at hval
  have hlv := Ic p f.Al hs w f.gl
  have hck := FP p f hs w hr
  refine aB Tryz.func98 Tryz.ntmps98 ?_
  repeat' (first|(apply aI;first|(apply aA (k := 61);rfl;exact hval;exact Pur.pf;rfl)|(apply aA (k := 170);rfl;exact hlv;exact Pur.pf;rfl)|(apply aA (k := 169);rfl;exact hck;exact Pur.pf;rfl))|refine aD ?_|refine aE ?_|refine b0 ?_|fail)
  exact aF rfl ⟨rfl, (by (exact bG _ _))⟩
theorem C6 (p : Prg) (f : Flows p.types (aC p)) (hl : p.types.length ≤ 1000000) (hs : aP p.body ≤ 1000000) : PC Tryz.prog 65 [bQ p] (fun r => r = bv (bB p && (vM p f).isEmpty)) := by
 have hval := gY p hl (by omega)
 refine aB Tryz.func65 Tryz.ntmps65 ?_
 repeat' (first|(apply aI;first|(apply aA (k := 98);rfl;exact Iw p f hl hs;exact Pur.pf;rfl)|(apply aA (k := 61);rfl;exact hval;exact Pur.pf;rfl))|refine aD ?_|refine aE ?_|(refine bU ?_ ?_ <;> intro hg hq <;> try (exfalso;omega))|fail)
 all_goals generalize vM p f = L at *
 all_goals refine aF rfl ⟨?_, rfl⟩
 all_goals simp only [aQ]
 ·rw [show bB p = true by assumption]
  cases L with
  | nil => rfl
  | cons a b => simp;omega
 ·rw [show bB p = false by assumption]; rfl
abbrev dP (bs : List UInt8) (p : Nat) : List AV := [sl cU bs, iv (p : Int)]
def LZ (bs : List UInt8) (q : Int) : Int := ((bs[(q % (bs.length : Int)).toNat]!).toNat : Int) * 131 + ((bs[((q * 7 + 3) % (bs.length : Int)).toNat]!).toNat : Int) * 1117 + q * 29 + q / (bs.length : Int) * 53
def bC (bs : List UInt8) (p : Nat) (n : Int) : Int :=
 if n < 1 then 0 else if (bs.length : Int) = 0 then 0 else
 if (p : Int) + 1 - 1 < (bs.length : Int) then ((bs[((p : Int) + 1 - 1).toNat]!).toNat : Int) % n
 else (((LZ bs ((p : Int) + 1 - 1)).toNat ^^^ (LZ bs ((p : Int) + 1 - 1) / 64).toNat : Nat) : Int) % n
theorem eZ (bs : List UInt8) (p : Nat) (n : Int) : 0 ≤ bC bs p n ∧ (bC bs p n < n ∨ n < 1 ∧ bC bs p n = 0) := by
 unfold bC
 split
 ·omega
 ·split
  ·omega
  ·split
   ·exact ⟨Int.emod_nonneg _ (by omega), .inl (Int.emod_lt_of_pos _ (by omega))⟩
   ·exact ⟨Int.emod_nonneg _ (by omega), .inl (Int.emod_lt_of_pos _ (by omega))⟩
def fT (bs : List UInt8) (p : Nat) (xs : List Int) : Int := xs[(bC bs p (xs.length : Int)).toNat]!
class NumL (cs : List AV) (xs : outParam (List Int)) : Prop where h : cs = flat cI xs
instance NumL.nil : NumL [] [] := ⟨rfl⟩
instance NumL.cons {n : Int} {cs : List AV} {xs : List Int} [h : NumL cs xs] : NumL (.v (.int .i64 n) :: cs) (n :: xs) := ⟨by rw [h.h]; rfl⟩
theorem jQ {bs : List UInt8} {p : Nat} {n : Int} {N : Nat} {Q : Exit → AS → Prop} {all : Array Oper} {rest : List Oper} {tsl : List (Nat × AV)} {hsl : List (Nat × Option (List AV))} {nidl : Nat} {z0 : Lo} {md : Md} {d : Nat} {ty : TypeId} {pos : String} {af : Array Edge} {tys : Array TypeId} {x0 x1 : Operand} {i0 : Nat} (ha0 : ev (lk tsl) x0 = some (.optr i0 0)) (ha1 : ev (lk tsl) x1 = some (iv n)) (hH0 : aS hsl i0 = some (dP bs p)) (hmc : MC Tryz.prog 52 [.optr 0 0, iv n] [(0, some (dP bs p))] 1 (fun _ : Unit => True) (fun _ => iv (bC bs p n)) (fun _ => [(0, some (dP bs (p + 1)))])) (hM : Nat.ble (nidl + 0) aY = true) (hN : Nat.blt d N = true) {md' : Md} [hmd : MdA md (fK [x0, x1] ++ [.inr i0]) (List.map Sum.inr (List.map Prod.fst ([(i0, some (dP bs (p + 1)))] : List (Nat × Option (List AV)))) ++ [.inl d]) md'] (kk : RW Tryz.prog N all Q md' rest ⟨(d, iv (bC bs p n)) :: tsl, gR hsl [(i0, some (dP bs (p + 1)))], nidl + 0, z0⟩) : RW Tryz.prog N all Q md (⟨some d, .call ⟨.value (.func 52), #[x0, x1], tys⟩, ty, pos, af, none⟩ :: rest) ⟨tsl, hsl, nidl, z0⟩ := by
 refine a6 [i0] 1 [(i0, some (dP bs (p + 1)))] hmc (avs := [.optr i0 0, iv n]) ?_ rfl ?_ rfl ?_ (by simpa using hM) ?_ ?_ ?_ hN (md' := md') (hmd := hmd) kk
 ·show evL (lk tsl) [x0, x1] = _
  simp only [evL, ha0, ha1]
 ·exact ⟨⟨_, _, rfl, hH0, by (repeat' (exact RnL.purI inferInstance))⟩, trivial⟩
 ·(repeat' (first|exact RnL.purI inferInstance|exact RnV.optr rfl|refine RnL.cons ?_ ?_))
 ·(repeat' (exact RnV.purI inferInstance))
 ·simp [cA]
 ·(repeat' (first|exact trivial|(refine And.intro ⟨0, _, rfl, rfl, ?_⟩ ?_)|exact RnL.purI inferInstance))
theorem J1 {bs : List UInt8} {p : Nat} {xs : List Int} {N : Nat} {Q : Exit → AS → Prop} {all : Array Oper} {rest : List Oper} {tsl : List (Nat × AV)} {hsl : List (Nat × Option (List AV))} {nidl : Nat} {z0 : Lo} {md : Md} {d : Nat} {ty : TypeId} {pos : String} {af : Array Edge} {tys : Array TypeId} {x0 x1 : Operand} {i0 : Nat} (ha0 : ev (lk tsl) x0 = some (.optr i0 0)) (ha1 : ev (lk tsl) x1 = some (sl cI xs)) (hH0 : aS hsl i0 = some (dP bs p)) (hmc : MC Tryz.prog 53 [.optr 0 0, sl cI xs] [(0, some (dP bs p))] 1 (fun _ : Unit => True) (fun _ => iv (fT bs p xs)) (fun _ => [(0, some (dP bs (p + 1)))])) (hM : Nat.ble (nidl + 0) aY = true) (hN : Nat.blt d N = true) {md' : Md} [hmd : MdA md (fK [x0, x1] ++ [.inr i0]) (List.map Sum.inr (List.map Prod.fst ([(i0, some (dP bs (p + 1)))] : List (Nat × Option (List AV)))) ++ [.inl d]) md'] (kk : RW Tryz.prog N all Q md' rest ⟨(d, iv (fT bs p xs)) :: tsl, gR hsl [(i0, some (dP bs (p + 1)))], nidl + 0, z0⟩) : RW Tryz.prog N all Q md (⟨some d, .call ⟨.value (.func 53), #[x0, x1], tys⟩, ty, pos, af, none⟩ :: rest) ⟨tsl, hsl, nidl, z0⟩ := by
 refine a6 [i0] 1 [(i0, some (dP bs (p + 1)))] hmc (avs := [.optr i0 0, sl cI xs]) ?_ rfl ?_ rfl ?_ (by simpa using hM) ?_ ?_ ?_ hN (md' := md') (hmd := hmd) kk
 ·show evL (lk tsl) [x0, x1] = _
  simp only [evL, ha0, ha1]
 ·exact ⟨⟨_, _, rfl, hH0, by (repeat' (exact RnL.purI inferInstance))⟩, trivial⟩
 ·(repeat' (first|exact RnL.purI inferInstance|exact RnV.optr rfl|refine RnL.cons ?_ ?_))
 ·(repeat' (exact RnV.purI inferInstance))
 ·simp [cA]
 ·(repeat' (first|exact trivial|(refine And.intro ⟨0, _, rfl, rfl, ?_⟩ ?_)|exact RnL.purI inferInstance))
theorem GU {bs : List UInt8} {p : Nat} {xs : List Int} {N : Nat} {Q : Exit → AS → Prop} {all : Array Oper} {rest : List Oper} {tsl : List (Nat × AV)} {hsl : List (Nat × Option (List AV))} {nidl : Nat} {z0 : Lo} {md : Md} {d : Nat} {ty : TypeId} {pos : String} {af : Array Edge} {tys : Array TypeId} {x0 x1 : Operand} {i0 i1 : Nat} (ha0 : ev (lk tsl) x0 = some (.optr i0 0)) (ha1 : ev (lk tsl) x1 = some (.own i1 0 xs.length 1)) (hH0 : aS hsl i0 = some (dP bs p)) (hH1 : aS hsl i1 = some (flat cI xs)) (hdd : Go.AL.distinct [i0, i1] = true) (hmc : MC Tryz.prog 53 [.optr 0 0, .own 1 0 xs.length 1] [(0, some (dP bs p)), (1, some (flat cI xs))] 2 (fun _ : Unit => True) (fun _ => iv (fT bs p xs)) (fun _ => [(0, some (dP bs (p + 1)))])) (hM : Nat.ble (nidl + 0) aY = true) (hN : Nat.blt d N = true) {md' : Md} [hmd : MdA md (fK [x0, x1] ++ [.inr i0, .inr i1]) (List.map Sum.inr (List.map Prod.fst ([(i0, some (dP bs (p + 1))), (i1, none)] : List (Nat × Option (List AV)))) ++ [.inl d]) md'] (kk : RW Tryz.prog N all Q md' rest ⟨(d, iv (fT bs p xs)) :: tsl, gR hsl [(i0, some (dP bs (p + 1))), (i1, none)], nidl + 0, z0⟩) : RW Tryz.prog N all Q md (⟨some d, .call ⟨.value (.func 53), #[x0, x1], tys⟩, ty, pos, af, none⟩ :: rest) ⟨tsl, hsl, nidl, z0⟩ := by
 refine a6 [i0, i1] 2 [(i0, some (dP bs (p + 1))), (i1, none)] hmc (avs := [.optr i0 0, .own i1 0 xs.length 1]) ?_ hdd ?_ rfl ?_ (by simpa using hM) ?_ ?_ ?_ hN (md' := md') (hmd := hmd) kk
 ·show evL (lk tsl) [x0, x1] = _
  simp only [evL, ha0, ha1]
 ·exact ⟨⟨_, _, rfl, hH0, by (repeat' (exact RnL.purI inferInstance))⟩, ⟨⟨_, _, rfl, hH1, by (repeat' (exact RnL.purI inferInstance))⟩, trivial⟩⟩
 ·(repeat' (first|exact RnL.purI inferInstance|exact RnV.own rfl|exact RnV.optr rfl|refine RnL.cons ?_ ?_))
 ·(repeat' (exact RnV.purI inferInstance))
 ·simp [cA]
 ·(repeat' (first|exact trivial|(refine And.intro ⟨0, _, rfl, rfl, ?_⟩ ?_)|exact RnL.purI inferInstance))
theorem l4 (bs : List UInt8) (p : Nat) (n : Int) (hb : bs.length ≤ 2000) (hp : p ≤ 1000000) (hn0 : 0 ≤ n) (hn : n ≤ 1000000) : MC Tryz.prog 52 [.optr 0 0, iv n] [(0, some (dP bs p))] 1 (fun _ : Unit => True) (fun _ => iv (bC bs p n)) (fun _ => [(0, some (dP bs (p + 1)))]) := by
 have hdiv : 0 ≤ ((p : Int) + 1 - 1) / (bs.length : Int) ∧ ((p : Int) + 1 - 1) / (bs.length : Int) ≤ p + 1 - 1 := ⟨Int.ediv_nonneg (by omega) (by omega), Int.ediv_le_self _ (by omega)⟩
 refine aX Tryz.func52 Tryz.ntmps52 ?_
 repeat' (first|(apply aI;(apply I0;rfl;rfl;(case' kk => intro hbd)))|refine aD ?_|refine aE ?_|(refine aM ?_ ?_ <;> intro hc hq <;> try (exfalso;omega))|(refine bU ?_ ?_ <;> intro hg hq <;> try (exfalso;omega))|refine b0 ?_|fail)
 all_goals (refine aF rfl ?_; refine aU () trivial ?_ ⟨.inr (Eq.trans (b := some _) rfl ?_), trivial⟩)
 all_goals first|rfl|skip
 all_goals simp only [aQ, AV.v.injEq, Value.int.injEq, true_and, bC]
 ·rw [if_neg (by omega), if_pos (by omega)]
 ·rw [if_neg (by omega), if_neg (by omega), if_pos (by omega)]
 ·rw [if_neg (by omega), if_neg (by omega), if_neg (by omega)]; rfl
 ·rw [if_pos (by omega)]
theorem M6 (bs : List UInt8) (p : Nat) (xs : List Int) (hb : bs.length ≤ 2000) (hp : p ≤ 1000000) (h0 : 0 < xs.length) (hn : xs.length ≤ 1000000) : MC Tryz.prog 53 [.optr 0 0, sl cI xs] [(0, some (dP bs p))] 1 (fun _ : Unit => True) (fun _ => iv (fT bs p xs)) (fun _ => [(0, some (dP bs (p + 1)))]) := by
 have hpf := eZ bs p xs.length
 refine aX Tryz.func53 Tryz.ntmps53 ?_
 repeat' (first|(apply aI;(apply jQ;rfl;rfl;(rfl);(apply l4 <;> (first|assumption|omega));rfl;rfl))|refine aD ?_|refine aE ?_|fail)
 (refine aF rfl ?_; refine aU () trivial ?_ ⟨.inr (Eq.trans (b := some _) rfl ?_), trivial⟩)
 ·rfl
 ·rfl
theorem HC {Q : Exit → AS → Prop} {all : Array Oper} {rest : List Oper} {N : Nat} {tsl : List (Nat × AV)} {hsl : List (Nat × Option (List AV))} {nidl : Nat} {z0 : Lo} {md : Md} {d : Nat} {ty : TypeId} {pos : String} {af : Array Edge} {tys : Array TypeId}
  {bs : List UInt8} {p m : Nat} {cs : List AV} {xs : List Int} {x0 x1 : Operand} {i0 : Nat} (ha0 : ev (lk tsl) x0 = some (.optr i0 0)) (ha1 : ev (lk tsl) x1 = some (.imm m cs)) (hcs : NumL cs xs) (hH0 : aS hsl i0 = some (dP bs p))
  (hm : m = xs.length) (hb : bs.length ≤ 2000) (hp : p ≤ 1000000) (h0 : 0 < xs.length) (hn : xs.length ≤ 1000000) (hM : Nat.ble (nidl + 0) aY = true) (hN : Nat.blt d N = true) {md' : Md}
  [hmd : MdA md (fK [x0, x1] ++ [.inr i0]) [.inr i0, .inl d] md']
  (kk : RW Tryz.prog N all Q md' rest ⟨(d, iv (fT bs p xs)) :: tsl, (i0, some (dP bs (p + 1))) :: hsl, nidl + 0, z0⟩) : RW Tryz.prog N all Q md (⟨some d, .call ⟨.value (.func 53), #[x0, x1], tys⟩, ty, pos, af, none⟩ :: rest) ⟨tsl, hsl, nidl, z0⟩ := by
 have h := hcs.h
 subst hm h
 exact J1 ha0 ha1 hH0 (M6 bs p xs hb hp h0 hn) hM hN (hmd := hmd) kk
theorem JH (bs : List UInt8) (p : Nat) (xs : List Int) (hb : bs.length ≤ 2000) (hp : p ≤ 1000000) (h0 : 0 < xs.length) (hn : xs.length ≤ 1000000) : MC Tryz.prog 53 [.optr 0 0, .own 1 0 xs.length 1] [(0, some (dP bs p)), (1, some (flat cI xs))] 2 (fun _ : Unit => True) (fun _ => iv (fT bs p xs)) (fun _ => [(0, some (dP bs (p + 1)))]) := by
 have hpf := eZ bs p xs.length
 refine aX Tryz.func53 Tryz.ntmps53 ?_
 repeat' (first|(apply aI;(apply jQ;rfl;rfl;(rfl);(apply l4 <;> (first|assumption|omega));rfl;rfl))|refine aD ?_|refine aE ?_|fail)
 (refine aF rfl ?_; refine aU () trivial ?_ ⟨.inr (Eq.trans (b := some _) rfl ?_), trivial⟩)
 ·rfl
 ·rfl
theorem m5 {Q : Exit → AS → Prop} {all : Array Oper} {rest : List Oper} {N : Nat} {tsl : List (Nat × AV)} {hsl : List (Nat × Option (List AV))} {nidl : Nat} {z0 : Lo} {md : Md} {d : Nat} {ty : TypeId} {pos : String} {af : Array Edge} {tys : Array TypeId}
  {bs : List UInt8} {p m : Nat} {cs : List AV} {xs : List Int} {x0 x1 : Operand} {i0 i1 : Nat} (ha0 : ev (lk tsl) x0 = some (.optr i0 0)) (ha1 : ev (lk tsl) x1 = some (.own i1 0 m 1)) (hH0 : aS hsl i0 = some (dP bs p)) (hH1 : aS hsl i1 = some cs) (hcs : NumL cs xs)
  (hdd : Go.AL.distinct [i0, i1] = true) (hm : m = xs.length) (hb : bs.length ≤ 2000) (hp : p ≤ 1000000) (h0 : 0 < xs.length) (hn : xs.length ≤ 1000000) (hM : Nat.ble (nidl + 0) aY = true) (hN : Nat.blt d N = true) {md' : Md}
  [hmd : MdA md (fK [x0, x1] ++ [.inr i0, .inr i1]) [.inr i0, .inr i1, .inl d] md']
  (kk : RW Tryz.prog N all Q md' rest ⟨(d, iv (fT bs p xs)) :: tsl, gR hsl [(i0, some (dP bs (p + 1))), (i1, none)], nidl + 0, z0⟩) : RW Tryz.prog N all Q md (⟨some d, .call ⟨.value (.func 53), #[x0, x1], tys⟩, ty, pos, af, none⟩ :: rest) ⟨tsl, hsl, nidl, z0⟩ := by
 have h := hcs.h
 subst hm h
 exact GU ha0 ha1 hH0 hH1 hdd (JH bs p xs hb hp h0 hn) hM hN (hmd := hmd) kk
theorem Nv (bs : List UInt8) (hb : bs.length ≤ 1048576) : MC Tryz.prog 51 [sl cU bs] [] 0 (fun _ : Unit => True) (fun _ => .optr 0 0) (fun _ => [(0, some (dP (bs.take 2000) 0))]) := by
 refine aX Tryz.func51 Tryz.ntmps51 ?_
 repeat' (first|refine aD ?_|refine aE ?_|(refine aM ?_ ?_ <;> intro hc hq <;> try (exfalso;omega))|fail)
 ·(refine aF rfl ?_; refine aU () trivial ?_ ⟨.inr (Eq.trans (b := some _) rfl ?_), trivial⟩)
  ·rfl
  ·rfl
 ·(refine aF rfl ?_; refine aU () trivial ?_ ⟨.inr (Eq.trans (b := some _) rfl ?_), trivial⟩)
  ·rfl
  ·rw [List.take_of_length_le (by omega)]; rfl
def st (op x y n : Int) : AL.Stmt := .mk op x y n [] []
def jP (bs : List UInt8) (p : Nat) : AL.Stmt × Nat :=
 let box := 1 + bC bs p 2
 let owner := fT bs (p + 1) [1, 2, 1, 4, 5]
 let c := bC bs (p + 1 + 1) 11
 if c = 0 then (st 1 0 0 (bC bs (p + 1 + 1 + 1) 10), p + 4)
 else if c = 1 then (st 2 box 0 (bC bs (p + 1 + 1 + 1) 10), p + 4)
 else if c = 2 then (st 3 box (3 - box) 0, p + 3)
 else if c = 3 then (st 4 3 owner 0, p + 3)
 else if c = 4 ∨ c = 5 then (st 5 4 (fT bs (p + 1 + 1 + 1) [1, 2, 1, 5]) 0, p + 4)
 else if c = 6 then (st 6 0 (fT bs (p + 1 + 1 + 1) [3, 4, 1, 2, 5]) 0, p + 4)
 else if c = 7 then (st 7 (fT bs (p + 1 + 1 + 1) [4, 1, 2, 5]) 0 0, p + 4)
 else if c = 8 then (st 8 box 0 0, p + 3)
 else (st 5 5 (fT bs (p + 1 + 1 + 1) [4, 1, 2]) 0, p + 4)
def g7 (one : Nat → AL.Stmt × Nat) (s : AL.Stmt) (p : Nat) : Nat → List AL.Stmt × Nat
 | 0 => ([s], p)
 | k + 1 => ((g7 one s p k).1 ++ [(one (g7 one s p k).2).1], (one (g7 one s p k).2).2)
def vG (bs : List UInt8) : Nat → Nat → AL.Stmt × Nat
 | 0, p => jP bs p
 | d + 1, p =>
  let c := bC bs (p + 1 + 1) 11
  if c = 9 then
   let r := g7 (vG bs d) (st 2 1 0 (bC bs (p + 1 + 1 + 1 + 1) 10)) (p + 1 + 1 + 1 + 1 + 1) (bC bs (p + 1 + 1 + 1) 3).toNat
   let e := jP bs r.2
   (.mk 9 0 0 0 r.1 [e.1], e.2)
  else if c = 10 then
   let a := jP bs (p + 1 + 1 + 1)
   let b := jP bs a.2
   (.mk 10 0 0 0 [a.1, b.1] [], b.2)
  else jP bs p
def eR (bs : List UInt8) (d : Int) (p : Nat) : AL.Stmt × Nat := vG bs d.toNat p
def dJ (bs : List UInt8) (d n : Int) (p : Nat) : List AL.Stmt × Nat := g7 (eR bs d) (st 2 1 0 (bC bs p 10)) (p + 1) n.toNat
theorem tC (bs : List UInt8) (p : Nat) : (jP bs p).2 ≤ p + 4 := by
 unfold jP;dsimp only;repeat' split
 all_goals omega
theorem uE (bs : List UInt8) (p : Nat) : cL (jP bs p).1 = 1 := by
 unfold jP st;dsimp only;repeat' split
 all_goals simp [cL, aP]
theorem x4 {one : Nat → AL.Stmt × Nat} {c : Nat} (h : ∀ p, (one p).2 ≤ p + c) (s : AL.Stmt) (p : Nat) : ∀ k, (g7 one s p k).2 ≤ p + k * c
 | 0 => by simp [g7]
 | k + 1 => by
  have := x4 h s p k
  have := h (g7 one s p k).2
  simp only [g7, Nat.succ_mul]; omega
theorem yT {one : Nat → AL.Stmt × Nat} {c : Nat} (h : ∀ p, cL (one p).1 ≤ c) (s : AL.Stmt) (p : Nat) : ∀ k, aP (g7 one s p k).1 ≤ cL s + k * c
 | 0 => by simp [g7, aP]
 | k + 1 => by
  have := yT h s p k
  have := h (g7 one s p k).2
  simp only [g7, Nat.succ_mul, c8, aP]; omega
def AZ : Nat → Nat
 | 0 => 4
 | d + 1 => 9 + 2 * AZ d
def FR : Nat → Nat
 | 0 => 1
 | d + 1 => 3 + 2 * FR d
theorem k3 (bs : List UInt8) (p : Nat) : (bC bs p 3).toNat ≤ 2 := by have := eZ bs p 3; omega
theorem GL (bs : List UInt8) : ∀ d p, (vG bs d p).2 ≤ p + AZ d
 | 0, p => tC bs p
 | d + 1, p => by
  have h0 := tC bs p
  have h1 := x4 (GL bs d) (st 2 1 0 (bC bs (p + 1 + 1 + 1 + 1) 10)) (p + 1 + 1 + 1 + 1 + 1) (bC bs (p + 1 + 1 + 1) 3).toNat
  have h2 := k3 bs (p + 1 + 1 + 1)
  have h3 : (bC bs (p + 1 + 1 + 1) 3).toNat * AZ d ≤ 2 * AZ d := Nat.mul_le_mul_right _ h2
  have h4 := tC bs (g7 (vG bs d) (st 2 1 0 (bC bs (p + 1 + 1 + 1 + 1) 10)) (p + 1 + 1 + 1 + 1 + 1) (bC bs (p + 1 + 1 + 1) 3).toNat).2
  have h5 := tC bs (p + 1 + 1 + 1)
  have h6 := tC bs (jP bs (p + 1 + 1 + 1)).2
  have h7 : 1 ≤ AZ d := by cases d <;> simp only [AZ] <;> omega
  simp only [vG, AZ]
  split
  ·dsimp only;omega
  ·split
   ·dsimp only;omega
   ·omega
theorem GP (bs : List UInt8) : ∀ d p, cL (vG bs d p).1 ≤ FR d
 | 0, p => by rw [vG, uE]; decide
 | d + 1, p => by
  have h0 := uE bs p
  have h1 := yT (GP bs d) (st 2 1 0 (bC bs (p + 1 + 1 + 1 + 1) 10)) (p + 1 + 1 + 1 + 1 + 1) (bC bs (p + 1 + 1 + 1) 3).toNat
  have h2 := k3 bs (p + 1 + 1 + 1)
  have h3 : (bC bs (p + 1 + 1 + 1) 3).toNat * FR d ≤ 2 * FR d := Nat.mul_le_mul_right _ h2
  have h4 := uE bs (g7 (vG bs d) (st 2 1 0 (bC bs (p + 1 + 1 + 1 + 1) 10)) (p + 1 + 1 + 1 + 1 + 1) (bC bs (p + 1 + 1 + 1) 3).toNat).2
  have h5 := uE bs (p + 1 + 1 + 1)
  have h6 := uE bs (jP bs (p + 1 + 1 + 1)).2
  have h7 : cL (st 2 1 0 (bC bs (p + 1 + 1 + 1 + 1) 10)) = 1 := by simp [st, cL, aP]
  simp only [vG, FR]
  split
  ·simp only [cL, aP]; omega
  ·split
   ·simp only [cL, aP]; omega
   ·omega
theorem Je (bs : List UInt8) {d : Int} (h : d ≤ 2) (p : Nat) : (eR bs d p).2 ≤ p + 43 := by
 have h1 := GL bs d.toNat p
 have h2 : AZ d.toNat ≤ 43 := by
  have : d.toNat = 0 ∨ d.toNat = 1 ∨ d.toNat = 2 := by omega
  rcases this with h|h|h <;> rw [h] <;> decide
 exact Nat.le_trans h1 (by omega)
theorem NA (bs : List UInt8) {d : Int} (h : d ≤ 2) (p : Nat) : cL (eR bs d p).1 ≤ 13 := by
 have h1 := GP bs d.toNat p
 have h2 : FR d.toNat ≤ 13 := by
  have : d.toNat = 0 ∨ d.toNat = 1 ∨ d.toNat = 2 := by omega
  rcases this with h|h|h <;> rw [h] <;> decide
 exact Nat.le_trans h1 h2
theorem wI {one : Nat → AL.Stmt × Nat} (s : AL.Stmt) (p : Nat) : ∀ k, (g7 one s p k).1.length = k + 1
 | 0 => rfl
 | k + 1 => by simp only [g7, List.length_append, wI s p k, List.length_cons, List.length_nil]
theorem Fq (bs : List UInt8) (d : Int) (n p : Nat) : (dJ bs d (n : Int) p).1.length = n + 1 := wI _ _ _
theorem Kq (bs : List UInt8) (d : Int) (k p : Nat) : dJ bs d ((k + 1 : Nat) : Int) p = ((dJ bs d (k : Int) p).1 ++ [(eR bs d (dJ bs d (k : Int) p).2).1], (eR bs d (dJ bs d (k : Int) p).2).2) := rfl
theorem AA {xs : List AL.Stmt} {m : Nat} {s : AL.Stmt} (hm : m = xs.length) : ((flat aH xs).drop 0).take (m * 6) ++ [iv s.op, iv s.x, iv s.y, iv s.n, sl aH s.th, sl aH s.el] = flat aH (xs ++ [s]) := g6 hm (c9 s).symm
def Pz (s : AL.Stmt) (a : Int) : AL.Stmt := .mk a s.x s.y s.n s.th s.el
def uX (s : AL.Stmt) (a : Int) : AL.Stmt := .mk s.op a s.y s.n s.th s.el
def uY (s : AL.Stmt) (a : Int) : AL.Stmt := .mk s.op s.x a s.n s.th s.el
def uN (s : AL.Stmt) (a : Int) : AL.Stmt := .mk s.op s.x s.y a s.th s.el
theorem MH {xs : List AL.Stmt} {k : Nat} {a : Int} (hk : k < xs.length) : gI (flat aH xs) (0 + k * 6 + 0) [iv a] = flat aH (xs.set k (Pz xs[k]! a)) := fA hk (by simp) (by rw [c9, c9]; rfl)
theorem Pf {xs : List AL.Stmt} {k : Nat} {a : Int} (hk : k < xs.length) : gI (flat aH xs) (0 + k * 6 + 1) [iv a] = flat aH (xs.set k (uX xs[k]! a)) := fA hk (by simp) (by rw [c9, c9]; rfl)
theorem OT {xs : List AL.Stmt} {k : Nat} {a : Int} (hk : k < xs.length) : gI (flat aH xs) (0 + k * 6 + 2) [iv a] = flat aH (xs.set k (uY xs[k]! a)) := fA hk (by simp) (by rw [c9, c9]; rfl)
theorem O7 {xs : List AL.Stmt} {k : Nat} {a : Int} (hk : k < xs.length) : gI (flat aH xs) (0 + k * 6 + 3) [iv a] = flat aH (xs.set k (uN xs[k]! a)) := fA hk (by simp) (by rw [c9, c9]; rfl)
theorem y8 (bs : List UInt8) {d : Int} (h : d ≤ 2) (n : Int) (p : Nat) : (dJ bs d n p).2 ≤ p + 1 + n.toNat * 43 := x4 (Je bs h) _ _ _
theorem JK (bs : List UInt8) {d : Int} (h : d ≤ 2) (n : Int) (p : Nat) : aP (dJ bs d n p).1 ≤ 1 + n.toNat * 13 := by
 have h7 : cL (st 2 1 0 (bC bs p 10)) = 1 := by simp [st, cL, aP]
 have := yT (NA bs h) (st 2 1 0 (bC bs p 10)) (p + 1) n.toNat
 rw [h7] at this
 exact this
theorem Cn (bs : List UInt8) {d : Int} (h : 0 < d) (p : Nat) : eR bs d p = 
  let c := bC bs (p + 1 + 1) 11
  if c = 9 then
   let r := dJ bs (d - 1) (bC bs (p + 1 + 1 + 1) 3) (p + 1 + 1 + 1 + 1)
   let e := eR bs 0 r.2
   (.mk 9 0 0 0 r.1 [e.1], e.2)
  else if c = 10 then
   let a := eR bs 0 (p + 1 + 1 + 1)
   let b := eR bs 0 a.2
   (.mk 10 0 0 0 [a.1, b.1] [], b.2)
  else jP bs p := by
 have : d.toNat = (d - 1).toNat + 1 := by omega
 simp only [eR, this, vG, dJ]
 rfl
theorem Oy (s : AL.Stmt) : flat aH [s] = [iv s.op, iv s.x, iv s.y, iv s.n, sl aH s.th, sl aH s.el] := by simp [flat, c9]
theorem Ph (s t : AL.Stmt) : flat aH [s, t] = [iv s.op, iv s.x, iv s.y, iv s.n, sl aH s.th, sl aH s.el, iv t.op, iv t.x, iv t.y, iv t.n, sl aH t.th, sl aH t.el] := by simp [flat, c9]
theorem NQ (bs : List UInt8) {d : Int} (h0 : 0 ≤ d) (p : Nat) (h : ¬ 0 < d ∨ (bC bs (p + 1 + 1) 11 ≠ 9 ∧ bC bs (p + 1 + 1) 11 ≠ 10)) : eR bs d p = jP bs p := by
 by_cases hd : 0 < d
 ·rw [Cn bs hd p]
  dsimp only
  rw [if_neg (by omega), if_neg (by omega)]
 ·have : d = 0 := by omega
  subst this;rfl
theorem MS (bs : List UInt8) {d : Int} (hd : 0 < d) (p : Nat) (h : bC bs (p + 1 + 1) 11 = 9) : eR bs d p = (.mk 9 0 0 0 (dJ bs (d - 1) (bC bs (p + 1 + 1 + 1) 3) (p + 1 + 1 + 1 + 1)).1 [(eR bs 0 (dJ bs (d - 1) (bC bs (p + 1 + 1 + 1) 3) (p + 1 + 1 + 1 + 1)).2).1], (eR bs 0 (dJ bs (d - 1) (bC bs (p + 1 + 1 + 1) 3) (p + 1 + 1 + 1 + 1)).2).2) := by
 rw [Cn bs hd p]
 dsimp only
 rw [if_pos h]
theorem Lh (bs : List UInt8) {d : Int} (hd : 0 < d) (p : Nat) (h : bC bs (p + 1 + 1) 11 = 10) : eR bs d p = (.mk 10 0 0 0 [(eR bs 0 (p + 1 + 1 + 1)).1, (eR bs 0 (eR bs 0 (p + 1 + 1 + 1)).2).1] [], (eR bs 0 (eR bs 0 (p + 1 + 1 + 1)).2).2) := by
 rw [Cn bs hd p]
 dsimp only
 rw [if_neg (by omega), if_pos h]
theorem Bu {bs : List UInt8} {p : Nat} {ts : List Int} {dp : Int} {N : Nat} {Q : Exit → AS → Prop} {all : Array Oper} {rest : List Oper} {tsl : List (Nat × AV)} {hsl : List (Nat × Option (List AV))} {nidl : Nat} {z0 : Lo} {md : Md} {d : Nat} {ty : TypeId} {pos : String} {af : Array Edge} {tys : Array TypeId} {x0 x1 x2 : Operand} {i0 : Nat} (ha0 : ev (lk tsl) x0 = some (.optr i0 0)) (ha1 : ev (lk tsl) x1 = some (sl cI ts)) (ha2 : ev (lk tsl) x2 = some (iv dp)) (hH0 : aS hsl i0 = some (dP bs p)) (hmc : MC Tryz.prog 219 [.optr 0 0, sl cI ts, iv dp] [(0, some (dP bs p))] 1 (fun _ : Unit => True) (fun _ => dN (eR bs dp p).1) (fun _ => [(0, some (dP bs (eR bs dp p).2))])) (hM : Nat.ble (nidl + 0) aY = true) (hN : Nat.blt d N = true) {md' : Md} [hmd : MdA md (fK [x0, x1, x2] ++ [.inr i0]) (List.map Sum.inr (List.map Prod.fst ([(i0, some (dP bs (eR bs dp p).2))] : List (Nat × Option (List AV)))) ++ [.inl d]) md'] (kk : RW Tryz.prog N all Q md' rest ⟨(d, dN (eR bs dp p).1) :: tsl, gR hsl [(i0, some (dP bs (eR bs dp p).2))], nidl + 0, z0⟩) : RW Tryz.prog N all Q md (⟨some d, .call ⟨.value (.func 219), #[x0, x1, x2], tys⟩, ty, pos, af, none⟩ :: rest) ⟨tsl, hsl, nidl, z0⟩ := by
 refine a6 [i0] 1 [(i0, some (dP bs (eR bs dp p).2))] hmc (avs := [.optr i0 0, sl cI ts, iv dp]) ?_ rfl ?_ rfl ?_ (by simpa using hM) ?_ ?_ ?_ hN (md' := md') (hmd := hmd) kk
 ·show evL (lk tsl) [x0, x1, x2] = _
  simp only [evL, ha0, ha1, ha2]
 ·exact ⟨⟨_, _, rfl, hH0, by (repeat' (exact RnL.purI inferInstance))⟩, trivial⟩
 ·(repeat' (first|exact RnL.purI inferInstance|exact RnV.optr rfl|refine RnL.cons ?_ ?_))
 ·(repeat' (exact RnV.purI inferInstance))
 ·simp [cA]
 ·(repeat' (first|exact trivial|(refine And.intro ⟨0, _, rfl, rfl, ?_⟩ ?_)|exact RnL.purI inferInstance))
theorem wB {bs : List UInt8} {p : Nat} {ts : List Int} {dp cn : Int} {N : Nat} {Q : Exit → AS → Prop} {all : Array Oper} {rest : List Oper} {tsl : List (Nat × AV)} {hsl : List (Nat × Option (List AV))} {nidl : Nat} {z0 : Lo} {md : Md} {d : Nat} {ty : TypeId} {pos : String} {af : Array Edge} {tys : Array TypeId} {x0 x1 x2 x3 : Operand} {i0 : Nat} (ha0 : ev (lk tsl) x0 = some (.optr i0 0)) (ha1 : ev (lk tsl) x1 = some (sl cI ts)) (ha2 : ev (lk tsl) x2 = some (iv dp)) (ha3 : ev (lk tsl) x3 = some (iv cn)) (hH0 : aS hsl i0 = some (dP bs p)) (hmc : MC Tryz.prog 167 [.optr 0 0, sl cI ts, iv dp, iv cn] [(0, some (dP bs p))] 1 (fun _ : Unit => True) (fun _ => sl aH (dJ bs dp cn p).1) (fun _ => [(0, some (dP bs (dJ bs dp cn p).2))])) (hM : Nat.ble (nidl + 0) aY = true) (hN : Nat.blt d N = true) {md' : Md} [hmd : MdA md (fK [x0, x1, x2, x3] ++ [.inr i0]) (List.map Sum.inr (List.map Prod.fst ([(i0, some (dP bs (dJ bs dp cn p).2))] : List (Nat × Option (List AV)))) ++ [.inl d]) md'] (kk : RW Tryz.prog N all Q md' rest ⟨(d, sl aH (dJ bs dp cn p).1) :: tsl, gR hsl [(i0, some (dP bs (dJ bs dp cn p).2))], nidl + 0, z0⟩) : RW Tryz.prog N all Q md (⟨some d, .call ⟨.value (.func 167), #[x0, x1, x2, x3], tys⟩, ty, pos, af, none⟩ :: rest) ⟨tsl, hsl, nidl, z0⟩ := by
 refine a6 [i0] 1 [(i0, some (dP bs (dJ bs dp cn p).2))] hmc (avs := [.optr i0 0, sl cI ts, iv dp, iv cn]) ?_ rfl ?_ rfl ?_ (by simpa using hM) ?_ ?_ ?_ hN (md' := md') (hmd := hmd) kk
 ·show evL (lk tsl) [x0, x1, x2, x3] = _
  simp only [evL, ha0, ha1, ha2, ha3]
 ·exact ⟨⟨_, _, rfl, hH0, by (repeat' (exact RnL.purI inferInstance))⟩, trivial⟩
 ·(repeat' (first|exact RnL.purI inferInstance|exact RnV.optr rfl|refine RnL.cons ?_ ?_))
 ·(repeat' (exact RnV.purI inferInstance))
 ·simp [cA]
 ·(repeat' (first|exact trivial|(refine And.intro ⟨0, _, rfl, rfl, ?_⟩ ?_)|exact RnL.purI inferInstance))
attribute [local irreducible] bC
theorem Ah (D : Int) (hD0 : 0 ≤ D) (hD : D ≤ 2) (l1One_ih : ∀ bs p ts, 0 < D → bs.length ≤ 2000 → p ≤ 900000 → ∀ dp : Int, dp = 0 → MC Tryz.prog 219 [.optr 0 0, sl cI ts, iv dp] [(0, some (dP bs p))] 1 (fun _ : Unit => True) (fun _ => dN (eR bs dp p).1) (fun _ => [(0, some (dP bs (eR bs dp p).2))])) (l1Some_ih : ∀ bs (p : Nat) ts cn, 0 < D → bs.length ≤ 2000 → (p : Int) ≤ 850000 - 100000 * (D - 1) → 0 ≤ cn → cn ≤ 2 → ∀ dp : Int, dp = D - 1 → MC Tryz.prog 167 [.optr 0 0, sl cI ts, iv dp, iv cn] [(0, some (dP bs p))] 1 (fun _ : Unit => True) (fun _ => sl aH (dJ bs dp cn p).1) (fun _ => [(0, some (dP bs (dJ bs dp cn p).2))])) (bs : List UInt8) (p : Nat) (ts : List Int) (dp : Int) (hd : dp = D) (hb : bs.length ≤ 2000) (hp : (p : Int) ≤ 900000 - 100000 * D) : MC Tryz.prog 219 [.optr 0 0, sl cI ts, iv dp] [(0, some (dP bs p))] 1 (fun _ : Unit => True) (fun _ => dN (eR bs dp p).1) (fun _ => [(0, some (dP bs (eR bs dp p).2))]) := by
 subst hd
 have h0 := eZ bs p 2
 have h2 := eZ bs (p + 1 + 1) 11
 have h3 := eZ bs (p + 1 + 1 + 1) 3
 have h3' := k3 bs (p + 1 + 1 + 1)
 have h4 := Je bs (d := 0) (by omega) (p + 1 + 1 + 1)
 have h5 := y8 bs (d := dp - 1) (by omega) (bC bs (p + 1 + 1 + 1) 3) (p + 1 + 1 + 1 + 1)
 have h6 : (bC bs (p + 1 + 1 + 1) 3).toNat * 43 ≤ 2 * 43 := Nat.mul_le_mul_right _ h3'
 refine aX Tryz.func219 Tryz.ntmps219 ?_
 repeat' (first|(apply aI;first|(apply aO (t := _);rfl;rfl;rfl;(first|exact (rfl:_=some [_, _, _])|exact (rfl:_=some [_, _, _, _])|exact (rfl:_=some [_, _, _, _, _])|exact (rfl:_=some [_, _, _, _, _, _])|rfl);rfl;rfl)|(first|(apply jQ;rfl;rfl;(rfl);(apply l4 <;> (first|assumption|omega));rfl;rfl)|(apply HC;rfl;rfl;infer_instance;rfl;(rfl);assumption;omega;(decide);(decide);rfl;rfl)|(apply wB;rfl;rfl;rfl;rfl;(rfl);(apply l1Some_ih <;> (first|assumption|omega));rfl;rfl)|(apply Bu;rfl;rfl;rfl;(rfl);(apply l1One_ih <;> (first|assumption|omega));rfl;rfl)))|refine aD ?_|refine aE ?_|(refine aM ?_ ?_ <;> intro hc hq <;> try (exfalso;omega))|fail)
 all_goals try (refine aF rfl ?_; refine aU () trivial ?_ ⟨.inr (Eq.trans (b := some _) rfl ?_), trivial⟩)
 all_goals try (rw [NQ bs hD0 p (by omega)]; unfold jP; dsimp only; repeat' split
                all_goals (first|rfl|(exfalso;omega));done)
 iterate 2
  rewrite [MS bs (d := dp) (by assumption) p (by assumption)]
  first|rfl|(refine Eq.trans (b := AV.agg [_, _, _, _, _, AV.imm 1 (flat aH [_])]) ?_ rfl;rw [Oy]; rfl)
 iterate 2
  rewrite [Lh bs (d := dp) (by omega) p (by omega)]
  first|rfl|(refine Eq.trans (b := AV.agg [_, _, _, _, AV.imm 2 (flat aH [_, _]), _]) ?_ rfl;rw [Ph]; rfl)
theorem wV (D : Int) (hD0 : 0 ≤ D) (hD : D ≤ 2) (l1One_ih : ∀ bs (p : Nat) ts, bs.length ≤ 2000 → (p : Int) ≤ 900000 - 100000 * D → ∀ dp : Int, dp = D → MC Tryz.prog 219 [.optr 0 0, sl cI ts, iv dp] [(0, some (dP bs p))] 1 (fun _ : Unit => True) (fun _ => dN (eR bs dp p).1) (fun _ => [(0, some (dP bs (eR bs dp p).2))])) (bs : List UInt8) (p : Nat) (ts : List Int) (dp : Int) (hd : dp = D) (cn : Int) (hb : bs.length ≤ 2000) (hp : (p : Int) ≤ 850000 - 100000 * D) (hc0 : 0 ≤ cn) (hc : cn ≤ 8) : MC Tryz.prog 167 [.optr 0 0, sl cI ts, iv dp, iv cn] [(0, some (dP bs p))] 1 (fun _ : Unit => True) (fun _ => sl aH (dJ bs dp cn p).1) (fun _ => [(0, some (dP bs (dJ bs dp cn p).2))]) := by
 subst hd
 refine aX Tryz.func167 Tryz.ntmps167 ?_
 repeat' (first|(apply aI;(apply jQ;rfl;rfl;(rfl);(apply l4 <;> (first|assumption|omega));rfl;rfl))|refine aD ?_|refine aE ?_|fail)
 refine aK (σ := Nat × List AL.Stmt × Nat) [0, 1, 2, 3] [] (fun k => [(10, iv (k.1 : Int)), (9, .own 1 0 (k.1 + 1) 6)]) (fun k => [(0, some (dP bs k.2.2)), (1, some (flat aH k.2.1))]) (fun k => (k.1 : Int) ≤ cn ∧ k.2 = dJ bs dp (k.1 : Int) p) (fun k => cn.toNat - k.1) (0, [st 2 1 0 (bC bs p 10)], p + 1) ⟨by omega, rfl⟩ ?_
 rintro ⟨k, xs, q⟩ ⟨hk, hse⟩
 dsimp only at hk hse ⊢
 have hp2 := y8 bs (d := dp) (by omega) (k : Int) p
 have hkk : (k : Int).toNat * 43 ≤ 8 * 43 := Nat.mul_le_mul_right _ (by omega)
 have hln := Fq bs dp k p
 rw [← hse] at hp2 hln
 dsimp only at hp2 hln
 repeat' (first|(apply aI;first|(apply aO (t := _);rfl;rfl;rfl;(exact (rfl:_=some [_, _, _, _, _, _]));rfl;rfl)|(apply Bu;rfl;rfl;rfl;(rfl);(apply l1One_ih <;> (first|assumption|omega));rfl;rfl))|refine aD ?_|refine aE ?_|(refine aM ?_ ?_ <;> intro hc hq <;> try (exfalso;omega))|fail)
 ·(refine bH (k + 1, _, _) (Le.renA [(1, 3)]) ?_ ?_)
  ·dsimp only
   refine ⟨by omega, ?_⟩
   rw [Kq, ← hse]
  ·dsimp only;omega
 ·have hke : (k : Int) = cn := by omega
  rw [hke] at hse
  (refine aV (Le.frzD (d := 8) (i := 1) rfl rfl) ?_; refine aF rfl ?_)
  refine aU () trivial ?_ ⟨.inr (Eq.trans (b := some _) rfl ?_), trivial⟩
  ·rw [← hse]; show AV.imm (k + 1) (flat aH xs) = AV.imm xs.length (flat aH xs)
   rw [hln]
  ·rw [← hse]
theorem n3 : ∀ D : Nat, D ≤ 2 → (∀ bs (p : Nat) ts, bs.length ≤ 2000 → (p : Int) ≤ 900000 - 100000 * (D : Int) → ∀ dp : Int, dp = (D : Int) → MC Tryz.prog 219 [.optr 0 0, sl cI ts, iv dp] [(0, some (dP bs p))] 1 (fun _ : Unit => True) (fun _ => dN (eR bs dp p).1) (fun _ => [(0, some (dP bs (eR bs dp p).2))])) ∧ (∀ bs (p : Nat) ts (cn : Int), bs.length ≤ 2000 → (p : Int) ≤ 850000 - 100000 * (D : Int) → 0 ≤ cn → cn ≤ 8 → ∀ dp : Int, dp = (D : Int) → MC Tryz.prog 167 [.optr 0 0, sl cI ts, iv dp, iv cn] [(0, some (dP bs p))] 1 (fun _ : Unit => True) (fun _ => sl aH (dJ bs dp cn p).1) (fun _ => [(0, some (dP bs (dJ bs dp cn p).2))]))
 | 0, _ => by
  have h1 : ∀ bs (p : Nat) ts, bs.length ≤ 2000 → (p : Int) ≤ 900000 - 100000 * ((0 : Nat) : Int) → ∀ dp : Int, dp = ((0 : Nat) : Int) → MC Tryz.prog 219 [.optr 0 0, sl cI ts, iv dp] [(0, some (dP bs p))] 1 (fun _ : Unit => True) (fun _ => dN (eR bs dp p).1) (fun _ => [(0, some (dP bs (eR bs dp p).2))]) :=
   fun bs p ts hb hp dp hd => Ah ((0 : Nat) : Int) (by omega) (by omega) (fun _ _ _ h => by omega) (fun _ _ _ _ h => by omega) bs p ts dp hd hb hp
  exact ⟨h1, fun bs p ts cn hb hp h0 h8 dp hd => wV ((0 : Nat) : Int) (by omega) (by omega) h1 bs p ts dp hd cn hb hp h0 h8⟩
 | D + 1, hD => by
  have ih := n3 D (by omega)
  have i0 := n3 0 (by omega)
  have h1 : ∀ bs (p : Nat) ts, bs.length ≤ 2000 → (p : Int) ≤ 900000 - 100000 * ((D + 1 : Nat) : Int) → ∀ dp : Int, dp = ((D + 1 : Nat) : Int) → MC Tryz.prog 219 [.optr 0 0, sl cI ts, iv dp] [(0, some (dP bs p))] 1 (fun _ : Unit => True) (fun _ => dN (eR bs dp p).1) (fun _ => [(0, some (dP bs (eR bs dp p).2))]) :=
   fun bs p ts hb hp dp hd => Ah ((D + 1 : Nat) : Int) (by omega) (by omega) (fun bs p ts _ hb hp dp hd => i0.1 bs p ts hb (by omega) dp (by omega)) (fun bs p ts cn _ hb hp h0 h2 dp hd => ih.2 bs p ts cn hb (by omega) h0 (by omega) dp (by omega)) bs p ts dp hd hb hp
  exact ⟨h1, fun bs p ts cn hb hp h0 h8 dp hd => wV ((D + 1 : Nat) : Int) (by omega) (by omega) h1 bs p ts dp hd cn hb hp h0 h8⟩
theorem Is (bs : List UInt8) (p : Nat) (ts : List Int) (dp cn : Int) (hb : bs.length ≤ 2000) (hp : p ≤ 600000) (h0 : 0 ≤ cn) (h8 : cn ≤ 8) (hd0 : 0 ≤ dp) (hd : dp ≤ 2) : MC Tryz.prog 167 [.optr 0 0, sl cI ts, iv dp, iv cn] [(0, some (dP bs p))] 1 (fun _ : Unit => True) (fun _ => sl aH (dJ bs dp cn p).1) (fun _ => [(0, some (dP bs (dJ bs dp cn p).2))]) :=
 (n3 dp.toNat (by omega)).2 bs p ts cn hb (by omega) h0 h8 dp (by omega)
end Go.Proofs.YtahdccneecdmmaaGreat
namespace Go.Proofs.YtahdccneecdmmaaGreat
open Go.AL Go.RowKit
theorem DE {w : World} {bad : Nat → Prop} {ι : Pl} : ∀ {cs cs' : List AV}, All2 (fun c c' => c' = c ∨ c' = oB c) cs cs' → ∀ {b β : Nat}, RdC w bad ι cs b β → RdC w bad ι cs' b β
 | _, _, .nil, _, _, h => h
 | _, _, .cons h1 h2, b, β, h => by
  simp only [RdC] at h ⊢
  obtain ⟨⟨x, q1, q2, q3⟩, q4⟩ := h
  refine ⟨⟨x, q1, q2, ?_⟩, DE h2 q4⟩
  rcases h1 with rfl|rfl
  ·exact q3
  ·exact lU q3
theorem Ez : ∀ (l : List AV) {a b : List AV}, All2 (fun c c' => c' = c ∨ c' = oB c) a b → All2 (fun c c' => c' = c ∨ c' = oB c) (l ++ a) (l ++ b)
 | [], _, _, h => h
 | _ :: l, _, _, h => .cons (.inl rfl) (Ez l h)
theorem qE {α : Type} {p q : α → Prop} {F : α → AS} {s s' : AS} (L : Le s s') (h : ∃ j, p j ∧ q j ∧ Le s' (F j)) : ∃ j, p j ∧ q j ∧ Le s (F j) := by
 obtain ⟨j, h1, h2, h3⟩ := h
 exact ⟨j, h1, h2, L.trans h3⟩
theorem Le.stmtN {ts : List (Nat × AV)} {hs : List (Nat × Option (List AV))} {n i : Nat} {z0 : Lo} {xs : List AL.Stmt} (s : AL.Stmt) {m : Nat} {a b : AV} (hm : m = xs.length)
  (ha : a = sl aH s.th ∨ (a = .v (.slice none 0 0) ∧ s.th = [])) (hb : b = sl aH s.el ∨ (b = .v (.slice none 0 0) ∧ s.el = []))
  (hi : aS hs i = some (((flat aH xs).drop 0).take (m * 6) ++ List.take (1 * 6) [iv s.op, iv s.x, iv s.y, iv s.n, a, b])) : Le ⟨ts, hs, n, z0⟩ ⟨ts, (i, some (flat aH (xs ++ [s]))) :: hs, n, z0⟩ := by
 have e : flat aH (xs ++ [s]) = ((flat aH xs).drop 0).take (m * 6) ++ [iv s.op, iv s.x, iv s.y, iv s.n, sl aH s.th, sl aH s.el] := (AA hm).symm
 have k : All2 (fun c c' => c' = c ∨ c' = oB c) (((flat aH xs).drop 0).take (m * 6) ++ List.take (1 * 6) [iv s.op, iv s.x, iv s.y, iv s.n, a, b]) (flat aH (xs ++ [s])) := by
  rw [e]
  refine Ez _ (.cons (.inl rfl) (.cons (.inl rfl) (.cons (.inl rfl) (.cons (.inl rfl) (.cons ?_ (.cons ?_ .nil))))))
  ·rcases ha with h | ⟨h, h2⟩
   ·exact .inl h.symm
   ·refine .inr ?_; rw [h2, h]; rfl
  ·rcases hb with h | ⟨h, h2⟩
   ·exact .inl h.symm
   ·refine .inr ?_; rw [h2, h]; rfl
 refine Le.cells hi ?_ fun w bad ι b β h => DE k h
 rw [e]; simp
theorem Dt (mm : Nat) (hmm : mm ≤ 1000000) (copy_ih : ∀ l, aP l < mm → PC Tryz.prog 131 [sl aH l] (fun r => r = sl aH l)) (l : List AL.Stmt) (hs : aP l ≤ mm) : PC Tryz.prog 131 [sl aH l] (fun r => r = sl aH l) := by
 have hlen := cC l
 refine aB Tryz.func131 Tryz.ntmps131 ?_
 repeat' (first|refine aD ?_|refine aE ?_|fail)
 refine aK (σ := Nat × List AL.Stmt) [0] [] (fun k => [(4, iv (k.1 : Int)), (3, .own 0 0 k.1 6)]) (fun k => [(0, some (flat aH k.2))]) (fun k => k.1 ≤ l.length ∧ k.2 = l.take k.1) (fun k => l.length - k.1) (0, []) ⟨by omega, rfl⟩ ?_
 rintro ⟨k, xs⟩ ⟨hk, hxs⟩
 dsimp only at hk hxs ⊢
 have hck := fB l k
 have hct := iG l[k]!
 have hln : xs.length = k := by rw [hxs, List.length_take]; omega
 repeat' (first|(apply aI;first|(apply aO (t := _);rfl;rfl;rfl;(exact (rfl:_=some [_, _, _, _, _, _]));rfl;rfl)|(apply aA (k := 131);rfl;(apply copy_ih <;> (omega));exact Pur.pf;rfl))|refine aD ?_|refine aE ?_|(refine aM ?_ ?_ <;> intro hc hq <;> try (exfalso;omega))|fail)
 ·(refine bH (k + 1, _) (Le.renA [(0, 3)]) ?_ ?_)
  ·exact ⟨by dsimp only;omega, by dsimp only;rw [hxs, bI l k (by omega)]⟩
  ·dsimp only;omega
 ·have hel : l[k]!.el = [] := List.eq_nil_of_length_eq_zero (by omega)
  refine qE (Le.stmtN (i := 3) l[k]! hln.symm (.inl rfl) (.inr ⟨rfl, hel⟩) rfl) ?_
  (refine bH (k + 1, _) (Le.renA [(0, 3)]) ?_ ?_)
  ·exact ⟨by dsimp only;omega, by dsimp only;rw [hxs, bI l k (by omega)]⟩
  ·dsimp only;omega
 ·have hth : l[k]!.th = [] := List.eq_nil_of_length_eq_zero (by omega)
  refine qE (Le.stmtN (i := 3) l[k]! hln.symm (.inr ⟨rfl, hth⟩) (.inl rfl) rfl) ?_
  (refine bH (k + 1, _) (Le.renA [(0, 3)]) ?_ ?_)
  ·exact ⟨by dsimp only;omega, by dsimp only;rw [hxs, bI l k (by omega)]⟩
  ·dsimp only;omega
 ·have hth : l[k]!.th = [] := List.eq_nil_of_length_eq_zero (by omega)
  have hel : l[k]!.el = [] := List.eq_nil_of_length_eq_zero (by omega)
  refine qE (Le.stmtN (i := 3) l[k]! hln.symm (.inr ⟨rfl, hth⟩) (.inr ⟨rfl, hel⟩) rfl) ?_
  (refine bH (k + 1, _) (Le.renA [(0, 3)]) ?_ ?_)
  ·exact ⟨by dsimp only;omega, by dsimp only;rw [hxs, bI l k (by omega)]⟩
  ·dsimp only;omega
 ·have hke : k = l.length := by omega
  (refine aV (Le.frzD (d := 2) (i := 0) rfl rfl) ?_; refine aF rfl ?_)
  refine ⟨?_, Pur.pf⟩
  rw [hxs, hke, List.take_length]; rfl
theorem MI (l : List AL.Stmt) (hb : aP l ≤ 1000000) : PC Tryz.prog 131 [sl aH l] (fun r => r = sl aH l) := by
 have key : ∀ m, m ≤ 1000000 → ∀ l, aP l ≤ m → PC Tryz.prog 131 [sl aH l] (fun r => r = sl aH l) := by
  intro m
  induction m with
  | zero => intro hm l hl;exact Dt 0 hm (fun l h => by omega) l hl
  | succ m ih => intro hm l hl;exact Dt (m + 1) hm (fun l h => ih (by omega) l (by omega)) l hl
 exact key (aP l) hb l (Nat.le_refl _)
theorem JV (l : List AL.Stmt) (hs : aP l ≤ 1000000) : MC Tryz.prog 131 [sl aH l] [] 0 (fun _ : Unit => True) (fun _ => .own 0 0 l.length 6) (fun _ => [(0, some (flat aH l))]) := by
 have hlen := cC l
 refine aX Tryz.func131 Tryz.ntmps131 ?_
 repeat' (first|refine aD ?_|refine aE ?_|fail)
 refine aK (σ := Nat × List AL.Stmt) [0] [] (fun k => [(4, iv (k.1 : Int)), (3, .own 0 0 k.1 6)]) (fun k => [(0, some (flat aH k.2))]) (fun k => k.1 ≤ l.length ∧ k.2 = l.take k.1) (fun k => l.length - k.1) (0, []) ⟨by omega, rfl⟩ ?_
 rintro ⟨k, xs⟩ ⟨hk, hxs⟩
 dsimp only at hk hxs ⊢
 have hck := fB l k
 have hct := iG l[k]!
 have hln : xs.length = k := by rw [hxs, List.length_take]; omega
 repeat' (first|(apply aI;first|(apply aO (t := _);rfl;rfl;rfl;(exact (rfl:_=some [_, _, _, _, _, _]));rfl;rfl)|(apply aA (k := 131);rfl;(apply MI <;> (omega));exact Pur.pf;rfl))|refine aD ?_|refine aE ?_|(refine aM ?_ ?_ <;> intro hc hq <;> try (exfalso;omega))|fail)
 ·(refine bH (k + 1, _) (Le.renA [(0, 3)]) ?_ ?_)
  ·exact ⟨by dsimp only;omega, by dsimp only;rw [hxs, bI l k (by omega)]⟩
  ·dsimp only;omega
 ·have hel : l[k]!.el = [] := List.eq_nil_of_length_eq_zero (by omega)
  refine qE (Le.stmtN (i := 3) l[k]! hln.symm (.inl rfl) (.inr ⟨rfl, hel⟩) rfl) ?_
  (refine bH (k + 1, _) (Le.renA [(0, 3)]) ?_ ?_)
  ·exact ⟨by dsimp only;omega, by dsimp only;rw [hxs, bI l k (by omega)]⟩
  ·dsimp only;omega
 ·have hth : l[k]!.th = [] := List.eq_nil_of_length_eq_zero (by omega)
  refine qE (Le.stmtN (i := 3) l[k]! hln.symm (.inr ⟨rfl, hth⟩) (.inl rfl) rfl) ?_
  (refine bH (k + 1, _) (Le.renA [(0, 3)]) ?_ ?_)
  ·exact ⟨by dsimp only;omega, by dsimp only;rw [hxs, bI l k (by omega)]⟩
  ·dsimp only;omega
 ·have hth : l[k]!.th = [] := List.eq_nil_of_length_eq_zero (by omega)
  have hel : l[k]!.el = [] := List.eq_nil_of_length_eq_zero (by omega)
  refine qE (Le.stmtN (i := 3) l[k]! hln.symm (.inr ⟨rfl, hth⟩) (.inr ⟨rfl, hel⟩) rfl) ?_
  (refine bH (k + 1, _) (Le.renA [(0, 3)]) ?_ ?_)
  ·exact ⟨by dsimp only;omega, by dsimp only;rw [hxs, bI l k (by omega)]⟩
  ·dsimp only;omega
 ·have hke : k = l.length := by omega
  have hxl : xs = l := by rw [hxs, hke, List.take_length]
  subst hke
  refine aF rfl ?_
  refine aU () trivial ?_ ⟨.inr (Eq.trans (b := some _) rfl ?_), trivial⟩
  ·rfl
  ·rw [hxl]
theorem Hf {l : List AL.Stmt} {N : Nat} {Q : Exit → AS → Prop} {all : Array Oper} {rest : List Oper} {tsl : List (Nat × AV)} {hsl : List (Nat × Option (List AV))} {nidl : Nat} {z0 : Lo} {md : Md} {d : Nat} {ty : TypeId} {pos : String} {af : Array Edge} {tys : Array TypeId} {x0 : Operand} (ha0 : ev (lk tsl) x0 = some (sl aH l)) (hmc : MC Tryz.prog 131 [sl aH l] [] 0 (fun _ : Unit => True) (fun _ => .own 0 0 l.length 6) (fun _ => [(0, some (flat aH l))])) (hM : Nat.ble (nidl + 1) aY = true) (hN : Nat.blt d N = true) {md' : Md} [hmd : MdA md (fK [x0] ++ []) (List.map Sum.inr (List.map Prod.fst ([(nidl, some (flat aH l))] : List (Nat × Option (List AV)))) ++ [.inl d]) md'] (kk : RW Tryz.prog N all Q md' rest ⟨(d, .own nidl 0 l.length 6) :: tsl, gR hsl [(nidl, some (flat aH l))], nidl + 1, z0⟩) : RW Tryz.prog N all Q md (⟨some d, .call ⟨.value (.func 131), #[x0], tys⟩, ty, pos, af, none⟩ :: rest) ⟨tsl, hsl, nidl, z0⟩ := by
 refine a6 [] 1 [(nidl, some (flat aH l))] hmc (avs := [sl aH l]) ?_ rfl ?_ rfl ?_ (by simpa using hM) ?_ ?_ ?_ hN (md' := md') (hmd := hmd) kk
 ·show evL (lk tsl) [x0] = _
  simp only [evL, ha0]
 ·exact trivial
 ·(repeat' (exact RnL.purI inferInstance))
 ·(repeat' (exact RnV.own rfl))
 ·simp [cA]
 ·(repeat' (first|exact trivial|(refine And.intro ⟨0, _, rfl, rfl, ?_⟩ ?_)|exact RnL.purI inferInstance))
theorem wH {q : Prg} {N : Nat} {Q : Exit → AS → Prop} {all : Array Oper} {rest : List Oper} {tsl : List (Nat × AV)} {hsl : List (Nat × Option (List AV))} {nidl : Nat} {z0 : Lo} {md : Md} {d : Nat} {ty : TypeId} {pos : String} {af : Array Edge} {tys : Array TypeId} {x0 : Operand} (ha0 : ev (lk tsl) x0 = some (bQ q)) (hmc : MC Tryz.prog 63 [bQ q] [] 0 (fun _ : Unit => True) (fun _ => .agg [.own 3 0 q.types.length 1, .own 4 0 q.body.length 6]) (fun _ => [(3, some (flat cI q.types)), (4, some (flat aH q.body))])) (hM : Nat.ble (nidl + 5) aY = true) (hN : Nat.blt d N = true) {md' : Md} [hmd : MdA md (fK [x0] ++ []) (List.map Sum.inr (List.map Prod.fst ([((nidl + 3), some (flat cI q.types)), ((nidl + 4), some (flat aH q.body))] : List (Nat × Option (List AV)))) ++ [.inl d]) md'] (kk : RW Tryz.prog N all Q md' rest ⟨(d, .agg [.own (nidl + 3) 0 q.types.length 1, .own (nidl + 4) 0 q.body.length 6]) :: tsl, gR hsl [((nidl + 3), some (flat cI q.types)), ((nidl + 4), some (flat aH q.body))], nidl + 5, z0⟩) : RW Tryz.prog N all Q md (⟨some d, .call ⟨.value (.func 63), #[x0], tys⟩, ty, pos, af, none⟩ :: rest) ⟨tsl, hsl, nidl, z0⟩ := by
 refine a6 [] 5 [((nidl + 3), some (flat cI q.types)), ((nidl + 4), some (flat aH q.body))] hmc (avs := [bQ q]) ?_ rfl ?_ rfl ?_ (by simpa using hM) ?_ ?_ ?_ hN (md' := md') (hmd := hmd) kk
 ·show evL (lk tsl) [x0] = _
  simp only [evL, ha0]
 ·exact trivial
 ·(repeat' (exact RnL.purI inferInstance))
 ·(repeat' (first|exact RnL.purI inferInstance|exact RnV.own rfl|refine RnL.cons ?_ ?_|refine RnV.agg ?_))
 ·simp [cA]
 ·(repeat' (first|exact trivial|(refine And.intro ⟨3, _, rfl, rfl, ?_⟩ ?_)|(refine And.intro ⟨4, _, rfl, rfl, ?_⟩ ?_)|exact RnL.purI inferInstance))
theorem Bw (q : Prg) (hs : aP q.body ≤ 1000000) (ht : q.types.length ≤ 1000000) : MC Tryz.prog 63 [bQ q] [] 0 (fun _ : Unit => True) (fun _ => .agg [.own 3 0 q.types.length 1, .own 4 0 q.body.length 6]) (fun _ => [(3, some (flat cI q.types)), (4, some (flat aH q.body))]) := by
 refine aX Tryz.func63 Tryz.ntmps63 ?_
 repeat' (first|(apply aI;(apply Hf;rfl;(apply JV;assumption);rfl;rfl))|refine aD ?_|refine aE ?_|refine b0 ?_|fail)
 refine aF rfl ?_
 refine aU () trivial ?_ ⟨.inr (Eq.trans (b := some _) rfl ?_), .inr (Eq.trans (b := some _) rfl ?_), trivial⟩
 ·show AV.agg [AV.own 3 0 (0 + q.types.length) 1, AV.own 4 0 q.body.length 6] = _
  rw [Nat.zero_add]
 ·rfl
 ·rfl
theorem HB (s : AL.Stmt) (a : Int) : cL (Pz s a) = cL s := by simp [fG, Pz, AL.Stmt.th, AL.Stmt.el]
theorem Ls (s : AL.Stmt) (a : Int) : cL (uX s a) = cL s := by simp [fG, uX, AL.Stmt.th, AL.Stmt.el]
theorem LP (s : AL.Stmt) (a : Int) : cL (uY s a) = cL s := by simp [fG, uY, AL.Stmt.th, AL.Stmt.el]
theorem KU (s : AL.Stmt) (a : Int) : cL (uN s a) = cL s := by simp [fG, uN, AL.Stmt.th, AL.Stmt.el]
theorem mM : ∀ (xs : List AL.Stmt) (k : Nat) (y : AL.Stmt), k < xs.length → cL y = cL xs[k]! → aP (xs.set k y) = aP xs
 | [], k, y, h, _ => by simp at h
 | x :: xs, 0, y, _, h => by simp only [List.set_cons_zero, aP]; simp only [List.getElem!_cons_zero] at h;omega
 | x :: xs, k + 1, y, h, h2 => by
  simp only [List.set_cons_succ, aP]
  rw [mM xs k y (by simpa using h) (by rw [h2]; simp only [List.getElem!_cons_succ])]
theorem BS (s : AL.Stmt) : ∀ k, aP (List.replicate k s) = k * cL s
 | 0 => by simp [aP]
 | k + 1 => by simp only [List.replicate_succ, aP, BS s k, Nat.succ_mul]; omega
theorem Au : ∀ (xs : List AL.Stmt) (k : Nat), aP (xs.take k ++ xs.drop (k + 1)) ≤ aP xs
 | [], k => by simp [aP]
 | x :: xs, 0 => by simp [aP]
 | x :: xs, k + 1 => by have := Au xs k;simp only [List.take_succ_cons, List.drop_succ_cons, List.cons_append, aP]; omega
theorem rX {T : Nat → Option AV} {x : Operand} {dd : Nat} {k : IntKind} {m : Int} (hx : ev T x = some (.v (.int k m))) (h : 0 ≤ m) : gG T (some x) dd = some m.toNat := by
 simp only [gG, hx]; rw [if_pos h]
section
variable {P : Program} {N : Nat} {Q : Exit → AS → Prop} {all : Array Oper} {rest : List Oper} {ts : List (Nat × AV)} {hs : List (Nat × Option (List AV))} {n : Nat} {z0 : Lo} {md : Md}
variable {d : Nat} {ty : TypeId} {pos : String} {af : Array Edge}
theorem De {t el : TypeId} {x : Operand} {hi : Option Operand} {i o m e h : Nat} [ht : SlT P t el] [he : SzT P el e] (hx : ev (lk ts) x = some (.own i o m e))
  (hh : gG (lk ts) hi m = some h) (hb : h ≤ m) (hN : Nat.blt d N = true) {md' : Md} [hmd : MdA md (rO x ++ (rB none ++ rB hi)) [.inl d] md'] (kk : RW P N all Q md' rest ⟨(d, .own i o h e) :: ts, hs, n, z0⟩) :
  RW P N all Q md (⟨some d, .slice t x none hi none, ty, pos, af, none⟩ :: rest) ⟨ts, hs, n, z0⟩ :=
 eY (m := m) (l := 0) (h := h) hx rfl rfl hh (by simp [N6, hb]) hN (md' := md') (hmd := hmd) kk
end
theorem Lp {hs : List (Nat × Option (List AV))} {xs : List AL.Stmt} {i k n : Nat} (hH : aS hs i = some (flat aH xs)) (hn : n = xs.length - k) : sCells (aS hs) 6 (oB (.own i (0 + k * 6) n 6)) = some (n, flat aH (xs.drop k)) := by
 show ((aS hs i).bind fun cs => if n * 6 ≤ (cs.drop (0 + k * 6)).length then some (n, (cs.drop (0 + k * 6)).take (n * 6)) else none) = _
 rw [hH, Option.bind_some, Nat.zero_add]
 have h1 : (flat aH xs).length = xs.length * 6 := aL aH xs
 have h3 : (flat aH xs).drop (k * 6) = flat aH (xs.drop k) := by
  have h4 : flat aH xs = flat aH (xs.take k) ++ flat aH (xs.drop k) := by rw [bO, List.take_append_drop]
  have h5 : (flat aH (xs.take k)).length = (xs.take k).length * 6 := aL aH _
  by_cases hk : k ≤ xs.length
  ·rw [h4, ← show (flat aH (xs.take k)).length = k * 6 from by rw [h5, List.length_take]; congr 1;omega, List.drop_left]
  ·rw [List.drop_of_length_le (by omega), List.drop_of_length_le (by omega)]; rfl
 rw [h3]
 have h2 : (flat aH (xs.drop k)).length = (xs.length - k) * 6 := by rw [aL aH (e := 6), List.length_drop]
 rw [if_pos (by omega), List.take_of_length_le (by omega)]
theorem Lk {xs ys : List AL.Stmt} {k : Nat} (hk : k ≤ xs.length) : ((flat aH xs).drop 0).take (k * 6) ++ flat aH ys = flat aH (xs.take k ++ ys) := by
 rw [List.drop_zero, dC aH (e := 6), bO]
theorem Bg (bs : List UInt8) (p : Nat) (q : Prg) (hb : bs.length ≤ 2000) (hp : p ≤ 900000) (hs : aP q.body ≤ 10000) (ht : q.types.length ≤ 10000) : MC Tryz.prog 93 [.optr 0 0, bQ q] [(0, some (dP bs p))] 1 (fun x : Prg × Nat => aP x.1.body ≤ 32 * aP q.body ∧ x.1.types.length ≤ q.types.length + 1 ∧ x.2 ≤ p + 3) (fun x => bQ x.1) (fun x => [(0, some (dP bs x.2))]) := by
 have hlen := cC q.body
 have h0 := eZ bs p (q.body.length : Int)
 refine aX Tryz.func93 Tryz.ntmps93 ?_
 repeat' (first|(apply aI;(first|(apply jQ;rfl;rfl;(rfl);(apply l4 <;> (first|assumption|omega));rfl;rfl)|(apply m5;rfl;rfl;rfl;rfl;infer_instance;rfl;(rfl);assumption;omega;(decide);(decide);rfl;rfl)|(apply wH;rfl;(apply Bw <;> (omega));rfl;rfl)))|refine aD ?_|refine aE ?_|(refine aM ?_ ?_ <;> intro hc hq <;> try (exfalso;omega))|refine b0 ?_|fail)
 ·refine aV (Le.frzC (j := 2) (i := 6) [] rfl rfl (by decide)) ?_
  refine aV (Le.frzC (j := 2) (i := 7) [.imm _ _] rfl rfl (by decide)) ?_
  refine aF rfl ?_
  refine aU ((⟨q.types, q.body⟩ : Prg), p) ?_ ?_ ⟨.inr (Eq.trans (b := some _) rfl ?_), trivial⟩
  ·exact ⟨by dsimp only;omega, by dsimp only;omega, by dsimp only;omega⟩
  ·rfl
  ·rfl
 ·refine aV (Le.frzC (j := 2) (i := 6) [] rfl rfl (by decide)) ?_
  refine aV (Le.frzC (j := 2) (i := 7) [.imm _ _] rfl rfl (by decide)) ?_
  refine aF rfl ?_
  refine aU ((⟨q.types, q.body.set (bC bs p (q.body.length : Int)).toNat (Pz q.body[(bC bs p (q.body.length : Int)).toNat]! (fT bs (p + 1 + 1) [0, 11, 1, 3, 8]))⟩ : Prg), p + 1 + 1 + 1) ?_ ?_ ⟨.inr (Eq.trans (b := some _) rfl ?_), trivial⟩
  ·refine ⟨?_, by dsimp only;omega, by dsimp only;omega⟩; dsimp only;rw [mM q.body (bC bs p (q.body.length : Int)).toNat _ (by omega) (by rw [HB])]; omega
  ·show _ = AV.agg [_, AV.imm (List.length (q.body.set _ _)) _]; rw [List.length_set]; rfl
  ·rfl
 ·refine aV (Le.frzC (j := 2) (i := 6) [] rfl rfl (by decide)) ?_
  refine aV (Le.frzC (j := 2) (i := 7) [.imm _ _] rfl rfl (by decide)) ?_
  refine aF rfl ?_
  refine aU ((⟨q.types, q.body.set (bC bs p (q.body.length : Int)).toNat (uX q.body[(bC bs p (q.body.length : Int)).toNat]! (fT bs (p + 1 + 1) [6, -1, 0, 1]))⟩ : Prg), p + 1 + 1 + 1) ?_ ?_ ⟨.inr (Eq.trans (b := some _) rfl ?_), trivial⟩
  ·refine ⟨?_, by dsimp only;omega, by dsimp only;omega⟩; dsimp only;rw [mM q.body (bC bs p (q.body.length : Int)).toNat _ (by omega) (by rw [Ls])]; omega
  ·show _ = AV.agg [_, AV.imm (List.length (q.body.set _ _)) _]; rw [List.length_set]; rfl
  ·rfl
 ·refine aV (Le.frzC (j := 2) (i := 6) [] rfl rfl (by decide)) ?_
  refine aV (Le.frzC (j := 2) (i := 7) [.imm _ _] rfl rfl (by decide)) ?_
  refine aF rfl ?_
  refine aU ((⟨q.types, q.body.set (bC bs p (q.body.length : Int)).toNat (uY q.body[(bC bs p (q.body.length : Int)).toNat]! (fT bs (p + 1 + 1) [6, -1, 0, 1]))⟩ : Prg), p + 1 + 1 + 1) ?_ ?_ ⟨.inr (Eq.trans (b := some _) rfl ?_), trivial⟩
  ·refine ⟨?_, by dsimp only;omega, by dsimp only;omega⟩; dsimp only;rw [mM q.body (bC bs p (q.body.length : Int)).toNat _ (by omega) (by rw [LP])]; omega
  ·show _ = AV.agg [_, AV.imm (List.length (q.body.set _ _)) _]; rw [List.length_set]; rfl
  ·rfl
 ·refine aV (Le.frzC (j := 2) (i := 6) [] rfl rfl (by decide)) ?_
  refine aV (Le.frzC (j := 2) (i := 7) [.imm _ _] rfl rfl (by decide)) ?_
  refine aF rfl ?_
  refine aU ((⟨q.types, q.body.set (bC bs p (q.body.length : Int)).toNat (uN q.body[(bC bs p (q.body.length : Int)).toNat]! (fT bs (p + 1 + 1) [10, -1, 5]))⟩ : Prg), p + 1 + 1 + 1) ?_ ?_ ⟨.inr (Eq.trans (b := some _) rfl ?_), trivial⟩
  ·refine ⟨?_, by dsimp only;omega, by dsimp only;omega⟩; dsimp only;rw [mM q.body (bC bs p (q.body.length : Int)).toNat _ (by omega) (by rw [KU])]; omega
  ·show _ = AV.agg [_, AV.imm (List.length (q.body.set _ _)) _]; rw [List.length_set]; rfl
  ·rfl
 ·refine aV (Le.frzC (j := 2) (i := 11) [] rfl rfl (by decide)) ?_
  refine aV (Le.frzC (j := 2) (i := 7) [.imm _ _] rfl rfl (by decide)) ?_
  refine aF rfl ?_
  refine aU ((⟨q.types ++ [fT bs (p + 1 + 1) [1, 5, 0, 4]], q.body⟩ : Prg), p + 1 + 1 + 1) ?_ ?_ ⟨.inr (Eq.trans (b := some _) rfl ?_), trivial⟩
  ·exact ⟨by dsimp only;omega, by simp, by dsimp only;omega⟩
  ·show _ = AV.agg [AV.imm (List.length (q.types ++ [_])) _, _]; rw [List.length_append]; rfl
  ·rfl
 ·refine aK (σ := Nat × List AL.Stmt × Nat) [4, 5] [6, 2, 0] (fun k => [(7, iv (k.1 : Int))]) (fun k => [(7, some (flat aH k.2.1)), (8, some [.own 6 0 q.types.length 1, .own 7 0 k.2.2 6])]) (fun k => k.1 ≤ 31 ∧ k.2.1 = q.body ++ List.replicate k.1 q.body[0]! ∧ k.2.2 = k.2.1.length) (fun k => 31 - k.1) (0, q.body, q.body.length) ⟨by omega, by simp, rfl⟩ ?_
  rintro ⟨k, xs, m⟩ ⟨hk, hxs, hm⟩
  dsimp only at hk hxs hm ⊢
  have hln : 0 < xs.length := by rw [hxs, List.length_append]; omega
  have hl2 : xs.length = q.body.length + k := by rw [hxs, List.length_append, List.length_replicate]
  repeat' (first|refine aD ?_|refine aE ?_|(refine aM ?_ ?_ <;> intro hc hq <;> try (exfalso;omega))|refine b0 ?_|fail)
  ·(refine bH (k + 1, _, _) (Le.renA [(7, 10), (8, 8), (6, 6), (2, 2)]) ?_ ?_)
   ·dsimp only
    refine ⟨by omega, ?_, by simp [hm]⟩
    have e0 : xs[Int.toNat 0]! = q.body[0]! := by
     show xs[0]! = _
     rw [hxs, getElem!_pos _ _ (by rw [List.length_append]; omega), List.getElem_append_left (by omega), getElem!_pos _ _ (by omega)]
    rw [e0, hxs, List.replicate_succ', List.append_assoc]
   ·dsimp only;omega
  ·have hc0 : cL q.body[0]! ≤ aP q.body := fB q.body 0 (by omega)
   have hc1 : aP xs = aP q.body + k * cL q.body[0]! := by rw [hxs, c8, BS]
   have hc2 : k * cL q.body[0]! ≤ 31 * aP q.body := Nat.mul_le_mul hk hc0
   subst hm
   refine aV (Le.frzC (j := 2) (i := 6) [] rfl rfl (by decide)) ?_
   refine aV (Le.frzC (j := 2) (i := 7) [.imm _ _] rfl rfl (by decide)) ?_
   refine aF rfl ?_
   refine aU ((⟨q.types, xs⟩ : Prg), p + 1 + 1) ?_ ?_ ⟨.inr (Eq.trans (b := some _) rfl ?_), trivial⟩
   ·exact ⟨by dsimp only;omega, by dsimp only;omega, by dsimp only;omega⟩
   ·rfl
   ·rfl
 ·have hK : (bC bs p (q.body.length : Int) + 1).toNat = (bC bs p (q.body.length : Int)).toNat + 1 := by omega
  repeat' (first|(apply aI;first|(apply De;rfl;exact rX rfl (by omega);omega;rfl)|(apply uW;rfl;exact rX rfl (by omega);omega;rfl)|(apply cP;rfl;rfl;rfl;rfl;rfl;(rw [aL]; omega);exact Lp rfl (by omega);omega;omega;exact Lk (by omega);rfl;rfl))|refine aD ?_|refine aE ?_|fail)
  refine aV (Le.frzC (j := 2) (i := 6) [] rfl rfl (by decide)) ?_
  refine aV (Le.frzC (j := 2) (i := 9) [.imm _ _] rfl rfl (by decide)) ?_
  refine aF rfl ?_
  refine aU ((⟨q.types, q.body.take (bC bs p (q.body.length : Int)).toNat ++ q.body.drop (bC bs p (q.body.length : Int) + 1).toNat⟩ : Prg), p + 1 + 1) ?_ ?_ ⟨.inr (Eq.trans (b := some _) rfl ?_), trivial⟩
  ·refine ⟨?_, by dsimp only; omega, by dsimp only; omega⟩
   dsimp only
   rw [hK]
   have := Au q.body (bC bs p (q.body.length : Int)).toNat
   omega
  ·show AV.agg [_, AV.imm _ _] = AV.agg [_, AV.imm (List.length (_ ++ _)) _]
   rw [List.length_append, List.length_take, List.length_drop, Nat.min_eq_left (by omega)]
  ·rfl
 ·refine aV (Le.frzC (j := 2) (i := 6) [] rfl rfl (by decide)) ?_
  refine aV (Le.frzC (j := 2) (i := 7) [.imm _ _] rfl rfl (by decide)) ?_
  refine aF rfl ?_
  refine aU (q, p + 1 + 1) ⟨by dsimp only;omega, by dsimp only;omega, by dsimp only;omega⟩ rfl ⟨.inr (Eq.trans (b := some _) rfl ?_), trivial⟩
  ·rfl
def D8 (s : ByteArray) (i : Int) (w : ByteArray) : Bool := decide (0 ≤ i) && (decide (i + w.size ≤ s.size) && ((s.extract i.toNat (i + w.size).toNat).toList == w.toList))
def Lx (lo hi : Int) (s : ByteArray) (i : Int) : Int := if i < 0 then -1 else if (s.size : Int) ≤ i then -1 else if ((s[i.toNat]!).toNat : Int) < lo then -1 else if hi < ((s[i.toNat]!).toNat : Int) then -1 else ((s[i.toNat]!).toNat : Int) - lo
theorem uC (s : ByteArray) (i : Int) (w : ByteArray) (hs : s.size ≤ 1000000) (hw : w.size ≤ 1000000) (hi : i ≤ 1000000) : PC Tryz.prog 254 [sv s, iv i, sv w] (fun r => r = bv (D8 s i w)) := by
 refine aB Tryz.func254 Tryz.ntmps254 ?_
 repeat' (first|(apply aI;first|(apply kT;rfl;rfl;(rfl);rfl)|(apply Gh;rfl;exact rX rfl (by omega);exact rX rfl (by omega);omega;rfl))|refine aD ?_|refine aE ?_|(refine bU ?_ ?_ <;> intro hg hq <;> try (exfalso;omega))|refine c5 ?_|fail)
 all_goals (refine ⟨?_, rfl⟩; simp only [aQ, AV.v.injEq, Value.bool.injEq, Value.int.injEq, true_and])
 ·unfold D8
  rw [decide_eq_true (by omega), decide_eq_true (by omega)]; rfl
 ·unfold D8
  rw [decide_eq_true (p := 0 ≤ i) (by omega), decide_eq_false (by omega)]; rfl
 ·unfold D8
  rw [decide_eq_false (by omega)]; rfl
theorem KG (s : ByteArray) (i : Int) (hs : s.size ≤ 1000000) : PC Tryz.prog 278 [sv s, iv i] (fun r => r = iv (Lx 97 122 s i)) := by
 have hb0 : ((s[i.toNat]!).toNat : Int) ≤ 255 := by have := (s[i.toNat]!).toNat_lt;omega
 refine aB Tryz.func278 Tryz.ntmps278 ?_
 repeat' (first|(apply aI;first|(apply qO;rfl;rfl;omega;rfl)|(apply Eb;rfl;rfl;omega;rfl))|refine aD ?_|refine aE ?_|(refine aM ?_ ?_ <;> intro hc hq <;> try (exfalso;omega))|(refine bU ?_ ?_ <;> intro hg hq <;> try (exfalso;omega))|refine c5 ?_|fail)
 all_goals (refine ⟨?_, rfl⟩; simp only [aQ, AV.v.injEq, Value.bool.injEq, Value.int.injEq, true_and])
 all_goals (unfold Lx;repeat' split)
 all_goals (first|rfl|omega)
theorem Fo (s : ByteArray) (i : Int) (hs : s.size ≤ 1000000) : PC Tryz.prog 280 [sv s, iv i] (fun r => r = iv (Lx 48 57 s i)) := by
 have hb0 : ((s[i.toNat]!).toNat : Int) ≤ 255 := by have := (s[i.toNat]!).toNat_lt;omega
 refine aB Tryz.func280 Tryz.ntmps280 ?_
 repeat' (first|(apply aI;first|(apply qO;rfl;rfl;omega;rfl)|(apply Eb;rfl;rfl;omega;rfl))|refine aD ?_|refine aE ?_|(refine aM ?_ ?_ <;> intro hc hq <;> try (exfalso;omega))|(refine bU ?_ ?_ <;> intro hg hq <;> try (exfalso;omega))|refine c5 ?_|fail)
 all_goals (refine ⟨?_, rfl⟩; simp only [aQ, AV.v.injEq, Value.bool.injEq, Value.int.injEq, true_and])
 all_goals (unfold Lx;repeat' split)
 all_goals (first|rfl|omega)
def QP (s : ByteArray) (i : Int) (r : AV) : Prop := ∃ (x : AL.Stmt) (nx : Int), r = .tup [dN x, iv nx] ∧ ((nx = -1 ∧ (cL x : Int) ≤ s.size + 1) ∨ (i < nx ∧ nx ≤ s.size + 3 ∧ (cL x : Int) ≤ nx - i))
def QB (s : ByteArray) (i : Int) (r : AV) : Prop := ∃ (l : List AL.Stmt) (nx : Int), r = .tup [sl aH l, iv nx] ∧ ((nx = -1 ∧ l = []) ∨ (0 ≤ i ∧ i + 2 ≤ nx ∧ nx ≤ s.size ∧ (aP l : Int) ≤ nx - i))
def QL (s : ByteArray) (i : Int) (r : AV) : Prop := ∃ (l : List AL.Stmt) (nx : Int), r = .tup [sl aH l, iv nx] ∧ ((nx = -1 ∧ l = []) ∨ (i ≤ nx ∧ nx ≤ s.size ∧ (aP l : Int) ≤ nx - i))
theorem j3 {s w : ByteArray} {i : Int} (h : D8 s i w = true) : 0 ≤ i ∧ i + w.size ≤ s.size := by
 unfold D8 at h;simp only [Bool.and_eq_true, decide_eq_true_eq] at h;exact ⟨h.1, h.2.1⟩
theorem P1 {s : ByteArray} {i op x y n nx : Int} (h : nx = -1 ∨ (i < nx ∧ nx ≤ s.size + 3)) : QP s i (.tup [.agg [iv op, iv x, iv y, iv n, .imm 0 [], .imm 0 []], iv nx]) :=
 ⟨.mk op x y n [] [], nx, rfl, by simp only [cL, aP]; omega⟩
theorem P2 {s : ByteArray} {i op x y n nx : Int} {th : List AL.Stmt} (h : (nx = -1 ∧ (aP th : Int) ≤ s.size) ∨ (i < nx ∧ nx ≤ s.size + 3 ∧ (aP th : Int) + 1 ≤ nx - i)) : QP s i (.tup [.agg [iv op, iv x, iv y, iv n, sl aH th, .imm 0 []], iv nx]) :=
 ⟨.mk op x y n th [], nx, rfl, by simp only [cL, aP]; omega⟩
theorem PZ {s : ByteArray} {i op x y n nx : Int} {th el : List AL.Stmt} (h : (nx = -1 ∧ (aP th : Int) + aP el ≤ s.size) ∨ (i < nx ∧ nx ≤ s.size + 3 ∧ (aP th : Int) + aP el + 1 ≤ nx - i)) : QP s i (.tup [.agg [iv op, iv x, iv y, iv n, sl aH th, sl aH el], iv nx]) :=
 ⟨.mk op x y n th el, nx, rfl, by simp only [cL]; omega⟩
theorem QP.pur {s : ByteArray} {i : Int} {r : AV} (h : QP s i r) : r.pur = true := by obtain ⟨x, nx, rfl, _⟩ := h; exact Pur.pf
theorem QB.pur {s : ByteArray} {i : Int} {r : AV} (h : QB s i r) : r.pur = true := by obtain ⟨x, nx, rfl, _⟩ := h; exact Pur.pf
theorem QL.pur {s : ByteArray} {i : Int} {r : AV} (h : QL s i r) : r.pur = true := by obtain ⟨x, nx, rfl, _⟩ := h; exact Pur.pf
theorem s9 {P : Program} {s : AS} {res : Array ResultVar} {q : AV → Prop} {l : List AV} (hQ : ∀ r, q r → r.pur = true) (hr : uQ P (lk s.ts) (aS s.hs) res.toList = some l) (h : q (aQ l)) : nL P res (fun r _ => q r ∧ r.pur = true) .ret s := aF hr ⟨h, hQ _ h⟩
theorem Be (s : ByteArray) (i dp : Int) (hs : s.size ≤ 100000) (hi0 : 0 ≤ i) (hi : i ≤ s.size) (hd0 : 0 ≤ dp) (hd : dp ≤ 10) (braces_ih : ∀ j dj : Int, dj = dp - 1 → -1 ≤ j → j ≤ s.size + 10 → PC Tryz.prog 279 [sv s, iv j, iv dj] (QB s j)) : PC Tryz.prog 255 [sv s, iv i, iv dp] (QP s i) := by
 have h1 : D8 s i ⟨#[100, 114, 111, 112, 32]⟩ = true → i + 5 ≤ s.size := fun h => (j3 h).2
 have h2 : D8 s i ⟨#[108, 111, 111, 112, 123]⟩ = true → i + 5 ≤ s.size := fun h => (j3 h).2
 have h3 : D8 s i ⟨#[105, 102, 123]⟩ = true → i + 3 ≤ s.size := fun h => (j3 h).2
 have h4 : D8 s i ⟨#[42]⟩ = true → i + 1 ≤ s.size := fun h => (j3 h).2
 have h5 : D8 s (i + 1) ⟨#[61]⟩ = true → i + 1 + 1 ≤ s.size := fun h => (j3 h).2
 have h6 : D8 s (i + 2) ⟨#[98, 111, 120, 32]⟩ = true → i + 2 + 4 ≤ s.size := fun h => (j3 h).2
 have h7 : D8 s (i + 2) ⟨#[38, 109, 117, 116, 32]⟩ = true → i + 2 + 5 ≤ s.size := fun h => (j3 h).2
 refine aB Tryz.func255 Tryz.ntmps255 ?_
 repeat' (first|(apply aI;(first|(apply aA (k := 254);rfl;(apply uC <;> (first|omega|decide));(rfl);rfl)|(apply aA (k := 278);rfl;(apply KG <;> (omega));(rfl);rfl)|(apply gF (k := 279);rfl;(apply braces_ih <;> (omega));(rfl);rfl;(rintro _ ⟨l, nx, rfl, hql⟩ _))|(apply aA (k := 280);rfl;(apply Fo <;> (omega));(rfl);rfl)))|refine aD ?_|refine aE ?_|(refine aM ?_ ?_ <;> intro hc hq <;> try (exfalso;omega))|(refine bU ?_ ?_ <;> intro hg hq <;> try (exfalso;omega))|fail)
 all_goals refine s9 (fun _ => QP.pur) (l := [.agg [_, _, _, _, _, _], _]) rfl ?_
 all_goals (try have b1 := h1 (by assumption))
 all_goals (try have b2 := h2 (by assumption))
 all_goals (try have b3 := h3 (by assumption))
 all_goals (try have b4 := h4 (by assumption))
 all_goals (try have b5 := h5 (by assumption))
 all_goals (try have b6 := h6 (by assumption))
 all_goals (try have b7 := h7 (by assumption))
 all_goals clear h1 h2 h3 h4 h5 h6 h7
 all_goals first
  | (refine P1 ?_; omega)
  | skip
 ·refine P2 (th := l) ?_
  rcases hql with ⟨h8, h9⟩|hql
  ·rw [h9]; simp only [aP]; omega
  ·omega
 ·rename_i l1 nx1 hql1 hpu1 hpu2
  refine PZ (th := l1) (el := l) ?_
  rcases hql1 with ⟨h8, h9⟩|hql1 <;> rcases hql with ⟨h10, h11⟩|hql
  ·rw [h9, h11]; simp only [aP]; omega
  ·omega
  ·rw [h11]; simp only [aP]; omega
  ·omega
theorem w6 (s : ByteArray) (i dp : Int) (hs : s.size ≤ 100000) (hi0 : -1 ≤ i) (hi : i ≤ s.size + 10) (hd0 : -1 ≤ dp) (hd : dp ≤ 10) (list_ih : ∀ j dj : Int, 0 ≤ dp → dj = dp → 0 ≤ j → j ≤ s.size → PC Tryz.prog 217 [sv s, iv j, iv dj] (QL s j)) : PC Tryz.prog 279 [sv s, iv i, iv dp] (QB s i) := by
 have h1 : D8 s i ⟨#[123]⟩ = true → 0 ≤ i ∧ i + 1 ≤ s.size := fun h => j3 h
 refine aB Tryz.func279 Tryz.ntmps279 ?_
 repeat' (first|(apply aI;(apply aA (k := 254);rfl;(apply uC <;> (first|omega|decide));(rfl);rfl))|refine aD ?_|refine aE ?_|(refine aM ?_ ?_ <;> intro hc hq <;> try (exfalso;omega))|(refine bU ?_ ?_ <;> intro hg hq <;> try (exfalso;omega))|fail)
 ·refine aV (Le.nilImm (d := 6) rfl) ?_
  exact s9 (fun _ => QB.pur) (l := [.imm 0 [], iv (-1)]) rfl ⟨[], -1, rfl, .inl ⟨rfl, rfl⟩⟩
 ·have b1 := h1 (by assumption)
  repeat' (first|(apply aI;(first|(apply gF (k := 217);rfl;(apply list_ih <;> (first|assumption|omega));(rfl);rfl;(rintro _ ⟨l, nx, rfl, hql⟩ _))|(apply aA (k := 254);rfl;(apply uC <;> (first|omega|decide));(rfl);rfl)))|refine aD ?_|refine aE ?_|(refine aM ?_ ?_ <;> intro hc hq <;> try (exfalso;omega))|fail)
  ·refine aV (Le.nilImm (d := 6) rfl) ?_
   exact s9 (fun _ => QB.pur) (l := [.imm 0 [], iv (-1)]) rfl ⟨[], -1, rfl, .inl ⟨rfl, rfl⟩⟩
  ·have b2 : 0 ≤ nx ∧ nx + 1 ≤ s.size := j3 (w := ⟨#[125]⟩) (by assumption)
   exact s9 (fun _ => QB.pur) (l := [sl aH l, iv (nx + 1)]) rfl ⟨l, nx + 1, rfl, by omega⟩
 ·refine aV (Le.nilImm (d := 6) rfl) ?_
  exact s9 (fun _ => QB.pur) (l := [.imm 0 [], iv (-1)]) rfl ⟨[], -1, rfl, .inl ⟨rfl, rfl⟩⟩
theorem DP (s : ByteArray) (i dp : Int) (hs : s.size ≤ 100000) (hi0 : 0 ≤ i) (hi : i ≤ s.size) (hd0 : 0 ≤ dp) (hd : dp ≤ 10) (parse_ih : ∀ j dj : Int, dj = dp → 0 ≤ j → j ≤ s.size → PC Tryz.prog 255 [sv s, iv j, iv dj] (QP s j)) : PC Tryz.prog 217 [sv s, iv i, iv dp] (QL s i) := by
 refine aB Tryz.func217 Tryz.ntmps217 ?_
 repeat' (first|(apply aI;(apply aA (k := 254);rfl;(apply uC <;> (first|omega|decide));(rfl);rfl))|refine aD ?_|refine aE ?_|(refine aM ?_ ?_ <;> intro hc hq <;> try (exfalso;omega))|(refine bU ?_ ?_ <;> intro hg hq <;> try (exfalso;omega))|fail)
 rotate_left 1
 ·refine aK (σ := Int × List AL.Stmt × Nat) [0, 2] [] (fun k => [(1, iv k.1), (8, .own 0 0 k.2.2 6)]) (fun k => [(0, some (flat aH k.2.1))]) (fun k => i ≤ k.1 ∧ k.1 ≤ s.size ∧ k.2.2 = k.2.1.length ∧ (aP k.2.1 : Int) ≤ k.1 - i) (fun k => (s.size - k.1).toNat) (i, [], 0) ⟨by omega, by omega, rfl, by simp [aP]⟩ ?_
  rintro ⟨k, xs, m⟩ ⟨hk0, hk, hm, hc⟩
  dsimp only at hk0 hk hm hc ⊢
  have hln := cC xs
  repeat' (first|(apply aI;first|(apply aO (t := _);rfl;rfl;rfl;(exact (rfl:_=some [_, _, _, _, _, _]));rfl;rfl)|(first|(apply aA (k := 254);rfl;(apply uC <;> (first|omega|decide));(rfl);rfl)|(apply gF (k := 255);rfl;(apply parse_ih <;> (first|assumption|omega));(rfl);rfl;(rintro _ ⟨x, nx, rfl, hqx⟩ _))))|refine aD ?_|refine aE ?_|(refine aM ?_ ?_ <;> intro hc hq <;> try (exfalso;omega))|(refine bU ?_ ?_ <;> intro hg hq <;> try (exfalso;omega))|fail)
  ·refine aV (Le.nilImm (d := 6) rfl) ?_
   exact s9 (fun _ => QL.pur) (l := [.imm 0 [], iv (-1)]) rfl ⟨[], -1, rfl, .inl ⟨rfl, rfl⟩⟩
  ·refine aV (Le.frzD (d := 6) (i := 3) rfl rfl) ?_
   refine s9 (fun _ => QL.pur) (l := [.imm (m + 1) (flat aH (xs ++ [x])), iv nx]) rfl ⟨xs ++ [x], nx, ?_, ?_⟩
   ·show AV.tup [AV.imm (m + 1) _, _] = AV.tup [AV.imm (List.length (xs ++ [x])) _, _]
    rw [List.length_append, hm]; rfl
   ·rw [c8]; simp only [aP]; omega
  ·have b2 : 0 ≤ nx ∧ nx + 1 ≤ s.size := j3 (w := ⟨#[59]⟩) (by assumption)
   (refine bH (nx + 1, xs ++ [x], m + 1) (Le.renA [(0, 3)]) ?_ ?_)
   ·dsimp only
    refine ⟨by omega, by omega, by simp [hm], ?_⟩
    rw [c8]; simp only [aP]; omega
   ·dsimp only;omega
  ·refine aV (Le.nilImm (d := 6) rfl) ?_
   exact s9 (fun _ => QL.pur) (l := [.imm 0 [], iv (-1)]) rfl ⟨[], -1, rfl, .inl ⟨rfl, rfl⟩⟩
 ·refine aV (Le.frzD (d := 6) (i := 0) rfl rfl) ?_
  exact s9 (fun _ => QL.pur) (l := [.imm 0 [], iv i]) rfl ⟨[], i, rfl, by simp only [aP]; omega⟩
 ·refine aV (Le.frzD (d := 6) (i := 0) rfl rfl) ?_
  exact s9 (fun _ => QL.pur) (l := [.imm 0 [], iv i]) rfl ⟨[], i, rfl, by simp only [aP]; omega⟩
theorem Bm (s : ByteArray) (hs : s.size ≤ 100000) : ∀ n : Nat, n ≤ 10 → (∀ j : Int, -1 ≤ j → j ≤ s.size + 10 → PC Tryz.prog 279 [sv s, iv j, iv ((n : Int) - 1)] (QB s j)) ∧ (∀ j : Int, 0 ≤ j → j ≤ s.size → PC Tryz.prog 217 [sv s, iv j, iv (n : Int)] (QL s j))
 | 0, hn => by
  have hB : ∀ j : Int, -1 ≤ j → j ≤ s.size + 10 → PC Tryz.prog 279 [sv s, iv j, iv (((0 : Nat) : Int) - 1)] (QB s j) :=
   fun j h0 h1 => w6 s j (((0 : Nat) : Int) - 1) hs h0 h1 (by omega) (by omega) (fun _ _ h => by omega)
  have hP : ∀ j : Int, 0 ≤ j → j ≤ s.size → PC Tryz.prog 255 [sv s, iv j, iv ((0 : Nat) : Int)] (QP s j) :=
   fun j h0 h1 => Be s j _ hs h0 h1 (by omega) (by omega) (fun k dj h2 h3 h4 => by subst h2;exact hB k h3 h4)
  exact ⟨hB, fun j h0 h1 => DP s j _ hs h0 h1 (by omega) (by omega) (fun k dj h2 h3 h4 => by subst h2;exact hP k h3 h4)⟩
 | n + 1, hn => by
  have ih := Bm s hs n (by omega)
  have e : (((n + 1 : Nat) : Int) - 1) = (n : Int) := by omega
  have hB : ∀ j : Int, -1 ≤ j → j ≤ s.size + 10 → PC Tryz.prog 279 [sv s, iv j, iv (((n + 1 : Nat) : Int) - 1)] (QB s j) :=
   fun j h0 h1 => w6 s j _ hs h0 h1 (by omega) (by omega) (fun k dj h2 h3 h4 h5 => by rw [e] at h3;subst h3;exact ih.2 k h4 h5)
  have hP : ∀ j : Int, 0 ≤ j → j ≤ s.size → PC Tryz.prog 255 [sv s, iv j, iv ((n + 1 : Nat) : Int)] (QP s j) :=
   fun j h0 h1 => Be s j _ hs h0 h1 (by omega) (by omega) (fun k dj h2 h3 h4 => by subst h2;exact hB k h3 h4)
  exact ⟨hB, fun j h0 h1 => DP s j _ hs h0 h1 (by omega) (by omega) (fun k dj h2 h3 h4 => by subst h2;exact hP k h3 h4)⟩
theorem Lb (s : ByteArray) (i : Int) (hs : s.size ≤ 100000) (hi0 : 0 ≤ i) (hi : i ≤ s.size) : PC Tryz.prog 217 [sv s, iv i, iv 4] (QL s i) := (Bm s hs 4 (by omega)).2 i hi0 hi
theorem B6 (v : Int) (h0 : 0 ≤ v) (h1 : v ≤ 25) : PC Tryz.prog 285 [iv v] (fun r => r = sv (gH v)) := by
 refine aB Tryz.func285 Tryz.ntmps285 ?_
 repeat' (first|(apply aI;first|(apply Km;rfl;rfl;omega;rfl)|(apply I3 (ns := [_]);rfl;rfl;rfl)|(apply A8;rfl;omega;rfl))|refine aD ?_|refine aE ?_|refine c5 ?_|fail)
 exact ⟨rfl, rfl⟩
theorem IE (n : Int) (h0 : 0 ≤ n) (h1 : n ≤ 9) : PC Tryz.prog 286 [iv n] (fun r => r = sv (Df n)) := by
 refine aB Tryz.func286 Tryz.ntmps286 ?_
 repeat' (first|refine aD ?_|refine aE ?_|(refine aM ?_ ?_ <;> intro hc hq <;> try (exfalso;omega))|fail)
 refine aK (σ := Unit) [0, 3] [] (fun u => []) (fun u => []) (fun u => True) (fun u => 0) () trivial ?_
 rintro u _
 repeat' (first|(apply aI;first|(apply kT;rfl;rfl;(rfl);rfl)|(apply I3 (ns := [_]);rfl;rfl;rfl)|(apply A8;rfl;omega;rfl))|refine aD ?_|refine aE ?_|(refine aM ?_ ?_ <;> intro hc hq <;> try (exfalso;omega))|refine c5 ?_|fail)
 exact ⟨rfl, rfl⟩
theorem Ec (s : AL.Stmt) (hc : cL s ≤ 10000) (hop : (s.op = 9 ∨ s.op = 10) ∨ (1 ≤ s.op ∧ s.op ≤ 8 ∧ 0 ≤ s.x ∧ s.x ≤ 5 ∧ 0 ≤ s.y ∧ s.y ≤ 5 ∧ (s.op = 1 ∨ s.op = 2 → 0 ≤ s.n ∧ s.n ≤ 9)))
  (hth : s.op = 9 ∨ s.op = 10 → PC Tryz.prog 256 [sl aH s.th] (fun r => r = sv (jC s.th))) (hel : s.op = 9 → PC Tryz.prog 256 [sl aH s.el] (fun r => r = sv (jC s.el))) : PC Tryz.prog 281 [dN s] (fun r => r = sv (lI s)) := by
 have k1 := lE s.th
 have k2 := lE s.el
 have k3 := fG s
 refine aB Tryz.func281 Tryz.ntmps281 ?_
 repeat' (first|(apply aI;first|(apply kT;rfl;rfl;(first|rfl|exact sE (by (simp only [ByteArray.size_append, pG, List.length_cons, List.length_nil, mY, nB, qD] <;> omega)));rfl)|(first|(apply aA (k := 256);rfl;(first|(apply hth;omega)|(apply hel;omega));exact Pur.pf;rfl)|(apply aA (k := 285);rfl;(apply B6 <;> (omega));(rfl);rfl)|(apply aA (k := 286);rfl;(apply IE <;> (omega));(rfl);rfl)))|refine aD ?_|refine aE ?_|(refine aM ?_ ?_ <;> intro hc hq <;> try (exfalso;omega))|refine b0 ?_|refine c5 ?_|fail)
 all_goals (refine ⟨?_, rfl⟩; rw [F3]; repeat' split)
 all_goals (first|rfl|omega)
theorem BT (l : List AL.Stmt) (hc : aP l ≤ 10000) (text_ih : ∀ k, k < l.length → PC Tryz.prog 281 [dN l[k]!] (fun r => r = sv (lI l[k]!))) : PC Tryz.prog 256 [sl aH l] (fun r => r = sv (jC l)) := by
 have hlen := cC l
 refine aB Tryz.func256 Tryz.ntmps256 ?_
 repeat' (first|refine aD ?_|refine aE ?_|fail)
 refine aK (σ := Nat × ByteArray) [0] [] (fun k => [(4, iv (k.1 : Int)), (3, sv k.2)]) (fun k => []) (fun k => k.1 ≤ l.length ∧ k.2 = jC (l.take k.1)) (fun k => l.length - k.1) (0, ⟨#[]⟩) ⟨by omega, rfl⟩ ?_
 rintro ⟨k, t⟩ ⟨hk, ht⟩
 dsimp only at hk ht ⊢
 have k1 := lE (l.take k)
 have k2 := uI l[k]!
 have hck := fB l k
 have hct : aP (l.take k) ≤ aP l := by have := c8 (l.take k) (l.drop k);rw [List.take_append_drop] at this;omega
 have k3 : t.size = (jC (l.take k)).size := by rw [ht]
 repeat' (first|(apply aI;first|(apply kT;rfl;rfl;(exact sE (by (first|omega|(simp only [ByteArray.size_append, pG, List.length_cons, List.length_nil, mY, nB, qD] <;> omega))));rfl)|(apply aA (k := 281);rfl;(apply text_ih <;> (omega));exact Pur.pf;rfl))|refine aD ?_|refine aE ?_|(refine aM ?_ ?_ <;> intro hc hq <;> try (exfalso;omega))|refine c5 ?_|fail)
 ·(refine bH (k + 1, _) (Le.renA []) ?_ ?_)
  ·exact ⟨by dsimp only;omega, by dsimp only;rw [sW l k (by omega), qX, if_pos (by omega), ht]⟩
  ·dsimp only;omega
 ·(refine bH (k + 1, _) (Le.renA []) ?_ ?_)
  ·exact ⟨by dsimp only;omega, by dsimp only;rw [sW l k (by omega), qX, if_neg (by omega), ht]⟩
  ·dsimp only;omega
 ·have hke : k = l.length := by omega
  refine ⟨?_, rfl⟩
  rw [ht, hke, List.take_length]; rfl
theorem Jn (ts : List Int) (hts : bK ts = true) : ∀ m : Nat, m ≤ 10000 → ∀ l d, aP l ≤ m → okL ts d l = true → PC Tryz.prog 256 [sl aH l] (fun r => r = sv (jC l)) := by
 intro m
 induction m with
 | zero =>
  intro hm l d hc ho
  have := cC l
  exact BT l (by omega) (fun k hk => by omega)
 | succ m ih =>
  intro hm l d hc ho
  refine BT l (by omega) (fun k hk => ?_)
  have hck := fB l k hk
  have hct := iG l[k]!
  have hs : sS ts d l[k]! = true := by rw [yS, jY] at ho;exact ho k hk
  rw [Ed] at hs
  by_cases h9 : l[k]!.op ≠ 9 ∧ l[k]!.op ≠ 10
  ·rw [if_pos h9] at hs
   simp only [Bool.and_eq_true] at hs
   exact Ec _ (by omega) (.inr (ES hts hs.2)) (fun h => by omega) (fun h => by omega)
  ·rw [if_neg h9] at hs
   cases d with
   | zero => cases hs
   | succ d =>
    simp only [Bool.and_eq_true] at hs
    exact Ec _ (by omega) (.inl (by omega)) (fun h => ih (by omega) _ d (by omega) hs.1.2) (fun h => ih (by omega) _ d (by omega) hs.2)
theorem IZ (ts : List Int) (d : Nat) (l : List AL.Stmt) (hts : bK ts = true) (hc : aP l ≤ 10000) (ho : okL ts d l = true) : PC Tryz.prog 256 [sl aH l] (fun r => r = sv (jC l)) := Jn ts hts _ hc l d (Nat.le_refl _) ho
end Go.Proofs.YtahdccneecdmmaaGreat
