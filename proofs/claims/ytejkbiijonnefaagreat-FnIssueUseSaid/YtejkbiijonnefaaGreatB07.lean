/-
  A part of the proofs over this program: rules and contracts of its functions (the contracts).
-/
import Derived.Test.YtejkbiijonnefaaGreatB06
set_option linter.unusedVariables false
set_option linter.unusedSimpArgs false
set_option maxHeartbeats 8000000
set_option maxRecDepth 4000
attribute [local irreducible] Go.AL.RW Go.AL.AW Go.AL.Stop
namespace Go.Proofs.YtejkbiijonnefaaGreat
open Go.AL Go.RowKit

def eqI (a b : Iss) : Bool := a.point == b.point && (a.kind == b.kind && a.with_ == b.with_)
theorem eqI_iff (a b : Iss) : eqI a b = true ↔ a = b := by
  unfold eqI
  simp only [Bool.and_eq_true, beq_iff_eq]
  constructor
  · rintro ⟨h1, h2, h3⟩; cases a; cases b; simp only at h1 h2 h3; rw [h1, h2, h3]
  · rintro rfl; exact ⟨rfl, rfl, rfl⟩
def idxI (x : Iss) (L : List Iss) : Int := match L.findIdx? (eqI x) with | some i => i | none => -1
theorem idxI_c (L : List Iss) (x : Iss) (hl : L.length ≤ 1000000) : PC Tryz.prog 162 [sl cIss L, aIss x] (fun r => r = iv (idxI x L)) := by
  (refine pc_of_aw Tryz.func162 rfl (by simp [Tryz.ntmps162]) ?_; rw [Tryz.ntmps162])
  repeat' (first | (apply id_rw; first | (apply rx_move;rfl;rfl) | (apply rx_assign;rfl;rfl) | (apply rx_len;rfl;rfl;rfl) | (apply rw_nil;kernel_rfl) | (apply rx_box;rfl;rfl;rfl;rfl)) | (apply id_aw; first | apply aw_seq | apply aw_region | apply aw_block) | with_reducible apply tq_normal)
  refine aw_loopK (σ := Nat) [0, 3, 7] [(0, _), (3, _), (7, _)] [0] [(0, some _)] (fun k => [(8, iv (k : Int))]) (fun k => []) (fun k => k ≤ L.length ∧ ∀ j, j < k → eqI x L[j]! = false) (fun k => L.length - k) (0) ⟨by omega, by omega⟩ rfl rfl (by repeat' (first | exact trivial | refine And.intro rfl ?_)) (by repeat' (exact trivial)) ?_
  intro k ⟨hk, hall⟩
  have heq : (x.point == L[k]!.point && (x.kind == L[k]!.kind && x.with_ == L[k]!.with_)) = eqI x L[k]! := rfl
  by_cases hkn : k < L.length
  · cases hb : eqI x L[k]!
    · rw [hb] at heq
      repeat' (first | (apply id_rw; first | (apply rx_eq3;rfl;rfl;(rw [heq]; rfl);rfl) | (apply rx_move;rfl;rfl) | (apply rx_loadA;rfl;rfl;(exact (rfl:_=[_, _, _]));rfl;rfl;rfl) | (first | (apply rx_add;rfl;rfl;omega;rfl) | (apply rx_bin;rfl;rfl;rfl;rfl)) | (apply rx_assign;rfl;rfl) | (apply rx_indexFN; (case hx | hi => rfl); (case hm => (assumption)); (case hml => (rfl)); (case hα | hf | hg => infer_instance); (case hN => rfl)) | (apply rw_nil;kernel_rfl)) | (apply id_aw; first | apply aw_seq | apply aw_region | (apply aw_draw;kernel_rfl) | (apply aw_condF;rfl;(rfl)) | (apply aw_cond;rfl;all_goals intro hc;have hq:=hc;(try simp only [bqs] at hq);try exfalso;omega) | apply aw_block | apply aw_skip) | with_reducible apply tq_normal | with_reducible apply bq_normal)
      (apply ex3 (k + 1); focus (refine Le.ren [(0, 0)] rfl (by decide) ?_ ?_ <;> repeat' (first | exact trivial | refine And.intro ⟨_, rfl, ?_⟩ ?_ | refine And.intro ⟨_, _, rfl, rfl, ?_⟩ ?_ | exact Or.inr rfl | refine Or.inl ⟨?_, (by first | rfl | exact pur_sl _ _)⟩ | rfl)))
      · refine ⟨by omega, fun j hj => ?_⟩
        by_cases e : j = k
        · subst e; exact hb
        · exact hall j (by omega)
      · omega
    · rw [hb] at heq
      repeat' (first | (apply id_rw; first | (apply rx_eq3;rfl;rfl;(rw [heq]; rfl);rfl) | (apply rx_move;rfl;rfl) | (apply rx_loadA;rfl;rfl;(exact (rfl:_=[_, _, _]));rfl;rfl;rfl) | (apply rx_bin;rfl;rfl;rfl;rfl) | (apply rx_assign;rfl;rfl) | (apply rx_indexFN; (case hx | hi => rfl); (case hm => (assumption)); (case hml => (rfl)); (case hα | hf | hg => infer_instance); (case hN => rfl)) | (apply rw_nil;kernel_rfl)) | (apply id_aw; first | apply aw_seq | apply aw_region | (apply aw_draw;kernel_rfl) | (apply aw_condT;rfl;(rfl)) | (apply aw_cond;rfl;all_goals intro hc;have hq:=hc;(try simp only [bqs] at hq);try exfalso;omega) | apply aw_block | apply aw_skip | apply aw_ret) | with_reducible apply tq_normal | with_reducible apply tq_ret | with_reducible apply bq_ret)
      refine rq_ret rfl ⟨?_, rfl⟩
      have : L.findIdx? (eqI x) = some k := by
        rw [List.findIdx?_eq_some_iff_getElem]
        refine ⟨hkn, by rw [← getB L k hkn]; exact hb, fun j hj => ?_⟩
        have := hall j hj; rw [getB L j (by omega)] at this; rw [this]; decide
      simp only [idxI, this]; rfl
  · repeat' (first | (apply id_rw; first | (apply rx_bin;rfl;rfl;rfl;rfl) | (apply rx_assign;rfl;rfl) | (apply rw_nil;kernel_rfl)) | (apply id_aw; first | apply aw_seq | apply aw_region | (apply aw_cond;rfl;all_goals intro hc;have hq:=hc;(try simp only [bqs] at hq);try exfalso;omega) | apply aw_exit | apply aw_ret) | with_reducible apply tq_normal | with_reducible apply tq_exit | with_reducible apply bq_here)
    refine rq_ret rfl ⟨?_, rfl⟩
    have : L.findIdx? (eqI x) = none := by
      rw [List.findIdx?_eq_none_iff]
      intro y hy
      obtain ⟨j, hj, rfl⟩ := List.getElem_of_mem hy
      have := hall j (by omega); rw [getB L j hj] at this; exact this
    simp only [idxI, this]; rfl
theorem idxI_ge (x : Iss) (L : List Iss) : decide (0 ≤ idxI x L) = decide (x ∈ L) := by
  unfold idxI
  split
  · rename_i i h
    obtain ⟨h1, h2, _⟩ := List.findIdx?_eq_some_iff_getElem.1 h
    rw [decide_eq_true (by rw [(eqI_iff _ _).1 h2]; exact List.getElem_mem h1 : x ∈ L)]; simp
  · rename_i h
    rw [List.findIdx?_eq_none_iff] at h
    have : ¬ x ∈ L := fun hx => by have := h x hx; rw [(eqI_iff x x).2 rfl] at this; cases this
    rw [decide_eq_false this]; rfl
theorem contI_c (L : List Iss) (x : Iss) (hl : L.length ≤ 1000000) : PC Tryz.prog 101 [sl cIss L, aIss x] (fun r => r = bv (decide (x ∈ L))) := by
  have hi := idxI_c L x hl
  (refine pc_of_aw Tryz.func101 rfl (by simp [Tryz.ntmps101]) ?_; rw [Tryz.ntmps101])
  repeat' (first | (apply id_rw; first | ((with_reducible apply rx_callE (k := 162)); (case ha => rfl); (case h => exact hi); (case hp => (exact Pur.pf)); (case hN => rfl)) | (apply rx_move;rfl;rfl) | (apply rx_loadA;rfl;rfl;(exact (rfl:_=[_, _, _]));rfl;rfl;rfl) | (apply rx_bin;rfl;rfl;rfl;rfl) | (apply rx_assign;rfl;rfl) | (apply rw_nil;kernel_rfl) | (apply rx_box;rfl;rfl;rfl;rfl)) | (apply id_aw; first | apply aw_seq | apply aw_region | apply aw_ret) | with_reducible apply tq_normal)
  refine rq_ret rfl ⟨?_, rfl⟩
  exact congrArg bv (idxI_ge x L)
theorem l13Has_c (p : Prg) (L : List Iss) (x : Iss) (hC : PC Tryz.prog 33 [aPrg p] (fun r => r = sl cIss L)) (hl : L.length ≤ 1000000) : PC Tryz.prog 105 [aPrg p, aIss x] (fun r => r = bv (decide (x ∈ L))) := by
  (refine pc_of_aw Tryz.func105 rfl (by simp [Tryz.ntmps105]) ?_; rw [Tryz.ntmps105])
  repeat' (first | (apply id_rw; first | ((with_reducible apply rx_callE (k := 33)); (case ha => rfl); (case h => exact hC); (case hp => (exact Pur.pf)); (case hN => rfl)) | (apply rx_loadA;rfl;rfl;(exact (rfl:_=[_, _]));rfl;rfl;rfl) | (apply rx_assign;rfl;rfl) | (apply rw_nil;kernel_rfl) | (apply rx_box;rfl;rfl;rfl;rfl)) | (apply id_aw; first | apply aw_seq | apply aw_region | apply aw_block) | with_reducible apply tq_normal)
  refine aw_loopK (σ := Nat) [3, 5] [(3, _), (5, _)] [0, 1] [(0, some _), (1, some _)] (fun k => [(6, iv (k : Int))]) (fun k => []) (fun k => k ≤ L.length ∧ ∀ j, j < k → eqI L[j]! x = false) (fun k => L.length - k) (0) ⟨by omega, by omega⟩ rfl rfl (by repeat' (first | exact trivial | refine And.intro rfl ?_)) (by repeat' (exact trivial)) ?_
  intro k ⟨hk, hall⟩
  have heq : (L[k]!.point == x.point && (L[k]!.kind == x.kind && L[k]!.with_ == x.with_)) = eqI L[k]! x := rfl
  by_cases hkn : k < L.length
  · cases hb : eqI L[k]! x
    · rw [hb] at heq
      repeat' (first | (apply id_rw; first | (apply rx_eq3;rfl;rfl;(rw [heq]; rfl);rfl) | (apply rx_move;rfl;rfl) | (apply rx_loadA;rfl;rfl;(exact (rfl:_=[_, _, _]));rfl;rfl;rfl) | (first | (apply rx_add;rfl;rfl;omega;rfl) | (apply rx_bin;rfl;rfl;rfl;rfl)) | (apply rx_assign;rfl;rfl) | (apply rx_indexFN; (case hx | hi => rfl); (case hm => (assumption)); (case hml => (rfl)); (case hα | hf | hg => infer_instance); (case hN => rfl)) | (apply rx_len;rfl;rfl;rfl) | (apply rw_nil;kernel_rfl)) | (apply id_aw; first | apply aw_seq | apply aw_region | (apply aw_draw;kernel_rfl) | (apply aw_condF;rfl;(rfl)) | (apply aw_cond;rfl;all_goals intro hc;have hq:=hc;(try simp only [bqs] at hq);try exfalso;omega) | apply aw_block | apply aw_skip) | with_reducible apply tq_normal | with_reducible apply bq_normal)
      (apply ex3 (k + 1); focus (refine Le.ren [(0, 0), (1, 1)] rfl (by decide) ?_ ?_ <;> repeat' (first | exact trivial | refine And.intro ⟨_, rfl, ?_⟩ ?_ | refine And.intro ⟨_, _, rfl, rfl, ?_⟩ ?_ | exact Or.inr rfl | refine Or.inl ⟨?_, (by first | rfl | exact pur_sl _ _ | exact Pur.pf)⟩ | rfl)))
      · refine ⟨by omega, fun j hj => ?_⟩
        by_cases e : j = k
        · subst e; exact hb
        · exact hall j (by omega)
      · omega
    · rw [hb] at heq
      repeat' (first | (apply id_rw; first | (apply rx_eq3;rfl;rfl;(rw [heq]; rfl);rfl) | (apply rx_move;rfl;rfl) | (apply rx_loadA;rfl;rfl;(exact (rfl:_=[_, _, _]));rfl;rfl;rfl) | (apply rx_bin;rfl;rfl;rfl;rfl) | (apply rx_assign;rfl;rfl) | (apply rx_indexFN; (case hx | hi => rfl); (case hm => (assumption)); (case hml => (rfl)); (case hα | hf | hg => infer_instance); (case hN => rfl)) | (apply rx_len;rfl;rfl;rfl) | (apply rw_nil;kernel_rfl)) | (apply id_aw; first | apply aw_seq | apply aw_region | (apply aw_draw;kernel_rfl) | (apply aw_condT;rfl;(rfl)) | (apply aw_cond;rfl;all_goals intro hc;have hq:=hc;(try simp only [bqs] at hq);try exfalso;omega) | apply aw_block | apply aw_skip | apply aw_ret) | with_reducible apply tq_normal | with_reducible apply tq_ret | with_reducible apply bq_ret)
      refine rq_ret rfl ⟨?_, rfl⟩
      rw [decide_eq_true (by have := getB_mem L k hkn; rw [(eqI_iff _ _).1 hb] at this; exact this : x ∈ L)]; rfl
  · repeat' (first | (apply id_rw; first | (apply rx_move;rfl;rfl) | (apply rx_bin;rfl;rfl;rfl;rfl) | (apply rx_assign;rfl;rfl) | (apply rx_len;rfl;rfl;rfl) | (apply rw_nil;kernel_rfl)) | (apply id_aw; first | apply aw_seq | apply aw_region | (apply aw_cond;rfl;all_goals intro hc;have hq:=hc;(try simp only [bqs] at hq);try exfalso;omega) | apply aw_exit | apply aw_ret) | with_reducible apply tq_normal | with_reducible apply tq_exit | with_reducible apply bq_here)
    refine rq_ret rfl ⟨?_, rfl⟩
    rw [decide_eq_false (fun h => by
      obtain ⟨j, hj, e⟩ := List.getElem_of_mem h
      have := hall j (by omega)
      rw [getB L j hj, e, (eqI_iff x x).2 rfl] at this; cases this)]; rfl
theorem begun_c (ts : List Int) (bd : List AL.Stmt) (pts : List Pnt) (t : Nat) (w : WG ts pts) (hr : Rch pts) (ht : t < pts.length) : PC Tryz.prog 102 [aG ts bd pts, iv (t : Int)] (fun r => r = .tup [sl cI (cN' (toW pts t)), bv true]) := by
  have h0 := w.p0
  by_cases hz : t = 0
  · subst hz
    (refine pc_of_aw Tryz.func102 rfl (by simp [Tryz.ntmps102]) ?_; rw [Tryz.ntmps102])
    repeat' (first | (apply id_rw; first | (apply rx_move;rfl;rfl) | (apply rx_bin;rfl;rfl;rfl;rfl) | (apply rx_assign;rfl;rfl) | (apply rw_nil;kernel_rfl) | ((apply rx_buildSliceI (t := _)); (case hze | hsm | hl => rfl); (case hfl => exact (rfl:_=some [_])); (case hM | hN => rfl))) | (apply id_aw; first | apply aw_seq | apply aw_region | (apply aw_condT;rfl;(rfl)) | apply aw_ret) | with_reducible apply tq_normal | with_reducible apply tq_ret)
    all_goals first | exact rq_ret rfl ⟨rfl, (by (rfl))⟩ | exact absurd trivial (by assumption : ¬ True)
  · have hsw := shortWay_c ts bd pts 0 t w h0 ht
    rw [decide_eq_true ((enW_iff w.nx h0 t).2 (hr.wy t t (Nat.le_refl _) (by omega) ht))] at hsw
    have e : toW pts t = wyW pts 0 t := if_neg hz
    rw [← e] at hsw
    (refine pc_of_aw Tryz.func102 rfl (by simp [Tryz.ntmps102]) ?_; rw [Tryz.ntmps102])
    repeat' (first | (apply id_rw; first | ((with_reducible apply rx_callE (k := 103)); (case ha => rfl); (case h => exact hsw); (case hp => (exact Pur.pf)); (case hN => rfl)) | (apply rx_move;rfl;rfl) | (apply rx_bin;rfl;rfl;rfl;rfl) | (apply rx_assign;rfl;rfl) | (apply rw_nil;kernel_rfl) | (apply rx_extract;rfl;rfl;rfl)) | (apply id_aw; first | apply aw_seq | apply aw_region | (apply aw_cond;rfl;all_goals intro hc;have hq:=hc;(try simp only [bqs] at hq);try exfalso;omega) | apply aw_skip | apply aw_ret) | with_reducible apply tq_normal)
    exact rq_ret rfl ⟨rfl, (by (exact Pur.pf))⟩
theorem l13To_c (ts : List Int) (pts : List Pnt) (t : Nat) (w : WG ts pts) (ht : t < pts.length) : PC Tryz.prog 107 [sl cPnt pts, iv (t : Int)] (fun r => r = sl cI (cN' (toW pts t))) := by
  have h0 := w.p0
  by_cases hz : t = 0
  · subst hz
    (refine pc_of_aw Tryz.func107 rfl (by simp [Tryz.ntmps107]) ?_; rw [Tryz.ntmps107])
    repeat' (first | (apply id_rw; first | (apply rx_move;rfl;rfl) | (apply rx_bin;rfl;rfl;rfl;rfl) | (apply rx_assign;rfl;rfl) | (apply rw_nil;kernel_rfl) | ((apply rx_buildSliceI (t := _)); (case hze | hsm | hl => rfl); (case hfl => exact (rfl:_=some [_])); (case hM | hN => rfl))) | (apply id_aw; first | apply aw_seq | apply aw_region | (apply aw_condT;rfl;(rfl)) | apply aw_ret) | with_reducible apply tq_normal | with_reducible apply tq_ret)
    all_goals first | exact rq_ret rfl ⟨rfl, (by (rfl))⟩ | exact absurd trivial (by assumption : ¬ True)
  · have hsw := l13Way_c ts pts 0 t w h0 ht
    have e : toW pts t = wyW pts 0 t := if_neg hz
    rw [← e] at hsw
    (refine pc_of_aw Tryz.func107 rfl (by simp [Tryz.ntmps107]) ?_; rw [Tryz.ntmps107])
    repeat' (first | (apply id_rw; first | ((with_reducible apply rx_callE (k := 98)); (case ha => rfl); (case h => exact hsw); (case hp => (exact Pur.pf)); (case hN => rfl)) | (apply rx_move;rfl;rfl) | (apply rx_bin;rfl;rfl;rfl;rfl) | (apply rx_assign;rfl;rfl) | (apply rw_nil;kernel_rfl) | (apply rx_extract;rfl;rfl;rfl)) | (apply id_aw; first | apply aw_seq | apply aw_region | (apply aw_cond;rfl;all_goals intro hc;have hq:=hc;(try simp only [bqs] at hq);try exfalso;omega) | apply aw_skip | apply aw_ret) | with_reducible apply tq_normal)
    exact rq_ret rfl ⟨rfl, (by (exact pur_sl _ _))⟩
theorem l13Join_c (a b : List Int) (ha : a.length ≤ 1000) (hb : b.length ≤ 1000) (h1 : 0 < b.length) : PC Tryz.prog 108 [sl cI a, sl cI b] (fun r => r = sl cI (a ++ b.drop 1)) := by
  have htl : (List.take (b.length - Int.toNat 1) (List.drop (Int.toNat 1) b)).length = b.length - 1 := by
    show (List.take (b.length - 1) (List.drop 1 b)).length = _
    rw [List.length_take, List.length_drop]; omega
  (refine pc_of_aw Tryz.func108 rfl (by simp [Tryz.ntmps108]) ?_; rw [Tryz.ntmps108])
  repeat' (first | (apply id_rw; first | (apply rx_move;rfl;rfl) | (apply rx_assign;rfl;rfl) | (apply rx_append;rfl;rfl;rfl;rfl;rfl;(case hl => first | (rw [flat_length]; omega) | (simp [flat_length]; done));(exact sC_imm (by (rfl)));omega;omega;(first | exact app_nilF (by (omega)) | exact app_ints (by (omega)));rfl;rfl) | (apply rw_nil;kernel_rfl) | (apply rx_sliceF;rfl;infer_instance;rfl;rfl;(omega);rfl) | (apply rx_buildSlice;rfl;rfl;rfl;(rfl);rfl;rfl)) | (apply id_aw; first | apply aw_seq | apply aw_region | (apply aw_draw;kernel_rfl) | apply aw_ret) | with_reducible apply tq_normal)
  refine rq_le (Le.frzD (d := 4) (i := 2) rfl rfl) ?_
  refine rq_ret rfl ⟨?_, (by (exact pur_sl _ _))⟩
  have e : List.take (b.length - Int.toNat 1) (List.drop (Int.toNat 1) b) = b.drop 1 := by
    show List.take (b.length - 1) (List.drop 1 b) = _
    exact List.take_of_length_le (by rw [List.length_drop]; omega)
  rw [e]
  simp only [oneOf, sl, List.length_append, Nat.zero_add]
end Go.Proofs.YtejkbiijonnefaaGreat

namespace Go.Proofs.YtejkbiijonnefaaGreat
open Go.AL Go.RowKit

theorem WitI0_c (p : Prg) (x : Iss) (hv : validF p = false) (hl : p.types.length ≤ 1000000) (hs : cntL p.body ≤ 1000000) : PC Tryz.prog 42 [aPrg p, aIss x] (fun r => r = .tup [sl cI [], bv false]) := by
  have hg := graphOf_c p hl hs
  rw [if_neg (by simp [hv])] at hg
  (refine pc_of_aw Tryz.func42 rfl (by simp [Tryz.ntmps42]) ?_; rw [Tryz.ntmps42])
  repeat' (first | (apply id_rw; first | ((with_reducible apply rx_callE (k := 62)); (case ha => rfl); (case h => exact hg); (case hp => (exact Pur.pf)); (case hN => rfl)) | (apply rx_move;rfl;rfl) | (apply rx_loadA;rfl;rfl;(exact (rfl:_=[_, _]));rfl;rfl;rfl) | (apply rx_guardNs;rfl;rfl;rfl;(rfl)) | (apply rx_assign;rfl;rfl) | (apply rx_pickT;rfl;(rfl);rfl;rfl) | (apply rw_nil;kernel_rfl) | (apply rx_not;rfl;rfl) | (apply rx_box;rfl;rfl;rfl;rfl) | (apply rx_extract;rfl;rfl;rfl)) | (apply id_aw; first | apply aw_seq | apply aw_region | (apply aw_draw;kernel_rfl) | (apply aw_condT;rfl;(rfl)) | apply aw_ret) | with_reducible apply tq_normal | with_reducible apply tq_ret)
  (refine rq_le (Le.nilImm (d := 4) rfl) ?_; refine rq_ret rfl ?_)
  exact ⟨rfl, rfl⟩
theorem WitI1_c (p : Prg) (f : Flows p.types (ptsF p)) (x : Iss) (hv : validF p = true) (hx : x ∉ f.iss) (hl : p.types.length ≤ 1000000) (hs : cntL p.body ≤ 1000000) : PC Tryz.prog 42 [aPrg p, aIss x] (fun r => r = .tup [sl cI [], bv false]) := by
  have w := WG.of_valid hv
  have hg := graphOf_c p hl hs
  rw [if_pos hv] at hg
  have hi := issuesI_c p.types p.body (ptsF p) w f
  have hc := contI_c f.iss x (Nat.le_trans (iss_len' w f) (by decide))
  rw [decide_eq_false hx] at hc
  (refine pc_of_aw Tryz.func42 rfl (by simp [Tryz.ntmps42]) ?_; rw [Tryz.ntmps42])
  repeat' (first | (apply id_rw; first | ((with_reducible apply rx_callE (k := 62)); (case ha => rfl); (case h => exact hg); (case hp => (exact Pur.pf)); (case hN => rfl)) | ((with_reducible apply rx_callE (k := 63)); (case ha => rfl); (case h => exact hi); (case hp => (exact Pur.pf)); (case hN => rfl)) | ((with_reducible apply rx_callE (k := 101)); (case ha => rfl); (case h => exact hc); (case hp => (exact Pur.pf)); (case hN => rfl)) | (apply rx_move;rfl;rfl) | (apply rx_loadA;rfl;rfl;(first | exact (rfl:_=[_, _]) | exact (rfl:_=[_, _, _]));rfl;rfl;rfl) | (apply rx_guardY;rfl;rfl;rfl;(rfl)) | (apply rx_assign;rfl;rfl) | (apply rx_pickF;rfl;(rfl);rfl;rfl) | (apply rw_nil;kernel_rfl) | (apply rx_not;rfl;rfl) | (apply rx_box;rfl;rfl;rfl;rfl) | (apply rx_extract;rfl;rfl;rfl)) | (apply id_aw; first | apply aw_seq | apply aw_region | (apply aw_draw;kernel_rfl) | (apply aw_condT;rfl;(rfl)) | apply aw_ret) | with_reducible apply tq_normal | with_reducible apply tq_ret)
  (refine rq_le (Le.nilImm (d := 4) rfl) ?_; refine rq_ret rfl ?_)
  exact ⟨rfl, rfl⟩
theorem WitI2_c (p : Prg) (f : Flows p.types (ptsF p)) (a : Nat) (k wi : Int) (hk : k = 1) (ha : a < (ptsF p).length) (hv : validF p = true) (hx : (⟨(a : Int), k, wi⟩ : Iss) ∈ f.iss) (hl : p.types.length ≤ 1000000) (hs : cntL p.body ≤ 1000000) :
    PC Tryz.prog 42 [aPrg p, aIss ⟨(a : Int), k, wi⟩] (fun r => r = .tup [sl cI (cN' (toW (ptsF p) a)), bv true]) := by
  have w := WG.of_valid hv
  have hg := graphOf_c p hl hs
  rw [if_pos hv] at hg
  have hi := issuesI_c p.types p.body (ptsF p) w f
  have hc := contI_c f.iss ⟨(a : Int), k, wi⟩ (Nat.le_trans (iss_len' w f) (by decide))
  rw [decide_eq_true hx] at hc
  have hb := begun_c p.types p.body (ptsF p) a w (Rch.of p) ha
  subst hk
  (refine pc_of_aw Tryz.func42 rfl (by simp [Tryz.ntmps42]) ?_; rw [Tryz.ntmps42])
  repeat' (first | (apply id_rw; first | ((with_reducible apply rx_callE (k := 62)); (case ha => rfl); (case h => exact hg); (case hp => (exact Pur.pf)); (case hN => rfl)) | ((with_reducible apply rx_callE (k := 63)); (case ha => rfl); (case h => exact hi); (case hp => (exact Pur.pf)); (case hN => rfl)) | ((with_reducible apply rx_callE (k := 101)); (case ha => rfl); (case h => exact hc); (case hp => (exact Pur.pf)); (case hN => rfl)) | ((with_reducible apply rx_callE (k := 102)); (case ha => rfl); (case h => exact hb); (case hp => (exact Pur.pf)); (case hN => rfl)) | (apply rx_move;rfl;rfl) | (first | (apply rx_load1;rfl;rfl;rfl;rfl) | (apply rx_loadA;rfl;rfl;(first | exact (rfl:_=[_, _]) | exact (rfl:_=[_, _, _]));rfl;rfl;rfl)) | (apply rx_fieldAddr;rfl;rfl;rfl) | (apply rx_guardY;rfl;rfl;rfl;(rfl)) | (apply rx_bin;rfl;rfl;rfl;rfl) | (apply rx_assign;rfl;rfl) | (apply rx_pickF;rfl;(rfl);rfl;rfl) | (apply rw_nil;kernel_rfl) | (apply rx_not;rfl;rfl) | (apply rx_box;rfl;rfl;rfl;rfl) | (apply rx_extract;rfl;rfl;rfl)) | (apply id_aw; first | apply aw_seq | apply aw_region | (apply aw_draw;kernel_rfl) | (apply aw_condT;rfl;(rfl)) | (apply aw_condF;rfl;(rfl)) | apply aw_skip | apply aw_ret) | with_reducible apply tq_normal | with_reducible apply tq_ret)
  all_goals first | exact rq_ret rfl ⟨rfl, (by (exact Pur.pf))⟩
theorem WitI3_c (p : Prg) (f : Flows p.types (ptsF p)) (a l : Nat) (k : Int) (hk : k ≠ 1) (ha : a < (ptsF p).length) (hll : l < (ptsF p).length) (hv : validF p = true) (hx : (⟨(a : Int), k, (l : Int)⟩ : Iss) ∈ f.iss) (hl : p.types.length ≤ 1000000) (hs : cntL p.body ≤ 1000000) (u : Nat)
    (hu : (bsW (wyW (ptsF p) a) (useW p.types (ptsF p) f.Af l) (ptsF p).length).1 = (u : Int)) (hun : u < (ptsF p).length) (h2 : wyW (ptsF p) l a ≠ []) (h3 : wyW (ptsF p) a u ≠ []) :
    PC Tryz.prog 42 [aPrg p, aIss ⟨(a : Int), k, (l : Int)⟩] (fun r => r = .tup [sl cI (cN' (toW (ptsF p) l) ++ (cN' (wyW (ptsF p) l a)).drop 1 ++ (cN' (wyW (ptsF p) a u)).drop 1), bv true]) := by
  have w := WG.of_valid hv
  have hg := graphOf_c p hl hs
  rw [if_pos hv] at hg
  have hi := issuesI_c p.types p.body (ptsF p) w f
  have hc := contI_c f.iss ⟨(a : Int), k, (l : Int)⟩ (Nat.le_trans (iss_len' w f) (by decide))
  rw [decide_eq_true hx] at hc
  have hua := useAfter_c p.types p.body (ptsF p) f w a l ha hll
  rw [hu, decide_eq_true (by omega)] at hua
  have hb := begun_c p.types p.body (ptsF p) l w (Rch.of p) hll
  have hs1 := shortWay_c p.types p.body (ptsF p) l a w hll ha
  rw [decide_eq_true ((enW_iff w.nx hll a).2 ((wyW_ne w.nx hll).1 h2))] at hs1
  have hs2 := shortWay_c p.types p.body (ptsF p) a u w ha hun
  rw [decide_eq_true ((enW_iff w.nx ha u).2 ((wyW_ne w.nx ha).1 h3))] at hs2
  have hl1 := wyW_len (x := a) w.nx hll
  have hl2 := wyW_len (x := u) w.nx ha
  have hl0 := toW_len w.nx w.p0 l
  have hpl := w.pl
  rw [← cN'_len] at hl0 hl1 hl2
  have hp1 : 0 < (cN' (wyW (ptsF p) l a)).length := by rw [cN'_len]; exact List.length_pos_iff.2 h2
  have hp2 : 0 < (cN' (wyW (ptsF p) a u)).length := by rw [cN'_len]; exact List.length_pos_iff.2 h3
  generalize cN' (toW (ptsF p) l) = A at *
  generalize cN' (wyW (ptsF p) l a) = B at *
  generalize cN' (wyW (ptsF p) a u) = D at *
  have hco := concat_c [A, List.take (B.length - Int.toNat 1) (List.drop (Int.toNat 1) B), List.take (D.length - Int.toNat 1) (List.drop (Int.toNat 1) D)] (by simp) (by simp; omega)
  (refine pc_of_aw Tryz.func42 rfl (by simp [Tryz.ntmps42]) ?_; rw [Tryz.ntmps42])
  repeat' (first | (apply id_rw; first | ((apply rx_buildSliceF (t := 174)); (case hze | hsm | hl => rfl); (case hfl => exact (rfl:_=some [_, _, _])); (case hM | hN => rfl)) | ((with_reducible apply rx_callE (k := 62)); (case ha => rfl); (case h => exact hg); (case hp => (exact Pur.pf)); (case hN => rfl)) | ((with_reducible apply rx_callE (k := 63)); (case ha => rfl); (case h => exact hi); (case hp => (exact Pur.pf)); (case hN => rfl)) | ((with_reducible apply rx_callE (k := 101)); (case ha => rfl); (case h => exact hc); (case hp => (exact Pur.pf)); (case hN => rfl)) | ((with_reducible apply rx_callE (k := 95)); (case ha => rfl); (case h => exact hua); (case hp => (exact Pur.pf)); (case hN => rfl)) | ((with_reducible apply rx_callE (k := 102)); (case ha => rfl); (case h => exact hb); (case hp => (exact Pur.pf)); (case hN => rfl)) | ((with_reducible apply rx_callE (k := 103)); (case ha => rfl); (case h => exact hs1); (case hp => (exact Pur.pf)); (case hN => rfl)) | ((with_reducible apply rx_callE (k := 103)); (case ha => rfl); (case h => exact hs2); (case hp => (exact Pur.pf)); (case hN => rfl)) | ((with_reducible apply rx_callE (k := 104)); (case ha => rfl); (case h => exact hco); (case hp => (exact Pur.pf)); (case hN => rfl)) | (apply rx_move;rfl;rfl) | (first | (apply rx_load1;rfl;rfl;rfl;rfl) | (apply rx_loadA;rfl;rfl;(first | exact (rfl:_=[_, _]) | exact (rfl:_=[_, _, _]));rfl;rfl;rfl)) | (apply rx_fieldAddr;rfl;rfl;rfl) | (apply rx_guardY;rfl;rfl;rfl;(rfl)) | (apply rx_bin;rfl;rfl;rfl;rfl) | (apply rx_assign;rfl;rfl) | (apply rx_pickF;rfl;(rfl);rfl;rfl) | (apply rw_nil;kernel_rfl) | (apply rx_sliceF;rfl;infer_instance;rfl;rfl;(omega);rfl) | (apply rx_not;rfl;rfl) | (apply rx_box;rfl;rfl;rfl;rfl) | (apply rx_extract;rfl;rfl;rfl)) | (apply id_aw; first | apply aw_seq | apply aw_region | (apply aw_draw;kernel_rfl) | (apply aw_condF;rfl;(rfl)) | (apply aw_cond;rfl;all_goals intro hc;have hq:=hc;(try simp only [bqs] at hq);try exfalso;omega) | apply aw_skip | apply aw_ret) | with_reducible apply tq_normal)
  refine rq_ret rfl ⟨?_, (by (exact Pur.pf))⟩
  have eB : List.take (B.length - Int.toNat 1) (List.drop (Int.toNat 1) B) = B.drop 1 := by
    show List.take (B.length - 1) (List.drop 1 B) = _
    exact List.take_of_length_le (by rw [List.length_drop]; omega)
  have eD : List.take (D.length - Int.toNat 1) (List.drop (Int.toNat 1) D) = D.drop 1 := by
    show List.take (D.length - 1) (List.drop 1 D) = _
    exact List.take_of_length_le (by rw [List.length_drop]; omega)
  rw [eB, eD]
  simp [oneOf]
theorem WitI4_c (p : Prg) (f : Flows p.types (ptsF p)) (a l : Nat) (k : Int) (hk : k ≠ 1) (ha : a < (ptsF p).length) (hll : l < (ptsF p).length) (hv : validF p = true) (hx : (⟨(a : Int), k, (l : Int)⟩ : Iss) ∈ f.iss) (hl : p.types.length ≤ 1000000) (hs : cntL p.body ≤ 1000000)
    (hu : (bsW (wyW (ptsF p) a) (useW p.types (ptsF p) f.Af l) (ptsF p).length).1 < 0) :
    PC Tryz.prog 42 [aPrg p, aIss ⟨(a : Int), k, (l : Int)⟩] (fun r => r = .tup [sl cI [], bv false]) := by
  have w := WG.of_valid hv
  have hg := graphOf_c p hl hs
  rw [if_pos hv] at hg
  have hi := issuesI_c p.types p.body (ptsF p) w f
  have hc := contI_c f.iss ⟨(a : Int), k, (l : Int)⟩ (Nat.le_trans (iss_len' w f) (by decide))
  rw [decide_eq_true hx] at hc
  have hua := useAfter_c p.types p.body (ptsF p) f w a l ha hll
  rw [decide_eq_false (by omega : ¬ 0 ≤ (bsW (wyW (ptsF p) a) (useW p.types (ptsF p) f.Af l) (ptsF p).length).1)] at hua
  (refine pc_of_aw Tryz.func42 rfl (by simp [Tryz.ntmps42]) ?_; rw [Tryz.ntmps42])
  repeat' (first | (apply id_rw; first | ((with_reducible apply rx_callE (k := 62)); (case ha => rfl); (case h => exact hg); (case hp => (exact Pur.pf)); (case hN => rfl)) | ((with_reducible apply rx_callE (k := 63)); (case ha => rfl); (case h => exact hi); (case hp => (exact Pur.pf)); (case hN => rfl)) | ((with_reducible apply rx_callE (k := 101)); (case ha => rfl); (case h => exact hc); (case hp => (exact Pur.pf)); (case hN => rfl)) | ((with_reducible apply rx_callE (k := 95)); (case ha => rfl); (case h => exact hua); (case hp => (exact Pur.pf)); (case hN => rfl)) | (apply rx_move;rfl;rfl) | (first | (apply rx_load1;rfl;rfl;rfl;rfl) | (apply rx_loadA;rfl;rfl;(first | exact (rfl:_=[_, _]) | exact (rfl:_=[_, _, _]));rfl;rfl;rfl)) | (apply rx_fieldAddr;rfl;rfl;rfl) | (apply rx_guardY;rfl;rfl;rfl;(rfl)) | (apply rx_bin;rfl;rfl;rfl;rfl) | (apply rx_assign;rfl;rfl) | (apply rx_pickF;rfl;(rfl);rfl;rfl) | (apply rw_nil;kernel_rfl) | (apply rx_not;rfl;rfl) | (apply rx_box;rfl;rfl;rfl;rfl) | (apply rx_extract;rfl;rfl;rfl)) | (apply id_aw; first | apply aw_seq | apply aw_region | (apply aw_draw;kernel_rfl) | (apply aw_condT;rfl;(rfl)) | (apply aw_condF;rfl;(rfl)) | (apply aw_cond;rfl;all_goals intro hc;have hq:=hc;(try simp only [bqs] at hq);try exfalso;omega) | apply aw_skip | apply aw_ret) | with_reducible apply tq_normal | with_reducible apply tq_ret)
  (refine rq_le (Le.nilImm (d := 4) rfl) ?_; refine rq_ret rfl ?_)
  exact ⟨rfl, rfl⟩
theorem WitI5_c (p : Prg) (f : Flows p.types (ptsF p)) (a l : Nat) (k : Int) (hk : k ≠ 1) (ha : a < (ptsF p).length) (hll : l < (ptsF p).length) (hv : validF p = true) (hx : (⟨(a : Int), k, (l : Int)⟩ : Iss) ∈ f.iss) (hl : p.types.length ≤ 1000000) (hs : cntL p.body ≤ 1000000) (u : Nat)
    (hu : (bsW (wyW (ptsF p) a) (useW p.types (ptsF p) f.Af l) (ptsF p).length).1 = (u : Int)) (hun : u < (ptsF p).length) (h2 : ¬ Wy (ptsF p) l a) :
    PC Tryz.prog 42 [aPrg p, aIss ⟨(a : Int), k, (l : Int)⟩] (fun r => r = .tup [sl cI [], bv false]) := by
  have w := WG.of_valid hv
  have hg := graphOf_c p hl hs
  rw [if_pos hv] at hg
  have hi := issuesI_c p.types p.body (ptsF p) w f
  have hc := contI_c f.iss ⟨(a : Int), k, (l : Int)⟩ (Nat.le_trans (iss_len' w f) (by decide))
  rw [decide_eq_true hx] at hc
  have hua := useAfter_c p.types p.body (ptsF p) f w a l ha hll
  rw [hu, decide_eq_true (by omega)] at hua
  have hb := begun_c p.types p.body (ptsF p) l w (Rch.of p) hll
  have hs1 := shortWay_c p.types p.body (ptsF p) l a w hll ha
  rw [decide_eq_false (fun h => h2 ((enW_iff w.nx hll a).1 h))] at hs1
  have hs2 := shortWay_c p.types p.body (ptsF p) a u w ha hun
  (refine pc_of_aw Tryz.func42 rfl (by simp [Tryz.ntmps42]) ?_; rw [Tryz.ntmps42])
  repeat' (first | (apply id_rw; first | ((with_reducible apply rx_callE (k := 62)); (case ha => rfl); (case h => exact hg); (case hp => (exact Pur.pf)); (case hN => rfl)) | ((with_reducible apply rx_callE (k := 63)); (case ha => rfl); (case h => exact hi); (case hp => (exact Pur.pf)); (case hN => rfl)) | ((with_reducible apply rx_callE (k := 101)); (case ha => rfl); (case h => exact hc); (case hp => (exact Pur.pf)); (case hN => rfl)) | ((with_reducible apply rx_callE (k := 95)); (case ha => rfl); (case h => exact hua); (case hp => (exact Pur.pf)); (case hN => rfl)) | ((with_reducible apply rx_callE (k := 102)); (case ha => rfl); (case h => exact hb); (case hp => (exact Pur.pf)); (case hN => rfl)) | ((with_reducible apply rx_callE (k := 103)); (case ha => rfl); (case h => exact hs1); (case hp => (exact Pur.pf)); (case hN => rfl)) | ((with_reducible apply rx_callE (k := 103)); (case ha => rfl); (case h => exact hs2); (case hp => (exact Pur.pf)); (case hN => rfl)) | (apply rx_move;rfl;rfl) | (first | (apply rx_load1;rfl;rfl;rfl;rfl) | (apply rx_loadA;rfl;rfl;(first | exact (rfl:_=[_, _]) | exact (rfl:_=[_, _, _]));rfl;rfl;rfl)) | (apply rx_fieldAddr;rfl;rfl;rfl) | (first | (apply rx_guardY;rfl;rfl;rfl;(rfl)) | (apply rx_guardNs;rfl;rfl;rfl;(rfl))) | (apply rx_bin;rfl;rfl;rfl;rfl) | (apply rx_assign;rfl;rfl) | (first | (apply rx_pickT;rfl;(rfl);rfl;rfl) | (apply rx_pickF;rfl;(rfl);rfl;rfl)) | (apply rw_nil;kernel_rfl) | (apply rx_not;rfl;rfl) | (apply rx_box;rfl;rfl;rfl;rfl) | (apply rx_extract;rfl;rfl;rfl)) | (apply id_aw; first | apply aw_seq | apply aw_region | (apply aw_draw;kernel_rfl) | (apply aw_condT;rfl;(rfl)) | (apply aw_condF;rfl;(rfl)) | (apply aw_cond;rfl;all_goals intro hc;have hq:=hc;(try simp only [bqs] at hq);try exfalso;omega) | apply aw_skip | apply aw_ret) | with_reducible apply tq_normal | with_reducible apply tq_ret)
  (refine rq_le (Le.nilImm (d := 4) rfl) ?_; refine rq_ret rfl ?_)
  exact ⟨rfl, rfl⟩
end Go.Proofs.YtejkbiijonnefaaGreat

namespace Go.Proofs.YtejkbiijonnefaaGreat
open Go.AL Go.RowKit

theorem WitS1_c (p : Prg) (L : List Iss) (x : Iss) (hC : PC Tryz.prog 33 [aPrg p] (fun r => r = sl cIss L)) (hLl : L.length ≤ 1000000) (hx : x ∉ L) : PC Tryz.prog 43 [aPrg p, aIss x] (fun r => r = .tup [sl cI [], bv false]) := by
  have hh := l13Has_c p L x hC hLl
  rw [decide_eq_false hx] at hh
  (refine pc_of_aw Tryz.func43 rfl (by simp [Tryz.ntmps43]) ?_; rw [Tryz.ntmps43])
  repeat' (first | (apply id_rw; first | ((with_reducible apply rx_callE (k := 105)); (case ha => rfl); (case h => exact hh); (case hp => (exact Pur.pf)); (case hN => rfl)) | (apply rx_loadA;rfl;rfl;(first | exact (rfl:_=[_, _]) | exact (rfl:_=[_, _, _]));rfl;rfl;rfl) | (apply rx_assign;rfl;rfl) | (apply rw_nil;kernel_rfl) | (apply rx_not;rfl;rfl) | (apply rx_box;rfl;rfl;rfl;rfl) | ((apply rx_buildSliceI (t := _)); (case hze | hsm | hl => rfl); (case hfl => (rfl)); (case hM | hN => rfl))) | (apply id_aw; first | apply aw_seq | apply aw_region | (apply aw_condT;rfl;(rfl)) | apply aw_ret) | with_reducible apply tq_normal | with_reducible apply tq_ret)
  exact rq_ret rfl ⟨rfl, (by (rfl))⟩
theorem WitS2_c (p : Prg) (L : List Iss) (a : Nat) (k wi : Int) (hC : PC Tryz.prog 33 [aPrg p] (fun r => r = sl cIss L)) (hLl : L.length ≤ 1000000) (hk : k = 1) (ha : a < (ptsF p).length) (hv : validF p = true) (hx : (⟨(a : Int), k, wi⟩ : Iss) ∈ L) (hs : cntL p.body ≤ 1000000) :
    PC Tryz.prog 43 [aPrg p, aIss ⟨(a : Int), k, wi⟩] (fun r => r = .tup [sl cI (cN' (toW (ptsF p) a)), bv true]) := by
  have w := WG.of_valid hv
  have hh := l13Has_c p L ⟨(a : Int), k, wi⟩ hC hLl
  rw [decide_eq_true hx] at hh
  have hp := l2Points_c p hs
  have hb := l13To_c p.types (ptsF p) a w ha
  subst hk
  (refine pc_of_aw Tryz.func43 rfl (by simp [Tryz.ntmps43]) ?_; rw [Tryz.ntmps43])
  repeat' (first | (apply id_rw; first | ((with_reducible apply rx_callE (k := 105)); (case ha => rfl); (case h => exact hh); (case hp => (exact Pur.pf)); (case hN => rfl)) | ((with_reducible apply rx_callE (k := 106)); (case ha => rfl); (case h => exact hp); (case hp => (exact Pur.pf)); (case hN => rfl)) | ((with_reducible apply rx_callE (k := 107)); (case ha => rfl); (case h => exact hb); (case hp => (exact Pur.pf)); (case hN => rfl)) | (apply rx_move;rfl;rfl) | (first | (apply rx_load1;rfl;rfl;rfl;rfl) | (apply rx_loadA;rfl;rfl;(first | exact (rfl:_=[_, _]) | exact (rfl:_=[_, _, _]));rfl;rfl;rfl)) | (apply rx_fieldAddr;rfl;rfl;rfl) | (apply rx_bin;rfl;rfl;rfl;rfl) | (apply rx_assign;rfl;rfl) | (apply rw_nil;kernel_rfl) | (apply rx_not;rfl;rfl) | (apply rx_box;rfl;rfl;rfl;rfl)) | (apply id_aw; first | apply aw_seq | apply aw_region | (apply aw_condT;rfl;(rfl)) | (apply aw_condF;rfl;(rfl)) | apply aw_skip | apply aw_ret) | with_reducible apply tq_normal | with_reducible apply tq_ret)
  all_goals first | exact rq_ret rfl ⟨rfl, (by (exact Pur.pf))⟩
theorem WitS3_c (p : Prg) (f : Flows p.types (ptsF p)) (L : List Iss) (a l : Nat) (k : Int) (hC : PC Tryz.prog 33 [aPrg p] (fun r => r = sl cIss L)) (hLl : L.length ≤ 1000000) (hk : k ≠ 1) (ha : a < (ptsF p).length) (hll : l < (ptsF p).length) (hv : validF p = true) (hx : (⟨(a : Int), k, (l : Int)⟩ : Iss) ∈ L) (hl : p.types.length ≤ 1000000) (hs : cntL p.body ≤ 1000000) (u : Nat)
    (hu : (bsW (wyW (ptsF p) a) (useW p.types (ptsF p) f.Af l) (ptsF p).length).1 = (u : Int)) (hun : u < (ptsF p).length) (h2 : wyW (ptsF p) l a ≠ []) (h3 : wyW (ptsF p) a u ≠ []) :
    PC Tryz.prog 43 [aPrg p, aIss ⟨(a : Int), k, (l : Int)⟩] (fun r => r = .tup [sl cI (cN' (toW (ptsF p) l) ++ (cN' (wyW (ptsF p) l a)).drop 1 ++ (cN' (wyW (ptsF p) a u)).drop 1), bv true]) := by
  have w := WG.of_valid hv
  have hh := l13Has_c p L ⟨(a : Int), k, (l : Int)⟩ hC hLl
  rw [decide_eq_true hx] at hh
  have hp := l2Points_c p hs
  have hb := l13To_c p.types (ptsF p) l w hll
  obtain ⟨F0, hF0⟩ := GoodR.exist (ptsF p) a
  have hua := UseAfterSY_c p a l f F0 hl hs hv ha hll hF0
  rw [hu, if_pos (by omega)] at hua
  have hs1 := l13Way_c p.types (ptsF p) l a w hll ha
  rw [decide_eq_true ((enW_iff w.nx hll a).2 ((wyW_ne w.nx hll).1 h2))] at hs1
  have hs2 := l13Way_c p.types (ptsF p) a u w ha hun
  have hl1 := wyW_len (x := a) w.nx hll
  have hl2 := wyW_len (x := u) w.nx ha
  have hl0 := toW_len w.nx w.p0 l
  have hpl := w.pl
  rw [← cN'_len] at hl0 hl1 hl2
  have hp1 : 0 < (cN' (wyW (ptsF p) l a)).length := by rw [cN'_len]; exact List.length_pos_iff.2 h2
  have hp2 : 0 < (cN' (wyW (ptsF p) a u)).length := by rw [cN'_len]; exact List.length_pos_iff.2 h3
  generalize cN' (toW (ptsF p) l) = A at *
  generalize cN' (wyW (ptsF p) l a) = B at *
  generalize cN' (wyW (ptsF p) a u) = D at *
  have hj1 := l13Join_c A B (by omega) (by omega) hp1
  have hj2 := l13Join_c (A ++ B.drop 1) D (by rw [List.length_append, List.length_drop]; omega) (by omega) hp2
  (refine pc_of_aw Tryz.func43 rfl (by simp [Tryz.ntmps43]) ?_; rw [Tryz.ntmps43])
  repeat' (first | (apply id_rw; first | ((with_reducible apply rx_callE (k := 105)); (case ha => rfl); (case h => exact hh); (case hp => (exact Pur.pf)); (case hN => rfl)) | ((with_reducible apply rx_callE (k := 106)); (case ha => rfl); (case h => exact hp); (case hp => (exact Pur.pf)); (case hN => rfl)) | ((with_reducible apply rx_callE (k := 107)); (case ha => rfl); (case h => exact hb); (case hp => (exact Pur.pf)); (case hN => rfl)) | ((with_reducible apply rx_callE (k := 39)); (case ha => rfl); (case h => exact hua); (case hp => (exact Pur.pf)); (case hN => rfl)) | ((with_reducible apply rx_callE (k := 98)); (case ha => rfl); (case h => exact hs1); (case hp => (exact Pur.pf)); (case hN => rfl)) | ((with_reducible apply rx_callE (k := 98)); (case ha => rfl); (case h => exact hs2); (case hp => (exact Pur.pf)); (case hN => rfl)) | ((with_reducible apply rx_callE (k := 108)); (case ha => rfl); (case h => exact hj1); (case hp => (exact Pur.pf)); (case hN => rfl)) | ((with_reducible apply rx_callE (k := 108)); (case ha => rfl); (case h => exact hj2); (case hp => (exact Pur.pf)); (case hN => rfl)) | (apply rx_move;rfl;rfl) | (first | (apply rx_load1;rfl;rfl;rfl;rfl) | (apply rx_loadA;rfl;rfl;(first | exact (rfl:_=[_, _]) | exact (rfl:_=[_, _, _]));rfl;rfl;rfl)) | (apply rx_fieldAddr;rfl;rfl;rfl) | (apply rx_guardY;rfl;rfl;rfl;(rfl)) | (apply rx_bin;rfl;rfl;rfl;rfl) | (apply rx_assign;rfl;rfl) | (apply rx_pickF;rfl;(rfl);rfl;rfl) | (apply rw_nil;kernel_rfl) | (apply rx_not;rfl;rfl) | (apply rx_box;rfl;rfl;rfl;rfl) | (apply rx_extract;rfl;rfl;rfl)) | (apply id_aw; first | apply aw_seq | apply aw_region | (apply aw_condF;rfl;(rfl)) | (apply aw_cond;rfl;all_goals intro hc;have hq:=hc;(try simp only [bqs] at hq);try exfalso;omega) | apply aw_skip | apply aw_ret) | with_reducible apply tq_normal)
  all_goals first | exact rq_ret rfl ⟨rfl, (by (exact Pur.pf))⟩
theorem WitS4_c (p : Prg) (f : Flows p.types (ptsF p)) (L : List Iss) (a l : Nat) (k : Int) (hC : PC Tryz.prog 33 [aPrg p] (fun r => r = sl cIss L)) (hLl : L.length ≤ 1000000) (hk : k ≠ 1) (ha : a < (ptsF p).length) (hll : l < (ptsF p).length) (hv : validF p = true) (hx : (⟨(a : Int), k, (l : Int)⟩ : Iss) ∈ L) (hl : p.types.length ≤ 1000000) (hs : cntL p.body ≤ 1000000)
    (hu : (bsW (wyW (ptsF p) a) (useW p.types (ptsF p) f.Af l) (ptsF p).length).1 < 0) :
    PC Tryz.prog 43 [aPrg p, aIss ⟨(a : Int), k, (l : Int)⟩] (fun r => r = .tup [sl cI [], bv false]) := by
  have w := WG.of_valid hv
  have hh := l13Has_c p L ⟨(a : Int), k, (l : Int)⟩ hC hLl
  rw [decide_eq_true hx] at hh
  have hp := l2Points_c p hs
  have hb := l13To_c p.types (ptsF p) l w hll
  obtain ⟨F0, hF0⟩ := GoodR.exist (ptsF p) a
  have hua := UseAfterSY_c p a l f F0 hl hs hv ha hll hF0
  rw [if_neg (by omega)] at hua
  have hs1 := l13Way_c p.types (ptsF p) l a w hll ha
  (refine pc_of_aw Tryz.func43 rfl (by simp [Tryz.ntmps43]) ?_; rw [Tryz.ntmps43])
  repeat' (first | (apply id_rw; first | ((with_reducible apply rx_callE (k := 105)); (case ha => rfl); (case h => exact hh); (case hp => (exact Pur.pf)); (case hN => rfl)) | ((with_reducible apply rx_callE (k := 106)); (case ha => rfl); (case h => exact hp); (case hp => (exact Pur.pf)); (case hN => rfl)) | ((with_reducible apply rx_callE (k := 107)); (case ha => rfl); (case h => exact hb); (case hp => (exact Pur.pf)); (case hN => rfl)) | ((with_reducible apply rx_callE (k := 39)); (case ha => rfl); (case h => exact hua); (case hp => (exact Pur.pf)); (case hN => rfl)) | ((with_reducible apply rx_callE (k := 98)); (case ha => rfl); (case h => exact hs1); (case hp => (exact Pur.pf)); (case hN => rfl)) | (apply rx_move;rfl;rfl) | (first | (apply rx_load1;rfl;rfl;rfl;rfl) | (apply rx_loadA;rfl;rfl;(first | exact (rfl:_=[_, _]) | exact (rfl:_=[_, _, _]));rfl;rfl;rfl)) | (apply rx_fieldAddr;rfl;rfl;rfl) | (first | (apply rx_guardY;rfl;rfl;rfl;(assumption)) | (apply rx_guardNs;rfl;rfl;rfl;(assumption)) | (apply rx_guardS; (case hj | hb | hN => rfl); all_goals (intro hg; have hq := hg; (try simp only [bqs] at hq); (try (exfalso; omega))))) | (apply rx_bin;rfl;rfl;rfl;rfl) | (apply rx_assign;rfl;rfl) | (first | (apply rx_pickT;rfl;(assumption);rfl;rfl) | (apply rx_pickF;rfl;(assumption);rfl;rfl)) | (apply rw_nil;kernel_rfl) | (apply rx_not;rfl;rfl) | (apply rx_box;rfl;rfl;rfl;rfl) | (apply rx_extract;rfl;rfl;rfl) | ((apply rx_buildSliceI (t := _)); (case hze | hsm | hl => rfl); (case hfl => (rfl)); (case hM | hN => rfl))) | (apply id_aw; first | apply aw_seq | apply aw_region | (apply aw_condT;rfl;(rfl)) | (apply aw_condF;rfl;(rfl)) | (apply aw_cond;rfl;all_goals intro hc;have hq:=hc;(try simp only [bqs] at hq);try exfalso;omega) | apply aw_skip | apply aw_ret) | with_reducible apply tq_normal | with_reducible apply tq_ret)
  all_goals first | exact rq_ret rfl ⟨rfl, (by (rfl))⟩
theorem WitS5_c (p : Prg) (f : Flows p.types (ptsF p)) (L : List Iss) (a l : Nat) (k : Int) (hC : PC Tryz.prog 33 [aPrg p] (fun r => r = sl cIss L)) (hLl : L.length ≤ 1000000) (hk : k ≠ 1) (ha : a < (ptsF p).length) (hll : l < (ptsF p).length) (hv : validF p = true) (hx : (⟨(a : Int), k, (l : Int)⟩ : Iss) ∈ L) (hl : p.types.length ≤ 1000000) (hs : cntL p.body ≤ 1000000) (u : Nat)
    (hu : (bsW (wyW (ptsF p) a) (useW p.types (ptsF p) f.Af l) (ptsF p).length).1 = (u : Int)) (h2 : ¬ Wy (ptsF p) l a) :
    PC Tryz.prog 43 [aPrg p, aIss ⟨(a : Int), k, (l : Int)⟩] (fun r => r = .tup [sl cI [], bv false]) := by
  have w := WG.of_valid hv
  have hh := l13Has_c p L ⟨(a : Int), k, (l : Int)⟩ hC hLl
  rw [decide_eq_true hx] at hh
  have hp := l2Points_c p hs
  have hb := l13To_c p.types (ptsF p) l w hll
  obtain ⟨F0, hF0⟩ := GoodR.exist (ptsF p) a
  have hua := UseAfterSY_c p a l f F0 hl hs hv ha hll hF0
  rw [hu, if_pos (by omega)] at hua
  have hs1 := l13Way_c p.types (ptsF p) l a w hll ha
  rw [decide_eq_false (fun h => h2 ((enW_iff w.nx hll a).1 h))] at hs1
  (refine pc_of_aw Tryz.func43 rfl (by simp [Tryz.ntmps43]) ?_; rw [Tryz.ntmps43])
  repeat' (first | (apply id_rw; first | ((with_reducible apply rx_callE (k := 105)); (case ha => rfl); (case h => exact hh); (case hp => (exact Pur.pf)); (case hN => rfl)) | ((with_reducible apply rx_callE (k := 106)); (case ha => rfl); (case h => exact hp); (case hp => (exact Pur.pf)); (case hN => rfl)) | ((with_reducible apply rx_callE (k := 107)); (case ha => rfl); (case h => exact hb); (case hp => (exact Pur.pf)); (case hN => rfl)) | ((with_reducible apply rx_callE (k := 39)); (case ha => rfl); (case h => exact hua); (case hp => (exact Pur.pf)); (case hN => rfl)) | ((with_reducible apply rx_callE (k := 98)); (case ha => rfl); (case h => exact hs1); (case hp => (exact Pur.pf)); (case hN => rfl)) | (apply rx_move;rfl;rfl) | (first | (apply rx_load1;rfl;rfl;rfl;rfl) | (apply rx_loadA;rfl;rfl;(first | exact (rfl:_=[_, _]) | exact (rfl:_=[_, _, _]));rfl;rfl;rfl)) | (apply rx_fieldAddr;rfl;rfl;rfl) | (apply rx_guardNs;rfl;rfl;rfl;(rfl)) | (apply rx_bin;rfl;rfl;rfl;rfl) | (apply rx_assign;rfl;rfl) | (apply rx_pickT;rfl;(rfl);rfl;rfl) | (apply rw_nil;kernel_rfl) | (apply rx_not;rfl;rfl) | (apply rx_box;rfl;rfl;rfl;rfl) | (apply rx_extract;rfl;rfl;rfl) | ((apply rx_buildSliceI (t := _)); (case hze | hsm | hl => rfl); (case hfl => (rfl)); (case hM | hN => rfl))) | (apply id_aw; first | apply aw_seq | apply aw_region | (apply aw_condT;rfl;(rfl)) | (apply aw_condF;rfl;(rfl)) | (apply aw_cond;rfl;all_goals intro hc;have hq:=hc;(try simp only [bqs] at hq);try exfalso;omega) | apply aw_skip | apply aw_ret) | with_reducible apply tq_normal | with_reducible apply tq_ret)
  all_goals first | exact rq_ret rfl ⟨rfl, (by (rfl))⟩
end Go.Proofs.YtejkbiijonnefaaGreat

namespace Go.Proofs.YtejkbiijonnefaaGreat
open Go.AL Go.RowKit

theorem wit_all (p : Prg) (x : Iss) (hl : p.types.length ≤ 1000000) (hs : cntL p.body ≤ 1000000) : ∃ (way : List Int) (ok : Bool),
    PC Tryz.prog 42 [aPrg p, aIss x] (fun r => r = .tup [sl cI way, bv ok]) ∧ PC Tryz.prog 43 [aPrg p, aIss x] (fun r => r = .tup [sl cI way, bv ok]) ∧ way.length ≤ 1000 ∧
    (ok = true → x.kind ≠ 1 → ∃ n : Int, PC Tryz.prog 38 [aPrg p, iv x.point, iv x.with_] (fun r => r = .tup [iv n, bv true]) ∧ 0 < way.length ∧ way[((way.length : Int) - 1).toNat]! = n ∧ way[0]! = 0) := by
  cases hv : validF p
  · exact ⟨[], false, WitI0_c p x hv hl hs, WitS1_c p [] x (CheckS0_c p hv hl hs) (by simp) (by simp), by simp, fun h => Bool.noConfusion h⟩
  · have w := WG.of_valid hv
    obtain ⟨f⟩ := Flows.ex w
    have e : chkF p f = f.iss := if_pos hv
    have hC := CheckS_c p f hl hs
    rw [e] at hC
    have hLl : f.iss.length ≤ 1000000 := Nat.le_trans (iss_len' w f) (by decide)
    by_cases hx : x ∈ f.iss
    · obtain ⟨j, hj, hje⟩ := List.getElem_of_mem hx
      have hok := (iss_ok w f).1 j hj
      rw [getB _ _ hj, hje] at hok
      obtain ⟨pt, k, wi⟩ := x
      obtain ⟨a, rfl⟩ := Int.eq_ofNat_of_zero_le hok.p0
      have ha : a < (ptsF p).length := by have := hok.p1; dsimp only at this; omega
      have hpl := w.pl
      by_cases hk : k = 1
      · exact ⟨_, true, WitI2_c p f a k wi hk ha hv hx hl hs, WitS2_c p f.iss a k wi hC hLl hk ha hv hx hs, by have := toW_len w.nx w.p0 a; rw [cN'_len]; omega, fun _ h => absurd hk h⟩
      · have hwi : 0 ≤ wi ∧ wi < (ptsF p).length := by
          rcases hok.k with h | h
          · exact absurd h.1 hk
          · exact h.2
        obtain ⟨l, rfl⟩ := Int.eq_ofNat_of_zero_le hwi.1
        have hll : l < (ptsF p).length := by omega
        rcases bsW_inv (wyW (ptsF p) a) (useW p.types (ptsF p) f.Af l) (ptsF p).length with ⟨hu, _⟩ | ⟨u, hun, hu, _, _, h3⟩
        · exact ⟨[], false, WitI4_c p f a l k hk ha hll hv hx hl hs (by omega), WitS4_c p f f.iss a l k hC hLl hk ha hll hv hx hl hs (by omega), by simp, fun h => Bool.noConfusion h⟩
        · by_cases h2 : Wy (ptsF p) l a
          · have h2' := (wyW_ne w.nx hll).2 h2
            have hua := UseAfterY_c p a l f hl hs hv ha hll
            rw [hu, if_pos (by omega)] at hua
            obtain ⟨e1, B, e2⟩ := way_ends w.nx (Rch.of p) ha hll h3 ((cN' (wyW (ptsF p) l a)).drop 1)
            obtain ⟨e3, e4⟩ := app_last e2
            refine ⟨_, true, WitI3_c p f a l k hk ha hll hv hx hl hs u hu hun h2' h3, WitS3_c p f f.iss a l k hC hLl hk ha hll hv hx hl hs u hu hun h2' h3, ?_, fun _ _ => ⟨u, hua, e4, e3, e1⟩⟩
            have h4 := toW_len w.nx w.p0 l
            have h5 := wyW_len (x := a) w.nx hll
            have h6 := wyW_len (x := u) w.nx ha
            rw [← cN'_len] at h4 h5 h6
            simp only [List.length_append, List.length_drop]; omega
          · exact ⟨[], false, WitI5_c p f a l k hk ha hll hv hx hl hs u hu hun h2, WitS5_c p f f.iss a l k hC hLl hk ha hll hv hx hl hs u hu h2, by simp, fun h => Bool.noConfusion h⟩
    · exact ⟨[], false, WitI1_c p f x hv hx hl hs, WitS1_c p f.iss x hC hLl hx, by simp, fun h => Bool.noConfusion h⟩
theorem drawWit_c (bs : List UInt8) (hb : bs.length ≤ 1048576) : PC Tryz.prog 41 [sl cU bs] (fun r => ∃ (q : Prg) (x : Iss), r = .tup [aPrg q, aIss x] ∧ cntL q.body ≤ 20000 ∧ q.types.length ≤ 1000) := by
  (refine pc_of_aw Tryz.func41 rfl (by simp [Tryz.ntmps41]) ?_; rw [Tryz.ntmps41])
  repeat' (first | (apply id_rw; first | (apply rx_store;rfl;rfl;rfl;rfl;rfl;(case hl => (simp; done));exact (rfl:_=[_, _, _])) | ((with_reducible apply rx_call (k := 92)); (case ha => rfl); (case h => exact drawFmt_c bs hb); (case hp => (exact Pur.pf)); (case hN => rfl); (rintro _ ⟨q, x, rfl, hq1, hq2⟩ _)) | (apply rx_move;rfl;rfl) | (apply rw_nil;kernel_rfl) | (apply rx_alloc;rfl;rfl) | (apply rx_extract;rfl;rfl;rfl) | (apply rx_store;rfl;rfl;rfl;rfl;rfl;(case hl => (simp;done));(exact (rfl:_=[_, _])))) | (apply id_aw; first | apply aw_seq | apply aw_region | apply aw_ret) | with_reducible apply tq_normal)
  exact rq_ret (l := [aPrg q, aIss x]) rfl ⟨⟨q, x, rfl, hq1, hq2⟩, Pur.pf⟩
theorem FnIssueUse_c (bs : List UInt8) : PC Tryz.prog 8 [sl cU bs] (fun r => r = bv true) := by
  rcases Nat.lt_or_ge 1048576 bs.length with hb | hb
  · (refine pc_of_aw Tryz.func8 rfl (by simp [Tryz.ntmps8]) ?_; rw [Tryz.ntmps8])
    repeat' (first | (apply id_rw; first | (apply rx_move;rfl;rfl) | (apply rx_bin;rfl;rfl;rfl;rfl) | (apply rx_assign;rfl;rfl) | (apply rx_len;rfl;rfl;rfl) | (apply rw_nil;kernel_rfl)) | (apply id_aw; first | apply aw_seq | apply aw_region | (apply aw_cond;rfl;all_goals intro hc;have hq:=hc;(try simp only [bqs] at hq);try exfalso;omega) | apply aw_ret) | with_reducible apply tq_normal | with_reducible apply tq_ret)
    exact rq_ret rfl ⟨rfl, rfl⟩
  (refine pc_of_aw Tryz.func8 rfl (by simp [Tryz.ntmps8]) ?_; rw [Tryz.ntmps8])
  repeat' (first | (apply id_rw; first | (apply rx_store;rfl;rfl;rfl;rfl;rfl;(case hl => (simp; done));exact (rfl:_=[_, _, _])) | ((with_reducible apply rx_call (k := 41)); (case ha => rfl); (case h => exact drawWit_c bs hb); (case hp => (exact Pur.pf)); (case hN => rfl); (rintro _ ⟨q, x, rfl, hq1, hq2⟩ _)) | (with_reducible apply rw_stop (d := 20)) | (apply rx_move;rfl;rfl) | (apply rx_bin;rfl;rfl;rfl;rfl) | (apply rx_assign;rfl;rfl) | (apply rx_len;rfl;rfl;rfl) | (apply rw_nil;kernel_rfl) | (apply rx_alloc;rfl;rfl) | (apply rx_extract;rfl;rfl;rfl) | (apply rx_store;rfl;rfl;rfl;rfl;rfl;(case hl => (simp;done));(exact (rfl:_=[_, _])))) | (apply id_aw; first | apply aw_seq | apply aw_region | (apply aw_cond;rfl;all_goals intro hc;have hq:=hc;(try simp only [bqs] at hq);try exfalso;omega) | apply aw_skip) | with_reducible apply tq_normal)
  refine rw_go ?_
  obtain ⟨way, ok, h1, h2, hlen, law⟩ := wit_all q x (by omega) (by omega)
  have v1 := bcInts_c way (by omega)
  cases ok
  · repeat' (first | (apply id_rw; first | ((with_reducible apply rx_callE (k := 42)); (case ha => rfl); (case h => exact h1); (case hp => (exact Pur.pf)); (case hN => rfl)) | ((with_reducible apply rx_callE (k := 43)); (case ha => rfl); (case h => exact h2); (case hp => (exact Pur.pf)); (case hN => rfl)) | ((with_reducible apply rx_callE (k := 25)); (case ha => rfl); (case h => exact v1); (case hp => (exact Pur.pf)); (case hN => rfl)) | (apply rx_move;rfl;rfl) | (apply rx_loadA;rfl;rfl;(first | exact (rfl:_=[_, _]) | exact (rfl:_=[_, _, _]));rfl;rfl;rfl) | (first | (apply rx_guardY;rfl;rfl;rfl;(rfl)) | (apply rx_guardNs;rfl;rfl;rfl;(rfl))) | (apply rx_bbin;rfl;rfl;rfl;rfl) | (apply rx_assign;rfl;rfl) | (first | (apply rx_pickT;rfl;(rfl);rfl;rfl) | (apply rx_pickF;rfl;(rfl);rfl;rfl)) | (apply rw_nil;kernel_rfl) | (apply rx_not;rfl;rfl) | (apply rx_extract;rfl;rfl;rfl)) | (apply id_aw; first | apply aw_seq | apply aw_region | (apply aw_condT;rfl;(rfl)) | apply aw_ret) | with_reducible apply tq_normal | with_reducible apply tq_ret)
    all_goals first | exact rq_ret rfl ⟨rfl, rfl⟩ | exact absurd trivial (by assumption : ¬ True)
  · by_cases hk : x.kind = 1
    · repeat' (first | (apply id_rw; first | ((with_reducible apply rx_callE (k := 42)); (case ha => rfl); (case h => exact h1); (case hp => (exact Pur.pf)); (case hN => rfl)) | ((with_reducible apply rx_callE (k := 43)); (case ha => rfl); (case h => exact h2); (case hp => (exact Pur.pf)); (case hN => rfl)) | ((with_reducible apply rx_callE (k := 25)); (case ha => rfl); (case h => exact v1); (case hp => (exact Pur.pf)); (case hN => rfl)) | (apply rx_move;rfl;rfl) | (first | (apply rx_load1;rfl;rfl;rfl;rfl) | (apply rx_loadA;rfl;rfl;(first | exact (rfl:_=[_, _]) | exact (rfl:_=[_, _, _]));rfl;rfl;rfl)) | (apply rx_fieldAddr;rfl;rfl;rfl) | (apply rx_guardY;rfl;rfl;rfl;(rfl)) | (first | (apply rx_bbin;rfl;rfl;rfl;rfl) | (apply rx_bin;rfl;rfl;rfl;rfl)) | (apply rx_assign;rfl;rfl) | (first | (apply rx_pickT;rfl;(rfl);rfl;rfl) | (apply rx_pickF;rfl;(rfl);rfl;rfl)) | (apply rw_nil;kernel_rfl) | (apply rx_not;rfl;rfl) | (apply rx_extract;rfl;rfl;rfl)) | (apply id_aw; first | apply aw_seq | apply aw_region | (apply aw_cond;rfl;all_goals intro hc;have hq:=hc;(try simp only [bqs] at hq);try exfalso;omega) | apply aw_ret) | with_reducible apply tq_normal | with_reducible apply tq_ret)
      all_goals first | exact rq_ret rfl ⟨rfl, rfl⟩ | exact absurd trivial (by assumption : ¬ True)
    · obtain ⟨n, h3, e1, e2, e3⟩ := law rfl hk
      repeat' (first | (apply id_rw; first | ((with_reducible apply rx_callE (k := 42)); (case ha => rfl); (case h => exact h1); (case hp => (exact Pur.pf)); (case hN => rfl)) | ((with_reducible apply rx_callE (k := 43)); (case ha => rfl); (case h => exact h2); (case hp => (exact Pur.pf)); (case hN => rfl)) | ((with_reducible apply rx_callE (k := 25)); (case ha => rfl); (case h => exact v1); (case hp => (exact Pur.pf)); (case hN => rfl)) | ((with_reducible apply rx_callE (k := 38)); (case ha => rfl); (case h => exact h3); (case hp => (exact Pur.pf)); (case hN => rfl)) | (apply rx_move;rfl;rfl) | (first | (apply rx_load1;rfl;rfl;rfl;rfl) | (apply rx_loadA;rfl;rfl;(first | exact (rfl:_=[_, _]) | exact (rfl:_=[_, _, _]));rfl;rfl;rfl)) | (apply rx_fieldAddr;rfl;rfl;rfl) | (first | (apply rx_guardY;rfl;rfl;rfl;(first | rfl | assumption)) | (apply rx_guardS; (case hj | hb | hN => rfl); all_goals (intro hg; have hq := hg; (try simp only [bqs] at hq); (try (exfalso; omega))))) | (first | (apply rx_bbin;rfl;rfl;rfl;rfl) | (apply rx_sub;rfl;rfl;omega;rfl) | (apply rx_bin;rfl;rfl;rfl;rfl)) | (apply rx_assign;rfl;rfl) | (first | (apply rx_pickT;rfl;(first | rfl | assumption);rfl;rfl) | (apply rx_pickF;rfl;(rfl);rfl;rfl)) | (first | (apply rx_indexFN; (case hx | hi => rfl); (case hm => (assumption)); (case hml => (rfl)); (case hα | hf | hg => infer_instance); (case hN => rfl)) | (apply rx_indexF; (case hx | hi => rfl); (case hm => (omega)); (case hml => (rfl)); (case hα | hf | hg => infer_instance); (case hN => rfl))) | (apply rx_len;rfl;rfl;rfl) | (apply rw_nil;kernel_rfl) | (apply rx_not;rfl;rfl) | (apply rx_extract;rfl;rfl;rfl)) | (apply id_aw; first | apply aw_seq | apply aw_region | (apply aw_cond;rfl;all_goals intro hc;have hq:=hc;(try simp only [bqs] at hq);try exfalso;omega) | apply aw_skip | apply aw_ret) | with_reducible apply tq_normal)
      all_goals first | exact rq_ret rfl ⟨rfl, rfl⟩ | exact absurd trivial (by assumption : ¬ True) | exact rq_ret rfl ⟨congrArg bv (decide_eq_true e3), rfl⟩
end Go.Proofs.YtejkbiijonnefaaGreat
