/-
  A part of the proofs over this program: rules and contracts of its functions (the contracts).
-/
import Derived.Test.YtejkbiijonnefaaGreatB06
set_option linter.unusedVariables false
set_option linter.unusedSimpArgs false
set_option maxHeartbeats 8000000
set_option maxRecDepth 4000
attribute [local irreducible] Go.AL.RW Go.AL.AW Go.AL.Stop
namespace Go.Proofs.YtejkbiijonnefaaGreat
open Go.AL Go.RowKit

theorem l2From_c (ts : List Int) (pts : List Pnt) (a : Nat) (F0 : List Bool) (w : WG ts pts) (ha : a < pts.length) (hF0 : GoodR pts a F0) : PC Tryz.prog 96 [sl cPnt pts, iv (a : Int)] (fun r => r = sl cB F0) := by
  have hpl := w.pl
  have hnl := w.nl a ha
  have hst := RI.start w.nx ha
  have hmu := muR_start hpl hnl
  (refine pc_of_aw Tryz.func96 rfl (by simp [Tryz.ntmps96]) ?_; rw [Tryz.ntmps96])
  repeat' (first | (apply id_rw; first | (apply rx_move;rfl;rfl) | (apply rx_load1;rfl;rfl;rfl;rfl) | (apply rx_fieldAddr;rfl;rfl;rfl) | (apply rx_assign;rfl;rfl) | (apply rx_indexFN; (case hx | hi => rfl); (case hm => (assumption)); (case hml => (rfl)); (case hα | hf | hg => infer_instance); (case hN => rfl)) | (first | (apply rx_len;rfl;rfl;rfl) | (apply rx_append;rfl;rfl;rfl;rfl;rfl;(case hl => (simp [flat_length]; done));(exact sC_imm (by (rfl)));omega;omega;(exact app_nilF (by (omega)));rfl;rfl)) | (apply rw_nil;kernel_rfl) | (apply rx_buildSlice;rfl;rfl;rfl;(rfl);rfl;rfl) | (apply rx_makeSliceE;rfl;rfl;rfl;omega;omega;(exact mk_bool);rfl;rfl)) | (apply id_aw; first | apply aw_seq | apply aw_region | apply aw_block) | with_reducible apply tq_normal)
  refine aw_loopK (σ := List Bool × List Int × Nat) [0, 5] [(0, _), (5, _)] [] [] (fun s => [(6, .own 2 0 s.2.2 1)]) (fun s => [(0, some (flat cB s.1)), (2, some (flat cI s.2.1))]) (fun s => RI pts a s.1 s.2.1 ∧ muR s.1 s.2.1 ≤ 200 ∧ s.2.2 = s.2.1.length) (fun s => muR s.1 s.2.1) (List.replicate pts.length false, pts[a]!.next, 0 + pts[a]!.next.length) ⟨hst, hmu, Nat.zero_add _⟩ rfl rfl (by repeat' (first | exact trivial | refine And.intro rfl ?_)) (by repeat' (first | exact trivial | refine And.intro (.inr rfl) ?_)) ?_
  rintro ⟨F, T, m⟩ ⟨I, hm, hml⟩
  dsimp only at I hm hml
  try dsimp only
  have hFl := I.len
  have hTl := muR_len F T
  by_cases hT : 0 < m
  · repeat' (first | (apply id_rw; first | (with_reducible apply rw_stop (d := 6)) | ((apply rx_sliceHi (h := m - 1)); (case hx | hy => rfl); (case hz => omega); (case hb => omega); (case hN => rfl)) | (apply rx_move;rfl;rfl) | (apply rx_loadF0; (case hx | hH => rfl); (case hf | hg | hα => infer_instance); (case hk => omega); (case hc | hN => rfl)) | (first | (apply rx_sub;rfl;rfl;omega;rfl) | (apply rx_bin;rfl;rfl;rfl;rfl)) | (apply rx_assign;rfl;rfl) | (apply rx_indexO;rfl;rfl;(omega);rfl) | (apply rx_len;rfl;rfl;rfl) | (apply rw_nil;kernel_rfl)) | (apply id_aw; first | apply aw_seq | apply aw_region | (apply aw_cond; (case hc => rfl); all_goals (intro hc; have hq := hc; (try simp only [bqs] at hq); (try (exfalso; omega)))) | apply aw_block | apply aw_skip) | with_reducible apply tq_normal)
    rw [show ((m : Int) - 1).toNat = m - 1 by omega]
    refine rw_go (rw_le ?_ (Le.cut (i := 2) (m - 1) rfl))
    rw [cut_ints]
    obtain ⟨hkm, hks⟩ := last_mem hml hT
    obtain ⟨k, hkk⟩ : ∃ k, k = T[m - 1]! := ⟨_, rfl⟩
    rw [← hkk] at hkm hks ⊢
    have hk := I.tw k hkm
    have hnk := w.nl k.toNat (by omega)
    have hk1 : 0 ≤ k ∧ k < pts.length := ⟨hk.1, hk.2.1⟩
    have htk : (T.take (m - 1)).length = m - 1 := by rw [List.length_take]; omega
    have htl : ∀ G, muR G (T.take (m - 1)) + 1 = muR G T := fun G => by unfold muR; rw [htk]; omega
    have htF := htl F
    by_cases hv : F[k.toNat]! = true
    · repeat' (first | (apply id_rw; first | (apply rx_move;rfl;rfl) | (first | (apply rx_loadF0; (case hx | hH => rfl); (case hf | hg | hα => infer_instance); (case hk => omega); (case hc | hN => rfl)) | (apply rx_load1;rfl;rfl;rfl;rfl)) | (apply rx_fieldAddr;rfl;rfl;rfl) | (apply rx_assign;rfl;rfl) | (first | (apply rx_indexF; (case hx | hi => rfl); (case hm => (assumption)); (case hml => (rfl)); (case hα | hf | hg => infer_instance); (case hN => rfl)) | (apply rx_indexO;rfl;rfl;(assumption);rfl)) | (apply rx_append;rfl;rfl;rfl;rfl;rfl;(rw [flat_length]; omega);(exact sC_imm (by (rfl)));omega;omega;(exact app_ints (by (omega)));rfl;rfl) | (apply rw_nil;kernel_rfl) | (apply rx_not;rfl;rfl) | (apply rx_store;rfl;rfl;rfl;rfl;rfl;(rw [flat_length]; simp only [lns] <;> omega);(exact st_bool (by (omega))))) | (apply id_aw; first | apply aw_seq | apply aw_region | (apply aw_cond; (case hc => rfl); all_goals (intro hc; have hq := hc; (try simp only [bqs] at hq); (try (exfalso; omega)))) | apply aw_skip) | with_reducible apply tq_normal | with_reducible apply bq_normal)
      all_goals try exact absurd (hv.symm.trans (by assumption : F[k.toNat]! = false)) (by decide)
      (apply Exists.intro (F, _, _); refine And.intro ?_ (And.intro ?_ ?_); rotate_left 2; focus (refine Le.ren [(0, 0), (2, 2)] rfl (by decide) ?_ ?_ <;> repeat' (first | exact trivial | refine And.intro ⟨_, rfl, ?_⟩ ?_ | refine And.intro ⟨_, _, rfl, rfl, ?_⟩ ?_ | exact Or.inr rfl | refine Or.inl ⟨?_, (by (exact pur_sl _ _))⟩ | rfl)))
      · exact ⟨I.vis hks (fun x hx => List.mem_of_mem_take hx) hv, by dsimp only; omega, by dsimp only; omega⟩
      · dsimp only; omega
    · rw [Bool.not_eq_true] at hv
      have hms := muR_set (F := F) (k := k.toNat) (by omega) hv (T.take (m - 1))
      have hma := muR_app (F.set k.toNat true) (T.take (m - 1)) pts[k.toNat]!.next
      repeat' (first | (apply id_rw; first | (apply rx_move;rfl;rfl) | (first | (apply rx_loadF0; (case hx | hH => rfl); (case hf | hg | hα => infer_instance); (case hk => omega); (case hc | hN => rfl)) | (apply rx_load1;rfl;rfl;rfl;rfl)) | (apply rx_fieldAddr;rfl;rfl;rfl) | (apply rx_assign;rfl;rfl) | (first | (apply rx_indexF; (case hx | hi => rfl); (case hm => (assumption)); (case hml => (rfl)); (case hα | hf | hg => infer_instance); (case hN => rfl)) | (apply rx_indexO;rfl;rfl;(assumption);rfl)) | (apply rx_append;rfl;rfl;rfl;rfl;rfl;(rw [flat_length]; omega);(exact sC_imm (by (rfl)));omega;omega;(exact app_ints (by (omega)));rfl;rfl) | (apply rw_nil;kernel_rfl) | (apply rx_not;rfl;rfl) | (apply rx_store;rfl;rfl;rfl;rfl;rfl;(rw [flat_length]; simp only [lns] <;> omega);(exact st_bool (by (omega))))) | (apply id_aw; first | apply aw_seq | apply aw_region | (apply aw_cond; (case hc => rfl); all_goals (intro hc; have hq := hc; (try simp only [bqs] at hq); (try (exfalso; omega)))) | apply aw_skip) | with_reducible apply tq_normal | with_reducible apply bq_normal)
      all_goals try exact absurd (hv.symm.trans (by assumption : F[k.toNat]! = true)) (by decide)
      (apply Exists.intro (F.set k.toNat true, _, _); refine And.intro ?_ (And.intro ?_ ?_); rotate_left 2; focus (refine Le.ren [(0, 0), (2, 3)] rfl (by decide) ?_ ?_ <;> repeat' (first | exact trivial | refine And.intro ⟨_, rfl, ?_⟩ ?_ | refine And.intro ⟨_, _, rfl, rfl, ?_⟩ ?_ | exact Or.inr rfl | refine Or.inl ⟨?_, (by (exact pur_sl _ _))⟩ | rfl)))
      · exact ⟨I.new w.nx hkm (fun x hx => by
          rcases hks x hx with h | h
          · exact .inl h
          · exact .inr (List.mem_append_left _ h)) (fun x hx => List.mem_append_right _ hx) (fun x hx => by
          rcases List.mem_append.1 hx with h | h
          · exact .inl (List.mem_of_mem_take h)
          · exact .inr h), by dsimp only; omega, by dsimp only; rw [List.length_append]; omega⟩
      · dsimp only; omega
  · have hT0 : T = [] := List.eq_nil_of_length_eq_zero (by omega)
    rw [hT0] at I
    repeat' (first | (apply id_rw; first | (apply rx_move;rfl;rfl) | (apply rx_bin;rfl;rfl;rfl;rfl) | (apply rx_assign;rfl;rfl) | (apply rx_len;rfl;rfl;rfl) | (apply rw_nil;kernel_rfl)) | (apply id_aw; first | apply aw_seq | apply aw_region | (apply aw_cond; (case hc => rfl); all_goals (intro hc; have hq := hc; (try simp only [bqs] at hq); (try (exfalso; omega)))) | apply aw_exit | apply aw_ret) | with_reducible apply tq_normal | with_reducible apply tq_exit | with_reducible apply bq_here)
    refine rq_le (Le.frzD (d := 4) (i := 0) rfl rfl) ?_
    refine rq_ret rfl ⟨?_, (by (exact pur_sl _ _))⟩
    have e := I.fin hF0 w.nx
    rw [← e]
    simp only [oneOf, sl, hFl]
def usF (ts : List Int) (x : Pnt) (fr : List (List Bool)) (loan v : Nat) : Bool := fr[v]![loan]! && decide (useAt ts x v ≠ 0)
theorem l13Uses_c (ts : List Int) (x : Pnt) (fr : List (List Bool)) (pl : List Bool) (loan : Nat) (hn : ts.length ≤ 6) (h1 : fr.length = ts.length) (h2 : ∀ v, v < ts.length → loan < fr[v]!.length) :
    PC Tryz.prog 97 [sl cI ts, aPnt x, .agg [sl cBB fr, sl cB pl], iv (loan : Int)] (fun r => r = bv ((List.range ts.length).any (usF ts x fr loan))) := by
  (refine pc_of_aw Tryz.func97 rfl (by simp [Tryz.ntmps97]) ?_; rw [Tryz.ntmps97])
  repeat' (first | (apply id_rw; first | (apply rx_assign;rfl;rfl) | (apply rw_nil;kernel_rfl) | (apply rx_box;rfl;rfl;rfl;rfl)) | (apply id_aw; first | apply aw_seq | apply aw_region | apply aw_block) | with_reducible apply tq_normal)
  refine aw_loopK (σ := Nat) [0, 3, 5, 6] [(0, _), (3, _), (5, _), (6, _)] [0, 1] [(0, some _), (1, some _)] (fun k => [(9, iv (k : Int))]) (fun k => []) (fun k => k ≤ ts.length ∧ ∀ v, v < k → usF ts x fr loan v = false) (fun k => ts.length - k) (0) ⟨by omega, by omega⟩ rfl rfl (by repeat' (first | exact trivial | refine And.intro rfl ?_)) (by repeat' (exact trivial)) ?_
  rintro k ⟨hk, hall⟩
  try dsimp only
  by_cases hkn : k < ts.length
  · have hlo := h2 k hkn
    have hnx : usF ts x fr loan k = false → ∀ v, v < k + 1 → usF ts x fr loan v = false := fun h v hv => by
      by_cases e : v = k
      · rw [e]; exact h
      · exact hall v (by omega)
    have hyes : usF ts x fr loan k = true → (List.range ts.length).any (usF ts x fr loan) = true := fun h => List.any_eq_true.2 ⟨k, List.mem_range.2 hkn, h⟩
    have hus : usF ts x fr loan k = (fr[k]![loan]! && decide (useAt ts x k ≠ 0)) := rfl
    repeat' (first | (apply id_rw; first | (apply rx_move;rfl;rfl) | (first | (apply rx_load1;rfl;rfl;rfl;rfl) | (apply rx_loadA;rfl;rfl;(exact (rfl:_=[_, _, _, _, _]));rfl;rfl;rfl)) | (apply rx_fieldAddr;rfl;rfl;rfl) | (first | (apply rx_guardY;rfl;rfl;rfl;(assumption)) | (apply rx_guardNs;rfl;rfl;rfl;(assumption)) | (apply rx_guardS; (case hj | hb | hN => rfl); all_goals (intro hg; have hq := hg; (try simp only [bqs] at hq); (try (exfalso; omega))))) | (first | (apply rx_add;rfl;rfl;omega;rfl) | (apply rx_bin;rfl;rfl;rfl;rfl)) | (apply rx_assign;rfl;rfl) | (first | (apply rx_pickT;rfl;(assumption);rfl;rfl) | (apply rx_pickF;rfl;(assumption);rfl;rfl)) | (apply rx_indexFN; (case hx | hi => rfl); (case hm => (first | assumption | omega)); (case hml => (rfl)); (case hα | hf | hg => infer_instance); (case hN => rfl)) | ((with_reducible apply rx_callE (k := 132)); (case ha => rfl); (case h => (apply l3Use_c <;> (omega))); (case hp => (exact Pur.pf)); (case hN => rfl)) | (apply rx_len;rfl;rfl;rfl) | (apply rw_nil;kernel_rfl)) | (apply id_aw; first | apply aw_seq | apply aw_region | (apply aw_condF;rfl;(rfl)) | (apply aw_cond; (case hc => rfl); all_goals (intro hc; have hq := hc; (try simp only [bqs] at hq); (try (exfalso; omega)))) | apply aw_block | apply aw_skip | apply aw_ret) | with_reducible apply tq_normal | with_reducible apply tq_ret | with_reducible apply bq_normal | with_reducible apply bq_ret)
    · refine rq_ret rfl ⟨?_, rfl⟩
      rw [hyes (by rw [hus, (by assumption : fr[k]![loan]! = true), decide_eq_true (by assumption)]; rfl)]; rfl
    · (apply Exists.intro (k + 1); refine And.intro ?_ (And.intro ?_ ?_); rotate_left 2; focus (refine Le.ren [(0, 0), (1, 1)] rfl (by decide) ?_ ?_ <;> repeat' (first | exact trivial | refine And.intro ⟨_, rfl, ?_⟩ ?_ | refine And.intro ⟨_, _, rfl, rfl, ?_⟩ ?_ | exact Or.inr rfl | refine Or.inl ⟨?_, (by first | rfl | exact pur_sl _ _ | exact Pur.pf)⟩ | rfl)))
      · exact ⟨by omega, hnx (by rw [hus, decide_eq_false (fun h => h (by assumption)), Bool.and_false])⟩
      · omega
    · (apply Exists.intro (k + 1); refine And.intro ?_ (And.intro ?_ ?_); rotate_left 2; focus (refine Le.ren [(0, 0), (1, 1)] rfl (by decide) ?_ ?_ <;> repeat' (first | exact trivial | refine And.intro ⟨_, rfl, ?_⟩ ?_ | refine And.intro ⟨_, _, rfl, rfl, ?_⟩ ?_ | exact Or.inr rfl | refine Or.inl ⟨?_, (by first | rfl | exact pur_sl _ _ | exact Pur.pf)⟩ | rfl)))
      · exact ⟨by omega, hnx (by rw [hus, (by assumption : fr[k]![loan]! = false), Bool.false_and])⟩
      · omega
  · repeat' (first | (apply id_rw; first | (apply rx_move;rfl;rfl) | (apply rx_bin;rfl;rfl;rfl;rfl) | (apply rx_assign;rfl;rfl) | (apply rx_len;rfl;rfl;rfl) | (apply rw_nil;kernel_rfl)) | (apply id_aw; first | apply aw_seq | apply aw_region | (apply aw_cond; (case hc => rfl); all_goals (intro hc; have hq := hc; (try simp only [bqs] at hq); (try (exfalso; omega)))) | apply aw_exit | apply aw_ret) | with_reducible apply tq_normal | with_reducible apply tq_exit | with_reducible apply bq_here)
    refine rq_ret rfl ⟨?_, rfl⟩
    have : (List.range ts.length).any (usF ts x fr loan) = false := by
      rw [List.any_eq_false]; intro v hv; rw [hall v (by rw [List.mem_range] at hv; omega)]; decide
    rw [this]; rfl
theorem UseAfterSNo_c (p : Prg) (a l : Int) (hl : p.types.length ≤ 1000000) (hs : cntL p.body ≤ 1000000) (h : ¬ (OkAt p a ∧ OkAt p l)) : PC Tryz.prog 39 [aPrg p, iv a, iv l] (fun r => r = .tup [iv 0, bv false]) := by
  have hPP := PointsOfS_c p hl hs
  have hn : ¬ ((0 ≤ a ∧ a < (if validF p = true then ptsF p else []).length) ∧ (0 ≤ l ∧ l < (if validF p = true then ptsF p else []).length)) := by
    intro q
    cases hv : validF p
    · rw [if_neg (by simp [hv])] at q; simp at q; omega
    · rw [if_pos hv] at q; exact h ⟨⟨hv, q.1⟩, ⟨hv, q.2⟩⟩
  have hpl : (if validF p = true then ptsF p else []).length ≤ 61 := by
    split
    · exact (WG.of_valid (by assumption)).pl
    · simp
  generalize (if validF p = true then ptsF p else []) = pts at *
  (refine pc_of_aw Tryz.func39 rfl (by simp [Tryz.ntmps39]) ?_; rw [Tryz.ntmps39])
  repeat' (first | (apply id_rw; first | ((with_reducible apply rx_callE (k := 74)); (case ha => rfl); (case h => exact hPP); (case hp => (exact Pur.pf)); (case hN => rfl)) | (apply rx_move;rfl;rfl) | (apply rx_loadA;rfl;rfl;(exact (rfl:_=[_, _]));rfl;rfl;rfl) | (first | (apply rx_guardY;rfl;rfl;rfl;(assumption)) | (apply rx_guardNs;rfl;rfl;rfl;(first | rfl | assumption)) | (apply rx_guardS; (case hj | hb | hN => rfl); all_goals (intro hg; have hq := hg; (try simp only [bqs] at hq); (try (exfalso; omega))))) | (apply rx_bin;rfl;rfl;rfl;rfl) | (apply rx_assign;rfl;rfl) | (first | (apply rx_pickT;rfl;(first | rfl | assumption);rfl;rfl) | (apply rx_pickF;rfl;(assumption);rfl;rfl)) | (apply rx_len;rfl;rfl;rfl) | (apply rw_nil;kernel_rfl) | (apply rx_box;rfl;rfl;rfl;rfl)) | (apply id_aw; first | apply aw_seq | apply aw_region | (apply aw_condT;rfl;(rfl)) | (apply aw_cond; (case hc => rfl); all_goals (intro hc; have hq := hc; (try simp only [bqs] at hq); (try (exfalso; omega)))) | apply aw_ret) | with_reducible apply tq_normal | with_reducible apply tq_ret)
  all_goals exact rq_ret rfl ⟨rfl, rfl⟩
theorem usF_any (ts : List Int) (pts : List Pnt) (Af Ap : List Nat) (loan i : Nat) (hA : Af.length = pts.length * 6) (hn : ts.length ≤ 6) (hi : i < pts.length) (hl : loan < pts.length) : (List.range ts.length).any (usF ts pts[i]! (flB ts.length pts.length Af Ap i).1 loan) = useW ts pts Af loan i := by
  unfold useW
  rw [Bool.eq_iff_iff, List.any_eq_true, List.any_eq_true]
  have key : ∀ v, v < ts.length → usF ts pts[i]! (flB ts.length pts.length Af Ap i).1 loan v = (decide (useAt ts pts[i]! v ≠ 0) && (row6 Af i)[v]!.testBit loan) := fun v hv => by
    unfold usF flB
    dsimp only
    rw [mapR_get _ _ _ hv, mapR_get _ _ _ hl, row6_at hA hi (by omega), Bool.and_comm]
  constructor
  · rintro ⟨v, hv, h⟩; exact ⟨v, hv, by rw [← key v (List.mem_range.1 hv)]; exact h⟩
  · rintro ⟨v, hv, h⟩; exact ⟨v, hv, by rw [key v (List.mem_range.1 hv)]; exact h⟩
theorem UseAfterSY_c (p : Prg) (a l : Nat) (f : Flows p.types (ptsF p)) (F0 : List Bool) (hl : p.types.length ≤ 1000000) (hs : cntL p.body ≤ 1000000) (hv : validF p = true) (ha : a < (ptsF p).length) (hll : l < (ptsF p).length) (hF0 : GoodR (ptsF p) a F0) :
    PC Tryz.prog 39 [aPrg p, iv (a : Int), iv (l : Int)] (fun r => r = if 0 ≤ (bsW (wyW (ptsF p) a) (useW p.types (ptsF p) f.Af l) (ptsF p).length).1 then .tup [iv (bsW (wyW (ptsF p) a) (useW p.types (ptsF p) f.Af l) (ptsF p).length).1, bv true] else .tup [iv 0, bv false]) := by
  have w := WG.of_valid hv
  have hpl := w.pl
  have htl := w.tl
  have hPP := PointsOfS_c p hl hs
  rw [if_pos hv] at hPP
  have hfl := l4Flow_c p f.Af f.Ap hs w f.gf f.gp
  have hfll : ((List.range (ptsF p).length).map (flB p.types.length (ptsF p).length f.Af f.Ap)).length = (ptsF p).length := by simp
  have hfi : ∀ i, i < (ptsF p).length → ((List.range (ptsF p).length).map (flB p.types.length (ptsF p).length f.Af f.Ap))[i]! = flB p.types.length (ptsF p).length f.Af f.Ap i := fun i hi => mapR_get _ _ _ hi
  have hf1 : ∀ i, (flB p.types.length (ptsF p).length f.Af f.Ap i).1.length = p.types.length := fun i => by simp [flB]
  have hf2 : ∀ i v, v < p.types.length → l < (flB p.types.length (ptsF p).length f.Af f.Ap i).1[v]!.length := fun i v hv => by
    unfold flB; dsimp only; rw [mapR_get _ _ _ hv]; simpa using hll
  have hus := fun (i : Nat) (hi : i < (ptsF p).length) => l13Uses_c p.types (ptsF p)[i]! ((List.range (ptsF p).length).map (flB p.types.length (ptsF p).length f.Af f.Ap))[i]!.1 ((List.range (ptsF p).length).map (flB p.types.length (ptsF p).length f.Af f.Ap))[i]!.2 l htl (by rw [hfi i hi]; exact hf1 i) (by rw [hfi i hi]; exact hf2 i)
  have hU : ∀ i, i < (ptsF p).length → (List.range p.types.length).any (usF p.types (ptsF p)[i]! ((List.range (ptsF p).length).map (flB p.types.length (ptsF p).length f.Af f.Ap))[i]!.1 l) = useW p.types (ptsF p) f.Af l i := fun i hi => by rw [hfi i hi]; exact usF_any _ _ _ _ _ _ f.gf.1 htl hi hll
  clear hfi hf1 hf2
  generalize (List.range (ptsF p).length).map (flB p.types.length (ptsF p).length f.Af f.Ap) = FL at hfl hfll hus hU
  have hfr := l2From_c p.types (ptsF p) a F0 w ha hF0
  have hF0l := hF0.l
  have hUt := p.types.length
  (refine pc_of_aw Tryz.func39 rfl (by simp [Tryz.ntmps39]) ?_; rw [Tryz.ntmps39])
  repeat' (first | (apply id_rw; first | ((with_reducible apply rx_callE (k := 74)); (case ha => rfl); (case h => exact hPP); (case hp => (exact Pur.pf)); (case hN => rfl)) | ((with_reducible apply rx_callE (k := 75)); (case ha => rfl); (case h => exact hfl); (case hp => (exact Pur.pf)); (case hN => rfl)) | ((with_reducible apply rx_callE (k := 96)); (case ha => rfl); (case h => exact hfr); (case hp => (exact Pur.pf)); (case hN => rfl)) | (apply rx_move;rfl;rfl) | (apply rx_loadA;rfl;rfl;(exact (rfl:_=[_, _]));rfl;rfl;rfl) | (first | (apply rx_guardY;rfl;rfl;rfl;(first | rfl | assumption)) | (apply rx_guardS; (case hj | hb | hN => rfl); all_goals (intro hg; have hq := hg; (try simp only [bqs] at hq); (try (exfalso; omega))))) | (apply rx_bin;rfl;rfl;rfl;rfl) | (apply rx_assign;rfl;rfl) | (apply rx_pickF;rfl;(first | rfl | assumption);rfl;rfl) | (apply rx_len;rfl;rfl;rfl) | (apply rw_nil;kernel_rfl) | (apply rx_box;rfl;rfl;rfl;rfl) | ((apply rx_buildSliceI (t := _)); (case hze | hsm | hl => rfl); (case hfl => (rfl)); (case hM | hN => rfl))) | (apply id_aw; first | apply aw_seq | apply aw_region | (apply aw_cond; (case hc => rfl); all_goals (intro hc; have hq := hc; (try simp only [bqs] at hq); (try (exfalso; omega)))) | apply aw_block | apply aw_skip) | with_reducible apply tq_normal)
  refine aw_loopK (σ := Nat × List Int) [1, 2, 3, 8, 9, 10] [(1, _), (2, _), (3, _), (8, _), (9, _), (10, _)] [0] [(0, some _)] (fun s => [(12, iv (s.1 : Int)), (11, sl cI s.2)]) (fun s => []) (fun s => s.1 ≤ (ptsF p).length ∧ s.2 = cN' (bsW (wyW (ptsF p) a) (useW p.types (ptsF p) f.Af l) s.1).2) (fun s => (ptsF p).length - s.1) (0, []) ⟨by omega, rfl⟩ rfl rfl (by repeat' (first | exact trivial | refine And.intro rfl ?_)) (by repeat' (exact trivial)) ?_
  rintro ⟨i, bl⟩ ⟨hi, hbl⟩
  dsimp only at hi hbl
  try dsimp only
  have hbp := bsW_pos (W := wyW (ptsF p) a) (U := useW p.types (ptsF p) f.Af l) (i := i)
  have hbln := bsW_len (W := wyW (ptsF p) a) (U := useW p.types (ptsF p) f.Af l) (fun j => wyW_len (x := j) w.nx ha) i
  have hbll : bl.length = (bsW (wyW (ptsF p) a) (useW p.types (ptsF p) f.Af l) i).2.length := by rw [hbl, cN'_len]
  by_cases hin : i < (ptsF p).length
  · have hu := hus i hin
    rw [hU i hin] at hu
    have hw := l13Way_c p.types (ptsF p) a i w ha hin
    have hwl := wyW_len (x := i) w.nx ha
    rw [← cN'_len] at hwl
    repeat' (first | (apply id_rw; first | ((with_reducible apply rx_callE (k := 97)); (case ha => rfl); (case h => exact hu); (case hp => (exact Pur.pf)); (case hN => rfl)) | ((with_reducible apply rx_callE (k := 98)); (case ha => rfl); (case h => exact hw); (case hp => (exact Pur.pf)); (case hN => rfl)) | (apply rx_move;rfl;rfl) | (first | (apply rx_load1;rfl;rfl;rfl;rfl) | (apply rx_loadA;rfl;rfl;(first | exact (rfl:_=[_, _]) | exact (rfl:_=[_, _, _, _, _]));rfl;rfl;rfl)) | (apply rx_fieldAddr;rfl;rfl;rfl) | (first | (apply rx_guardY;rfl;rfl;rfl;(assumption)) | (apply rx_guardNs;rfl;rfl;rfl;(assumption)) | (apply rx_guardS; (case hj | hb | hN => rfl); all_goals (intro hg; have hq := hg; (try simp only [bqs] at hq); (try (exfalso; omega))))) | (first | (apply rx_add;rfl;rfl;omega;rfl) | (apply rx_bin;rfl;rfl;rfl;rfl)) | (apply rx_assign;rfl;rfl) | (first | (apply rx_pickT;rfl;(assumption);rfl;rfl) | (apply rx_pickF;rfl;(assumption);rfl;rfl)) | (apply rx_indexFN; (case hx | hi => rfl); (case hm => (first | assumption | omega)); (case hml => (rfl)); (case hα | hf | hg => infer_instance); (case hN => rfl)) | (apply rx_len;rfl;rfl;rfl) | (apply rw_nil;kernel_rfl) | (apply rx_not;rfl;rfl) | (apply rx_extract;rfl;rfl;rfl)) | (apply id_aw; first | apply aw_seq | apply aw_region | (apply aw_draw;kernel_rfl) | (apply aw_condT;rfl;(rfl)) | (apply aw_cond; (case hc => rfl); all_goals (intro hc; have hq := hc; (try simp only [bqs] at hq); (try (exfalso; omega)))) | apply aw_block | apply aw_skip | apply aw_exit) | with_reducible apply tq_normal | with_reducible apply tq_exit | with_reducible apply bq_normal | with_reducible apply bq_here)
    · have hb := bsW_no (W := wyW (ptsF p) a) (U := useW p.types (ptsF p) f.Af l) (i := i) (.inl (by assumption))
      (apply Exists.intro (i + 1, bl); refine And.intro ?_ (And.intro ?_ ?_); rotate_left 2; focus (refine Le.ren [(0, 0)] rfl (by decide) ?_ ?_ <;> repeat' (first | exact trivial | refine And.intro ⟨_, rfl, ?_⟩ ?_ | refine And.intro ⟨_, _, rfl, rfl, ?_⟩ ?_ | exact Or.inr rfl | refine Or.inl ⟨?_, (by first | rfl | exact pur_sl _ _ | exact Pur.pf)⟩ | rfl)))
      · exact ⟨by dsimp only; omega, by dsimp only; rw [hb, hbl]⟩
      · dsimp only; omega
    · have hu2 : useW p.types (ptsF p) f.Af l i = true := by assumption
      have hW := (wyW_ne w.nx ha).2 ((hF0.g i hin).1 (by assumption))
      have hb := bsW_new (W := wyW (ptsF p) a) (U := useW p.types (ptsF p) f.Af l) hu2 hW (by rw [cN'_len] at *; omega)
      (apply Exists.intro (i + 1, _); refine And.intro ?_ (And.intro ?_ ?_); rotate_left 2; focus (refine Le.ren [(0, 0)] rfl (by decide) ?_ ?_ <;> repeat' (first | exact trivial | refine And.intro ⟨_, rfl, ?_⟩ ?_ | refine And.intro ⟨_, _, rfl, rfl, ?_⟩ ?_ | exact Or.inr rfl | refine Or.inl ⟨?_, (by first | rfl | exact pur_sl _ _ | exact Pur.pf)⟩ | rfl)))
      · exact ⟨by dsimp only; omega, by dsimp only; rw [hb]; rfl⟩
      · dsimp only; omega
    · have hb := bsW_old (W := wyW (ptsF p) a) (U := useW p.types (ptsF p) f.Af l) (i := i) (by omega) (by rw [cN'_len] at *; omega)
      (apply Exists.intro (i + 1, bl); refine And.intro ?_ (And.intro ?_ ?_); rotate_left 2; focus (refine Le.ren [(0, 0)] rfl (by decide) ?_ ?_ <;> repeat' (first | exact trivial | refine And.intro ⟨_, rfl, ?_⟩ ?_ | refine And.intro ⟨_, _, rfl, rfl, ?_⟩ ?_ | exact Or.inr rfl | refine Or.inl ⟨?_, (by first | rfl | exact pur_sl _ _ | exact Pur.pf)⟩ | rfl)))
      · exact ⟨by dsimp only; omega, by dsimp only; rw [hb, hbl]⟩
      · dsimp only; omega
    · have hu2 : useW p.types (ptsF p) f.Af l i = true := by assumption
      have hW := (wyW_ne w.nx ha).2 ((hF0.g i hin).1 (by assumption))
      have hb := bsW_new (W := wyW (ptsF p) a) (U := useW p.types (ptsF p) f.Af l) hu2 hW (by rw [cN'_len] at *; omega)
      (apply Exists.intro (i + 1, _); refine And.intro ?_ (And.intro ?_ ?_); rotate_left 2; focus (refine Le.ren [(0, 0)] rfl (by decide) ?_ ?_ <;> repeat' (first | exact trivial | refine And.intro ⟨_, rfl, ?_⟩ ?_ | refine And.intro ⟨_, _, rfl, rfl, ?_⟩ ?_ | exact Or.inr rfl | refine Or.inl ⟨?_, (by first | rfl | exact pur_sl _ _ | exact Pur.pf)⟩ | rfl)))
      · exact ⟨by dsimp only; omega, by dsimp only; rw [hb]; rfl⟩
      · dsimp only; omega
    · have hb := bsW_no (W := wyW (ptsF p) a) (U := useW p.types (ptsF p) f.Af l) (i := i) (.inr (Classical.byContradiction fun h => by have h2 := (hF0.g i hin).2 ((wyW_ne w.nx ha).1 h); rw [(by assumption : F0[i]! = false)] at h2; cases h2))
      (apply Exists.intro (i + 1, bl); refine And.intro ?_ (And.intro ?_ ?_); rotate_left 2; focus (refine Le.ren [(0, 0)] rfl (by decide) ?_ ?_ <;> repeat' (first | exact trivial | refine And.intro ⟨_, rfl, ?_⟩ ?_ | refine And.intro ⟨_, _, rfl, rfl, ?_⟩ ?_ | exact Or.inr rfl | refine Or.inl ⟨?_, (by first | rfl | exact pur_sl _ _ | exact Pur.pf)⟩ | rfl)))
      · exact ⟨by dsimp only; omega, by dsimp only; rw [hb, hbl]⟩
      · dsimp only; omega
  · have hin2 : (ptsF p).length = i := by omega
    repeat' (first | (apply id_rw; first | (apply rx_move;rfl;rfl) | (apply rx_load1;rfl;rfl;rfl;rfl) | (first | (apply rx_sub;rfl;rfl;omega;rfl) | (apply rx_bin;rfl;rfl;rfl;rfl)) | (apply rx_assign;rfl;rfl) | (apply rx_indexF; (case hx | hi => rfl); (case hm => (omega)); (case hml => (rfl)); (case hα | hf | hg => infer_instance); (case hN => rfl)) | (apply rx_len;rfl;rfl;rfl) | (apply rw_nil;kernel_rfl)) | (apply id_aw; first | apply aw_seq | apply aw_region | (apply aw_cond; (case hc => rfl); all_goals (intro hc; have hq := hc; (try simp only [bqs] at hq); (try (exfalso; omega)))) | apply aw_skip | apply aw_exit | apply aw_ret) | with_reducible apply tq_normal | with_reducible apply tq_ret | with_reducible apply tq_exit | with_reducible apply bq_here)
    · exact rq_ret rfl ⟨by rw [hin2, if_neg (by omega)]; rfl, rfl⟩
    · have hla := bsW_last w.nx ha hbl (by omega)
      refine rq_ret rfl ⟨?_, rfl⟩
      rw [hla.1, hin2, if_pos hla.2]; rfl
end Go.Proofs.YtejkbiijonnefaaGreat

namespace Go.Proofs.YtejkbiijonnefaaGreat
open Go.AL Go.RowKit

theorem drawFmt_c (bs : List UInt8) (hb : bs.length ≤ 1048576) : PC Tryz.prog 92 [sl cU bs] (fun r => ∃ (q : Prg) (x : Iss), r = .tup [aPrg q, aIss x] ∧ cntL q.body ≤ 20000 ∧ q.types.length ≤ 1000) := by
  have hb2 : (bs.take 2000).length ≤ 2000 := by rw [List.length_take]; omega
  (refine pc_of_aw Tryz.func92 rfl (by simp [Tryz.ntmps92]) ?_; rw [Tryz.ntmps92])
  repeat' (first | (apply id_rw; first | ((with_reducible apply rx_prgcall (k := 85)); (case h => exact draw_c (bs.take 2000) 0 hb2 (by decide)); (case ha | hpv | hH | hM | hN => rfl); (rintro ⟨q, p1⟩ ⟨hq1, hq2, hq3⟩); (dsimp only at hq1 hq2 hq3)) | ((with_reducible apply rx_prgcall (k := 84)); (case h => exact mutate_c (bs.take 2000) p1 q hb2 (by omega) (by omega) (by omega)); (case ha => rfl); (case hpv => exact Pur.pf); (case hH | hM | hN => rfl); (rintro ⟨q2, p2⟩ ⟨hr1, hr2, hr3⟩); (dsimp only at hr1 hr2 hr3)) | (with_reducible apply rw_stop (d := 14)) | (apply rx_move;rfl;rfl) | (apply rx_assign;rfl;rfl) | (apply rx_l17Open;rfl;(apply l17Open_c <;> (assumption));rfl;rfl) | (apply rw_nil;kernel_rfl) | (apply rx_alloc;rfl;rfl) | (apply rx_store;rfl;rfl;rfl;rfl;rfl;(case hl => (simp;done));(exact (rfl:_=[_, _])))) | (apply id_aw; first | apply aw_seq | apply aw_region) | with_reducible apply tq_normal)
  refine rw_go ?_
  obtain ⟨L, _, hC, _, _, _, hLl⟩ := check_both q2 (by omega) (by omega)
  have h1 := pickF_bd (bs.take 2000) (q2, p2).2 5
  have h2 := pickF_bd (bs.take 2000) ((q2, p2).2 + 1) 3
  have h3 := pickF_bd (bs.take 2000) ((q2, p2).2 + 1 + 1) 3
  have h4 := pickF_bd (bs.take 2000) ((q2, p2).2 + 1 + 1 + 1 + 1) L.length
  repeat' (first | (apply id_rw; first | (apply rx_store;rfl;rfl;rfl;rfl;rfl;(case hl => (simp; done));exact (rfl:_=[_, _, _])) | ((with_reducible apply rx_callE (k := 33)); (case ha => rfl); (case h => exact hC); (case hp => (exact Pur.pf)); (case hN => rfl)) | (apply rx_move;rfl;rfl) | (apply rx_loadA;rfl;rfl;(first | exact (rfl:_=[_, _]) | exact (rfl:_=[_, _, _]));rfl;rfl;rfl) | (first | (apply rx_guardY;rfl;rfl;rfl;(assumption)) | (apply rx_guardNs;rfl;rfl;rfl;(assumption)) | (apply rx_guardS; (case hj | hb | hN => rfl); all_goals (intro hg; have hq := hg; (try simp only [bqs] at hq); (try (exfalso; omega))))) | (first | (apply rx_add;rfl;rfl;omega;rfl) | (apply rx_bin;rfl;rfl;rfl;rfl)) | (apply rx_assign;rfl;rfl) | (first | (apply rx_pickT;rfl;(assumption);rfl;rfl) | (apply rx_pickF;rfl;(assumption);rfl;rfl)) | (apply rx_indexF; (case hx | hi => rfl); (case hm => (omega)); (case hml => (rfl)); (case hα | hf | hg => infer_instance); (case hN => rfl)) | (apply rx_pick;rfl;rfl;(rfl);(apply pick_c <;> (first | assumption | omega));rfl;rfl) | (apply rx_len;rfl;rfl;rfl) | (apply rw_nil;kernel_rfl) | (apply rx_buildK;rfl;(exact (rfl:_=some [_, _, _]));(exact (rfl:_=[_, _, _]));rfl) | (apply rx_alloc;rfl;rfl) | (apply rx_store;rfl;rfl;rfl;rfl;rfl;(case hl => (simp;done));(exact (rfl:_=[_, _])))) | (apply id_aw; first | apply aw_seq | apply aw_region | (apply aw_draw;kernel_rfl) | (apply aw_condF;rfl;(rfl)) | (apply aw_cond; (case hc => rfl); all_goals (intro hc; have hq := hc; (try simp only [bqs] at hq); (try (exfalso; omega)))) | apply aw_skip | apply aw_ret) | with_reducible apply tq_normal)
  all_goals exact rq_ret (l := [aPrg q2, aIss ⟨_, _, _⟩]) rfl ⟨⟨q2, _, rfl, by omega, by omega⟩, Pur.pf⟩
theorem drawUse_c (bs : List UInt8) (hb : bs.length ≤ 1048576) : PC Tryz.prog 37 [sl cU bs] (fun r => ∃ (q : Prg) (a l : Int), r = .tup [aPrg q, iv a, iv l] ∧ cntL q.body ≤ 20000 ∧ q.types.length ≤ 1000) := by
  have hb2 : (bs.take 2000).length ≤ 2000 := by rw [List.length_take]; omega
  (refine pc_of_aw Tryz.func37 rfl (by simp [Tryz.ntmps37]) ?_; rw [Tryz.ntmps37])
  repeat' (first | (apply id_rw; first | (apply rx_store;rfl;rfl;rfl;rfl;rfl;(case hl => (simp; done));exact (rfl:_=[_, _, _])) | ((with_reducible apply rx_call (k := 92)); (case ha => rfl); (case h => exact drawFmt_c bs hb); (case hp => (exact Pur.pf)); (case hN => rfl); (rintro _ ⟨q, x, rfl, hq1, hq2⟩ _)) | (apply rx_move;rfl;rfl) | (first | (apply rx_load1;rfl;rfl;rfl;rfl) | (apply rx_loadA;rfl;rfl;(exact (rfl:_=[_, _]));rfl;rfl;rfl)) | (apply rx_fieldAddr;rfl;rfl;rfl) | (apply rx_bin;rfl;rfl;rfl;rfl) | (apply rx_assign;rfl;rfl) | (first | (apply rx_l17Open;rfl;(apply l17Open_c <;> (assumption));rfl;rfl) | (apply rx_pick;rfl;rfl;(rfl);(apply pick_c <;> (first | assumption | omega));rfl;rfl) | (apply rx_numO;rfl;rfl;rfl;rfl;infer_instance;rfl;(rfl);assumption;omega;(decide);(decide);rfl;rfl)) | (apply rw_nil;kernel_rfl) | (apply rx_alloc;rfl;rfl) | (apply rx_extract;rfl;rfl;rfl) | (apply rx_buildSlice;rfl;rfl;rfl;(first | exact (rfl:_=some [_, _, _, _]) | exact (rfl:_=some [_, _, _, _, _]));rfl;rfl) | (apply rx_store;rfl;rfl;rfl;rfl;rfl;(case hl => (simp;done));(exact (rfl:_=[_, _])))) | (apply id_aw; first | apply aw_seq | apply aw_region | (apply aw_draw;kernel_rfl) | (apply aw_cond; (case hc => rfl); all_goals (intro hc; have hq := hc; (try simp only [bqs] at hq); (try (exfalso; omega)))) | apply aw_skip | apply aw_ret) | with_reducible apply tq_normal | with_reducible apply tq_ret)
  all_goals exact rq_ret (l := [aPrg q, iv _, iv _]) rfl ⟨⟨q, _, _, rfl, hq1, hq2⟩, Pur.pf⟩
theorem use_all (p : Prg) (a l : Int) (hl : p.types.length ≤ 1000000) (hs : cntL p.body ≤ 1000000) : ∃ (n : Int) (ok : Bool) (LV PF : List Int),
    PC Tryz.prog 38 [aPrg p, iv a, iv l] (fun r => r = .tup [iv n, bv ok]) ∧ PC Tryz.prog 39 [aPrg p, iv a, iv l] (fun r => r = .tup [iv n, bv ok]) ∧
    PC Tryz.prog 27 [aPrg p, iv a] (fun r => r = sl cI LV) ∧ PC Tryz.prog 40 [aPrg p, iv a] (fun r => r = sl cI PF) ∧ (l ∈ LV → ok = true) ∧ (ok = true → n ∈ PF) ∧ LV.length ≤ 62 ∧ PF.length ≤ 62 := by
  by_cases ha : OkAt p a
  · have w := WG.of_valid ha.1
    obtain ⟨f⟩ := Flows.ex w
    have hpl := w.pl
    obtain ⟨a', rfl⟩ := Int.eq_ofNat_of_zero_le ha.2.1
    have hal : a' < (ptsF p).length := by have := ha.2; omega
    obtain ⟨F0, hF0⟩ := GoodR.exist (ptsF p) a'
    have hLV := LiveLoansY_c p a' f hl hs ha
    have hPF := PathsFromY_c p a' F0 hl hs ha hF0
    have hPl : (ixB F0 F0.length).length ≤ 62 := by
      unfold ixB; rw [List.length_map]
      refine Nat.le_trans (List.length_filter_le _ _) ?_
      rw [List.length_range, hF0.l]; omega
    by_cases hll : OkAt p l
    · obtain ⟨l', rfl⟩ := Int.eq_ofNat_of_zero_le hll.2.1
      have hl2 : l' < (ptsF p).length := by have := hll.2; omega
      have h1 := UseAfterY_c p a' l' f hl hs ha.1 hal hl2
      have h2 := UseAfterSY_c p a' l' f F0 hl hs ha.1 hal hl2 hF0
      by_cases hc : 0 ≤ (bsW (wyW (ptsF p) a') (useW p.types (ptsF p) f.Af l') (ptsF p).length).1
      · rw [if_pos hc] at h1 h2
        refine ⟨_, _, _, _, h1, h2, hLV, hPF, fun _ => rfl, fun _ => ?_, bitsI_len _, hPl⟩
        rcases bsW_inv (wyW (ptsF p) a') (useW p.types (ptsF p) f.Af l') (ptsF p).length with ⟨e, _⟩ | ⟨j, hj, e, _, _, hW⟩
        · omega
        · rw [e]
          exact ixB_mem.2 ⟨j, by rw [hF0.l]; exact hj, (hF0.g j hj).2 ((wyW_ne w.nx hal).1 hW), rfl⟩
      · rw [if_neg hc] at h1 h2
        refine ⟨_, _, _, _, h1, h2, hLV, hPF, fun hm => ?_, fun h => Bool.noConfusion h, bitsI_len _, hPl⟩
        exfalso
        obtain ⟨v, _, hb, e⟩ := mem_bitsI.1 hm
        have e2 : v = l' := by omega
        rw [e2] at hb
        obtain ⟨i, hi, hw, hu⟩ := kp_use w f hal hb
        exact hc (bsW_some _ i hi hu ((wyW_ne w.nx hal).2 hw))
    · refine ⟨_, _, _, _, UseAfterNo_c p a' l hl hs (fun h => hll h.2), UseAfterSNo_c p a' l hl hs (fun h => hll h.2), hLV, hPF, fun hm => ?_, fun h => Bool.noConfusion h, bitsI_len _, hPl⟩
      exfalso
      obtain ⟨v, _, hb, e⟩ := mem_bitsI.1 hm
      have hv := lt_of_bits ((f.bnd w).kp a' hal) hb
      exact hll ⟨ha.1, by omega, by omega⟩
  · exact ⟨_, _, [], [], UseAfterNo_c p a l hl hs (fun h => ha h.1), UseAfterSNo_c p a l hl hs (fun h => ha h.1), LiveLoansNo_c p a hl hs ha, PathsFromNo_c p a hl hs ha, fun h => by simp at h, fun h => Bool.noConfusion h, by simp, by simp⟩
theorem FnUseAfter_c (bs : List UInt8) : PC Tryz.prog 7 [sl cU bs] (fun r => r = bv true) := by
  rcases Nat.lt_or_ge 1048576 bs.length with hb | hb
  · (refine pc_of_aw Tryz.func7 rfl (by simp [Tryz.ntmps7]) ?_; rw [Tryz.ntmps7])
    repeat' (first | (apply id_rw; first | (apply rx_move;rfl;rfl) | (apply rx_bin;rfl;rfl;rfl;rfl) | (apply rx_assign;rfl;rfl) | (apply rx_len;rfl;rfl;rfl) | (apply rw_nil;kernel_rfl)) | (apply id_aw; first | apply aw_seq | apply aw_region | (apply aw_cond; (case hc => rfl); all_goals (intro hc; have hq := hc; (try simp only [bqs] at hq); (try (exfalso; omega)))) | apply aw_ret) | with_reducible apply tq_normal | with_reducible apply tq_ret)
    exact rq_ret rfl ⟨rfl, rfl⟩
  (refine pc_of_aw Tryz.func7 rfl (by simp [Tryz.ntmps7]) ?_; rw [Tryz.ntmps7])
  repeat' (first | (apply id_rw; first | ((with_reducible apply rx_call (k := 37)); (case ha => rfl); (case h => exact drawUse_c bs hb); (case hp => (exact Pur.pf)); (case hN => rfl); (rintro _ ⟨q, a, l, rfl, hq1, hq2⟩ _)) | (with_reducible apply rw_stop (d := 21)) | (apply rx_move;rfl;rfl) | (apply rx_bin;rfl;rfl;rfl;rfl) | (apply rx_assign;rfl;rfl) | (apply rx_len;rfl;rfl;rfl) | (apply rw_nil;kernel_rfl) | (apply rx_alloc;rfl;rfl) | (apply rx_extract;rfl;rfl;rfl) | (apply rx_store;rfl;rfl;rfl;rfl;rfl;(case hl => (simp;done));(exact (rfl:_=[_, _])))) | (apply id_aw; first | apply aw_seq | apply aw_region | (apply aw_cond; (case hc => rfl); all_goals (intro hc; have hq := hc; (try simp only [bqs] at hq); (try (exfalso; omega)))) | apply aw_skip) | with_reducible apply tq_normal)
  refine rw_go ?_
  obtain ⟨n, ok, LV, PF, h1, h2, h3, h4, law1, law2, b1, b2⟩ := use_all q a l (by omega) (by omega)
  have v1 := bcIn_c LV l (by omega)
  have v2 := bcIn_c PF n (by omega)
  cases ok
  · rw [decide_eq_false (fun h => Bool.noConfusion (law1 h))] at v1
    repeat' (first | (apply id_rw; first | ((with_reducible apply rx_callE (k := 38)); (case ha => rfl); (case h => exact h1); (case hp => (exact Pur.pf)); (case hN => rfl)) | ((with_reducible apply rx_callE (k := 39)); (case ha => rfl); (case h => exact h2); (case hp => (exact Pur.pf)); (case hN => rfl)) | ((with_reducible apply rx_callE (k := 27)); (case ha => rfl); (case h => exact h3); (case hp => (exact Pur.pf)); (case hN => rfl)) | ((with_reducible apply rx_callE (k := 30)); (case ha => rfl); (case h => exact v1); (case hp => (exact Pur.pf)); (case hN => rfl)) | (apply rx_move;rfl;rfl) | (apply rx_loadA;rfl;rfl;(exact (rfl:_=[_, _]));rfl;rfl;rfl) | (first | (apply rx_guardY;rfl;rfl;rfl;(first | rfl | assumption)) | (apply rx_guardNs;rfl;rfl;rfl;(first | rfl | assumption)) | (apply rx_guardS; (case hj | hb | hN => rfl); all_goals (intro hg; have hq := hg; (try simp only [bqs] at hq); (try (exfalso; omega))))) | (first | (apply rx_bbin;rfl;rfl;rfl;rfl) | (apply rx_bin;rfl;rfl;rfl;rfl)) | (apply rx_assign;rfl;rfl) | (first | (apply rx_pickT;rfl;(first | rfl | assumption);rfl;rfl) | (apply rx_pickF;rfl;(assumption);rfl;rfl)) | (apply rw_nil;kernel_rfl) | (apply rx_not;rfl;rfl) | (apply rx_extract;rfl;rfl;rfl)) | (apply id_aw; first | apply aw_seq | apply aw_region | (apply aw_condT;rfl;(rfl)) | (apply aw_condF;rfl;(rfl)) | apply aw_skip | apply aw_ret) | with_reducible apply tq_normal | with_reducible apply tq_ret)
    all_goals first | exact rq_ret rfl ⟨rfl, rfl⟩ | exact absurd trivial (by assumption : ¬ True)
  · rw [decide_eq_true (law2 rfl)] at v2
    repeat' (first | (apply id_rw; first | ((with_reducible apply rx_callE (k := 38)); (case ha => rfl); (case h => exact h1); (case hp => (exact Pur.pf)); (case hN => rfl)) | ((with_reducible apply rx_callE (k := 39)); (case ha => rfl); (case h => exact h2); (case hp => (exact Pur.pf)); (case hN => rfl)) | ((with_reducible apply rx_callE (k := 27)); (case ha => rfl); (case h => exact h3); (case hp => (exact Pur.pf)); (case hN => rfl)) | ((with_reducible apply rx_callE (k := 40)); (case ha => rfl); (case h => exact h4); (case hp => (exact Pur.pf)); (case hN => rfl)) | ((with_reducible apply rx_callE (k := 30)); (case ha => rfl); (case h => exact v1); (case hp => (exact Pur.pf)); (case hN => rfl)) | ((with_reducible apply rx_callE (k := 30)); (case ha => rfl); (case h => exact v2); (case hp => (exact Pur.pf)); (case hN => rfl)) | (apply rx_move;rfl;rfl) | (apply rx_loadA;rfl;rfl;(exact (rfl:_=[_, _]));rfl;rfl;rfl) | (first | (apply rx_guardY;rfl;rfl;rfl;(first | rfl | assumption)) | (apply rx_guardNs;rfl;rfl;rfl;(assumption)) | (apply rx_guardS; (case hj | hb | hN => rfl); all_goals (intro hg; have hq := hg; (try simp only [bqs] at hq); (try (exfalso; omega))))) | (first | (apply rx_bbin;rfl;rfl;rfl;rfl) | (apply rx_bin;rfl;rfl;rfl;rfl)) | (apply rx_assign;rfl;rfl) | (first | (apply rx_pickT;rfl;(first | rfl | assumption);rfl;rfl) | (apply rx_pickF;rfl;(first | rfl | assumption);rfl;rfl)) | (apply rw_nil;kernel_rfl) | (apply rx_not;rfl;rfl) | (apply rx_extract;rfl;rfl;rfl)) | (apply id_aw; first | apply aw_seq | apply aw_region | (apply aw_condT;rfl;(rfl)) | (apply aw_condF;rfl;(rfl)) | apply aw_skip | apply aw_ret) | with_reducible apply tq_normal | with_reducible apply tq_ret)
    all_goals first | exact rq_ret rfl ⟨rfl, rfl⟩ | exact absurd trivial (by assumption : ¬ True)
end Go.Proofs.YtejkbiijonnefaaGreat
