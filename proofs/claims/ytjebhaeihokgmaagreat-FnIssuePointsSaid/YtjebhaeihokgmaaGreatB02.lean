/-
  A part of the proofs over this program: rules and contracts of its functions (the contracts, part 2).
-/
import Derived.Test.YtjebhaeihokgmaaGreatB01
set_option linter.unusedVariables false
set_option linter.unusedSimpArgs false
namespace Go.Proofs.YtjebhaeihokgmaaGreat
open Go.AL Go.RowKit
set_option linter.unusedSimpArgs false
set_option linter.unusedVariables false
set_option maxHeartbeats 4000000
set_option maxRecDepth 4000

-- (*impl.graph).takes
theorem takes_c (ts : List Int) (bd : List AL.Stmt) (pts : List Pnt) (v : Int) (h : 0 ≤ v ∧ v < ts.length) : PC Tryz.prog 106 [aG ts bd pts, iv v] (fun r => r = bv (tkT ts[v.toNat]!)) := by
  (refine pc_of_aw Tryz.func106 rfl (by simp [Tryz.ntmps106]) ?_; rw [Tryz.ntmps106])
  repeat' (first | ((with_reducible apply id_rw); first | ((with_reducible apply rx_move); (case hx | hN => rfl)) | (((with_reducible apply rx_load1); (case hx | hd => rfl); (case hc | hN => rfl))) | ((with_reducible apply rx_fieldAddr); (case hx | hp | hN => rfl)) | (first | ((with_reducible apply rx_guardY); (case hj | hb | hN => rfl); (case hw => (assumption))) | ((with_reducible apply rx_guardNs); (case hj | hb | hN => rfl); (case hw => (assumption))) | ((with_reducible apply rx_guardS); (case hj | hb | hN => rfl); all_goals (intro hg; have hq := hg; (try simp only [Bool.and_eq_true, Bool.and_eq_false_iff, Bool.or_eq_true, Bool.or_eq_false_iff, decide_eq_true_eq, decide_eq_false_iff_not, Bool.not_eq_true', Bool.not_eq_false', Bool.not_true, Bool.not_false, Int.not_lt, Int.not_le] at hq); (try (exfalso; omega))))) | (((with_reducible apply rx_bin); (case hx | hy => rfl); (case h | hN => rfl))) | ((with_reducible apply rx_assign); (case hx | hN => rfl)) | (first | ((with_reducible apply rx_pickT); (case hc => rfl); (case hb => (assumption)); (case hx | hN => rfl)) | ((with_reducible apply rx_pickF); (case hc => rfl); (case hb => (assumption)); (case hx | hN => rfl))) | (((with_reducible apply rx_indexF); (case hx | hi => rfl); (case hm => ((assumption))); (case hml => ((rfl))); (case hα => infer_instance); (case hf => infer_instance); (case hg => infer_instance); (case hN => rfl))) | ((with_reducible apply rw_nil); (case hf => kernel_rfl)) | ((with_reducible apply rx_nil); (case hx | hp | hN => rfl))) | ((with_reducible apply id_aw); first | with_reducible apply aw_seq | with_reducible apply aw_region | with_reducible apply aw_ret) | with_reducible apply tq_normal | ((with_reducible apply rq_ret); case hr => rfl))
  all_goals (refine ⟨?_, rfl⟩; simp only [oneOf, AV.v.injEq, Value.bool.injEq, Value.int.injEq, true_and])
  all_goals grind [tkT]
-- (*impl.graph).use
theorem use_c (ts : List Int) (bd : List AL.Stmt) (pts : List Pnt) (x : Pnt) (v : Int) (h : 0 ≤ v ∧ v < ts.length) : PC Tryz.prog 105 [aG ts bd pts, aPnt x, iv v] (fun r => r = iv (useAt ts x v)) := by
  (refine pc_of_aw Tryz.func105 rfl (by simp [Tryz.ntmps105]) ?_; rw [Tryz.ntmps105])
  repeat' (first | ((with_reducible apply id_rw); first | ((with_reducible apply rx_move); (case hx | hN => rfl)) | (((with_reducible apply rx_load1); (case hx | hd => rfl); (case hc | hN => rfl))) | ((with_reducible apply rx_fieldAddr); (case hx | hp | hN => rfl)) | (first | ((with_reducible apply rx_guardY); (case hj | hb | hN => rfl); (case hw => (assumption))) | ((with_reducible apply rx_guardNs); (case hj | hb | hN => rfl); (case hw => (assumption))) | ((with_reducible apply rx_guardS); (case hj | hb | hN => rfl); all_goals (intro hg; have hq := hg; (try simp only [Bool.and_eq_true, Bool.and_eq_false_iff, Bool.or_eq_true, Bool.or_eq_false_iff, decide_eq_true_eq, decide_eq_false_iff_not, Bool.not_eq_true', Bool.not_eq_false', Bool.not_true, Bool.not_false, Int.not_lt, Int.not_le] at hq); (try (exfalso; omega))))) | (((with_reducible apply rx_bin); (case hx | hy => rfl); (case h | hN => rfl))) | ((with_reducible apply rx_assign); (case hx | hN => rfl)) | (first | ((with_reducible apply rx_pickT); (case hc => rfl); (case hb => (assumption)); (case hx | hN => rfl)) | ((with_reducible apply rx_pickF); (case hc => rfl); (case hb => (assumption)); (case hx | hN => rfl))) | (((with_reducible apply rx_callE (k := 106)); (case ha => rfl); (case h => (apply takes_c <;> ((assumption)))); (case hp => (exact Pur.pf)); (case hN => rfl))) | ((with_reducible apply rw_nil); (case hf => kernel_rfl)) | ((with_reducible apply rx_box); (case hx | hc => rfl); (case hM | hN => rfl))) | ((with_reducible apply id_aw); first | with_reducible apply aw_seq | with_reducible apply aw_region | ((with_reducible apply aw_condT); (case hc => rfl); (case hb => (assumption))) | ((with_reducible apply aw_condF); (case hc => rfl); (case hb => first | rfl | assumption)) | ((with_reducible apply aw_cond); (case hc => rfl); all_goals (intro hc; have hq := hc; (try simp only [Bool.and_eq_true, Bool.and_eq_false_iff, Bool.or_eq_true, Bool.or_eq_false_iff, decide_eq_true_eq, decide_eq_false_iff_not, Bool.not_eq_true', Bool.not_eq_false', Bool.not_true, Bool.not_false, Int.not_lt, Int.not_le] at hq); (try (exfalso; omega)))) | with_reducible apply aw_block | with_reducible apply aw_skip | with_reducible apply aw_ret) | with_reducible apply tq_normal | with_reducible apply tq_ret | with_reducible apply bq_normal | with_reducible apply bq_ret | ((with_reducible apply rq_ret); case hr => rfl))
  all_goals (refine ⟨?_, rfl⟩; simp only [oneOf, AV.v.injEq, Value.bool.injEq, Value.int.injEq, true_and])
  all_goals grind [tkT, useAt]
-- (impl.Point).sets
theorem sets_c (x : Pnt) : PC Tryz.prog 84 [aPnt x] (fun r => r = iv (setAt x)) := by
  (refine pc_of_aw Tryz.func84 rfl (by simp [Tryz.ntmps84]) ?_; rw [Tryz.ntmps84])
  repeat' (first | ((with_reducible apply id_rw); first | (((with_reducible apply rx_load1); (case hx | hd => rfl); (case hc | hN => rfl))) | ((with_reducible apply rx_fieldAddr); (case hx | hp | hN => rfl)) | (((with_reducible apply rx_bin); (case hx | hy => rfl); (case h | hN => rfl))) | ((with_reducible apply rx_assign); (case hx | hN => rfl)) | ((with_reducible apply rw_nil); (case hf => kernel_rfl)) | ((with_reducible apply rx_box); (case hx | hc => rfl); (case hM | hN => rfl))) | ((with_reducible apply id_aw); first | with_reducible apply aw_seq | with_reducible apply aw_region | ((with_reducible apply aw_condT); (case hc => rfl); (case hb => (assumption))) | ((with_reducible apply aw_cond); (case hc => rfl); all_goals (intro hc; have hq := hc; (try simp only [Bool.and_eq_true, Bool.and_eq_false_iff, Bool.or_eq_true, Bool.or_eq_false_iff, decide_eq_true_eq, decide_eq_false_iff_not, Bool.not_eq_true', Bool.not_eq_false', Bool.not_true, Bool.not_false, Int.not_lt, Int.not_le] at hq); (try (exfalso; omega)))) | with_reducible apply aw_block | with_reducible apply aw_skip | with_reducible apply aw_ret) | with_reducible apply tq_normal | with_reducible apply tq_ret | with_reducible apply bq_normal | with_reducible apply bq_ret | ((with_reducible apply rq_ret); case hr => rfl))
  all_goals (refine ⟨?_, rfl⟩; simp only [oneOf, AV.v.injEq, Value.bool.injEq, Value.int.injEq, true_and])
  all_goals grind [setAt]
-- (impl.Point).isLoan
theorem isLoan_c (x : Pnt) : PC Tryz.prog 85 [aPnt x] (fun r => r = bv (isLn x)) := by
  (refine pc_of_aw Tryz.func85 rfl (by simp [Tryz.ntmps85]) ?_; rw [Tryz.ntmps85])
  repeat' (first | ((with_reducible apply id_rw); first | ((with_reducible apply rx_move); (case hx | hN => rfl)) | (((with_reducible apply rx_load1); (case hx | hd => rfl); (case hc | hN => rfl))) | ((with_reducible apply rx_fieldAddr); (case hx | hp | hN => rfl)) | (first | ((with_reducible apply rx_guardY); (case hj | hb | hN => rfl); (case hw => (assumption))) | ((with_reducible apply rx_guardNs); (case hj | hb | hN => rfl); (case hw => (assumption))) | ((with_reducible apply rx_guardS); (case hj | hb | hN => rfl); all_goals (intro hg; have hq := hg; (try simp only [Bool.and_eq_true, Bool.and_eq_false_iff, Bool.or_eq_true, Bool.or_eq_false_iff, decide_eq_true_eq, decide_eq_false_iff_not, Bool.not_eq_true', Bool.not_eq_false', Bool.not_true, Bool.not_false, Int.not_lt, Int.not_le] at hq); (try (exfalso; omega))))) | (((with_reducible apply rx_bin); (case hx | hy => rfl); (case h | hN => rfl))) | ((with_reducible apply rx_assign); (case hx | hN => rfl)) | (first | ((with_reducible apply rx_pickT); (case hc => rfl); (case hb => (assumption)); (case hx | hN => rfl)) | ((with_reducible apply rx_pickF); (case hc => rfl); (case hb => (assumption)); (case hx | hN => rfl))) | ((with_reducible apply rw_nil); (case hf => kernel_rfl)) | ((with_reducible apply rx_box); (case hx | hc => rfl); (case hM | hN => rfl))) | ((with_reducible apply id_aw); first | with_reducible apply aw_seq | with_reducible apply aw_region | with_reducible apply aw_ret) | with_reducible apply tq_normal | ((with_reducible apply rq_ret); case hr => rfl))
  all_goals (refine ⟨?_, rfl⟩; simp only [oneOf, AV.v.injEq, Value.bool.injEq, Value.int.injEq, true_and])
  all_goals grind [isLn]
-- (impl.Point).setBit
theorem setBit_c (x : Pnt) (h : setAt x < 62) : PC Tryz.prog 90 [aPnt x] (fun r => r = iv (sbit x : Nat)) := by
  (refine pc_of_aw Tryz.func90 rfl (by simp [Tryz.ntmps90]) ?_; rw [Tryz.ntmps90])
  repeat' (first | ((with_reducible apply id_rw); first | ((with_reducible apply rx_move); (case hx | hN => rfl)) | (((with_reducible apply rx_loadA); (case hx | hd => rfl); (case hc => ((exact (rfl : _ = [_, _, _, _, _])))); (case hn | h0 | hN => rfl))) | (first | ((with_reducible apply rx_shl1); (case hx | hy => rfl); (case hk => infer_instance); (case h => omega); (case hN => rfl); (case' kk => intro hsm)) | ((with_reducible apply rx_bin); (case hx | hy => rfl); (case h | hN => rfl))) | ((with_reducible apply rx_assign); (case hx | hN => rfl)) | (((with_reducible apply rx_callE (k := 84)); (case ha => rfl); (case h => (apply sets_c <;> (fail))); (case hp => (exact Pur.pf)); (case hN => rfl))) | ((with_reducible apply rw_nil); (case hf => kernel_rfl)) | ((with_reducible apply rx_box); (case hx | hc => rfl); (case hM | hN => rfl))) | ((with_reducible apply id_aw); first | with_reducible apply aw_seq | with_reducible apply aw_region | ((with_reducible apply aw_cond); (case hc => rfl); all_goals (intro hc; have hq := hc; (try simp only [Bool.and_eq_true, Bool.and_eq_false_iff, Bool.or_eq_true, Bool.or_eq_false_iff, decide_eq_true_eq, decide_eq_false_iff_not, Bool.not_eq_true', Bool.not_eq_false', Bool.not_true, Bool.not_false, Int.not_lt, Int.not_le] at hq); (try (exfalso; omega)))) | with_reducible apply aw_skip | with_reducible apply aw_ret) | with_reducible apply tq_normal | with_reducible apply tq_ret | ((with_reducible apply rq_ret); case hr => rfl))
  all_goals (refine ⟨?_, rfl⟩; simp only [oneOf, AV.v.injEq, Value.bool.injEq, Value.int.injEq, true_and])
  all_goals (unfold sbit)
  · rw [if_pos (by omega)]
  · rw [if_neg (by omega)]; rfl
-- (*impl.graph).all
theorem all_c (ts : List Int) (bd : List AL.Stmt) (pts : List Pnt) (h : ts.length ≤ 6) : PC Tryz.prog 103 [aG ts bd pts] (fun r => r = iv ((2 ^ ts.length - 1 : Nat) : Int)) := by
  have h1 : 2 ^ ts.length ≤ 2 ^ 6 := Nat.pow_le_pow_right (by decide) h
  have h2 : 0 < 2 ^ ts.length := Nat.pow_pos (by decide)
  have h3 : 2 ^ (ts.length : Int).toNat ≤ 2 ^ 6 := h1
  have h4 : 2 ^ (ts.length : Int).toNat = 2 ^ ts.length := rfl
  (refine pc_of_aw Tryz.func103 rfl (by simp [Tryz.ntmps103]) ?_; rw [Tryz.ntmps103])
  repeat' (first | ((with_reducible apply id_rw); first | ((with_reducible apply rx_move); (case hx | hN => rfl)) | (((with_reducible apply rx_load1); (case hx | hd => rfl); (case hc | hN => rfl))) | ((with_reducible apply rx_fieldAddr); (case hx | hp | hN => rfl)) | (first | ((with_reducible apply rx_shl1); (case hx | hy => rfl); (case hk => infer_instance); (case h => omega); (case hN => rfl); (case' kk => intro hsm)) | ((with_reducible apply rx_sub); (case hx | hy => rfl); (case h => omega); (case hN => rfl))) | ((with_reducible apply rx_assign); (case hx | hN => rfl)) | (((with_reducible apply rx_len); (case hx | hn | hN => rfl))) | ((with_reducible apply rw_nil); (case hf => kernel_rfl)) | ((with_reducible apply rx_nil); (case hx | hp | hN => rfl))) | ((with_reducible apply id_aw); first | with_reducible apply aw_seq | with_reducible apply aw_region | with_reducible apply aw_ret) | with_reducible apply tq_normal | ((with_reducible apply rq_ret); case hr => rfl))
  all_goals (refine ⟨?_, rfl⟩; simp only [oneOf, AV.v.injEq, Value.bool.injEq, Value.int.injEq, true_and])
  omega
def idxF (xs : List Int) (v : Int) : Int := match xs.findIdx? (fun t => decide (t = v)) with | some i => i | none => -1
-- slices.Index[[]int,int]
theorem index_c (xs : List Int) (v : Int) (hl : xs.length ≤ 1000000) : PC Tryz.prog 110 [sl cI xs, iv v] (fun r => r = iv (idxF xs v)) := by
  (refine pc_of_aw Tryz.func110 rfl (by simp [Tryz.ntmps110]) ?_; rw [Tryz.ntmps110])
  repeat' (first | ((with_reducible apply id_rw); first | ((with_reducible apply rx_move); (case hx | hN => rfl)) | ((with_reducible apply rx_assign); (case hx | hN => rfl)) | (((with_reducible apply rx_len); (case hx | hn | hN => rfl))) | ((with_reducible apply rw_nil); (case hf => kernel_rfl))) | ((with_reducible apply id_aw); first | with_reducible apply aw_seq | with_reducible apply aw_region | with_reducible apply aw_block) | with_reducible apply tq_normal)
  refine aw_loopK (σ := Nat) [0, 1, 7] [(0, _), (1, _), (7, _)] [] [] (fun k => [(8, iv (k : Int))]) (fun k => []) (fun k => k ≤ xs.length ∧ ∀ i, i < k → xs[i]! ≠ v) (fun k => xs.length - k) (0) ⟨by omega, by omega⟩ rfl rfl (by repeat' (first | exact trivial | refine And.intro rfl ?_)) (by repeat' ((exact trivial))) ?_
  intro k ⟨hk, hall⟩
  repeat' (first | ((with_reducible apply id_rw); first | ((with_reducible apply rx_move); (case hx | hN => rfl)) | (((with_reducible apply rx_load1); (case hx | hd => rfl); (case hc | hN => rfl))) | (first | ((with_reducible apply rx_add); (case hx | hy => rfl); (case h => omega); (case hN => rfl)) | ((with_reducible apply rx_bin); (case hx | hy => rfl); (case h | hN => rfl))) | ((with_reducible apply rx_assign); (case hx | hN => rfl)) | (((with_reducible apply rx_indexFN); (case hx | hi => rfl); (case hm => ((omega))); (case hml => ((rfl))); (case hα => infer_instance); (case hf => infer_instance); (case hg => infer_instance); (case hN => rfl))) | ((with_reducible apply rw_nil); (case hf => kernel_rfl))) | ((with_reducible apply id_aw); first | with_reducible apply aw_seq | with_reducible apply aw_region | ((with_reducible apply aw_cond); (case hc => rfl); all_goals (intro hc; have hq := hc; (try simp only [Bool.and_eq_true, Bool.and_eq_false_iff, Bool.or_eq_true, Bool.or_eq_false_iff, decide_eq_true_eq, decide_eq_false_iff_not, Bool.not_eq_true', Bool.not_eq_false', Bool.not_true, Bool.not_false, Int.not_lt, Int.not_le] at hq); (try (exfalso; omega)))) | with_reducible apply aw_block | with_reducible apply aw_skip | with_reducible apply aw_exit | with_reducible apply aw_ret) | with_reducible apply tq_normal | with_reducible apply tq_ret | with_reducible apply tq_exit | with_reducible apply bq_normal | with_reducible apply bq_ret | with_reducible apply bq_here | ((with_reducible apply rq_ret); case hr => rfl))
  · (refine ⟨?_, rfl⟩; simp only [oneOf, AV.v.injEq, Value.bool.injEq, Value.int.injEq, true_and])
    have hlt : k < xs.length := by omega
    have : xs.findIdx? (fun t => decide (t = v)) = some k := by
      rw [List.findIdx?_eq_some_iff_getElem]
      refine ⟨hlt, ?_, fun j hj => ?_⟩
      · rw [← getB xs k hlt]; grind
      · have := hall j hj; rw [getB xs j (by omega)] at this; simpa using this
    simp only [idxF, this]
  · (apply Exists.intro (k + 1); refine And.intro ?_ (And.intro ?_ ?_); rotate_left 2; focus (refine Le.ren [] rfl (by decide) ?_ ?_ <;> repeat' (first | exact trivial | refine And.intro ⟨_, rfl, ?_⟩ ?_ | refine Or.inl ⟨?_, (by first | rfl | exact pur_sl _ _)⟩ | rfl)))
    · grind
    · omega
  · (refine ⟨?_, rfl⟩; simp only [oneOf, AV.v.injEq, Value.bool.injEq, Value.int.injEq, true_and])
    have : xs.findIdx? (fun t => decide (t = v)) = none := by
      rw [List.findIdx?_eq_none_iff]
      intro x hx
      obtain ⟨i, hi, rfl⟩ := List.getElem_of_mem hx
      have := hall i (by omega); rw [getB xs i hi] at this; simpa using this
    simp only [idxF, this]
theorem idxF_ge (xs : List Int) (v : Int) : decide (0 ≤ idxF xs v) = decide (v ∈ xs) := by
  unfold idxF
  split
  · rename_i i h
    obtain ⟨h1, h2, _⟩ := List.findIdx?_eq_some_iff_getElem.1 h
    simp only [decide_eq_true_eq] at h2
    have : v ∈ xs := by rw [← h2]; exact List.getElem_mem h1
    simp [this]
  · rename_i h
    rw [List.findIdx?_eq_none_iff] at h
    have : v ∉ xs := fun hm => by have := h v hm; simp at this
    simp [this]
-- slices.Contains[[]int,int]
theorem contains_c (xs : List Int) (v : Int) (hl : xs.length ≤ 1000000) : PC Tryz.prog 104 [sl cI xs, iv v] (fun r => r = bv (decide (v ∈ xs))) := by
  (refine pc_of_aw Tryz.func104 rfl (by simp [Tryz.ntmps104]) ?_; rw [Tryz.ntmps104])
  repeat' (first | ((with_reducible apply id_rw); first | ((with_reducible apply rx_move); (case hx | hN => rfl)) | (((with_reducible apply rx_bin); (case hx | hy => rfl); (case h | hN => rfl))) | ((with_reducible apply rx_assign); (case hx | hN => rfl)) | (((with_reducible apply rx_callE (k := 110)); (case ha => rfl); (case h => (apply index_c <;> ((assumption)))); (case hp => (exact Pur.pf)); (case hN => rfl))) | ((with_reducible apply rw_nil); (case hf => kernel_rfl))) | ((with_reducible apply id_aw); first | with_reducible apply aw_seq | with_reducible apply aw_region | with_reducible apply aw_ret) | with_reducible apply tq_normal | ((with_reducible apply rq_ret); case hr => rfl))
  (refine ⟨?_, rfl⟩; simp only [oneOf, AV.v.injEq, Value.bool.injEq, Value.int.injEq, true_and])
  exact idxF_ge xs v
-- (*impl.graph).which
theorem which_c (ts : List Int) (bd : List AL.Stmt) (pts : List Pnt) (x : Pnt) (us : List Int) (h : ts.length ≤ 6) (hu : us.length ≤ 1000) : PC Tryz.prog 91 [aG ts bd pts, aPnt x, sl cI us] (fun r => r = iv (wS ts x us : Nat)) := by
  (refine pc_of_aw Tryz.func91 rfl (by simp [Tryz.ntmps91]) ?_; rw [Tryz.ntmps91])
  repeat' (first | ((with_reducible apply id_rw); first | ((with_reducible apply rx_move); (case hx | hN => rfl)) | (((with_reducible apply rx_load1); (case hx | hd => rfl); (case hc | hN => rfl))) | ((with_reducible apply rx_fieldAddr); (case hx | hp | hN => rfl)) | ((with_reducible apply rx_assign); (case hx | hN => rfl)) | (((with_reducible apply rx_len); (case hx | hn | hN => rfl))) | ((with_reducible apply rw_nil); (case hf => kernel_rfl)) | ((with_reducible apply rx_nil); (case hx | hp | hN => rfl)) | ((with_reducible apply rx_box); (case hx | hc => rfl); (case hM | hN => rfl))) | ((with_reducible apply id_aw); first | with_reducible apply aw_seq | with_reducible apply aw_region | with_reducible apply aw_block) | with_reducible apply tq_normal)
  refine aw_loopK (σ := Nat × Nat) [0, 2, 4, 14] [(0, _), (2, _), (4, _), (14, _)] [0] [(0, some _)] (fun k => [(15, iv (k.1 : Int)), (7, iv (k.2 : Int))]) (fun k => []) (fun k => k.1 ≤ ts.length ∧ k.2 = mkBits (fun v => decide (useAt ts x v ∈ us)) k.1) (fun k => ts.length - k.1) (0, 0) ⟨by omega, rfl⟩ rfl rfl (by repeat' (first | exact trivial | refine And.intro rfl ?_)) (by repeat' ((exact trivial))) ?_
  rintro ⟨k, A⟩ ⟨hk, hA⟩
  dsimp only at hk hA ⊢
  have hsm : Sm A := hA ▸ mkBits_sm (by omega)
  repeat' (first | ((with_reducible apply id_rw); first | ((with_reducible apply rx_move); (case hx | hN => rfl)) | (((with_reducible apply rx_loadA); (case hx | hd => rfl); (case hc => ((exact (rfl : _ = [_, _, _, _, _])))); (case hn | h0 | hN => rfl))) | (first | ((with_reducible apply rx_orN); (case hx | hy => rfl); (case hk => infer_instance); (case ha => infer_instance); (case hb => infer_instance); (case hN => rfl)) | ((with_reducible apply rx_shl1); (case hx | hy => rfl); (case hk => infer_instance); (case h => omega); (case hN => rfl); (case' kk => intro hsm)) | ((with_reducible apply rx_add); (case hx | hy => rfl); (case h => omega); (case hN => rfl)) | ((with_reducible apply rx_bin); (case hx | hy => rfl); (case h | hN => rfl))) | ((with_reducible apply rx_assign); (case hx | hN => rfl)) | (first | ((with_reducible apply rx_callE (k := 104)); (case ha => rfl); (case h => (apply contains_c <;> ((omega)))); (case hp => (exact Pur.pf)); (case hN => rfl)) | ((with_reducible apply rx_callE (k := 105)); (case ha => rfl); (case h => (apply use_c <;> ((omega)))); (case hp => (exact Pur.pf)); (case hN => rfl))) | ((with_reducible apply rw_nil); (case hf => kernel_rfl))) | ((with_reducible apply id_aw); first | with_reducible apply aw_seq | with_reducible apply aw_region | ((with_reducible apply aw_cond); (case hc => rfl); all_goals (intro hc; have hq := hc; (try simp only [Bool.and_eq_true, Bool.and_eq_false_iff, Bool.or_eq_true, Bool.or_eq_false_iff, decide_eq_true_eq, decide_eq_false_iff_not, Bool.not_eq_true', Bool.not_eq_false', Bool.not_true, Bool.not_false, Int.not_lt, Int.not_le] at hq); (try (exfalso; omega)))) | with_reducible apply aw_block | with_reducible apply aw_skip | with_reducible apply aw_exit | with_reducible apply aw_ret) | with_reducible apply tq_normal | with_reducible apply tq_exit | with_reducible apply bq_normal | with_reducible apply bq_here | ((with_reducible apply rq_ret); case hr => rfl))
  · (apply Exists.intro (k + 1, _); refine And.intro ?_ (And.intro ?_ ?_); rotate_left 2; focus (refine Le.ren [(0, 0)] rfl (by decide) ?_ ?_ <;> repeat' (first | exact trivial | refine And.intro ⟨_, rfl, ?_⟩ ?_ | refine And.intro ⟨_, _, rfl, rfl, ?_⟩ ?_ | exact Or.inr rfl | refine Or.inl ⟨?_, (by first | rfl | exact pur_sl _ _ | exact Pur.pf)⟩ | rfl)))
    · dsimp only
      rw [hA]
      exact ⟨by omega, mkBits_succ _ _ (by simpa using hq)⟩
    · dsimp only; omega
  · (apply Exists.intro (k + 1, _); refine And.intro ?_ (And.intro ?_ ?_); rotate_left 2; focus (refine Le.ren [(0, 0)] rfl (by decide) ?_ ?_ <;> repeat' (first | exact trivial | refine And.intro ⟨_, rfl, ?_⟩ ?_ | refine And.intro ⟨_, _, rfl, rfl, ?_⟩ ?_ | exact Or.inr rfl | refine Or.inl ⟨?_, (by first | rfl | exact pur_sl _ _ | exact Pur.pf)⟩ | rfl)))
    · dsimp only
      rw [hA]
      exact ⟨by omega, mkBits_skip _ _ (by simpa using hq)⟩
    · dsimp only; omega
  · (refine ⟨?_, rfl⟩; simp only [oneOf, AV.v.injEq, Value.bool.injEq, Value.int.injEq, true_and])
    rw [hA, show k = ts.length by omega]; rfl

-- (*impl.graph).used
theorem used_c (ts : List Int) (bd : List AL.Stmt) (pts : List Pnt) (x : Pnt) (h : ts.length ≤ 6) : PC Tryz.prog 62 [aG ts bd pts, aPnt x] (fun r => r = iv (wS ts x [1, 2, 3] : Nat)) := by
  (refine pc_of_aw Tryz.func62 rfl (by simp [Tryz.ntmps62]) ?_; rw [Tryz.ntmps62])
  repeat' (first | ((with_reducible apply id_rw); first | ((with_reducible apply rx_move); (case hx | hN => rfl)) | (((with_reducible apply rx_loadA); (case hx | hd => rfl); (case hc => ((exact (rfl : _ = [_, _, _, _, _])))); (case hn | h0 | hN => rfl))) | ((with_reducible apply rx_assign); (case hx | hN => rfl)) | (((with_reducible apply rx_callE (k := 91)); (case ha => rfl); (case h => (apply which_c (us := [1, 2, 3]) <;> (first | assumption | decide))); (case hp => (exact Pur.pf)); (case hN => rfl))) | ((with_reducible apply rw_nil); (case hf => kernel_rfl)) | ((with_reducible apply rx_box); (case hx | hc => rfl); (case hM | hN => rfl)) | ((with_reducible apply rx_buildSliceI (t := _)); (case hze | hsm | hl => rfl); (case hfl => ((exact (rfl : _ = some [_, _, _])))); (case hM | hN => rfl))) | ((with_reducible apply id_aw); first | with_reducible apply aw_seq | with_reducible apply aw_region | with_reducible apply aw_ret) | with_reducible apply tq_normal | ((with_reducible apply rq_ret); case hr => rfl))
  (refine ⟨?_, rfl⟩; simp only [oneOf, AV.v.injEq, Value.bool.injEq, Value.int.injEq, true_and])
-- (*impl.graph).taken
theorem taken_c (ts : List Int) (bd : List AL.Stmt) (pts : List Pnt) (x : Pnt) (h : ts.length ≤ 6) : PC Tryz.prog 83 [aG ts bd pts, aPnt x] (fun r => r = iv (wS ts x [2] : Nat)) := by
  (refine pc_of_aw Tryz.func83 rfl (by simp [Tryz.ntmps83]) ?_; rw [Tryz.ntmps83])
  repeat' (first | ((with_reducible apply id_rw); first | ((with_reducible apply rx_move); (case hx | hN => rfl)) | (((with_reducible apply rx_loadA); (case hx | hd => rfl); (case hc => ((exact (rfl : _ = [_, _, _, _, _])))); (case hn | h0 | hN => rfl))) | ((with_reducible apply rx_assign); (case hx | hN => rfl)) | (((with_reducible apply rx_callE (k := 91)); (case ha => rfl); (case h => (apply which_c (us := [2]) <;> (first | assumption | decide))); (case hp => (exact Pur.pf)); (case hN => rfl))) | ((with_reducible apply rw_nil); (case hf => kernel_rfl)) | ((with_reducible apply rx_box); (case hx | hc => rfl); (case hM | hN => rfl)) | ((with_reducible apply rx_buildSliceI (t := _)); (case hze | hsm | hl => rfl); (case hfl => ((exact (rfl : _ = some [_])))); (case hM | hN => rfl))) | ((with_reducible apply id_aw); first | with_reducible apply aw_seq | with_reducible apply aw_region | with_reducible apply aw_ret) | with_reducible apply tq_normal | ((with_reducible apply rq_ret); case hr => rfl))
  (refine ⟨?_, rfl⟩; simp only [oneOf, AV.v.injEq, Value.bool.injEq, Value.int.injEq, true_and])
-- (*impl.graph).valued
theorem valued_c (ts : List Int) (bd : List AL.Stmt) (pts : List Pnt) (i : Int) (A : Nat) (h : WG ts pts) (hi : 0 ≤ i ∧ i < pts.length) (hA : Sm A) : PC Tryz.prog 88 [aG ts bd pts, iv i, iv (A : Int)] (fun r => r = iv (valF ts pts[i.toNat]! A : Nat)) := by
  have htl := h.tl
  have hst := (h.set i.toNat (by omega)).1
  have hs1 : Sm (wS ts pts[i.toNat]! [2]) := mkBits_sm (by omega)
  have hs2 : Sm (sbit pts[i.toNat]!) := sbit_sm (by omega)
  (refine pc_of_aw Tryz.func88 rfl (by simp [Tryz.ntmps88]) ?_; rw [Tryz.ntmps88])
  repeat' (first | ((with_reducible apply id_rw); first | ((with_reducible apply rx_move); (case hx | hN => rfl)) | (first | ((with_reducible apply rx_load1); (case hx | hd => rfl); (case hc | hN => rfl)) | ((with_reducible apply rx_loadA); (case hx | hd => rfl); (case hc => ((exact (rfl : _ = [_, _, _, _, _])))); (case hn | h0 | hN => rfl))) | ((with_reducible apply rx_fieldAddr); (case hx | hp | hN => rfl)) | (first | ((with_reducible apply rx_orN); (case hx | hy => rfl); (case hk => infer_instance); (case ha => infer_instance); (case hb => infer_instance); (case hN => rfl)) | ((with_reducible apply rx_anlN); (case hx | hy => rfl); (case hk => infer_instance); (case ha => infer_instance); (case hb => infer_instance); (case hN => rfl))) | ((with_reducible apply rx_assign); (case hx | hN => rfl)) | (((with_reducible apply rx_indexF); (case hx | hi => rfl); (case hm => ((assumption))); (case hml => ((rfl))); (case hα => infer_instance); (case hf => infer_instance); (case hg => infer_instance); (case hN => rfl))) | (first | ((with_reducible apply rx_callE (k := 83)); (case ha => rfl); (case h => (apply taken_c <;> ((assumption)))); (case hp => (exact Pur.pf)); (case hN => rfl)) | ((with_reducible apply rx_callE (k := 90)); (case ha => rfl); (case h => (apply setBit_c <;> ((omega)))); (case hp => (exact Pur.pf)); (case hN => rfl))) | ((with_reducible apply rw_nil); (case hf => kernel_rfl)) | ((with_reducible apply rx_nil); (case hx | hp | hN => rfl)) | ((with_reducible apply rx_alloc); (case hM | hN => rfl)) | ((with_reducible apply rx_store); (case hx | hy => rfl); (case hc | hn | hH => rfl); (case hl => ((simp;done))); (case hcs => (exact (rfl : _ = [_, _, _, _, _]))))) | ((with_reducible apply id_aw); first | with_reducible apply aw_seq | with_reducible apply aw_region | ((with_reducible apply aw_draw); (case hm => kernel_rfl)) | with_reducible apply aw_ret) | with_reducible apply tq_normal | ((with_reducible apply rq_ret); case hr => rfl))
  (refine ⟨?_, rfl⟩; simp only [oneOf, AV.v.injEq, Value.bool.injEq, Value.int.injEq, true_and])
  rfl
end Go.Proofs.YtjebhaeihokgmaaGreat

namespace Go.Proofs.YtjebhaeihokgmaaGreat
open Go.AL Go.RowKit
set_option linter.unusedSimpArgs false
set_option linter.unusedVariables false
set_option maxHeartbeats 4000000
set_option maxRecDepth 4000

-- (*impl.graph).forward
theorem forwardM_c (ts : List Int) (bd : List AL.Stmt) (pts : List Pnt) (A : List Nat) (w : WG ts pts) (hA : GoodM ts pts A) : PC Tryz.prog 87 [aG ts bd pts, iv 0, bv false, .clos (.func 88) [aG ts bd pts] []] (fun r => r = .imm pts.length (flat cN A)) := by
  have hpl := w.pl
  have hp0 := w.p0
  have htl := w.tl
  have fl := flowM w
  (refine pc_of_aw Tryz.func87 rfl (by simp [Tryz.ntmps87]) ?_; rw [Tryz.ntmps87])
  repeat' (first | ((with_reducible apply id_rw); first | ((with_reducible apply rx_move); (case hx | hN => rfl)) | (((with_reducible apply rx_load1); (case hx | hd => rfl); (case hc | hN => rfl))) | ((with_reducible apply rx_fieldAddr); (case hx | hp | hN => rfl)) | ((with_reducible apply rx_assign); (case hx | hN => rfl)) | (((with_reducible apply rx_indexON); (case hx | hi => rfl); (case hm => ((assumption))); (case hN => rfl))) | (((with_reducible apply rx_len); (case hx | hn | hN => rfl))) | ((with_reducible apply rw_nil); (case hf => kernel_rfl)) | ((with_reducible apply rx_nil); (case hx | hp | hN => rfl)) | ((with_reducible apply rx_store); (case hx | hy => rfl); (case hc | hn | hH => rfl); (case hl => ((rw [flat_length]; simp only [List.length_append, List.length_cons, List.length_nil, List.length_set, List.length_take, List.length_map, List.length_replicate, ptL_len, Nat.mul_one, Nat.zero_add, Nat.add_zero] <;> omega))); (case hcs => (exact st_nat (by ((simp only [List.length_append, List.length_cons, List.length_nil, List.length_set, List.length_take, List.length_map, List.length_replicate, ptL_len, Nat.mul_one, Nat.zero_add, Nat.add_zero] <;> omega)))))) | ((with_reducible apply rx_makeSliceE); (case hx | hy | hze => rfl); (case hsm => omega); (case hmx => omega); (case hcs => (exact mk_nat)); (case hM | hN => rfl))) | ((with_reducible apply id_aw); first | with_reducible apply aw_seq | with_reducible apply aw_region | ((with_reducible apply aw_condF); (case hc => rfl); (case hb => (rfl))) | with_reducible apply aw_block | with_reducible apply aw_skip) | with_reducible apply tq_normal)
  refine aw_loopK (σ := List Nat × Bool) [0, 2, 3, 9] [(0, _), (2, _), (3, _), (9, _)] [] [] (fun s => [(11, bv s.2)]) (fun s => [(0, some (flat cN s.1))]) (fun s => SG pts (PpM ts pts) s.1 ∧ True ∧ (s.2 = false → ClosedG opU (fun i A => valF ts pts[i]! A) pts s.1)) (fun s => 2 * sumL (s.1.map (fun a => 2 ^ ts.length - a)) + s.2.toNat) (((List.replicate pts.length 0).set 0 0), true) ⟨by rw [set_self (by rw [getB _ _ (by simpa using hp0), List.getElem_replicate]) (by simpa using hp0)]; exact SG_rep fun i hi => ⟨Nat.pow_pos (by decide), fun v h => by simp at h⟩, trivial, fun h => by cases h⟩ rfl rfl (by repeat' (first | exact trivial | refine And.intro rfl ?_)) (by repeat' (first | exact trivial | refine And.intro (.inr rfl) ?_)) ?_
  rintro ⟨s, b⟩ ⟨hS, hE, hC⟩
  dsimp only at hS hE hC ⊢
  repeat' (first | ((with_reducible apply id_rw); first | ((with_reducible apply rx_move); (case hx | hN => rfl)) | (((with_reducible apply rx_load1); (case hx | hd => rfl); (case hc | hN => rfl))) | ((with_reducible apply rx_fieldAddr); (case hx | hp | hN => rfl)) | ((with_reducible apply rx_assign); (case hx | hN => rfl)) | (((with_reducible apply rx_len); (case hx | hn | hN => rfl))) | ((with_reducible apply rw_nil); (case hf => kernel_rfl)) | ((with_reducible apply rx_nil); (case hx | hp | hN => rfl))) | ((with_reducible apply id_aw); first | with_reducible apply aw_seq | with_reducible apply aw_region | ((with_reducible apply aw_cond); (case hc => rfl); all_goals (intro hc; have hq := hc; (try simp only [Bool.and_eq_true, Bool.and_eq_false_iff, Bool.or_eq_true, Bool.or_eq_false_iff, decide_eq_true_eq, decide_eq_false_iff_not, Bool.not_eq_true', Bool.not_eq_false', Bool.not_true, Bool.not_false, Int.not_lt, Int.not_le] at hq); (try (exfalso; omega)))) | with_reducible apply aw_block | with_reducible apply aw_skip | with_reducible apply aw_exit | with_reducible apply aw_ret) | with_reducible apply tq_normal | with_reducible apply tq_exit | with_reducible apply bq_here)
  · refine aw_loopK (σ := Nat × (List Nat × Bool)) [0, 2, 3, 9, 43, 44] [(0, _), (2, _), (3, _), (9, _), (43, _), (44, _)] [] [] (fun k => [(45, iv (k.1 : Int)), (11, bv k.2.2)]) (fun k => [(0, some (flat cN k.2.1))]) (fun k => k.1 ≤ pts.length ∧ k.2 = (List.range k.1).foldl (innG opU (fun i A => valF ts pts[i]! A) pts) (s, false) ∧ SG pts (PpM ts pts) k.2.1 ∧ True) (fun k => pts.length - k.1) (0, (s, false)) ⟨by omega, rfl, hS, hE⟩ rfl rfl (by repeat' (first | exact trivial | refine And.intro rfl ?_)) (by repeat' (first | exact trivial | refine And.intro (.inr rfl) ?_)) ?_
    rintro ⟨k, u, c⟩ ⟨hk, hf, hS2, hE2⟩
    dsimp only at hk hf hS2 hE2 ⊢
    have hsm : ∀ z, Sm u[z]! := sm_all hS2 (fun i A h => h.1) htl
    have hul := hS2.1
    repeat' (first | ((with_reducible apply id_rw); first | ((with_reducible apply rx_move); (case hx | hN => rfl)) | (first | ((with_reducible apply rx_loadF0); (case hx | hH => rfl); (case hf => infer_instance); (case hg => infer_instance); (case hα => infer_instance); (case hk => omega); (case hc | hN => rfl)) | ((with_reducible apply rx_load1); (case hx | hd => rfl); (case hc | hN => rfl)) | ((with_reducible apply rx_loadA); (case hx | hd => rfl); (case hc => ((exact (rfl : _ = [_, _, _, _, _])))); (case hn | h0 | hN => rfl))) | ((with_reducible apply rx_fieldAddr); (case hx | hp | hN => rfl)) | (((with_reducible apply rx_bin); (case hx | hy => rfl); (case h | hN => rfl))) | ((with_reducible apply rx_assign); (case hx | hN => rfl)) | (first | ((with_reducible apply rx_indexFN); (case hx | hi => rfl); (case hm => ((omega))); (case hml => ((rfl))); (case hα => infer_instance); (case hf => infer_instance); (case hg => infer_instance); (case hN => rfl)) | ((with_reducible apply rx_indexON); (case hx | hi => rfl); (case hm => ((omega))); (case hN => rfl))) | (((with_reducible apply rx_len); (case hx | hn | hN => rfl))) | (((with_reducible apply rx_callC); (case hx | hcl => rfl); (case hc => infer_instance); (case ha => rfl); (case h => ((apply valued_c <;> (first | assumption | omega | infer_instance)))); (case hp => (exact Pur.pf)); (case hN => rfl))) | ((with_reducible apply rw_nil); (case hf => kernel_rfl)) | ((with_reducible apply rx_alloc); (case hM | hN => rfl)) | ((with_reducible apply rx_store); (case hx | hy => rfl); (case hc | hn | hH => rfl); (case hl => ((simp;done))); (case hcs => (exact (rfl : _ = [_, _, _, _, _]))))) | ((with_reducible apply id_aw); first | with_reducible apply aw_seq | with_reducible apply aw_region | ((with_reducible apply aw_cond); (case hc => rfl); all_goals (intro hc; have hq := hc; (try simp only [Bool.and_eq_true, Bool.and_eq_false_iff, Bool.or_eq_true, Bool.or_eq_false_iff, decide_eq_true_eq, decide_eq_false_iff_not, Bool.not_eq_true', Bool.not_eq_false', Bool.not_true, Bool.not_false, Int.not_lt, Int.not_le] at hq); (try (exfalso; omega)))) | with_reducible apply aw_block | with_reducible apply aw_skip | with_reducible apply aw_exit) | with_reducible apply tq_normal | with_reducible apply tq_exit | with_reducible apply bq_normal | with_reducible apply bq_here)
    · have hkn : k < pts.length := by omega
      have hv := valF_lt w hkn (hS2.2 k hkn).1
      have hvs : Sm (valF ts pts[k]! u[k]!) := ⟨Nat.lt_of_lt_of_le hv (Nat.pow_le_pow_right (by decide) (by omega))⟩
      have hvs' : Sm (valF ts pts[(k : Int).toNat]! u[k]!) := hvs
      have hnl := w.nl k hkn
      refine aw_loopK (σ := Nat × (List Nat × Bool)) [0, 2, 3, 9, 14, 43, 44, 45, 58, 59] [(0, _), (2, _), (3, _), (9, _), (14, _), (43, _), (44, _), (45, _), (58, _), (59, _)] [] [] (fun j => [(60, iv (j.1 : Int)), (11, bv j.2.2)]) (fun j => [(0, some (flat cN j.2.1))]) (fun j => j.1 ≤ pts[k]!.next.length ∧ j.2 = ((nxN pts k).take j.1).foldl (bstp opU (valF ts pts[k]! u[k]!)) (u, c) ∧ SG pts (PpM ts pts) j.2.1 ∧ True) (fun j => pts[k]!.next.length - j.1) (0, (u, c)) ⟨by omega, rfl, hS2, hE2⟩ rfl rfl (by repeat' (first | exact trivial | refine And.intro rfl ?_)) (by repeat' (first | exact trivial | refine And.intro (.inr rfl) ?_)) ?_
      rintro ⟨j, u2, c2⟩ ⟨hj, hf2, hS3, hE3⟩
      dsimp only at hj hf2 hS3 hE3 ⊢
      have hsm2 : ∀ z, Sm u2[z]! := sm_all hS3 (fun i A h => h.1) htl
      have hul2 := hS3.1
      have hz : j < pts[k]!.next.length → 0 ≤ pts[k]!.next[j]! ∧ pts[k]!.next[j]! < pts.length := fun h => w.nx k hkn _ (getB_mem _ _ h)
      repeat' (first | ((with_reducible apply id_rw); first | ((with_reducible apply rx_move); (case hx | hN => rfl)) | (first | ((with_reducible apply rx_loadF0); (case hx | hH => rfl); (case hf => infer_instance); (case hg => infer_instance); (case hα => infer_instance); (case hk => omega); (case hc | hN => rfl)) | ((with_reducible apply rx_load1); (case hx | hd => rfl); (case hc | hN => rfl))) | (first | ((with_reducible apply rx_orN); (case hx | hy => rfl); (case hk => infer_instance); (case ha => infer_instance); (case hb => infer_instance); (case hN => rfl)) | ((with_reducible apply rx_add); (case hx | hy => rfl); (case h => omega); (case hN => rfl)) | ((with_reducible apply rx_bin); (case hx | hy => rfl); (case h | hN => rfl))) | ((with_reducible apply rx_assign); (case hx | hN => rfl)) | (first | ((with_reducible apply rx_indexFN); (case hx | hi => rfl); (case hm => ((omega))); (case hml => ((rfl))); (case hα => infer_instance); (case hf => infer_instance); (case hg => infer_instance); (case hN => rfl)) | ((with_reducible apply rx_indexO); (case hx | hi => rfl); (case hm => ((omega))); (case hN => rfl))) | ((with_reducible apply rw_nil); (case hf => kernel_rfl)) | ((with_reducible apply rx_store); (case hx | hy => rfl); (case hc | hn | hH => rfl); (case hl => ((rw [flat_length]; simp only [List.length_append, List.length_cons, List.length_nil, List.length_set, List.length_take, List.length_map, List.length_replicate, ptL_len, Nat.mul_one, Nat.zero_add, Nat.add_zero] <;> omega))); (case hcs => (exact st_nat (by ((omega))))))) | ((with_reducible apply id_aw); first | with_reducible apply aw_seq | with_reducible apply aw_region | ((with_reducible apply aw_condF); (case hc => rfl); (case hb => (rfl))) | ((with_reducible apply aw_cond); (case hc => rfl); all_goals (intro hc; have hq := hc; (try simp only [Bool.and_eq_true, Bool.and_eq_false_iff, Bool.or_eq_true, Bool.or_eq_false_iff, decide_eq_true_eq, decide_eq_false_iff_not, Bool.not_eq_true', Bool.not_eq_false', Bool.not_true, Bool.not_false, Int.not_lt, Int.not_le] at hq); (try (exfalso; omega)))) | with_reducible apply aw_block | with_reducible apply aw_skip | with_reducible apply aw_exit) | with_reducible apply tq_normal | with_reducible apply tq_exit | with_reducible apply bq_normal | with_reducible apply bq_here)
      · have hzz := hz (by omega)
        have hed : edge pts k (pts[k]!.next[j]!).toNat := ⟨hkn, by rw [Int.toNat_of_nonneg hzz.1]; exact getB_mem _ _ (by omega)⟩
        have hne : opU u2[(pts[k]!.next[j]!).toNat]! (valF ts pts[k]! u[k]!) ≠ u2[(pts[k]!.next[j]!).toNat]! := fun h => hq (congrArg Int.ofNat h)
        (apply Exists.intro (j + 1, (_, true)); refine And.intro ?_ (And.intro ?_ ?_); rotate_left 2; focus (refine Le.ren [(0, 0)] rfl (by decide) ?_ ?_ <;> repeat' (first | exact trivial | refine And.intro ⟨_, rfl, ?_⟩ ?_ | refine And.intro ⟨_, _, rfl, rfl, ?_⟩ ?_ | exact Or.inr rfl | refine Or.inl ⟨?_, (by first | rfl | exact pur_sl _ _ | exact Pur.pf | exact PurV.pf)⟩ | rfl)))
        · dsimp only
          refine ⟨by omega, ?_, SG_step fl w (hS2.2 k hkn) hed hS3, trivial⟩
          rw [bstp_take (by omega), ← hf2, bstp_1 hne]; rfl
        · dsimp only; omega
      · have hzz := hz (by omega)
        have hne : opU u2[(pts[k]!.next[j]!).toNat]! (valF ts pts[k]! u[k]!) = u2[(pts[k]!.next[j]!).toNat]! := Int.ofNat.inj hq
        (apply Exists.intro (j + 1, (u2, c2)); refine And.intro ?_ (And.intro ?_ ?_); rotate_left 2; focus (refine Le.ren [(0, 0)] rfl (by decide) ?_ ?_ <;> repeat' (first | exact trivial | refine And.intro ⟨_, rfl, ?_⟩ ?_ | refine And.intro ⟨_, _, rfl, rfl, ?_⟩ ?_ | exact Or.inr rfl | refine Or.inl ⟨?_, (by first | rfl | exact pur_sl _ _ | exact Pur.pf | exact PurV.pf)⟩ | rfl)))
        · dsimp only
          refine ⟨by omega, ?_, hS3, hE3⟩
          rw [bstp_take (by omega), ← hf2, bstp_0 hne]
        · dsimp only; omega
      · (apply Exists.intro (k + 1, (u2, c2)); refine And.intro ?_ (And.intro ?_ ?_); rotate_left 2; focus (refine Le.ren [(0, 0)] rfl (by decide) ?_ ?_ <;> repeat' (first | exact trivial | refine And.intro ⟨_, rfl, ?_⟩ ?_ | refine And.intro ⟨_, _, rfl, rfl, ?_⟩ ?_ | exact Or.inr rfl | refine Or.inl ⟨?_, (by first | rfl | exact pur_sl _ _ | exact Pur.pf | exact PurV.pf)⟩ | rfl)))
        · dsimp only
          refine ⟨by omega, ?_, hS3, hE3⟩
          rw [range_succ_foldl, ← hf, hf2, List.take_of_length_le (by rw [nxN_len]; omega)]; rfl
        · dsimp only; omega
    · have law := swpG_law w fl s false hS
      have hfull : (u, c) = swpG opU (fun i A => valF ts pts[i]! A) pts (s, false) := by
        rw [hf, show k = pts.length by omega]; rfl
      rw [show swpG (fun a s => opU a s) (fun i A => valF ts pts[i]! A) pts (s, false) = (u, c) from hfull.symm] at law
      (apply Exists.intro (u, c); refine And.intro ?_ (And.intro ?_ ?_); rotate_left 2; focus (refine Le.ren [(0, 0)] rfl (by decide) ?_ ?_ <;> repeat' (first | exact trivial | refine And.intro ⟨_, rfl, ?_⟩ ?_ | refine And.intro ⟨_, _, rfl, rfl, ?_⟩ ?_ | exact Or.inr rfl | refine Or.inl ⟨?_, (by first | rfl | exact pur_sl _ _ | exact Pur.pf | exact PurV.pf)⟩ | rfl)))
      · dsimp only
        refine ⟨hS2, hE2, fun h => ?_⟩
        rcases law.2 with ⟨e1, e2⟩ | ⟨e1, _⟩
        · cases e1; exact e2
        · dsimp only at e1; rw [h] at e1; cases e1
      · dsimp only
        have hb : b = true := by assumption
        subst hb
        rcases law.2 with ⟨e1, e2⟩ | ⟨e1, e2⟩
        · cases e1; simp
        · dsimp only at e1 e2; subst e1; omega
  · have hb : b = false := by assumption
    refine rq_le (Le.frzD (d := 8) (i := 0) rfl rfl) ?_
    refine rq_ret rfl ⟨?_, (by (exact pur_sl _ _))⟩
    simp only [oneOf]
    rw [goodM_ext hA (goodM_of w hS (hC hb))]
end Go.Proofs.YtjebhaeihokgmaaGreat

namespace Go.Proofs.YtjebhaeihokgmaaGreat
open Go.AL Go.RowKit
set_option linter.unusedSimpArgs false
set_option linter.unusedVariables false
set_option maxHeartbeats 4000000
set_option maxRecDepth 4000

-- (*impl.graph).forward
theorem forwardA_c (ts : List Int) (bd : List AL.Stmt) (pts : List Pnt) (A : List Nat) (w : WG ts pts) (hA : GoodA ts pts A) : PC Tryz.prog 87 [aG ts bd pts, iv 0, bv true, .clos (.func 88) [aG ts bd pts] []] (fun r => r = .imm pts.length (flat cN A)) := by
  have hpl := w.pl
  have hp0 := w.p0
  have htl := w.tl
  have fl := flowA w
  (refine pc_of_aw Tryz.func87 rfl (by simp [Tryz.ntmps87]) ?_; rw [Tryz.ntmps87])
  repeat' (first | ((with_reducible apply id_rw); first | ((with_reducible apply rx_move); (case hx | hN => rfl)) | (((with_reducible apply rx_load1); (case hx | hd => rfl); (case hc | hN => rfl))) | ((with_reducible apply rx_fieldAddr); (case hx | hp | hN => rfl)) | ((with_reducible apply rx_assign); (case hx | hN => rfl)) | (((with_reducible apply rx_len); (case hx | hn | hN => rfl))) | ((with_reducible apply rw_nil); (case hf => kernel_rfl)) | ((with_reducible apply rx_nil); (case hx | hp | hN => rfl)) | ((with_reducible apply rx_makeSliceE); (case hx | hy | hze => rfl); (case hsm => omega); (case hmx => omega); (case hcs => (exact mk_nat)); (case hM | hN => rfl))) | ((with_reducible apply id_aw); first | with_reducible apply aw_seq | with_reducible apply aw_region | ((with_reducible apply aw_condT); (case hc => rfl); (case hb => (rfl))) | with_reducible apply aw_block) | with_reducible apply tq_normal)
  refine aw_loopK (σ := Nat × List Nat) [0, 1, 2, 3, 9, 26] [(0, _), (1, _), (2, _), (3, _), (9, _), (26, _)] [] [] (fun k => [(27, iv (k.1 : Int))]) (fun k => [(0, some (flat cN k.2))]) (fun k => k.1 ≤ pts.length ∧ k.2 = List.replicate k.1 (2 ^ ts.length - 1) ++ List.replicate (pts.length - k.1) 0) (fun k => pts.length - k.1) (0, List.replicate pts.length 0) ⟨by omega, by simp⟩ rfl rfl (by repeat' (first | exact trivial | refine And.intro rfl ?_)) (by repeat' (first | exact trivial | refine And.intro (.inr rfl) ?_)) ?_
  rintro ⟨k0, u0⟩ ⟨hk0, hu0⟩
  dsimp only at hk0 hu0 ⊢
  have hul0 : u0.length = pts.length := by rw [hu0]; simp; omega
  repeat' (first | ((with_reducible apply id_rw); first | ((with_reducible apply rx_move); (case hx | hN => rfl)) | (first | ((with_reducible apply rx_add); (case hx | hy => rfl); (case h => omega); (case hN => rfl)) | ((with_reducible apply rx_bin); (case hx | hy => rfl); (case h | hN => rfl))) | ((with_reducible apply rx_assign); (case hx | hN => rfl)) | (((with_reducible apply rx_indexON); (case hx | hi => rfl); (case hm => (first | assumption | omega)); (case hN => rfl))) | (((with_reducible apply rx_callE (k := 103)); (case ha => rfl); (case h => (apply all_c <;> ((assumption)))); (case hp => (exact Pur.pf)); (case hN => rfl))) | ((with_reducible apply rw_nil); (case hf => kernel_rfl)) | ((with_reducible apply rx_store); (case hx | hy => rfl); (case hc | hn | hH => rfl); (case hl => ((rw [flat_length]; simp only [List.length_append, List.length_cons, List.length_nil, List.length_set, List.length_take, List.length_map, List.length_replicate, ptL_len, Nat.mul_one, Nat.zero_add, Nat.add_zero] <;> omega))); (case hcs => (exact st_nat (by (first | omega | (simp only [List.length_append, List.length_cons, List.length_nil, List.length_set, List.length_take, List.length_map, List.length_replicate, ptL_len, Nat.mul_one, Nat.zero_add, Nat.add_zero] <;> omega))))))) | ((with_reducible apply id_aw); first | with_reducible apply aw_seq | with_reducible apply aw_region | ((with_reducible apply aw_cond); (case hc => rfl); all_goals (intro hc; have hq := hc; (try simp only [Bool.and_eq_true, Bool.and_eq_false_iff, Bool.or_eq_true, Bool.or_eq_false_iff, decide_eq_true_eq, decide_eq_false_iff_not, Bool.not_eq_true', Bool.not_eq_false', Bool.not_true, Bool.not_false, Int.not_lt, Int.not_le] at hq); (try (exfalso; omega)))) | with_reducible apply aw_block | with_reducible apply aw_skip | with_reducible apply aw_exit) | with_reducible apply tq_normal | with_reducible apply tq_exit | with_reducible apply bq_normal | with_reducible apply bq_here)
  · (apply Exists.intro (k0 + 1, _); refine And.intro ?_ (And.intro ?_ ?_); rotate_left 2; focus (refine Le.ren [(0, 0)] rfl (by decide) ?_ ?_ <;> repeat' (first | exact trivial | refine And.intro ⟨_, rfl, ?_⟩ ?_ | refine And.intro ⟨_, _, rfl, rfl, ?_⟩ ?_ | exact Or.inr rfl | refine Or.inl ⟨?_, (by first | rfl | exact pur_sl _ _ | exact Pur.pf | exact PurV.pf)⟩ | rfl)))
    · dsimp only
      exact ⟨by omega, by rw [hu0]; exact rep_set (by omega)⟩
    · dsimp only; omega
  have hk1 : k0 = pts.length := by omega
  subst hk1
  rw [Nat.sub_self, List.replicate_zero, List.append_nil] at hu0
  refine aw_loopK (σ := List Nat × Bool) [0, 2, 3, 9] [(0, _), (2, _), (3, _), (9, _)] [] [] (fun s => [(11, bv s.2)]) (fun s => [(0, some (flat cN s.1))]) (fun s => SG pts (PpA ts pts) s.1 ∧ s.1[0]! = 0 ∧ (s.2 = false → ClosedG opI (fun i A => valF ts pts[i]! A) pts s.1)) (fun s => 2 * sumL (s.1.map (fun a => a)) + s.2.toNat) ((u0.set 0 0), true) ⟨(startA w hu0).1, (startA w hu0).2, fun h => by cases h⟩ rfl rfl (by repeat' (first | exact trivial | refine And.intro rfl ?_)) (by repeat' (first | exact trivial | refine And.intro (.inr rfl) ?_)) ?_
  rintro ⟨s, b⟩ ⟨hS, hE, hC⟩
  dsimp only at hS hE hC ⊢
  repeat' (first | ((with_reducible apply id_rw); first | ((with_reducible apply rx_move); (case hx | hN => rfl)) | (((with_reducible apply rx_load1); (case hx | hd => rfl); (case hc | hN => rfl))) | ((with_reducible apply rx_fieldAddr); (case hx | hp | hN => rfl)) | ((with_reducible apply rx_assign); (case hx | hN => rfl)) | (((with_reducible apply rx_len); (case hx | hn | hN => rfl))) | ((with_reducible apply rw_nil); (case hf => kernel_rfl)) | ((with_reducible apply rx_nil); (case hx | hp | hN => rfl))) | ((with_reducible apply id_aw); first | with_reducible apply aw_seq | with_reducible apply aw_region | ((with_reducible apply aw_cond); (case hc => rfl); all_goals (intro hc; have hq := hc; (try simp only [Bool.and_eq_true, Bool.and_eq_false_iff, Bool.or_eq_true, Bool.or_eq_false_iff, decide_eq_true_eq, decide_eq_false_iff_not, Bool.not_eq_true', Bool.not_eq_false', Bool.not_true, Bool.not_false, Int.not_lt, Int.not_le] at hq); (try (exfalso; omega)))) | with_reducible apply aw_block | with_reducible apply aw_skip | with_reducible apply aw_exit | with_reducible apply aw_ret) | with_reducible apply tq_normal | with_reducible apply tq_exit | with_reducible apply bq_here)
  · refine aw_loopK (σ := Nat × (List Nat × Bool)) [0, 2, 3, 9, 43, 44] [(0, _), (2, _), (3, _), (9, _), (43, _), (44, _)] [] [] (fun k => [(45, iv (k.1 : Int)), (11, bv k.2.2)]) (fun k => [(0, some (flat cN k.2.1))]) (fun k => k.1 ≤ pts.length ∧ k.2 = (List.range k.1).foldl (innG opI (fun i A => valF ts pts[i]! A) pts) (s, false) ∧ SG pts (PpA ts pts) k.2.1 ∧ k.2.1[0]! = 0) (fun k => pts.length - k.1) (0, (s, false)) ⟨by omega, rfl, hS, hE⟩ rfl rfl (by repeat' (first | exact trivial | refine And.intro rfl ?_)) (by repeat' (first | exact trivial | refine And.intro (.inr rfl) ?_)) ?_
    rintro ⟨k, u, c⟩ ⟨hk, hf, hS2, hE2⟩
    dsimp only at hk hf hS2 hE2 ⊢
    have hsm : ∀ z, Sm u[z]! := sm_all hS2 (fun i A h => h.1) htl
    have hul := hS2.1
    repeat' (first | ((with_reducible apply id_rw); first | ((with_reducible apply rx_move); (case hx | hN => rfl)) | (first | ((with_reducible apply rx_loadF0); (case hx | hH => rfl); (case hf => infer_instance); (case hg => infer_instance); (case hα => infer_instance); (case hk => omega); (case hc | hN => rfl)) | ((with_reducible apply rx_load1); (case hx | hd => rfl); (case hc | hN => rfl)) | ((with_reducible apply rx_loadA); (case hx | hd => rfl); (case hc => ((exact (rfl : _ = [_, _, _, _, _])))); (case hn | h0 | hN => rfl))) | ((with_reducible apply rx_fieldAddr); (case hx | hp | hN => rfl)) | (((with_reducible apply rx_bin); (case hx | hy => rfl); (case h | hN => rfl))) | ((with_reducible apply rx_assign); (case hx | hN => rfl)) | (first | ((with_reducible apply rx_indexFN); (case hx | hi => rfl); (case hm => ((omega))); (case hml => ((rfl))); (case hα => infer_instance); (case hf => infer_instance); (case hg => infer_instance); (case hN => rfl)) | ((with_reducible apply rx_indexON); (case hx | hi => rfl); (case hm => ((omega))); (case hN => rfl))) | (((with_reducible apply rx_len); (case hx | hn | hN => rfl))) | (((with_reducible apply rx_callC); (case hx | hcl => rfl); (case hc => infer_instance); (case ha => rfl); (case h => ((apply valued_c <;> (first | assumption | omega | infer_instance)))); (case hp => (exact Pur.pf)); (case hN => rfl))) | ((with_reducible apply rw_nil); (case hf => kernel_rfl)) | ((with_reducible apply rx_alloc); (case hM | hN => rfl)) | ((with_reducible apply rx_store); (case hx | hy => rfl); (case hc | hn | hH => rfl); (case hl => ((simp;done))); (case hcs => (exact (rfl : _ = [_, _, _, _, _]))))) | ((with_reducible apply id_aw); first | with_reducible apply aw_seq | with_reducible apply aw_region | ((with_reducible apply aw_cond); (case hc => rfl); all_goals (intro hc; have hq := hc; (try simp only [Bool.and_eq_true, Bool.and_eq_false_iff, Bool.or_eq_true, Bool.or_eq_false_iff, decide_eq_true_eq, decide_eq_false_iff_not, Bool.not_eq_true', Bool.not_eq_false', Bool.not_true, Bool.not_false, Int.not_lt, Int.not_le] at hq); (try (exfalso; omega)))) | with_reducible apply aw_block | with_reducible apply aw_skip | with_reducible apply aw_exit) | with_reducible apply tq_normal | with_reducible apply tq_exit | with_reducible apply bq_normal | with_reducible apply bq_here)
    · have hkn : k < pts.length := by omega
      have hv := valF_lt w hkn (hS2.2 k hkn).1
      have hvs : Sm (valF ts pts[k]! u[k]!) := ⟨Nat.lt_of_lt_of_le hv (Nat.pow_le_pow_right (by decide) (by omega))⟩
      have hvs' : Sm (valF ts pts[(k : Int).toNat]! u[k]!) := hvs
      have hnl := w.nl k hkn
      refine aw_loopK (σ := Nat × (List Nat × Bool)) [0, 2, 3, 9, 14, 43, 44, 45, 58, 59] [(0, _), (2, _), (3, _), (9, _), (14, _), (43, _), (44, _), (45, _), (58, _), (59, _)] [] [] (fun j => [(60, iv (j.1 : Int)), (11, bv j.2.2)]) (fun j => [(0, some (flat cN j.2.1))]) (fun j => j.1 ≤ pts[k]!.next.length ∧ j.2 = ((nxN pts k).take j.1).foldl (bstp opI (valF ts pts[k]! u[k]!)) (u, c) ∧ SG pts (PpA ts pts) j.2.1 ∧ j.2.1[0]! = 0) (fun j => pts[k]!.next.length - j.1) (0, (u, c)) ⟨by omega, rfl, hS2, hE2⟩ rfl rfl (by repeat' (first | exact trivial | refine And.intro rfl ?_)) (by repeat' (first | exact trivial | refine And.intro (.inr rfl) ?_)) ?_
      rintro ⟨j, u2, c2⟩ ⟨hj, hf2, hS3, hE3⟩
      dsimp only at hj hf2 hS3 hE3 ⊢
      have hsm2 : ∀ z, Sm u2[z]! := sm_all hS3 (fun i A h => h.1) htl
      have hul2 := hS3.1
      have hz : j < pts[k]!.next.length → 0 ≤ pts[k]!.next[j]! ∧ pts[k]!.next[j]! < pts.length := fun h => w.nx k hkn _ (getB_mem _ _ h)
      repeat' (first | ((with_reducible apply id_rw); first | ((with_reducible apply rx_move); (case hx | hN => rfl)) | (first | ((with_reducible apply rx_loadF0); (case hx | hH => rfl); (case hf => infer_instance); (case hg => infer_instance); (case hα => infer_instance); (case hk => omega); (case hc | hN => rfl)) | ((with_reducible apply rx_load1); (case hx | hd => rfl); (case hc | hN => rfl))) | (first | ((with_reducible apply rx_orN); (case hx | hy => rfl); (case hk => infer_instance); (case ha => infer_instance); (case hb => infer_instance); (case hN => rfl)) | ((with_reducible apply rx_andN); (case hx | hy => rfl); (case hk => infer_instance); (case ha => infer_instance); (case hb => infer_instance); (case hN => rfl)) | ((with_reducible apply rx_add); (case hx | hy => rfl); (case h => omega); (case hN => rfl)) | ((with_reducible apply rx_bin); (case hx | hy => rfl); (case h | hN => rfl))) | ((with_reducible apply rx_assign); (case hx | hN => rfl)) | (first | ((with_reducible apply rx_indexFN); (case hx | hi => rfl); (case hm => ((omega))); (case hml => ((rfl))); (case hα => infer_instance); (case hf => infer_instance); (case hg => infer_instance); (case hN => rfl)) | ((with_reducible apply rx_indexO); (case hx | hi => rfl); (case hm => ((omega))); (case hN => rfl))) | ((with_reducible apply rw_nil); (case hf => kernel_rfl)) | ((with_reducible apply rx_store); (case hx | hy => rfl); (case hc | hn | hH => rfl); (case hl => ((rw [flat_length]; simp only [List.length_append, List.length_cons, List.length_nil, List.length_set, List.length_take, List.length_map, List.length_replicate, ptL_len, Nat.mul_one, Nat.zero_add, Nat.add_zero] <;> omega))); (case hcs => (exact st_nat (by ((omega))))))) | ((with_reducible apply id_aw); first | with_reducible apply aw_seq | with_reducible apply aw_region | ((with_reducible apply aw_condT); (case hc => rfl); (case hb => (rfl))) | ((with_reducible apply aw_cond); (case hc => rfl); all_goals (intro hc; have hq := hc; (try simp only [Bool.and_eq_true, Bool.and_eq_false_iff, Bool.or_eq_true, Bool.or_eq_false_iff, decide_eq_true_eq, decide_eq_false_iff_not, Bool.not_eq_true', Bool.not_eq_false', Bool.not_true, Bool.not_false, Int.not_lt, Int.not_le] at hq); (try (exfalso; omega)))) | with_reducible apply aw_block | with_reducible apply aw_skip | with_reducible apply aw_exit) | with_reducible apply tq_normal | with_reducible apply tq_exit | with_reducible apply bq_normal | with_reducible apply bq_here)
      · have hzz := hz (by omega)
        have hed : edge pts k (pts[k]!.next[j]!).toNat := ⟨hkn, by rw [Int.toNat_of_nonneg hzz.1]; exact getB_mem _ _ (by omega)⟩
        have hne : opI u2[(pts[k]!.next[j]!).toNat]! (valF ts pts[k]! u[k]!) ≠ u2[(pts[k]!.next[j]!).toNat]! := fun h => hq (congrArg Int.ofNat h)
        (apply Exists.intro (j + 1, (_, true)); refine And.intro ?_ (And.intro ?_ ?_); rotate_left 2; focus (refine Le.ren [(0, 0)] rfl (by decide) ?_ ?_ <;> repeat' (first | exact trivial | refine And.intro ⟨_, rfl, ?_⟩ ?_ | refine And.intro ⟨_, _, rfl, rfl, ?_⟩ ?_ | exact Or.inr rfl | refine Or.inl ⟨?_, (by first | rfl | exact pur_sl _ _ | exact Pur.pf | exact PurV.pf)⟩ | rfl)))
        · dsimp only
          refine ⟨by omega, ?_, SG_step fl w (hS2.2 k hkn) hed hS3, (by rw [getB_set _ _ _ _ (by rw [hS3.1]; exact edge_lt w hed)]; split <;> first | exact hE3 | (rename_i q; rw [← q, hE3]; exact Nat.zero_and _))⟩
          rw [bstp_take (by omega), ← hf2, bstp_1 hne]; rfl
        · dsimp only; omega
      · have hzz := hz (by omega)
        have hne : opI u2[(pts[k]!.next[j]!).toNat]! (valF ts pts[k]! u[k]!) = u2[(pts[k]!.next[j]!).toNat]! := Int.ofNat.inj hq
        (apply Exists.intro (j + 1, (u2, c2)); refine And.intro ?_ (And.intro ?_ ?_); rotate_left 2; focus (refine Le.ren [(0, 0)] rfl (by decide) ?_ ?_ <;> repeat' (first | exact trivial | refine And.intro ⟨_, rfl, ?_⟩ ?_ | refine And.intro ⟨_, _, rfl, rfl, ?_⟩ ?_ | exact Or.inr rfl | refine Or.inl ⟨?_, (by first | rfl | exact pur_sl _ _ | exact Pur.pf | exact PurV.pf)⟩ | rfl)))
        · dsimp only
          refine ⟨by omega, ?_, hS3, hE3⟩
          rw [bstp_take (by omega), ← hf2, bstp_0 hne]
        · dsimp only; omega
      · (apply Exists.intro (k + 1, (u2, c2)); refine And.intro ?_ (And.intro ?_ ?_); rotate_left 2; focus (refine Le.ren [(0, 0)] rfl (by decide) ?_ ?_ <;> repeat' (first | exact trivial | refine And.intro ⟨_, rfl, ?_⟩ ?_ | refine And.intro ⟨_, _, rfl, rfl, ?_⟩ ?_ | exact Or.inr rfl | refine Or.inl ⟨?_, (by first | rfl | exact pur_sl _ _ | exact Pur.pf | exact PurV.pf)⟩ | rfl)))
        · dsimp only
          refine ⟨by omega, ?_, hS3, hE3⟩
          rw [range_succ_foldl, ← hf, hf2, List.take_of_length_le (by rw [nxN_len]; omega)]; rfl
        · dsimp only; omega
    · have law := swpG_law w fl s false hS
      have hfull : (u, c) = swpG opI (fun i A => valF ts pts[i]! A) pts (s, false) := by
        rw [hf, show k = pts.length by omega]; rfl
      rw [show swpG (fun a s => opI a s) (fun i A => valF ts pts[i]! A) pts (s, false) = (u, c) from hfull.symm] at law
      (apply Exists.intro (u, c); refine And.intro ?_ (And.intro ?_ ?_); rotate_left 2; focus (refine Le.ren [(0, 0)] rfl (by decide) ?_ ?_ <;> repeat' (first | exact trivial | refine And.intro ⟨_, rfl, ?_⟩ ?_ | refine And.intro ⟨_, _, rfl, rfl, ?_⟩ ?_ | exact Or.inr rfl | refine Or.inl ⟨?_, (by first | rfl | exact pur_sl _ _ | exact Pur.pf | exact PurV.pf)⟩ | rfl)))
      · dsimp only
        refine ⟨hS2, hE2, fun h => ?_⟩
        rcases law.2 with ⟨e1, e2⟩ | ⟨e1, _⟩
        · cases e1; exact e2
        · dsimp only at e1; rw [h] at e1; cases e1
      · dsimp only
        have hb : b = true := by assumption
        subst hb
        rcases law.2 with ⟨e1, e2⟩ | ⟨e1, e2⟩
        · cases e1; simp
        · dsimp only at e1 e2; subst e1; omega
  · have hb : b = false := by assumption
    refine rq_le (Le.frzD (d := 8) (i := 0) rfl rfl) ?_
    refine rq_ret rfl ⟨?_, (by (exact pur_sl _ _))⟩
    simp only [oneOf]
    rw [goodA_ext hA (goodA_of w hS hE (hC hb))]
end Go.Proofs.YtjebhaeihokgmaaGreat

namespace Go.Proofs.YtjebhaeihokgmaaGreat
open Go.AL Go.RowKit
set_option linter.unusedSimpArgs false
set_option linter.unusedVariables false
set_option maxHeartbeats 4000000
set_option maxRecDepth 4000

-- (*impl.graph).alwaysSet
theorem always_c (ts : List Int) (bd : List AL.Stmt) (pts : List Pnt) (A : List Nat) (w : WG ts pts) (hA : GoodA ts pts A) : PC Tryz.prog 58 [aG ts bd pts, iv 0] (fun r => r = .imm pts.length (flat cN A)) := by
  (refine pc_of_aw Tryz.func58 rfl (by simp [Tryz.ntmps58]) ?_; rw [Tryz.ntmps58])
  repeat' (first | ((with_reducible apply id_rw); first | ((with_reducible apply rx_callE (k := 87)); (case ha => rfl); (case h => exact forwardA_c ts bd pts A w hA); (case hp => exact Pur.pf); (case hN => rfl)) | ((with_reducible apply rx_move); (case hx | hN => rfl)) | ((with_reducible apply rx_assign); (case hx | hN => rfl)) | ((with_reducible apply rw_nil); (case hf => kernel_rfl)) | ((with_reducible apply rx_makeFunc); (case hf | hc | hN => rfl))) | ((with_reducible apply id_aw); first | with_reducible apply aw_seq | with_reducible apply aw_region | with_reducible apply aw_ret) | with_reducible apply tq_normal | ((with_reducible apply rq_ret); case hr => rfl))
  exact ⟨rfl, (by (exact pur_sl _ _))⟩
-- (*impl.graph).maybeSet
theorem maybe_c (ts : List Int) (bd : List AL.Stmt) (pts : List Pnt) (A : List Nat) (w : WG ts pts) (hA : GoodM ts pts A) : PC Tryz.prog 59 [aG ts bd pts] (fun r => r = .imm pts.length (flat cN A)) := by
  (refine pc_of_aw Tryz.func59 rfl (by simp [Tryz.ntmps59]) ?_; rw [Tryz.ntmps59])
  repeat' (first | ((with_reducible apply id_rw); first | ((with_reducible apply rx_callE (k := 87)); (case ha => rfl); (case h => exact forwardM_c ts bd pts A w hA); (case hp => exact Pur.pf); (case hN => rfl)) | ((with_reducible apply rx_move); (case hx | hN => rfl)) | ((with_reducible apply rx_assign); (case hx | hN => rfl)) | ((with_reducible apply rw_nil); (case hf => kernel_rfl)) | ((with_reducible apply rx_makeFunc); (case hf | hc | hN => rfl))) | ((with_reducible apply id_aw); first | with_reducible apply aw_seq | with_reducible apply aw_region | with_reducible apply aw_ret) | with_reducible apply tq_normal | ((with_reducible apply rq_ret); case hr => rfl))
  exact ⟨rfl, (by (exact pur_sl _ _))⟩
-- (*impl.graph).after
theorem after_c (ts : List Int) (bd : List AL.Stmt) (pts : List Pnt) (n : Nat) (B : List Nat) (i : Int) (w : WG ts pts) (hn : n = B.length) (hB : B.length = pts.length) (hs : ∀ z : Nat, Sm B[z]!) (hi : 0 ≤ i ∧ i < pts.length) : PC Tryz.prog 67 [aG ts bd pts, .imm n (flat cN B), iv i] (fun r => r = iv (afF pts B i.toNat : Nat)) := by
  subst hn
  have hin : i.toNat < pts.length := by omega
  have hnl := w.nl _ hin
  have hpl := w.pl
  (refine pc_of_aw Tryz.func67 rfl (by simp [Tryz.ntmps67]) ?_; rw [Tryz.ntmps67])
  repeat' (first | ((with_reducible apply id_rw); first | ((with_reducible apply rx_move); (case hx | hN => rfl)) | (((with_reducible apply rx_load1); (case hx | hd => rfl); (case hc | hN => rfl))) | ((with_reducible apply rx_fieldAddr); (case hx | hp | hN => rfl)) | ((with_reducible apply rx_assign); (case hx | hN => rfl)) | (((with_reducible apply rx_indexF); (case hx | hi => rfl); (case hm => ((assumption))); (case hml => ((rfl))); (case hα => infer_instance); (case hf => infer_instance); (case hg => infer_instance); (case hN => rfl))) | (((with_reducible apply rx_len); (case hx | hn | hN => rfl))) | ((with_reducible apply rw_nil); (case hf => kernel_rfl)) | ((with_reducible apply rx_nil); (case hx | hp | hN => rfl))) | ((with_reducible apply id_aw); first | with_reducible apply aw_seq | with_reducible apply aw_region | with_reducible apply aw_block) | with_reducible apply tq_normal)
  refine aw_loopK (σ := Nat × Nat) [1, 17, 18] [(1, _), (17, _), (18, _)] [] [] (fun k => [(19, iv (k.1 : Int)), (7, iv (k.2 : Int))]) (fun k => []) (fun k => k.1 ≤ pts[i.toNat]!.next.length ∧ k.2 = ((nxN pts i.toNat).take k.1).foldl (fun a k => opU a B[k]!) 0 ∧ Sm k.2) (fun k => pts[i.toNat]!.next.length - k.1) (0, 0) ⟨by omega, rfl, inferInstance⟩ rfl rfl (by repeat' (first | exact trivial | refine And.intro rfl ?_)) (by repeat' ((exact trivial))) ?_
  rintro ⟨k, a⟩ ⟨hk, ha, hsa⟩
  dsimp only at hk ha hsa ⊢
  have hz : k < pts[i.toNat]!.next.length → 0 ≤ pts[i.toNat]!.next[k]! ∧ pts[i.toNat]!.next[k]! < pts.length := fun h => w.nx _ hin _ (getB_mem _ _ h)
  repeat' (first | ((with_reducible apply id_rw); first | ((with_reducible apply rx_move); (case hx | hN => rfl)) | (((with_reducible apply rx_load1); (case hx | hd => rfl); (case hc | hN => rfl))) | (first | ((with_reducible apply rx_orN); (case hx | hy => rfl); (case hk => infer_instance); (case ha => infer_instance); (case hb => infer_instance); (case hN => rfl)) | ((with_reducible apply rx_add); (case hx | hy => rfl); (case h => omega); (case hN => rfl)) | ((with_reducible apply rx_bin); (case hx | hy => rfl); (case h | hN => rfl))) | ((with_reducible apply rx_assign); (case hx | hN => rfl)) | (first | ((with_reducible apply rx_indexFN); (case hx | hi => rfl); (case hm => ((omega))); (case hml => ((rfl))); (case hα => infer_instance); (case hf => infer_instance); (case hg => infer_instance); (case hN => rfl)) | ((with_reducible apply rx_indexF); (case hx | hi => rfl); (case hm => ((omega))); (case hml => ((rfl))); (case hα => infer_instance); (case hf => infer_instance); (case hg => infer_instance); (case hN => rfl))) | ((with_reducible apply rw_nil); (case hf => kernel_rfl))) | ((with_reducible apply id_aw); first | with_reducible apply aw_seq | with_reducible apply aw_region | ((with_reducible apply aw_cond); (case hc => rfl); all_goals (intro hc; have hq := hc; (try simp only [Bool.and_eq_true, Bool.and_eq_false_iff, Bool.or_eq_true, Bool.or_eq_false_iff, decide_eq_true_eq, decide_eq_false_iff_not, Bool.not_eq_true', Bool.not_eq_false', Bool.not_true, Bool.not_false, Int.not_lt, Int.not_le] at hq); (try (exfalso; omega)))) | with_reducible apply aw_block | with_reducible apply aw_skip | with_reducible apply aw_exit | with_reducible apply aw_ret) | with_reducible apply tq_normal | with_reducible apply tq_exit | with_reducible apply bq_normal | with_reducible apply bq_here | ((with_reducible apply rq_ret); case hr => rfl))
  · (apply Exists.intro (k + 1, _); refine And.intro ?_ (And.intro ?_ ?_); rotate_left 2; focus (refine Le.ren [] rfl (by decide) ?_ ?_ <;> repeat' (first | exact trivial | refine And.intro ⟨_, rfl, ?_⟩ ?_ | refine Or.inl ⟨?_, (by first | rfl | exact pur_sl _ _)⟩ | rfl)))
    · dsimp only
      refine ⟨by omega, ?_, inferInstance⟩
      rw [foldl_take _ _ _ _ (by rw [nxN_len]; omega), nxN_get (by omega), ← ha]
    · dsimp only; omega
  · (refine ⟨?_, rfl⟩; simp only [oneOf, AV.v.injEq, Value.bool.injEq, Value.int.injEq, true_and])
    rw [ha, List.take_of_length_le (by rw [nxN_len]; omega)]; rfl
-- (*impl.graph).needed
theorem needed_c (ts : List Int) (bd : List AL.Stmt) (pts : List Pnt) (A : List Nat) (w : WG ts pts) (hA : GoodN ts pts A) : PC Tryz.prog 66 [aG ts bd pts] (fun r => r = .imm pts.length (flat cN A)) := by
  have hpl := w.pl
  have hp0 := w.p0
  have htl := w.tl
  (refine pc_of_aw Tryz.func66 rfl (by simp [Tryz.ntmps66]) ?_; rw [Tryz.ntmps66])
  repeat' (first | ((with_reducible apply id_rw); first | ((with_reducible apply rx_move); (case hx | hN => rfl)) | (((with_reducible apply rx_load1); (case hx | hd => rfl); (case hc | hN => rfl))) | ((with_reducible apply rx_fieldAddr); (case hx | hp | hN => rfl)) | ((with_reducible apply rx_assign); (case hx | hN => rfl)) | (((with_reducible apply rx_len); (case hx | hn | hN => rfl))) | ((with_reducible apply rw_nil); (case hf => kernel_rfl)) | ((with_reducible apply rx_nil); (case hx | hp | hN => rfl)) | ((with_reducible apply rx_makeSliceE); (case hx | hy | hze => rfl); (case hsm => omega); (case hmx => omega); (case hcs => (exact mk_nat)); (case hM | hN => rfl))) | ((with_reducible apply id_aw); first | with_reducible apply aw_seq | with_reducible apply aw_region | with_reducible apply aw_block) | with_reducible apply tq_normal)
  refine aw_loopK (σ := List Nat × Bool) [0, 3] [(0, _), (3, _)] [] [] (fun s => [(4, bv s.2)]) (fun s => [(0, some (flat cN s.1))]) (fun s => SN ts pts s.1 ∧ (s.2 = false → ∀ i, i < pts.length → ndS ts pts s.1 i = s.1[i]!)) (fun s => 2 * sumL (s.1.map (fun a => 2 ^ ts.length - a)) + s.2.toNat) (List.replicate pts.length 0, true) ⟨SN_rep, fun h => by cases h⟩ rfl rfl (by repeat' (first | exact trivial | refine And.intro rfl ?_)) (by repeat' (first | exact trivial | refine And.intro (.inr rfl) ?_)) ?_
  rintro ⟨s, b⟩ ⟨hS, hC⟩
  dsimp only at hS hC ⊢
  repeat' (first | ((with_reducible apply id_rw); first | ((with_reducible apply rx_move); (case hx | hN => rfl)) | (((with_reducible apply rx_load1); (case hx | hd => rfl); (case hc | hN => rfl))) | ((with_reducible apply rx_fieldAddr); (case hx | hp | hN => rfl)) | (((with_reducible apply rx_sub); (case hx | hy => rfl); (case h => omega); (case hN => rfl))) | ((with_reducible apply rx_assign); (case hx | hN => rfl)) | (((with_reducible apply rx_len); (case hx | hn | hN => rfl))) | ((with_reducible apply rw_nil); (case hf => kernel_rfl)) | ((with_reducible apply rx_nil); (case hx | hp | hN => rfl))) | ((with_reducible apply id_aw); first | with_reducible apply aw_seq | with_reducible apply aw_region | ((with_reducible apply aw_cond); (case hc => rfl); all_goals (intro hc; have hq := hc; (try simp only [Bool.and_eq_true, Bool.and_eq_false_iff, Bool.or_eq_true, Bool.or_eq_false_iff, decide_eq_true_eq, decide_eq_false_iff_not, Bool.not_eq_true', Bool.not_eq_false', Bool.not_true, Bool.not_false, Int.not_lt, Int.not_le] at hq); (try (exfalso; omega)))) | with_reducible apply aw_block | with_reducible apply aw_skip | with_reducible apply aw_exit | with_reducible apply aw_ret) | with_reducible apply tq_normal | with_reducible apply tq_exit | with_reducible apply bq_here)
  · refine aw_loopK (σ := Nat × Int × (List Nat × Bool)) [0, 3] [(0, _), (3, _)] [] [] (fun k => [(5, iv k.2.1), (4, bv k.2.2.2)]) (fun k => [(0, some (flat cN k.2.2.1))]) (fun k => k.1 ≤ pts.length ∧ k.2.1 = (pts.length : Int) - 1 - k.1 ∧ k.2.2 = ((List.range pts.length).reverse.take k.1).foldl (ndStp ts pts) (s, false) ∧ SN ts pts k.2.2.1) (fun k => pts.length - k.1) (0, (pts.length : Int) - 1, (s, false)) ⟨by omega, by simp, rfl, hS⟩ rfl rfl (by repeat' (first | exact trivial | refine And.intro rfl ?_)) (by repeat' (first | exact trivial | refine And.intro (.inr rfl) ?_)) ?_
    rintro ⟨k, z, u, c⟩ ⟨hk, hz, hf, hS2⟩
    dsimp only at hk hz hf hS2 ⊢
    have hsm : ∀ z : Nat, Sm u[z]! := sm_all hS2.1 (fun i A h => h.1) htl
    have hul := hS2.1.1
    have hst := fun h : z.toNat < pts.length => (w.set z.toNat h).1
    have hst2 : setAt pts[z.toNat]! < 62 := by
      by_cases h : z.toNat < pts.length
      · have := hst h; omega
      · rw [getElem!_neg pts z.toNat h]; decide
    have hs1 : Sm (wS ts pts[z.toNat]! [1, 2, 3]) := mkBits_sm (by omega)
    have hs2 : Sm (sbit pts[z.toNat]!) := sbit_sm (by omega)
    have hs3 : Sm (afF pts u z.toNat) := by
      unfold afF
      have : ∀ (L : List Nat) (a : Nat), Sm a → Sm (L.foldl (fun a k => a ||| u[k]!) a) := by
        intro L; induction L with
        | nil => exact fun a h => h
        | cons x L ih => exact fun a h => ih _ (inferInstance : Sm (a ||| u[x]!))
      exact this _ _ inferInstance
    have hlaw := fun h : z.toNat < pts.length => ndStp_law w u c z.toNat h hS2
    repeat' (first | ((with_reducible apply id_rw); first | ((with_reducible apply rx_move); (case hx | hN => rfl)) | (first | ((with_reducible apply rx_loadF0); (case hx | hH => rfl); (case hf => infer_instance); (case hg => infer_instance); (case hα => infer_instance); (case hk => omega); (case hc | hN => rfl)) | ((with_reducible apply rx_load1); (case hx | hd => rfl); (case hc | hN => rfl)) | ((with_reducible apply rx_loadA); (case hx | hd => rfl); (case hc => ((exact (rfl : _ = [_, _, _, _, _])))); (case hn | h0 | hN => rfl))) | ((with_reducible apply rx_fieldAddr); (case hx | hp | hN => rfl)) | (first | ((with_reducible apply rx_orN); (case hx | hy => rfl); (case hk => infer_instance); (case ha => infer_instance); (case hb => infer_instance); (case hN => rfl)) | ((with_reducible apply rx_anlN); (case hx | hy => rfl); (case hk => infer_instance); (case ha => infer_instance); (case hb => infer_instance); (case hN => rfl)) | ((with_reducible apply rx_sub); (case hx | hy => rfl); (case h => omega); (case hN => rfl)) | ((with_reducible apply rx_bin); (case hx | hy => rfl); (case h | hN => rfl))) | ((with_reducible apply rx_assign); (case hx | hN => rfl)) | (first | ((with_reducible apply rx_indexF); (case hx | hi => rfl); (case hm => ((omega))); (case hml => ((rfl))); (case hα => infer_instance); (case hf => infer_instance); (case hg => infer_instance); (case hN => rfl)) | ((with_reducible apply rx_indexO); (case hx | hi => rfl); (case hm => ((omega))); (case hN => rfl))) | (first | ((with_reducible apply rx_callE (k := 62)); (case ha => rfl); (case h => (apply used_c <;> ((assumption)))); (case hp => (exact Pur.pf)); (case hN => rfl)) | ((with_reducible apply rx_lendE (k := 67)); (case ha => rfl); (case hl => (repeat' (first | exact lendL_nil | apply lendL_cons | exact lendV_v | exact lendV_own rfl inferInstance | exact lendV_iptr inferInstance))); (case h => (apply after_c <;> (first | assumption | omega))); (case hfr | hN => rfl); (case hmd => infer_instance)) | ((with_reducible apply rx_callE (k := 90)); (case ha => rfl); (case h => (apply setBit_c <;> ((assumption)))); (case hp => (exact Pur.pf)); (case hN => rfl))) | ((with_reducible apply rw_nil); (case hf => kernel_rfl)) | ((with_reducible apply rx_nil); (case hx | hp | hN => rfl)) | ((with_reducible apply rx_alloc); (case hM | hN => rfl)) | ((with_reducible apply rx_store); (case hx | hy => rfl); (case hc | hn | hH => rfl); (case hl => (first | (rw [flat_length]; simp only [List.length_append, List.length_cons, List.length_nil, List.length_set, List.length_take, List.length_map, List.length_replicate, ptL_len, Nat.mul_one, Nat.zero_add, Nat.add_zero] <;> omega) | (simp;done))); (case hcs => first | exact st_nat (by ((omega))) | exact (rfl : _ = [_, _, _, _, _])))) | ((with_reducible apply id_aw); first | with_reducible apply aw_seq | with_reducible apply aw_region | ((with_reducible apply aw_draw); (case hm => kernel_rfl)) | ((with_reducible apply aw_cond); (case hc => rfl); all_goals (intro hc; have hq := hc; (try simp only [Bool.and_eq_true, Bool.and_eq_false_iff, Bool.or_eq_true, Bool.or_eq_false_iff, decide_eq_true_eq, decide_eq_false_iff_not, Bool.not_eq_true', Bool.not_eq_false', Bool.not_true, Bool.not_false, Int.not_lt, Int.not_le] at hq); (try (exfalso; omega)))) | with_reducible apply aw_block | with_reducible apply aw_skip | with_reducible apply aw_exit) | with_reducible apply tq_normal | with_reducible apply tq_exit | with_reducible apply bq_normal | with_reducible apply bq_here)
    · have hzn : z.toNat < pts.length := by omega
      have hne : ndS ts pts u z.toNat ≠ u[z.toNat]! := fun h => hq (congrArg Int.ofNat h)
      have hl := hlaw hzn
      rw [ndStp_1 hne] at hl
      have hrg : (List.range pts.length).reverse[k]! = z.toNat := by rw [revR_get (by omega)]; omega
      (apply Exists.intro (k + 1, _, (_, true)); refine And.intro ?_ (And.intro ?_ ?_); rotate_left 2; focus (refine Le.ren [(0, 0)] rfl (by decide) ?_ ?_ <;> repeat' (first | exact trivial | refine And.intro ⟨_, rfl, ?_⟩ ?_ | refine And.intro ⟨_, _, rfl, rfl, ?_⟩ ?_ | exact Or.inr rfl | refine Or.inl ⟨?_, (by first | rfl | exact pur_sl _ _ | exact Pur.pf)⟩ | rfl)))
      · dsimp only
        refine ⟨by omega, by omega, ?_, hl.1⟩
        rw [foldl_take _ _ _ _ (by simp; omega), ← hf, hrg, ndStp_1 hne]; rfl
      · dsimp only; omega
    · have hzn : z.toNat < pts.length := by omega
      have hne : ndS ts pts u z.toNat = u[z.toNat]! := Int.ofNat.inj hq
      have hrg : (List.range pts.length).reverse[k]! = z.toNat := by rw [revR_get (by omega)]; omega
      (apply Exists.intro (k + 1, _, (u, c)); refine And.intro ?_ (And.intro ?_ ?_); rotate_left 2; focus (refine Le.ren [(0, 0)] rfl (by decide) ?_ ?_ <;> repeat' (first | exact trivial | refine And.intro ⟨_, rfl, ?_⟩ ?_ | refine And.intro ⟨_, _, rfl, rfl, ?_⟩ ?_ | exact Or.inr rfl | refine Or.inl ⟨?_, (by first | rfl | exact pur_sl _ _ | exact Pur.pf)⟩ | rfl)))
      · dsimp only
        refine ⟨by omega, by omega, ?_, hS2⟩
        rw [foldl_take _ _ _ _ (by simp; omega), ← hf, hrg, ndStp_0 hne]
      · dsimp only; omega
    · have law := ndSwp_law w s false hS
      have hfull : (u, c) = ndSwp ts pts (s, false) := by
        rw [hf, List.take_of_length_le (by simp; omega)]; rfl
      rw [← hfull] at law
      (apply Exists.intro (u, c); refine And.intro ?_ (And.intro ?_ ?_); rotate_left 2; focus (refine Le.ren [(0, 0)] rfl (by decide) ?_ ?_ <;> repeat' (first | exact trivial | refine And.intro ⟨_, rfl, ?_⟩ ?_ | refine And.intro ⟨_, _, rfl, rfl, ?_⟩ ?_ | exact Or.inr rfl | refine Or.inl ⟨?_, (by first | rfl | exact pur_sl _ _ | exact Pur.pf)⟩ | rfl)))
      · dsimp only
        refine ⟨hS2, fun h => ?_⟩
        rcases law.2 with ⟨e1, e2⟩ | ⟨e1, _⟩
        · cases e1; exact e2
        · dsimp only at e1; rw [h] at e1; cases e1
      · dsimp only
        have hb : b = true := by assumption
        subst hb
        rcases law.2 with ⟨e1, e2⟩ | ⟨e1, e2⟩
        · cases e1; simp
        · dsimp only at e1 e2; subst e1; omega
  · have hb : b = false := by assumption
    refine rq_le (Le.frzD (d := 2) (i := 0) rfl rfl) ?_
    refine rq_ret rfl ⟨?_, (by (exact pur_sl _ _))⟩
    simp only [oneOf]
    rw [goodN_ext hA (goodN_of w hS (hC hb))]
-- (*impl.graph).liveAfter
theorem liveAfter_c (ts : List Int) (bd : List AL.Stmt) (pts : List Pnt) (B A : List Nat) (w : WG ts pts) (hB : GoodN ts pts B) (hA : GoodL ts pts A) : PC Tryz.prog 36 [aG ts bd pts] (fun r => r = .imm pts.length (flat cN A)) := by
  have hpl := w.pl
  have htl := w.tl
  have hBl := hB.1
  have hsm : ∀ z : Nat, Sm B[z]! := by
    intro z
    by_cases hz : z < pts.length
    · refine ⟨Nat.lt_of_lt_of_le (Nat.lt_pow_two_of_testBit _ (n := 6) fun v hv => ?_) (by decide)⟩
      cases hq : B[z]!.testBit v with
      | false => rfl
      | true => have := Nd_lt w ((hB.2 z hz v).1 hq); dsimp only at this; omega
    · rw [getElem!_neg B z (by rw [hBl]; exact hz)]; exact ⟨by decide⟩
  (refine pc_of_aw Tryz.func36 rfl (by simp [Tryz.ntmps36]) ?_; rw [Tryz.ntmps36])
  repeat' (first | ((with_reducible apply id_rw); first | ((with_reducible apply rx_move); (case hx | hN => rfl)) | (((with_reducible apply rx_load1); (case hx | hd => rfl); (case hc | hN => rfl))) | ((with_reducible apply rx_fieldAddr); (case hx | hp | hN => rfl)) | ((with_reducible apply rx_assign); (case hx | hN => rfl)) | (((with_reducible apply rx_callE (k := 66)); (case ha => rfl); (case h => (apply needed_c <;> ((assumption)))); (case hp => (exact Pur.pf)); (case hN => rfl))) | (((with_reducible apply rx_len); (case hx | hn | hN => rfl))) | ((with_reducible apply rw_nil); (case hf => kernel_rfl)) | ((with_reducible apply rx_nil); (case hx | hp | hN => rfl))) | ((with_reducible apply id_aw); first | with_reducible apply aw_seq | with_reducible apply aw_region | with_reducible apply aw_block) | with_reducible apply tq_normal)
  refine AW.le ?_ (Le.nilOwn (d := 4) 1 rfl (by decide))
  refine aw_loopK (σ := Nat × List Nat) [0, 3, 12] [(0, _), (3, _), (12, _)] [] [] (fun k => [(13, iv (k.1 : Int)), (4, .own 0 0 k.1 1)]) (fun k => [(0, some (flat cN k.2))]) (fun k => k.1 ≤ pts.length ∧ k.2 = (List.range k.1).map (afF pts B)) (fun k => pts.length - k.1) (0, []) ⟨by omega, rfl⟩ rfl rfl (by repeat' (first | exact trivial | refine And.intro rfl ?_)) (by repeat' (first | exact trivial | refine And.intro (.inr rfl) ?_)) ?_
  rintro ⟨k, u⟩ ⟨hk, hu⟩
  dsimp only at hk hu ⊢
  have hul : u.length = k := by rw [hu]; simp
  repeat' (first | ((with_reducible apply id_rw); first | ((with_reducible apply rx_move); (case hx | hN => rfl)) | (first | ((with_reducible apply rx_add); (case hx | hy => rfl); (case h => omega); (case hN => rfl)) | ((with_reducible apply rx_bin); (case hx | hy => rfl); (case h | hN => rfl))) | ((with_reducible apply rx_assign); (case hx | hN => rfl)) | (((with_reducible apply rx_callE (k := 67)); (case ha => rfl); (case h => (apply after_c <;> (first | assumption | omega))); (case hp => (exact Pur.pf)); (case hN => rfl))) | (((with_reducible apply rx_append); (case hx | hy => rfl); (case hze | he0 | hH => rfl); (case hl => (rw [flat_length]; omega)); (case hs' => (rfl)); (case hbig => omega); (case hmx => omega); (case hcs => (exact app_nat (by ((omega))))); (case hM | hN => rfl))) | ((with_reducible apply rw_nil); (case hf => kernel_rfl)) | ((with_reducible apply rx_buildSliceI (t := _)); (case hze | hsm | hl => rfl); (case hfl => ((exact (rfl : _ = some [_])))); (case hM | hN => rfl))) | ((with_reducible apply id_aw); first | with_reducible apply aw_seq | with_reducible apply aw_region | ((with_reducible apply aw_cond); (case hc => rfl); all_goals (intro hc; have hq := hc; (try simp only [Bool.and_eq_true, Bool.and_eq_false_iff, Bool.or_eq_true, Bool.or_eq_false_iff, decide_eq_true_eq, decide_eq_false_iff_not, Bool.not_eq_true', Bool.not_eq_false', Bool.not_true, Bool.not_false, Int.not_lt, Int.not_le] at hq); (try (exfalso; omega)))) | with_reducible apply aw_block | with_reducible apply aw_skip | with_reducible apply aw_exit | with_reducible apply aw_ret) | with_reducible apply tq_normal | with_reducible apply tq_exit | with_reducible apply bq_normal | with_reducible apply bq_here)
  · (apply Exists.intro (k + 1, _); refine And.intro ?_ (And.intro ?_ ?_); rotate_left 2; focus (refine Le.ren [(0, 2)] rfl (by decide) ?_ ?_ <;> repeat' (first | exact trivial | refine And.intro ⟨_, rfl, ?_⟩ ?_ | refine And.intro ⟨_, _, rfl, rfl, ?_⟩ ?_ | exact Or.inr rfl | refine Or.inl ⟨?_, (by first | rfl | exact pur_sl _ _ | exact Pur.pf)⟩ | rfl)))
    · dsimp only
      refine ⟨by omega, ?_⟩
      rw [hu, List.range_succ, List.map_append]; rfl
    · dsimp only; omega
  · refine rq_le (Le.frzD (d := 2) (i := 0) rfl rfl) ?_
    refine rq_ret rfl ⟨?_, (by (exact pur_sl _ _))⟩
    simp only [oneOf]
    have hkn : k = pts.length := by omega
    subst hkn
    rw [goodL_ext hA (goodL_of w hB), hu]
end Go.Proofs.YtjebhaeihokgmaaGreat

namespace Go.Proofs.YtjebhaeihokgmaaGreat
open Go.AL Go.RowKit
set_option linter.unusedSimpArgs false
set_option linter.unusedVariables false
set_option maxHeartbeats 4000000
set_option maxRecDepth 4000

-- impl.bits
theorem bits_c (A : Nat) (hA : Sm A) : PC Tryz.prog 61 [iv (A : Int)] (fun r => r = sl cI (bitsI A)) := by
  (refine pc_of_aw Tryz.func61 rfl (by simp [Tryz.ntmps61]) ?_; rw [Tryz.ntmps61])
  repeat' (first | ((with_reducible apply id_rw); first | ((with_reducible apply rx_assign); (case hx | hN => rfl)) | ((with_reducible apply rw_nil); (case hf => kernel_rfl))) | ((with_reducible apply id_aw); first | with_reducible apply aw_seq | with_reducible apply aw_region | with_reducible apply aw_block) | with_reducible apply tq_normal)
  refine AW.le ?_ (Le.nilOwn (d := 3) 1 rfl (by decide))
  refine aw_loopK (σ := Nat × List Int × Nat) [0] [(0, _)] [] [] (fun k => [(4, iv (k.1 : Int)), (3, .own 0 0 k.2.2 1)]) (fun k => [(0, some (flat cI k.2.1))]) (fun k => k.1 ≤ 62 ∧ k.2.1 = ((List.range k.1).filter (A.testBit ·)).map (fun v : Nat => (v : Int)) ∧ k.2.2 = k.2.1.length ∧ k.2.2 ≤ k.1) (fun k => 62 - k.1) (0, [], 0) ⟨by omega, rfl, rfl, Nat.le_refl _⟩ rfl rfl (by repeat' (first | exact trivial | refine And.intro rfl ?_)) (by repeat' (first | exact trivial | refine And.intro (.inr rfl) ?_)) ?_
  rintro ⟨k, u, m⟩ ⟨hk, hu, hm, hmk⟩
  dsimp only at hk hu hm hmk ⊢
  repeat' (first | ((with_reducible apply id_rw); first | ((with_reducible apply rx_move); (case hx | hN => rfl)) | (first | ((with_reducible apply rx_and1); (case hx | hy => rfl); (case hk => infer_instance); (case ha => infer_instance); (case hN => rfl)) | ((with_reducible apply rx_shrN); (case hx | hy => rfl); (case hk => infer_instance); (case ha => infer_instance); (case h => omega); (case hN => rfl)) | ((with_reducible apply rx_add); (case hx | hy => rfl); (case h => omega); (case hN => rfl)) | ((with_reducible apply rx_bin); (case hx | hy => rfl); (case h | hN => rfl))) | ((with_reducible apply rx_assign); (case hx | hN => rfl)) | (((with_reducible apply rx_append); (case hx | hy => rfl); (case hze | he0 | hH => rfl); (case hl => (rw [flat_length]; omega)); (case hs' => (rfl)); (case hbig => omega); (case hmx => omega); (case hcs => (exact app_int (by ((assumption))))); (case hM | hN => rfl))) | ((with_reducible apply rw_nil); (case hf => kernel_rfl)) | ((with_reducible apply rx_buildSliceI (t := _)); (case hze | hsm | hl => rfl); (case hfl => ((exact (rfl : _ = some [_])))); (case hM | hN => rfl))) | ((with_reducible apply id_aw); first | with_reducible apply aw_seq | with_reducible apply aw_region | ((with_reducible apply aw_cond); (case hc => rfl); all_goals (intro hc; have hq := hc; (try simp only [Bool.and_eq_true, Bool.and_eq_false_iff, Bool.or_eq_true, Bool.or_eq_false_iff, decide_eq_true_eq, decide_eq_false_iff_not, Bool.not_eq_true', Bool.not_eq_false', Bool.not_true, Bool.not_false, Int.not_lt, Int.not_le] at hq); (try (exfalso; omega)))) | with_reducible apply aw_block | with_reducible apply aw_skip | with_reducible apply aw_exit | with_reducible apply aw_ret) | with_reducible apply tq_normal | with_reducible apply tq_exit | with_reducible apply bq_normal | with_reducible apply bq_here)
  · have hlt := shr_pos hA (show 0 < ((A >>> k : Nat) : Int) by assumption)
    (apply Exists.intro (k + 1, _, _); refine And.intro ?_ (And.intro ?_ ?_); rotate_left 2; focus (refine Le.ren [(0, 2)] rfl (by decide) ?_ ?_ <;> repeat' (first | exact trivial | refine And.intro ⟨_, rfl, ?_⟩ ?_ | refine And.intro ⟨_, _, rfl, rfl, ?_⟩ ?_ | exact Or.inr rfl | refine Or.inl ⟨?_, (by first | rfl | exact pur_sl _ _)⟩ | rfl)))
    · dsimp only
      exact ⟨by omega, filt_snoc hq hu, by simp; omega, by omega⟩
    · dsimp only; omega
  · have hlt := shr_pos hA (show 0 < ((A >>> k : Nat) : Int) by assumption)
    (apply Exists.intro (k + 1, u, m); refine And.intro ?_ (And.intro ?_ ?_); rotate_left 2; focus (refine Le.ren [(0, 0)] rfl (by decide) ?_ ?_ <;> repeat' (first | exact trivial | refine And.intro ⟨_, rfl, ?_⟩ ?_ | refine And.intro ⟨_, _, rfl, rfl, ?_⟩ ?_ | exact Or.inr rfl | refine Or.inl ⟨?_, (by first | rfl | exact pur_sl _ _)⟩ | rfl)))
    · dsimp only
      exact ⟨by omega, filt_skip hq hu, hm, by omega⟩
    · dsimp only; omega
  · (refine rq_le (Le.frzD (d := 2) (i := 0) rfl rfl) ?_; refine rq_ret rfl ?_)
    refine ⟨?_, (by (exact pur_sl _ _))⟩
    simp only [oneOf, sl]
    rw [bitsI_pre (k := k) (fun v hv => shr_zero hq v hv) (by omega) hA, ← hu, ← hm]
-- impl.loanBits
theorem loanBits_c (A : Nat) (hA : Sm A) : PC Tryz.prog 63 [.v (.int .u64 (A : Int))] (fun r => r = sl cI (bitsI A)) := by
  (refine pc_of_aw Tryz.func63 rfl (by simp [Tryz.ntmps63]) ?_; rw [Tryz.ntmps63])
  repeat' (first | ((with_reducible apply id_rw); first | ((with_reducible apply rx_move); (case hx | hN => rfl)) | ((with_reducible apply rx_assign); (case hx | hN => rfl)) | ((with_reducible apply rw_nil); (case hf => kernel_rfl))) | ((with_reducible apply id_aw); first | with_reducible apply aw_seq | with_reducible apply aw_region | with_reducible apply aw_block) | with_reducible apply tq_normal)
  refine AW.le ?_ (Le.nilOwn (d := 3) 1 rfl (by decide))
  refine aw_loopK (σ := Nat × List Int × Nat) [0] [(0, _)] [] [] (fun k => [(5, iv (k.1 : Int)), (3, .own 0 0 k.2.2 1)]) (fun k => [(0, some (flat cI k.2.1))]) (fun k => k.1 ≤ 64 ∧ k.2.1 = ((List.range k.1).filter (A.testBit ·)).map (fun v : Nat => (v : Int)) ∧ k.2.2 = k.2.1.length ∧ k.2.2 ≤ k.1) (fun k => 64 - k.1) (0, [], 0) ⟨by omega, rfl, rfl, Nat.le_refl _⟩ rfl rfl (by repeat' (first | exact trivial | refine And.intro rfl ?_)) (by repeat' (first | exact trivial | refine And.intro (.inr rfl) ?_)) ?_
  rintro ⟨k, u, m⟩ ⟨hk, hu, hm, hmk⟩
  dsimp only at hk hu hm hmk ⊢
  repeat' (first | ((with_reducible apply id_rw); first | ((with_reducible apply rx_move); (case hx | hN => rfl)) | (first | ((with_reducible apply rx_and1); (case hx | hy => rfl); (case hk => infer_instance); (case ha => infer_instance); (case hN => rfl)) | ((with_reducible apply rx_shrN); (case hx | hy => rfl); (case hk => infer_instance); (case ha => infer_instance); (case h => omega); (case hN => rfl)) | ((with_reducible apply rx_add); (case hx | hy => rfl); (case h => omega); (case hN => rfl)) | ((with_reducible apply rx_bin); (case hx | hy => rfl); (case h | hN => rfl))) | ((with_reducible apply rx_assign); (case hx | hN => rfl)) | (((with_reducible apply rx_append); (case hx | hy => rfl); (case hze | he0 | hH => rfl); (case hl => (rw [flat_length]; omega)); (case hs' => (rfl)); (case hbig => omega); (case hmx => omega); (case hcs => (exact app_int (by ((assumption))))); (case hM | hN => rfl))) | ((with_reducible apply rw_nil); (case hf => kernel_rfl)) | ((with_reducible apply rx_buildSliceI (t := _)); (case hze | hsm | hl => rfl); (case hfl => ((exact (rfl : _ = some [_])))); (case hM | hN => rfl))) | ((with_reducible apply id_aw); first | with_reducible apply aw_seq | with_reducible apply aw_region | ((with_reducible apply aw_cond); (case hc => rfl); all_goals (intro hc; have hq := hc; (try simp only [Bool.and_eq_true, Bool.and_eq_false_iff, Bool.or_eq_true, Bool.or_eq_false_iff, decide_eq_true_eq, decide_eq_false_iff_not, Bool.not_eq_true', Bool.not_eq_false', Bool.not_true, Bool.not_false, Int.not_lt, Int.not_le] at hq); (try (exfalso; omega)))) | with_reducible apply aw_block | with_reducible apply aw_skip | with_reducible apply aw_exit | with_reducible apply aw_ret) | with_reducible apply tq_normal | with_reducible apply tq_exit | with_reducible apply bq_normal | with_reducible apply bq_here)
  · (apply Exists.intro (k + 1, _, _); refine And.intro ?_ (And.intro ?_ ?_); rotate_left 2; focus (refine Le.ren [(0, 2)] rfl (by decide) ?_ ?_ <;> repeat' (first | exact trivial | refine And.intro ⟨_, rfl, ?_⟩ ?_ | refine And.intro ⟨_, _, rfl, rfl, ?_⟩ ?_ | exact Or.inr rfl | refine Or.inl ⟨?_, (by first | rfl | exact pur_sl _ _)⟩ | rfl)))
    · dsimp only
      exact ⟨by omega, filt_snoc hq hu, by simp; omega, by omega⟩
    · dsimp only; omega
  · (apply Exists.intro (k + 1, u, m); refine And.intro ?_ (And.intro ?_ ?_); rotate_left 2; focus (refine Le.ren [(0, 0)] rfl (by decide) ?_ ?_ <;> repeat' (first | exact trivial | refine And.intro ⟨_, rfl, ?_⟩ ?_ | refine And.intro ⟨_, _, rfl, rfl, ?_⟩ ?_ | exact Or.inr rfl | refine Or.inl ⟨?_, (by first | rfl | exact pur_sl _ _)⟩ | rfl)))
    · dsimp only
      exact ⟨by omega, filt_skip hq hu, hm, by omega⟩
    · dsimp only; omega
  · (refine rq_le (Le.frzD (d := 2) (i := 0) rfl rfl) ?_; refine rq_ret rfl ?_)
    refine ⟨?_, (by (exact pur_sl _ _))⟩
    simp only [oneOf, sl]
    rw [bitsI_pre (k := k) (fun v hv => Nat.testBit_lt_two_pow (Nat.lt_of_lt_of_le hA.pf (Nat.pow_le_pow_right (by decide) (by omega)))) (by omega) hA, ← hu, ← hm]
-- (*impl.graph).ofVars
theorem ofVars_c (ts : List Int) (bd : List AL.Stmt) (pts : List Pnt) (V : Nat) (w : WG ts pts) (hV : Sm V) : PC Tryz.prog 89 [aG ts bd pts, iv (V : Int)] (fun r => r = .v (.int .u64 (ofV pts V : Nat))) := by
  have hpl := w.pl
  have htl := w.tl
  (refine pc_of_aw Tryz.func89 rfl (by simp [Tryz.ntmps89]) ?_; rw [Tryz.ntmps89])
  repeat' (first | ((with_reducible apply id_rw); first | ((with_reducible apply rx_move); (case hx | hN => rfl)) | (((with_reducible apply rx_load1); (case hx | hd => rfl); (case hc | hN => rfl))) | ((with_reducible apply rx_fieldAddr); (case hx | hp | hN => rfl)) | ((with_reducible apply rx_assign); (case hx | hN => rfl)) | (((with_reducible apply rx_len); (case hx | hn | hN => rfl))) | ((with_reducible apply rw_nil); (case hf => kernel_rfl)) | ((with_reducible apply rx_nil); (case hx | hp | hN => rfl))) | ((with_reducible apply id_aw); first | with_reducible apply aw_seq | with_reducible apply aw_region | with_reducible apply aw_block) | with_reducible apply tq_normal)
  refine aw_loopK (σ := Nat × Nat) [1, 11, 12] [(1, _), (11, _), (12, _)] [] [] (fun k => [(13, iv (k.1 : Int)), (5, .v (.int .u64 (k.2 : Int)))]) (fun k => []) (fun k => k.1 ≤ pts.length ∧ k.2 = mkBits (fun l => isLn pts[l]! && V.testBit (pts[l]!.y.toNat)) k.1) (fun k => pts.length - k.1) (0, 0) ⟨by omega, rfl⟩ rfl rfl (by repeat' (first | exact trivial | refine And.intro rfl ?_)) (by repeat' ((exact trivial))) ?_
  rintro ⟨k, A⟩ ⟨hk, hA⟩
  dsimp only at hk hA ⊢
  have hsm : Sm A := hA ▸ mkBits_sm (by omega)
  cases hln : isLn pts[k]!
  · repeat' (first | ((with_reducible apply id_rw); first | ((with_reducible apply rx_move); (case hx | hN => rfl)) | (((with_reducible apply rx_loadA); (case hx | hd => rfl); (case hc => ((exact (rfl : _ = [_, _, _, _, _])))); (case hn | h0 | hN => rfl))) | (((with_reducible apply rx_guardNs); (case hj | hb | hN => rfl); (case hw => (assumption)))) | (first | ((with_reducible apply rx_add); (case hx | hy => rfl); (case h => omega); (case hN => rfl)) | ((with_reducible apply rx_bin); (case hx | hy => rfl); (case h | hN => rfl))) | ((with_reducible apply rx_assign); (case hx | hN => rfl)) | (((with_reducible apply rx_pickF); (case hc => rfl); (case hb => (assumption)); (case hx | hN => rfl))) | (((with_reducible apply rx_indexFN); (case hx | hi => rfl); (case hm => ((omega))); (case hml => ((rfl))); (case hα => infer_instance); (case hf => infer_instance); (case hg => infer_instance); (case hN => rfl))) | (((with_reducible apply rx_callE (k := 85)); (case ha => rfl); (case h => (apply isLoan_c <;> (fail))); (case hp => (exact Pur.pf)); (case hN => rfl))) | ((with_reducible apply rw_nil); (case hf => kernel_rfl)) | ((with_reducible apply rx_alloc); (case hM | hN => rfl)) | ((with_reducible apply rx_store); (case hx | hy => rfl); (case hc | hn | hH => rfl); (case hl => ((simp;done))); (case hcs => (exact (rfl : _ = [_, _, _, _, _]))))) | ((with_reducible apply id_aw); first | with_reducible apply aw_seq | with_reducible apply aw_region | ((with_reducible apply aw_condF); (case hc => rfl); (case hb => (rfl))) | ((with_reducible apply aw_cond); (case hc => rfl); all_goals (intro hc; have hq := hc; (try simp only [Bool.and_eq_true, Bool.and_eq_false_iff, Bool.or_eq_true, Bool.or_eq_false_iff, decide_eq_true_eq, decide_eq_false_iff_not, Bool.not_eq_true', Bool.not_eq_false', Bool.not_true, Bool.not_false, Int.not_lt, Int.not_le] at hq); (try (exfalso; omega)))) | with_reducible apply aw_block | with_reducible apply aw_skip | with_reducible apply aw_exit | with_reducible apply aw_ret) | with_reducible apply tq_normal | with_reducible apply tq_exit | with_reducible apply bq_normal | with_reducible apply bq_here | ((with_reducible apply rq_ret); case hr => rfl))
    · (apply Exists.intro (k + 1, A); refine And.intro ?_ (And.intro ?_ ?_); rotate_left 2; focus (refine Le.ren [] rfl (by decide) ?_ ?_ <;> repeat' (first | exact trivial | refine And.intro ⟨_, rfl, ?_⟩ ?_ | refine Or.inl ⟨?_, (by first | rfl | exact pur_sl _ _)⟩ | rfl)))
      · dsimp only
        exact ⟨by omega, by rw [hA]; exact mkBits_skip _ _ (by rw [hln]; rfl)⟩
      · dsimp only; omega
    · (refine ⟨?_, rfl⟩; simp only [oneOf, AV.v.injEq, Value.bool.injEq, Value.int.injEq, true_and])
      rw [hA, show k = pts.length by omega]; rfl
  · have hy := fun (h : k < pts.length) => isLn_y w h hln
    repeat' (first | ((with_reducible apply id_rw); first | ((with_reducible apply rx_move); (case hx | hN => rfl)) | (first | ((with_reducible apply rx_load1); (case hx | hd => rfl); (case hc | hN => rfl)) | ((with_reducible apply rx_loadA); (case hx | hd => rfl); (case hc => ((exact (rfl : _ = [_, _, _, _, _])))); (case hn | h0 | hN => rfl))) | ((with_reducible apply rx_fieldAddr); (case hx | hp | hN => rfl)) | (((with_reducible apply rx_guardY); (case hj | hb | hN => rfl); (case hw => (assumption)))) | (first | ((with_reducible apply rx_orN); (case hx | hy => rfl); (case hk => infer_instance); (case ha => infer_instance); (case hb => infer_instance); (case hN => rfl)) | ((with_reducible apply rx_and1); (case hx | hy => rfl); (case hk => infer_instance); (case ha => infer_instance); (case hN => rfl)) | ((with_reducible apply rx_shl1); (case hx | hy => rfl); (case hk => infer_instance); (case h => omega); (case hN => rfl); (case' kk => intro hsm)) | ((with_reducible apply rx_shrN); (case hx | hy => rfl); (case hk => infer_instance); (case ha => infer_instance); (case h => omega); (case hN => rfl)) | ((with_reducible apply rx_add); (case hx | hy => rfl); (case h => omega); (case hN => rfl)) | ((with_reducible apply rx_bin); (case hx | hy => rfl); (case h | hN => rfl))) | ((with_reducible apply rx_assign); (case hx | hN => rfl)) | (((with_reducible apply rx_pickT); (case hc => rfl); (case hb => (assumption)); (case hx | hN => rfl))) | (((with_reducible apply rx_indexFN); (case hx | hi => rfl); (case hm => ((omega))); (case hml => ((rfl))); (case hα => infer_instance); (case hf => infer_instance); (case hg => infer_instance); (case hN => rfl))) | (((with_reducible apply rx_callE (k := 85)); (case ha => rfl); (case h => (apply isLoan_c <;> (fail))); (case hp => (exact Pur.pf)); (case hN => rfl))) | ((with_reducible apply rw_nil); (case hf => kernel_rfl)) | ((with_reducible apply rx_alloc); (case hM | hN => rfl)) | ((with_reducible apply rx_store); (case hx | hy => rfl); (case hc | hn | hH => rfl); (case hl => ((simp;done))); (case hcs => (exact (rfl : _ = [_, _, _, _, _]))))) | ((with_reducible apply id_aw); first | with_reducible apply aw_seq | with_reducible apply aw_region | ((with_reducible apply aw_cond); (case hc => rfl); all_goals (intro hc; have hq := hc; (try simp only [Bool.and_eq_true, Bool.and_eq_false_iff, Bool.or_eq_true, Bool.or_eq_false_iff, decide_eq_true_eq, decide_eq_false_iff_not, Bool.not_eq_true', Bool.not_eq_false', Bool.not_true, Bool.not_false, Int.not_lt, Int.not_le] at hq); (try (exfalso; omega)))) | with_reducible apply aw_block | with_reducible apply aw_skip | with_reducible apply aw_exit | with_reducible apply aw_ret) | with_reducible apply tq_normal | with_reducible apply tq_exit | with_reducible apply bq_normal | with_reducible apply bq_here | ((with_reducible apply rq_ret); case hr => rfl))
    · (apply Exists.intro (k + 1, _); refine And.intro ?_ (And.intro ?_ ?_); rotate_left 2; focus (refine Le.ren [] rfl (by decide) ?_ ?_ <;> repeat' (first | exact trivial | refine And.intro ⟨_, rfl, ?_⟩ ?_ | refine Or.inl ⟨?_, (by first | rfl | exact pur_sl _ _)⟩ | rfl)))
      · dsimp only
        exact ⟨by omega, by rw [hA]; exact mkBits_succ _ _ (by rw [hln, Bool.true_and]; exact (and1_iff _ _).1 hq)⟩
      · dsimp only; omega
    · (apply Exists.intro (k + 1, A); refine And.intro ?_ (And.intro ?_ ?_); rotate_left 2; focus (refine Le.ren [] rfl (by decide) ?_ ?_ <;> repeat' (first | exact trivial | refine And.intro ⟨_, rfl, ?_⟩ ?_ | refine Or.inl ⟨?_, (by first | rfl | exact pur_sl _ _)⟩ | rfl)))
      · dsimp only
        exact ⟨by omega, by rw [hA]; exact mkBits_skip _ _ (by rw [hln, Bool.true_and]; cases hb : V.testBit (pts[k]!.y.toNat) with | false => rfl | true => exact absurd ((and1_iff _ _).2 hb) hq)⟩
      · dsimp only; omega
    · (refine ⟨?_, rfl⟩; simp only [oneOf, AV.v.injEq, Value.bool.injEq, Value.int.injEq, true_and])
      rw [hA, show k = pts.length by omega]; rfl
end Go.Proofs.YtjebhaeihokgmaaGreat

namespace Go.Proofs.YtjebhaeihokgmaaGreat
open Go.AL Go.RowKit
set_option linter.unusedSimpArgs false
set_option linter.unusedVariables false
set_option maxHeartbeats 4000000
set_option maxRecDepth 4000

-- (*impl.graph).placed
theorem placed_c (ts : List Int) (bd : List AL.Stmt) (pts : List Pnt) (A : List Nat) (w : WG ts pts) (hA : GoodP ts pts A) : PC Tryz.prog 60 [aG ts bd pts] (fun r => r = .imm pts.length (flat cW A)) := by
  have hpl := w.pl
  have hp0 := w.p0
  have htl := w.tl
  have fl := flowP w
  (refine pc_of_aw Tryz.func60 rfl (by simp [Tryz.ntmps60]) ?_; rw [Tryz.ntmps60])
  repeat' (first | ((with_reducible apply id_rw); first | ((with_reducible apply rx_move); (case hx | hN => rfl)) | (((with_reducible apply rx_load1); (case hx | hd => rfl); (case hc | hN => rfl))) | ((with_reducible apply rx_fieldAddr); (case hx | hp | hN => rfl)) | ((with_reducible apply rx_assign); (case hx | hN => rfl)) | (((with_reducible apply rx_len); (case hx | hn | hN => rfl))) | ((with_reducible apply rw_nil); (case hf => kernel_rfl)) | ((with_reducible apply rx_nil); (case hx | hp | hN => rfl)) | ((with_reducible apply rx_makeSliceE); (case hx | hy | hze => rfl); (case hsm => omega); (case hmx => omega); (case hcs => (exact mk_natW)); (case hM | hN => rfl))) | ((with_reducible apply id_aw); first | with_reducible apply aw_seq | with_reducible apply aw_region | with_reducible apply aw_block) | with_reducible apply tq_normal)
  refine aw_loopK (σ := List Nat × Bool) [0, 3] [(0, _), (3, _)] [] [] (fun s => [(4, bv s.2)]) (fun s => [(0, some (flat cW s.1))]) (fun s => SG pts (PpP ts pts) s.1 ∧ (s.2 = false → ClosedG opU (plF ts pts) pts s.1)) (fun s => 2 * sumL (s.1.map (fun a => 2 ^ pts.length - a)) + s.2.toNat) (List.replicate pts.length 0, true) ⟨SG_rep fun i hi => ⟨Nat.pow_pos (by decide), fun v h => by simp at h⟩, fun h => by cases h⟩ rfl rfl (by repeat' (first | exact trivial | refine And.intro rfl ?_)) (by repeat' (first | exact trivial | refine And.intro (.inr rfl) ?_)) ?_
  rintro ⟨s, b⟩ ⟨hS, hC⟩
  dsimp only at hS hC ⊢
  repeat' (first | ((with_reducible apply id_rw); first | ((with_reducible apply rx_move); (case hx | hN => rfl)) | (((with_reducible apply rx_load1); (case hx | hd => rfl); (case hc | hN => rfl))) | ((with_reducible apply rx_fieldAddr); (case hx | hp | hN => rfl)) | ((with_reducible apply rx_assign); (case hx | hN => rfl)) | (((with_reducible apply rx_len); (case hx | hn | hN => rfl))) | ((with_reducible apply rw_nil); (case hf => kernel_rfl)) | ((with_reducible apply rx_nil); (case hx | hp | hN => rfl))) | ((with_reducible apply id_aw); first | with_reducible apply aw_seq | with_reducible apply aw_region | ((with_reducible apply aw_cond); (case hc => rfl); all_goals (intro hc; have hq := hc; (try simp only [Bool.and_eq_true, Bool.and_eq_false_iff, Bool.or_eq_true, Bool.or_eq_false_iff, decide_eq_true_eq, decide_eq_false_iff_not, Bool.not_eq_true', Bool.not_eq_false', Bool.not_true, Bool.not_false, Int.not_lt, Int.not_le] at hq); (try (exfalso; omega)))) | with_reducible apply aw_block | with_reducible apply aw_skip | with_reducible apply aw_exit | with_reducible apply aw_ret) | with_reducible apply tq_normal | with_reducible apply tq_exit | with_reducible apply bq_here)
  · refine aw_loopK (σ := Nat × (List Nat × Bool)) [0, 3, 20, 21] [(0, _), (3, _), (20, _), (21, _)] [] [] (fun k => [(22, iv (k.1 : Int)), (4, bv k.2.2)]) (fun k => [(0, some (flat cW k.2.1))]) (fun k => k.1 ≤ pts.length ∧ k.2 = (List.range k.1).foldl (innG opU (plF ts pts) pts) (s, false) ∧ SG pts (PpP ts pts) k.2.1) (fun k => pts.length - k.1) (0, (s, false)) ⟨by omega, rfl, hS⟩ rfl rfl (by repeat' (first | exact trivial | refine And.intro rfl ?_)) (by repeat' (first | exact trivial | refine And.intro (.inr rfl) ?_)) ?_
    rintro ⟨k, u, c⟩ ⟨hk, hf, hS2⟩
    dsimp only at hk hf hS2 ⊢
    have hul := hS2.1
    by_cases hkn : k < pts.length
    · have hst := (w.set k hkn).1
      have hsm : ∀ z : Nat, Sm u[z]! := by
        intro z
        by_cases hz : z < pts.length
        · exact ⟨Nat.lt_of_lt_of_le (hS2.2 z hz).1 (Nat.pow_le_pow_right (by decide) (by omega))⟩
        · rw [getElem!_neg u z (by rw [hul]; exact hz)]; exact ⟨by decide⟩
      have hs1 : Sm (wS ts pts[k]! [2]) := mkBits_sm (by omega)
      have hs2 : Sm (sbit pts[k]!) := sbit_sm (by omega)
      have hs3 : ∀ V, Sm (ofV pts V) := fun V => ofV_sm w V
      have hnl := w.nl k hkn
      have e1 : isLn pts[k]! = true → anl u[k]! (ofV pts (wS ts pts[k]! [2] ||| sbit pts[k]!)) ||| 2 ^ ((k : Int)).toNat = plF ts pts k u[k]! := fun h => by unfold plF lnB; rw [if_pos h]; rfl
      have e0 : isLn pts[k]! = false → anl u[k]! (ofV pts (wS ts pts[k]! [2] ||| sbit pts[k]!)) = plF ts pts k u[k]! := fun h => by unfold plF lnB; rw [if_neg (by rw [h]; simp), Nat.or_zero]
      have hps : Sm (plF ts pts k u[k]!) := ⟨Nat.lt_of_lt_of_le (plF_lt w hkn (hS2.2 k hkn).1) (Nat.pow_le_pow_right (by decide) (by omega))⟩
      repeat' (first | ((with_reducible apply id_rw); first | ((with_reducible apply rx_move); (case hx | hN => rfl)) | (first | ((with_reducible apply rx_loadF0); (case hx | hH => rfl); (case hf => infer_instance); (case hg => infer_instance); (case hα => infer_instance); (case hk => omega); (case hc | hN => rfl)) | ((with_reducible apply rx_load1); (case hx | hd => rfl); (case hc | hN => rfl)) | ((with_reducible apply rx_loadA); (case hx | hd => rfl); (case hc => ((exact (rfl : _ = [_, _, _, _, _])))); (case hn | h0 | hN => rfl))) | ((with_reducible apply rx_fieldAddr); (case hx | hp | hN => rfl)) | (first | ((with_reducible apply rx_orN); (case hx | hy => rfl); (case hk => infer_instance); (case ha => infer_instance); (case hb => infer_instance); (case hN => rfl)) | ((with_reducible apply rx_anlN); (case hx | hy => rfl); (case hk => infer_instance); (case ha => infer_instance); (case hb => infer_instance); (case hN => rfl)) | ((with_reducible apply rx_shl1); (case hx | hy => rfl); (case hk => infer_instance); (case h => omega); (case hN => rfl); (case' kk => intro hsm)) | ((with_reducible apply rx_bin); (case hx | hy => rfl); (case h | hN => rfl))) | ((with_reducible apply rx_assign); (case hx | hN => rfl)) | (first | ((with_reducible apply rx_indexFN); (case hx | hi => rfl); (case hm => ((assumption))); (case hml => ((rfl))); (case hα => infer_instance); (case hf => infer_instance); (case hg => infer_instance); (case hN => rfl)) | ((with_reducible apply rx_indexON); (case hx | hi => rfl); (case hm => ((assumption))); (case hN => rfl))) | (first | ((with_reducible apply rx_callE (k := 83)); (case ha => rfl); (case h => (apply taken_c <;> ((assumption)))); (case hp => (exact Pur.pf)); (case hN => rfl)) | ((with_reducible apply rx_callE (k := 85)); (case ha => rfl); (case h => (apply isLoan_c <;> (fail))); (case hp => (exact Pur.pf)); (case hN => rfl)) | ((with_reducible apply rx_callE (k := 89)); (case ha => rfl); (case h => (apply ofVars_c <;> (first | assumption | infer_instance))); (case hp => (exact Pur.pf)); (case hN => rfl)) | ((with_reducible apply rx_callE (k := 90)); (case ha => rfl); (case h => (apply setBit_c <;> ((omega)))); (case hp => (exact Pur.pf)); (case hN => rfl))) | (((with_reducible apply rx_len); (case hx | hn | hN => rfl))) | ((with_reducible apply rw_nil); (case hf => kernel_rfl)) | ((with_reducible apply rx_alloc); (case hM | hN => rfl)) | ((with_reducible apply rx_store); (case hx | hy => rfl); (case hc | hn | hH => rfl); (case hl => ((simp;done))); (case hcs => (exact (rfl : _ = [_, _, _, _, _]))))) | ((with_reducible apply id_aw); first | with_reducible apply aw_seq | with_reducible apply aw_region | ((with_reducible apply aw_draw); (case hm => kernel_rfl)) | ((with_reducible apply aw_cond); (case hc => rfl); all_goals (intro hc; have hq := hc; (try simp only [Bool.and_eq_true, Bool.and_eq_false_iff, Bool.or_eq_true, Bool.or_eq_false_iff, decide_eq_true_eq, decide_eq_false_iff_not, Bool.not_eq_true', Bool.not_eq_false', Bool.not_true, Bool.not_false, Int.not_lt, Int.not_le] at hq); (try (exfalso; omega)))) | with_reducible apply aw_block | with_reducible apply aw_skip) | with_reducible apply tq_normal)
      all_goals first | rw [e1 (by assumption)] | rw [e0 (by assumption)]
      all_goals
        refine aw_loopK (σ := Nat × (List Nat × Bool)) [0, 3, 7, 20, 21, 22, 47, 48] [(0, _), (3, _), (7, _), (20, _), (21, _), (22, _), (47, _), (48, _)] [] [] (fun j => [(49, iv (j.1 : Int)), (4, bv j.2.2)]) (fun j => [(0, some (flat cW j.2.1))]) (fun j => j.1 ≤ pts[k]!.next.length ∧ j.2 = ((nxN pts k).take j.1).foldl (bstp opU (plF ts pts k u[k]!)) (u, c) ∧ SG pts (PpP ts pts) j.2.1) (fun j => pts[k]!.next.length - j.1) (0, (u, c)) ⟨by omega, rfl, hS2⟩ rfl rfl (by repeat' (first | exact trivial | refine And.intro rfl ?_)) (by repeat' (first | exact trivial | refine And.intro (.inr rfl) ?_)) ?_
        rintro ⟨j, u2, c2⟩ ⟨hj, hf2, hS3⟩
        dsimp only at hj hf2 hS3 ⊢
        have hul2 := hS3.1
        have hsm2 : ∀ z : Nat, Sm u2[z]! := by
          intro z
          by_cases hz : z < pts.length
          · exact ⟨Nat.lt_of_lt_of_le (hS3.2 z hz).1 (Nat.pow_le_pow_right (by decide) (by omega))⟩
          · rw [getElem!_neg u2 z (by rw [hul2]; exact hz)]; exact ⟨by decide⟩
        have hz : j < pts[k]!.next.length → 0 ≤ pts[k]!.next[j]! ∧ pts[k]!.next[j]! < pts.length := fun h => w.nx k hkn _ (getB_mem _ _ h)
        repeat' (first | ((with_reducible apply id_rw); first | ((with_reducible apply rx_move); (case hx | hN => rfl)) | (first | ((with_reducible apply rx_loadF0); (case hx | hH => rfl); (case hf => infer_instance); (case hg => infer_instance); (case hα => infer_instance); (case hk => omega); (case hc | hN => rfl)) | ((with_reducible apply rx_load1); (case hx | hd => rfl); (case hc | hN => rfl))) | (first | ((with_reducible apply rx_orN); (case hx | hy => rfl); (case hk => infer_instance); (case ha => infer_instance); (case hb => infer_instance); (case hN => rfl)) | ((with_reducible apply rx_add); (case hx | hy => rfl); (case h => omega); (case hN => rfl)) | ((with_reducible apply rx_bin); (case hx | hy => rfl); (case h | hN => rfl))) | ((with_reducible apply rx_assign); (case hx | hN => rfl)) | (first | ((with_reducible apply rx_indexFN); (case hx | hi => rfl); (case hm => ((omega))); (case hml => ((rfl))); (case hα => infer_instance); (case hf => infer_instance); (case hg => infer_instance); (case hN => rfl)) | ((with_reducible apply rx_indexO); (case hx | hi => rfl); (case hm => ((omega))); (case hN => rfl))) | ((with_reducible apply rw_nil); (case hf => kernel_rfl)) | ((with_reducible apply rx_store); (case hx | hy => rfl); (case hc | hn | hH => rfl); (case hl => ((rw [flat_length]; simp only [List.length_append, List.length_cons, List.length_nil, List.length_set, List.length_take, List.length_map, List.length_replicate, ptL_len, Nat.mul_one, Nat.zero_add, Nat.add_zero] <;> omega))); (case hcs => (exact st_natW (by ((omega))))))) | ((with_reducible apply id_aw); first | with_reducible apply aw_seq | with_reducible apply aw_region | ((with_reducible apply aw_draw); (case hm => kernel_rfl)) | ((with_reducible apply aw_cond); (case hc => rfl); all_goals (intro hc; have hq := hc; (try simp only [Bool.and_eq_true, Bool.and_eq_false_iff, Bool.or_eq_true, Bool.or_eq_false_iff, decide_eq_true_eq, decide_eq_false_iff_not, Bool.not_eq_true', Bool.not_eq_false', Bool.not_true, Bool.not_false, Int.not_lt, Int.not_le] at hq); (try (exfalso; omega)))) | with_reducible apply aw_block | with_reducible apply aw_skip | with_reducible apply aw_exit) | with_reducible apply tq_normal | with_reducible apply tq_exit | with_reducible apply bq_normal | with_reducible apply bq_here)
        · have hzz := hz (by omega)
          have hed : edge pts k (pts[k]!.next[j]!).toNat := ⟨hkn, by rw [Int.toNat_of_nonneg hzz.1]; exact getB_mem _ _ (by omega)⟩
          have hne : opU u2[(pts[k]!.next[j]!).toNat]! (plF ts pts k u[k]!) ≠ u2[(pts[k]!.next[j]!).toNat]! := fun h => hq (congrArg Int.ofNat h)
          (apply Exists.intro (j + 1, (_, true)); refine And.intro ?_ (And.intro ?_ ?_); rotate_left 2; focus (refine Le.ren [(0, 0)] rfl (by decide) ?_ ?_ <;> repeat' (first | exact trivial | refine And.intro ⟨_, rfl, ?_⟩ ?_ | refine And.intro ⟨_, _, rfl, rfl, ?_⟩ ?_ | exact Or.inr rfl | refine Or.inl ⟨?_, (by first | rfl | exact pur_sl _ _ | exact Pur.pf)⟩ | rfl)))
          · dsimp only
            refine ⟨by omega, ?_, SG_step fl w (hS2.2 k hkn) hed hS3⟩
            rw [bstp_take (by omega), ← hf2, bstp_1 hne]
          · dsimp only; omega
        · have hzz := hz (by omega)
          have hne : opU u2[(pts[k]!.next[j]!).toNat]! (plF ts pts k u[k]!) = u2[(pts[k]!.next[j]!).toNat]! := Int.ofNat.inj hq
          (apply Exists.intro (j + 1, (u2, c2)); refine And.intro ?_ (And.intro ?_ ?_); rotate_left 2; focus (refine Le.ren [(0, 0)] rfl (by decide) ?_ ?_ <;> repeat' (first | exact trivial | refine And.intro ⟨_, rfl, ?_⟩ ?_ | refine And.intro ⟨_, _, rfl, rfl, ?_⟩ ?_ | exact Or.inr rfl | refine Or.inl ⟨?_, (by first | rfl | exact pur_sl _ _ | exact Pur.pf)⟩ | rfl)))
          · dsimp only
            refine ⟨by omega, ?_, hS3⟩
            rw [bstp_take (by omega), ← hf2, bstp_0 hne]
          · dsimp only; omega
        · (apply Exists.intro (k + 1, (u2, c2)); refine And.intro ?_ (And.intro ?_ ?_); rotate_left 2; focus (refine Le.ren [(0, 0)] rfl (by decide) ?_ ?_ <;> repeat' (first | exact trivial | refine And.intro ⟨_, rfl, ?_⟩ ?_ | refine And.intro ⟨_, _, rfl, rfl, ?_⟩ ?_ | exact Or.inr rfl | refine Or.inl ⟨?_, (by first | rfl | exact pur_sl _ _ | exact Pur.pf)⟩ | rfl)))
          · dsimp only
            refine ⟨by omega, ?_, hS3⟩
            rw [range_succ_foldl, ← hf, hf2, List.take_of_length_le (by rw [nxN_len]; omega)]; rfl
          · dsimp only; omega
    · repeat' (first | ((with_reducible apply id_rw); first | (((with_reducible apply rx_bin); (case hx | hy => rfl); (case h | hN => rfl))) | ((with_reducible apply rw_nil); (case hf => kernel_rfl))) | ((with_reducible apply id_aw); first | with_reducible apply aw_seq | with_reducible apply aw_region | ((with_reducible apply aw_cond); (case hc => rfl); all_goals (intro hc; have hq := hc; (try simp only [Bool.and_eq_true, Bool.and_eq_false_iff, Bool.or_eq_true, Bool.or_eq_false_iff, decide_eq_true_eq, decide_eq_false_iff_not, Bool.not_eq_true', Bool.not_eq_false', Bool.not_true, Bool.not_false, Int.not_lt, Int.not_le] at hq); (try (exfalso; omega)))) | with_reducible apply aw_exit) | with_reducible apply tq_normal | with_reducible apply tq_exit | with_reducible apply bq_normal | with_reducible apply bq_here)
      have law := swpG_law w fl s false hS
      have hfull : (u, c) = swpG opU (plF ts pts) pts (s, false) := by
        rw [hf, show k = pts.length by omega]; rfl
      rw [← hfull] at law
      (apply Exists.intro (u, c); refine And.intro ?_ (And.intro ?_ ?_); rotate_left 2; focus (refine Le.ren [(0, 0)] rfl (by decide) ?_ ?_ <;> repeat' (first | exact trivial | refine And.intro ⟨_, rfl, ?_⟩ ?_ | refine And.intro ⟨_, _, rfl, rfl, ?_⟩ ?_ | exact Or.inr rfl | refine Or.inl ⟨?_, (by first | rfl | exact pur_sl _ _ | exact Pur.pf)⟩ | rfl)))
      · dsimp only
        refine ⟨hS2, fun h => ?_⟩
        rcases law.2 with ⟨e1, e2⟩ | ⟨e1, _⟩
        · cases e1; exact e2
        · dsimp only at e1; rw [h] at e1; cases e1
      · dsimp only
        have hb : b = true := by assumption
        subst hb
        rcases law.2 with ⟨e1, e2⟩ | ⟨e1, e2⟩
        · cases e1; simp
        · dsimp only at e1 e2; subst e1; omega
  · have hb : b = false := by assumption
    refine rq_le (Le.frzD (d := 2) (i := 0) rfl rfl) ?_
    refine rq_ret rfl ⟨?_, (by (exact pur_sl _ _))⟩
    simp only [oneOf]
    rw [goodP_ext hA (goodP_of w hS (hC hb))]
end Go.Proofs.YtjebhaeihokgmaaGreat
