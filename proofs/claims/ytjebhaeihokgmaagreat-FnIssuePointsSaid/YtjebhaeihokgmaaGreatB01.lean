/-
  A part of the proofs over this program: rules and contracts of its functions (the contracts, part 1).
-/
import Derived.Test.YtjebhaeihokgmaaGreatA06
import Derived.Test.YtjebhaeihokgmaaGreatRows
set_option linter.unusedVariables false
set_option linter.unusedSimpArgs false
namespace Go.Proofs.YtjebhaeihokgmaaGreat
open Go.AL
set_option linter.unusedSimpArgs false
set_option linter.unusedVariables false
set_option maxHeartbeats 4000000

-- impl.within
theorem within_c (a b c : Int) : PC Tryz.prog 33 [iv a, iv b, iv c] (fun r => r = bv (decide (b ≤ a) && decide (a ≤ c))) := by
  (refine pc_of_aw Tryz.func33 rfl (by simp [Tryz.ntmps33]) ?_; rw [Tryz.ntmps33])
  repeat' (first | ((with_reducible apply id_rw); first | ((with_reducible apply rx_move); (case hx | hN => rfl)) | (first | ((with_reducible apply rx_guardY); (case hj | hb | hN => rfl); (case hw => (assumption))) | ((with_reducible apply rx_guardNs); (case hj | hb | hN => rfl); (case hw => (assumption))) | ((with_reducible apply rx_guardS); (case hj | hb | hN => rfl); all_goals (intro hg; have hq := hg; (try simp only [Bool.and_eq_true, Bool.and_eq_false_iff, Bool.or_eq_true, Bool.or_eq_false_iff, decide_eq_true_eq, decide_eq_false_iff_not, Bool.not_eq_true', Bool.not_eq_false', Bool.not_true, Bool.not_false, Int.not_lt, Int.not_le] at hq); (try (exfalso; omega))))) | (((with_reducible apply rx_bin); (case hx | hy => rfl); (case h | hN => rfl))) | ((with_reducible apply rx_assign); (case hx | hN => rfl)) | (first | ((with_reducible apply rx_pickT); (case hc => rfl); (case hb => (assumption)); (case hx | hN => rfl)) | ((with_reducible apply rx_pickF); (case hc => rfl); (case hb => (assumption)); (case hx | hN => rfl))) | ((with_reducible apply rw_nil); (case hf => kernel_rfl))) | ((with_reducible apply id_aw); first | with_reducible apply aw_seq | with_reducible apply aw_region | with_reducible apply aw_ret) | with_reducible apply tq_normal | ((with_reducible apply rq_ret); case hr => rfl))
  all_goals (refine ⟨?_, rfl⟩; simp only [oneOf, AV.v.injEq, Value.bool.injEq, Value.int.injEq, true_and])
  all_goals grind
-- impl.IsReference
theorem isRefI_c (t : Int) : PC Tryz.prog 86 [iv t] (fun r => r = bv (isRef t)) := by
  (refine pc_of_aw Tryz.func86 rfl (by simp [Tryz.ntmps86]) ?_; rw [Tryz.ntmps86])
  repeat' (first | ((with_reducible apply id_rw); first | ((with_reducible apply rx_move); (case hx | hN => rfl)) | (first | ((with_reducible apply rx_guardY); (case hj | hb | hN => rfl); (case hw => (assumption))) | ((with_reducible apply rx_guardNs); (case hj | hb | hN => rfl); (case hw => (assumption))) | ((with_reducible apply rx_guardS); (case hj | hb | hN => rfl); all_goals (intro hg; have hq := hg; (try simp only [Bool.and_eq_true, Bool.and_eq_false_iff, Bool.or_eq_true, Bool.or_eq_false_iff, decide_eq_true_eq, decide_eq_false_iff_not, Bool.not_eq_true', Bool.not_eq_false', Bool.not_true, Bool.not_false, Int.not_lt, Int.not_le] at hq); (try (exfalso; omega))))) | (((with_reducible apply rx_bin); (case hx | hy => rfl); (case h | hN => rfl))) | ((with_reducible apply rx_assign); (case hx | hN => rfl)) | (first | ((with_reducible apply rx_pickT); (case hc => rfl); (case hb => (assumption)); (case hx | hN => rfl)) | ((with_reducible apply rx_pickF); (case hc => rfl); (case hb => (assumption)); (case hx | hN => rfl))) | ((with_reducible apply rw_nil); (case hf => kernel_rfl))) | ((with_reducible apply id_aw); first | with_reducible apply aw_seq | with_reducible apply aw_region | with_reducible apply aw_ret) | with_reducible apply tq_normal | ((with_reducible apply rq_ret); case hr => rfl))
  all_goals (refine ⟨?_, rfl⟩; simp only [oneOf, AV.v.injEq, Value.bool.injEq, Value.int.injEq, true_and])
  all_goals grind [isRef]
-- spec.IsReference
theorem isRefS_c (t : Int) : PC Tryz.prog 95 [iv t] (fun r => r = bv (isRef t)) := by
  (refine pc_of_aw Tryz.func95 rfl (by simp [Tryz.ntmps95]) ?_; rw [Tryz.ntmps95])
  repeat' (first | ((with_reducible apply id_rw); first | ((with_reducible apply rx_move); (case hx | hN => rfl)) | (first | ((with_reducible apply rx_guardY); (case hj | hb | hN => rfl); (case hw => (assumption))) | ((with_reducible apply rx_guardNs); (case hj | hb | hN => rfl); (case hw => (assumption))) | ((with_reducible apply rx_guardS); (case hj | hb | hN => rfl); all_goals (intro hg; have hq := hg; (try simp only [Bool.and_eq_true, Bool.and_eq_false_iff, Bool.or_eq_true, Bool.or_eq_false_iff, decide_eq_true_eq, decide_eq_false_iff_not, Bool.not_eq_true', Bool.not_eq_false', Bool.not_true, Bool.not_false, Int.not_lt, Int.not_le] at hq); (try (exfalso; omega))))) | (((with_reducible apply rx_bin); (case hx | hy => rfl); (case h | hN => rfl))) | ((with_reducible apply rx_assign); (case hx | hN => rfl)) | (first | ((with_reducible apply rx_pickT); (case hc => rfl); (case hb => (assumption)); (case hx | hN => rfl)) | ((with_reducible apply rx_pickF); (case hc => rfl); (case hb => (assumption)); (case hx | hN => rfl))) | ((with_reducible apply rw_nil); (case hf => kernel_rfl))) | ((with_reducible apply id_aw); first | with_reducible apply aw_seq | with_reducible apply aw_region | with_reducible apply aw_ret) | with_reducible apply tq_normal | ((with_reducible apply rq_ret); case hr => rfl))
  all_goals (refine ⟨?_, rfl⟩; simp only [oneOf, AV.v.injEq, Value.bool.injEq, Value.int.injEq, true_and])
  all_goals grind [isRef]
-- impl.isHolder
theorem isHolder_c (t : Int) : PC Tryz.prog 98 [iv t] (fun r => r = bv (decide (t = 2) || isRef t)) := by
  (refine pc_of_aw Tryz.func98 rfl (by simp [Tryz.ntmps98]) ?_; rw [Tryz.ntmps98])
  repeat' (first | ((with_reducible apply id_rw); first | ((with_reducible apply rx_move); (case hx | hN => rfl)) | (first | ((with_reducible apply rx_guardY); (case hj | hb | hN => rfl); (case hw => (assumption))) | ((with_reducible apply rx_guardNs); (case hj | hb | hN => rfl); (case hw => (assumption))) | ((with_reducible apply rx_guardS); (case hj | hb | hN => rfl); all_goals (intro hg; have hq := hg; (try simp only [Bool.and_eq_true, Bool.and_eq_false_iff, Bool.or_eq_true, Bool.or_eq_false_iff, decide_eq_true_eq, decide_eq_false_iff_not, Bool.not_eq_true', Bool.not_eq_false', Bool.not_true, Bool.not_false, Int.not_lt, Int.not_le] at hq); (try (exfalso; omega))))) | (((with_reducible apply rx_bin); (case hx | hy => rfl); (case h | hN => rfl))) | ((with_reducible apply rx_assign); (case hx | hN => rfl)) | (first | ((with_reducible apply rx_pickT); (case hc => rfl); (case hb => (assumption)); (case hx | hN => rfl)) | ((with_reducible apply rx_pickF); (case hc => rfl); (case hb => (assumption)); (case hx | hN => rfl))) | (((with_reducible apply rx_callE (k := 86)); (case ha => rfl); (case h => (apply isRefI_c <;> (fail))); (case hp => (rfl)); (case hN => rfl))) | ((with_reducible apply rw_nil); (case hf => kernel_rfl))) | ((with_reducible apply id_aw); first | with_reducible apply aw_seq | with_reducible apply aw_region | with_reducible apply aw_ret) | with_reducible apply tq_normal | ((with_reducible apply rq_ret); case hr => rfl))
  all_goals (refine ⟨?_, rfl⟩; simp only [oneOf, AV.v.injEq, Value.bool.injEq, Value.int.injEq, true_and])
  all_goals grind
-- impl.isBranch
theorem isBranch_c (t : Int) : PC Tryz.prog 78 [iv t] (fun r => r = bv (decide (t = 9) || decide (t = 10))) := by
  (refine pc_of_aw Tryz.func78 rfl (by simp [Tryz.ntmps78]) ?_; rw [Tryz.ntmps78])
  repeat' (first | ((with_reducible apply id_rw); first | ((with_reducible apply rx_move); (case hx | hN => rfl)) | (first | ((with_reducible apply rx_guardY); (case hj | hb | hN => rfl); (case hw => (assumption))) | ((with_reducible apply rx_guardNs); (case hj | hb | hN => rfl); (case hw => (assumption))) | ((with_reducible apply rx_guardS); (case hj | hb | hN => rfl); all_goals (intro hg; have hq := hg; (try simp only [Bool.and_eq_true, Bool.and_eq_false_iff, Bool.or_eq_true, Bool.or_eq_false_iff, decide_eq_true_eq, decide_eq_false_iff_not, Bool.not_eq_true', Bool.not_eq_false', Bool.not_true, Bool.not_false, Int.not_lt, Int.not_le] at hq); (try (exfalso; omega))))) | (((with_reducible apply rx_bin); (case hx | hy => rfl); (case h | hN => rfl))) | ((with_reducible apply rx_assign); (case hx | hN => rfl)) | (first | ((with_reducible apply rx_pickT); (case hc => rfl); (case hb => (assumption)); (case hx | hN => rfl)) | ((with_reducible apply rx_pickF); (case hc => rfl); (case hb => (assumption)); (case hx | hN => rfl))) | ((with_reducible apply rw_nil); (case hf => kernel_rfl))) | ((with_reducible apply id_aw); first | with_reducible apply aw_seq | with_reducible apply aw_region | with_reducible apply aw_ret) | with_reducible apply tq_normal | ((with_reducible apply rq_ret); case hr => rfl))
  all_goals (refine ⟨?_, rfl⟩; simp only [oneOf, AV.v.injEq, Value.bool.injEq, Value.int.injEq, true_and])
  all_goals grind
-- spec.l1Type
theorem l1Type_c (ts : List Int) (v : Int) : PC Tryz.prog 107 [sl cI ts, iv v] (fun r => r = iv (typeAt ts v)) := by
  (refine pc_of_aw Tryz.func107 rfl (by simp [Tryz.ntmps107]) ?_; rw [Tryz.ntmps107])
  repeat' (first | ((with_reducible apply id_rw); first | ((with_reducible apply rx_move); (case hx | hN => rfl)) | (((with_reducible apply rx_load1); (case hx | hd => rfl); (case hc | hN => rfl))) | (first | ((with_reducible apply rx_guardY); (case hj | hb | hN => rfl); (case hw => (assumption))) | ((with_reducible apply rx_guardNs); (case hj | hb | hN => rfl); (case hw => (assumption))) | ((with_reducible apply rx_guardS); (case hj | hb | hN => rfl); all_goals (intro hg; have hq := hg; (try simp only [Bool.and_eq_true, Bool.and_eq_false_iff, Bool.or_eq_true, Bool.or_eq_false_iff, decide_eq_true_eq, decide_eq_false_iff_not, Bool.not_eq_true', Bool.not_eq_false', Bool.not_true, Bool.not_false, Int.not_lt, Int.not_le] at hq); (try (exfalso; omega))))) | (((with_reducible apply rx_bin); (case hx | hy => rfl); (case h | hN => rfl))) | ((with_reducible apply rx_assign); (case hx | hN => rfl)) | (first | ((with_reducible apply rx_pickT); (case hc => rfl); (case hb => (assumption)); (case hx | hN => rfl)) | ((with_reducible apply rx_pickF); (case hc => rfl); (case hb => (assumption)); (case hx | hN => rfl))) | (((with_reducible apply rx_indexF); (case hx | hi => rfl); (case hm => ((omega))); (case hml => ((rfl))); (case hα => infer_instance); (case hf => infer_instance); (case hg => infer_instance); (case hN => rfl))) | (((with_reducible apply rx_len); (case hx | hn | hN => rfl))) | ((with_reducible apply rw_nil); (case hf => kernel_rfl))) | ((with_reducible apply id_aw); first | with_reducible apply aw_seq | with_reducible apply aw_region | ((with_reducible apply aw_condT); (case hc => rfl); (case hb => (rfl))) | ((with_reducible apply aw_cond); (case hc => rfl); all_goals (intro hc; have hq := hc; (try simp only [Bool.and_eq_true, Bool.and_eq_false_iff, Bool.or_eq_true, Bool.or_eq_false_iff, decide_eq_true_eq, decide_eq_false_iff_not, Bool.not_eq_true', Bool.not_eq_false', Bool.not_true, Bool.not_false, Int.not_lt, Int.not_le] at hq); (try (exfalso; omega)))) | with_reducible apply aw_skip | with_reducible apply aw_ret) | with_reducible apply tq_normal | with_reducible apply tq_ret | ((with_reducible apply rq_ret); case hr => rfl))
  all_goals (refine ⟨?_, rfl⟩; simp only [oneOf, AV.v.injEq, Value.bool.injEq, Value.int.injEq, true_and])
  all_goals grind [typeAt]
-- impl.typeOf
theorem typeOf_c (ts : List Int) (v : Int) (hl : ts.length ≤ 1000000) : PC Tryz.prog 97 [sl cI ts, iv v] (fun r => r = iv (typeAt ts v)) := by
  (refine pc_of_aw Tryz.func97 rfl (by simp [Tryz.ntmps97]) ?_; rw [Tryz.ntmps97])
  repeat' (first | ((with_reducible apply id_rw); first | ((with_reducible apply rx_move); (case hx | hN => rfl)) | (((with_reducible apply rx_load1); (case hx | hd => rfl); (case hc | hN => rfl))) | (((with_reducible apply rx_sub); (case hx | hy => rfl); (case h => omega); (case hN => rfl))) | ((with_reducible apply rx_assign); (case hx | hN => rfl)) | (((with_reducible apply rx_indexF); (case hx | hi => rfl); (case hm => ((omega))); (case hml => ((rfl))); (case hα => infer_instance); (case hf => infer_instance); (case hg => infer_instance); (case hN => rfl))) | (((with_reducible apply rx_callE (k := 33)); (case ha => rfl); (case h => (apply within_c <;> (fail))); (case hp => (rfl)); (case hN => rfl))) | (((with_reducible apply rx_len); (case hx | hn | hN => rfl))) | ((with_reducible apply rw_nil); (case hf => kernel_rfl)) | ((with_reducible apply rx_not); (case hx | hN => rfl))) | ((with_reducible apply id_aw); first | with_reducible apply aw_seq | with_reducible apply aw_region | ((with_reducible apply aw_cond); (case hc => rfl); all_goals (intro hc; have hq := hc; (try simp only [Bool.and_eq_true, Bool.and_eq_false_iff, Bool.or_eq_true, Bool.or_eq_false_iff, decide_eq_true_eq, decide_eq_false_iff_not, Bool.not_eq_true', Bool.not_eq_false', Bool.not_true, Bool.not_false, Int.not_lt, Int.not_le] at hq); (try (exfalso; omega)))) | with_reducible apply aw_skip | with_reducible apply aw_ret) | with_reducible apply tq_normal | with_reducible apply tq_ret | ((with_reducible apply rq_ret); case hr => rfl))
  all_goals (refine ⟨?_, rfl⟩; simp only [oneOf, AV.v.injEq, Value.bool.injEq, Value.int.injEq, true_and])
  all_goals grind [typeAt]
-- impl.simpleOk
theorem simpleOk_c (ts : List Int) (s : AL.Stmt) (hl : typesOk ts = true) : PC Tryz.prog 79 [sl cI ts, aStmt s] (fun r => r = bv (s.th.isEmpty && s.el.isEmpty && simpleF ts s)) := by
  have hl2 := typesOk_len hl
  have hx := typeAt_bd hl s.x
  have hy := typeAt_bd hl s.y
  (refine pc_of_aw Tryz.func79 rfl (by simp [Tryz.ntmps79]) ?_; rw [Tryz.ntmps79])
  repeat' (first | ((with_reducible apply id_rw); first | ((with_reducible apply rx_move); (case hx | hN => rfl)) | (((with_reducible apply rx_load1); (case hx | hd => rfl); (case hc | hN => rfl))) | ((with_reducible apply rx_fieldAddr); (case hx | hp | hN => rfl)) | (first | ((with_reducible apply rx_guardU); (case hj | hb | hN => rfl)) | ((with_reducible apply rx_guardY); (case hj | hb | hN => rfl); (case hw => first | rfl | assumption)) | ((with_reducible apply rx_guardNs); (case hj | hb | hN => rfl); (case hw => first | rfl | assumption)) | ((with_reducible apply rx_guardS); (case hj | hb | hN => rfl); all_goals (intro hg; have hq := hg; (try simp only [Bool.and_eq_true, Bool.and_eq_false_iff, Bool.or_eq_true, Bool.or_eq_false_iff, decide_eq_true_eq, decide_eq_false_iff_not, Bool.not_eq_true', Bool.not_eq_false', Bool.not_true, Bool.not_false, Int.not_lt, Int.not_le] at hq); (try (exfalso; omega))))) | (((with_reducible apply rx_bin); (case hx | hy => rfl); (case h | hN => rfl))) | ((with_reducible apply rx_assign); (case hx | hN => rfl)) | (first | ((with_reducible apply rx_pickT); (case hc => rfl); (case hb => first | rfl | assumption); (case hx | hN => rfl)) | ((with_reducible apply rx_pickF); (case hc => rfl); (case hb => first | rfl | assumption); (case hx | hN => rfl))) | (first | ((with_reducible apply rx_callE (k := 33)); (case ha => rfl); (case h => (apply within_c <;> (fail))); (case hp => (rfl)); (case hN => rfl)) | ((with_reducible apply rx_callE (k := 97)); (case ha => rfl); (case h => (apply typeOf_c <;> ((omega)))); (case hp => (exact Pur.pf)); (case hN => rfl)) | ((with_reducible apply rx_callE (k := 98)); (case ha => rfl); (case h => (apply isHolder_c <;> (fail))); (case hp => (rfl)); (case hN => rfl))) | (((with_reducible apply rx_len); (case hx | hn | hN => rfl))) | ((with_reducible apply rw_nil); (case hf => kernel_rfl)) | ((with_reducible apply rx_not); (case hx | hN => rfl)) | ((with_reducible apply rx_box); (case hx | hc => rfl); (case hM | hN => rfl))) | ((with_reducible apply id_aw); first | with_reducible apply aw_seq | with_reducible apply aw_region | ((with_reducible apply aw_draw); (case hm => kernel_rfl)) | ((with_reducible apply aw_condT); (case hc => rfl); (case hb => first | rfl | assumption)) | ((with_reducible apply aw_condF); (case hc => rfl); (case hb => (assumption))) | ((with_reducible apply aw_cond); (case hc => rfl); all_goals (intro hc; have hq := hc; (try simp only [Bool.and_eq_true, Bool.and_eq_false_iff, Bool.or_eq_true, Bool.or_eq_false_iff, decide_eq_true_eq, decide_eq_false_iff_not, Bool.not_eq_true', Bool.not_eq_false', Bool.not_true, Bool.not_false, Int.not_lt, Int.not_le] at hq); (try (exfalso; omega)))) | with_reducible apply aw_block | with_reducible apply aw_skip | with_reducible apply aw_ret) | with_reducible apply tq_normal | with_reducible apply tq_ret | with_reducible apply bq_normal | with_reducible apply bq_ret | ((with_reducible apply rq_ret); case hr => rfl))
  all_goals (refine ⟨?_, rfl⟩; simp only [oneOf, AV.v.injEq, Value.bool.injEq, Value.int.injEq, true_and])
  all_goals (cases hth : s.th <;> cases hel : s.el <;> simp only [hth, hel, List.length_nil, List.length_cons, List.isEmpty_nil, List.isEmpty_cons, Bool.true_and, Bool.false_and] at *)
  all_goals (try unfold simpleF)
  all_goals (try simp only [isRef, Bool.or_eq_true, Bool.or_eq_false_iff, decide_eq_true_eq, decide_eq_false_iff_not] at *)
  all_goals grind
end Go.Proofs.YtjebhaeihokgmaaGreat

namespace Go.Proofs.YtjebhaeihokgmaaGreat
open Go.AL
set_option linter.unusedSimpArgs false
set_option linter.unusedVariables false
set_option maxHeartbeats 4000000

-- spec.l1Simple
theorem l1Simple_c (ts : List Int) (s : AL.Stmt) (hl : typesOk ts = true) : PC Tryz.prog 93 [sl cI ts, aStmt s] (fun r => r = bv (simpleF ts s)) := by
  have hl2 := typesOk_len hl
  have hx := typeAt_bd hl s.x
  have hy := typeAt_bd hl s.y
  (refine pc_of_aw Tryz.func93 rfl (by simp [Tryz.ntmps93]) ?_; rw [Tryz.ntmps93])
  repeat' (first | ((with_reducible apply id_rw); first | ((with_reducible apply rx_move); (case hx | hN => rfl)) | (((with_reducible apply rx_load1); (case hx | hd => rfl); (case hc | hN => rfl))) | ((with_reducible apply rx_fieldAddr); (case hx | hp | hN => rfl)) | (first | ((with_reducible apply rx_guardU); (case hj | hb | hN => rfl)) | ((with_reducible apply rx_guardY); (case hj | hb | hN => rfl); (case hw => first | rfl | assumption)) | ((with_reducible apply rx_guardNs); (case hj | hb | hN => rfl); (case hw => first | rfl | assumption)) | ((with_reducible apply rx_guardS); (case hj | hb | hN => rfl); all_goals (intro hg; have hq := hg; (try simp only [Bool.and_eq_true, Bool.and_eq_false_iff, Bool.or_eq_true, Bool.or_eq_false_iff, decide_eq_true_eq, decide_eq_false_iff_not, Bool.not_eq_true', Bool.not_eq_false', Bool.not_true, Bool.not_false, Int.not_lt, Int.not_le] at hq); (try (exfalso; omega))))) | (((with_reducible apply rx_bin); (case hx | hy => rfl); (case h | hN => rfl))) | ((with_reducible apply rx_assign); (case hx | hN => rfl)) | (first | ((with_reducible apply rx_pickT); (case hc => rfl); (case hb => first | rfl | assumption); (case hx | hN => rfl)) | ((with_reducible apply rx_pickF); (case hc => rfl); (case hb => first | rfl | assumption); (case hx | hN => rfl))) | (((with_reducible apply rx_callE (k := 107)); (case ha => rfl); (case h => (apply l1Type_c <;> (fail))); (case hp => (exact Pur.pf)); (case hN => rfl))) | ((with_reducible apply rw_nil); (case hf => kernel_rfl)) | ((with_reducible apply rx_box); (case hx | hc => rfl); (case hM | hN => rfl))) | ((with_reducible apply id_aw); first | with_reducible apply aw_seq | with_reducible apply aw_region | ((with_reducible apply aw_condF); (case hc => rfl); (case hb => (rfl))) | ((with_reducible apply aw_cond); (case hc => rfl); all_goals (intro hc; have hq := hc; (try simp only [Bool.and_eq_true, Bool.and_eq_false_iff, Bool.or_eq_true, Bool.or_eq_false_iff, decide_eq_true_eq, decide_eq_false_iff_not, Bool.not_eq_true', Bool.not_eq_false', Bool.not_true, Bool.not_false, Int.not_lt, Int.not_le] at hq); (try (exfalso; omega)))) | with_reducible apply aw_block | with_reducible apply aw_skip | with_reducible apply aw_ret) | with_reducible apply tq_normal | with_reducible apply tq_ret | with_reducible apply bq_normal | with_reducible apply bq_ret | ((with_reducible apply rq_ret); case hr => rfl))
  all_goals (refine ⟨?_, rfl⟩; simp only [oneOf, AV.v.injEq, Value.bool.injEq, Value.int.injEq, true_and])
  all_goals (try unfold simpleF)
  all_goals grind
end Go.Proofs.YtjebhaeihokgmaaGreat

namespace Go.Proofs.YtjebhaeihokgmaaGreat
open Go.AL
set_option linter.unusedSimpArgs false
set_option linter.unusedVariables false
set_option maxHeartbeats 4000000

-- spec.l1Stmt

theorem l1Stmt_c0 (ts : List Int) (hl : typesOk ts = true) (m : Nat) (ih : ∀ l (d : Int), cntL l < m → 0 ≤ d → d ≤ 1000 → PC Tryz.prog 39 [sl cI ts, sl cStmt l, iv d] (fun r => r = bv (okL ts d.toNat l))) (s : AL.Stmt) (d : Int) (hs : cntS s ≤ m) (hd0 : 0 ≤ d) (hd : d ≤ 1000) :
    PC Tryz.prog 68 [sl cI ts, aStmt s, iv d] (fun r => r = bv (okS ts d.toNat s)) := by
  rw [okS_int ts d hd0]
  (refine pc_of_aw Tryz.func68 rfl (by simp [Tryz.ntmps68]) ?_; rw [Tryz.ntmps68])
  repeat' (first | ((with_reducible apply id_rw); first | ((with_reducible apply rx_move); (case hx | hN => rfl)) | (first | ((with_reducible apply rx_load1); (case hx | hd => rfl); (case hc | hN => rfl)) | ((with_reducible apply rx_loadA); (case hx | hd => rfl); (case hc => ((exact (rfl : _ = [_, _, _, _, _, _])))); (case hn | h0 | hN => rfl))) | ((with_reducible apply rx_fieldAddr); (case hx | hp | hN => rfl)) | (first | ((with_reducible apply rx_guardU); (case hj | hb | hN => rfl)) | ((with_reducible apply rx_guardY); (case hj | hb | hN => rfl); (case hw => (assumption))) | ((with_reducible apply rx_guardNs); (case hj | hb | hN => rfl); (case hw => first | rfl | assumption)) | ((with_reducible apply rx_guardS); (case hj | hb | hN => rfl); all_goals (intro hg; have hq := hg; (try simp only [Bool.and_eq_true, Bool.and_eq_false_iff, Bool.or_eq_true, Bool.or_eq_false_iff, decide_eq_true_eq, decide_eq_false_iff_not, Bool.not_eq_true', Bool.not_eq_false', Bool.not_true, Bool.not_false, Int.not_lt, Int.not_le] at hq); (try (exfalso; omega))))) | (first | ((with_reducible apply rx_sub); (case hx | hy => rfl); (case h => omega); (case hN => rfl)) | ((with_reducible apply rx_bin); (case hx | hy => rfl); (case h | hN => rfl))) | ((with_reducible apply rx_assign); (case hx | hN => rfl)) | (first | ((with_reducible apply rx_pickT); (case hc => rfl); (case hb => first | rfl | assumption); (case hx | hN => rfl)) | ((with_reducible apply rx_pickF); (case hc => rfl); (case hb => first | rfl | assumption); (case hx | hN => rfl))) | (first | ((with_reducible apply rx_callE (k := 39)); (case ha => rfl); (case h => (apply ih <;> (first | omega | (have := cnt_th s; omega)))); (case hp => (exact Pur.pf)); (case hN => rfl)) | ((with_reducible apply rx_callE (k := 93)); (case ha => rfl); (case h => (apply l1Simple_c <;> ((assumption)))); (case hp => (exact Pur.pf)); (case hN => rfl))) | (((with_reducible apply rx_len); (case hx | hn | hN => rfl))) | ((with_reducible apply rw_nil); (case hf => kernel_rfl)) | ((with_reducible apply rx_box); (case hx | hc => rfl); (case hM | hN => rfl))) | ((with_reducible apply id_aw); first | with_reducible apply aw_seq | with_reducible apply aw_region | ((with_reducible apply aw_condT); (case hc => rfl); (case hb => (rfl))) | ((with_reducible apply aw_condF); (case hc => rfl); (case hb => (rfl))) | ((with_reducible apply aw_cond); (case hc => rfl); all_goals (intro hc; have hq := hc; (try simp only [Bool.and_eq_true, Bool.and_eq_false_iff, Bool.or_eq_true, Bool.or_eq_false_iff, decide_eq_true_eq, decide_eq_false_iff_not, Bool.not_eq_true', Bool.not_eq_false', Bool.not_true, Bool.not_false, Int.not_lt, Int.not_le] at hq); (try (exfalso; omega)))) | with_reducible apply aw_skip | with_reducible apply aw_ret) | with_reducible apply tq_normal | with_reducible apply tq_ret | ((with_reducible apply rq_ret); case hr => rfl))
  all_goals (refine ⟨?_, rfl⟩; simp only [oneOf, AV.v.injEq, Value.bool.injEq, Value.int.injEq, true_and])
  all_goals (cases hth : s.th <;> cases hel : s.el <;> simp only [hth, hel, List.length_nil, List.length_cons, List.isEmpty_nil, List.isEmpty_cons, Bool.true_and, Bool.false_and] at *)
  all_goals grind
-- spec.l1Body
theorem l1Body_c0 (ts : List Int) (hl : typesOk ts = true) (m : Nat) (ih : ∀ s (d : Int), cntS s ≤ m → 0 ≤ d → d ≤ 1000 → PC Tryz.prog 68 [sl cI ts, aStmt s, iv d] (fun r => r = bv (okS ts d.toNat s))) (l : List AL.Stmt) (d : Int) (hs : cntL l ≤ m) (hm : m ≤ 100000000) (hd0 : 0 ≤ d) (hd : d ≤ 1000) :
    PC Tryz.prog 39 [sl cI ts, sl cStmt l, iv d] (fun r => r = bv (okL ts d.toNat l)) := by
  have hlen := cntL_len l
  (refine pc_of_aw Tryz.func39 rfl (by simp [Tryz.ntmps39]) ?_; rw [Tryz.ntmps39])
  repeat' (first | ((with_reducible apply id_rw); first | ((with_reducible apply rx_assign); (case hx | hN => rfl)) | ((with_reducible apply rw_nil); (case hf => kernel_rfl))) | ((with_reducible apply id_aw); first | with_reducible apply aw_seq | with_reducible apply aw_region | with_reducible apply aw_block) | with_reducible apply tq_normal)
  refine aw_loopK (σ := Nat) [0, 1, 2] [(0, _), (1, _), (2, _)] [] [] (fun k => [(7, iv (k : Int))]) (fun k => []) (fun k => k ≤ l.length ∧ ∀ i, i < k → okS ts d.toNat l[i]! = true) (fun k => l.length - k) (0) ⟨by omega, by omega⟩ rfl rfl (by repeat' (first | exact trivial | refine And.intro rfl ?_)) (by repeat' ((exact trivial))) ?_
  intro k ⟨hk, hall⟩
  have hck := cntL_at l k
  repeat' (first | ((with_reducible apply id_rw); first | ((with_reducible apply rx_callE (k := 68)); (case ha => rfl); (case h => (apply ih _ d (Nat.le_trans (hck (by omega)) hs) hd0 hd)); (case hp => (exact Pur.pf)); (case hN => rfl)) | ((with_reducible apply rx_move); (case hx | hN => rfl)) | (((with_reducible apply rx_loadA); (case hx | hd => rfl); (case hc => ((exact (rfl : _ = [_, _, _, _, _, _])))); (case hn | h0 | hN => rfl))) | (first | ((with_reducible apply rx_add); (case hx | hy => rfl); (case h => omega); (case hN => rfl)) | ((with_reducible apply rx_bin); (case hx | hy => rfl); (case h | hN => rfl))) | ((with_reducible apply rx_assign); (case hx | hN => rfl)) | (((with_reducible apply rx_indexFN); (case hx | hi => rfl); (case hm => ((omega))); (case hml => ((rfl))); (case hα => infer_instance); (case hf => infer_instance); (case hg => infer_instance); (case hN => rfl))) | (((with_reducible apply rx_len); (case hx | hn | hN => rfl))) | ((with_reducible apply rw_nil); (case hf => kernel_rfl)) | ((with_reducible apply rx_not); (case hx | hN => rfl))) | ((with_reducible apply id_aw); first | with_reducible apply aw_seq | with_reducible apply aw_region | ((with_reducible apply aw_cond); (case hc => rfl); all_goals (intro hc; have hq := hc; (try simp only [Bool.and_eq_true, Bool.and_eq_false_iff, Bool.or_eq_true, Bool.or_eq_false_iff, decide_eq_true_eq, decide_eq_false_iff_not, Bool.not_eq_true', Bool.not_eq_false', Bool.not_true, Bool.not_false, Int.not_lt, Int.not_le] at hq); (try (exfalso; omega)))) | with_reducible apply aw_block | with_reducible apply aw_skip | with_reducible apply aw_exit | with_reducible apply aw_ret) | with_reducible apply tq_normal | with_reducible apply tq_ret | with_reducible apply tq_exit | with_reducible apply bq_normal | with_reducible apply bq_ret | with_reducible apply bq_here | ((with_reducible apply rq_ret); case hr => rfl))
  · (refine ⟨?_, rfl⟩; simp only [oneOf, AV.v.injEq, Value.bool.injEq, Value.int.injEq, true_and])
    rw [okL_take (k := k) (by omega) hq]
  · (apply Exists.intro (k + 1); refine And.intro ?_ (And.intro ?_ ?_); rotate_left 2; focus (refine Le.ren [] rfl (by decide) ?_ ?_ <;> repeat' (first | exact trivial | refine And.intro ⟨_, rfl, ?_⟩ ?_ | refine Or.inl ⟨?_, (by first | rfl | exact pur_sl _ _)⟩ | rfl)))
    · grind
    · omega
  · (refine ⟨?_, rfl⟩; simp only [oneOf, AV.v.injEq, Value.bool.injEq, Value.int.injEq, true_and])
    rw [okL_all (fun i hi => hall i (by omega))]
theorem l1_both (ts : List Int) (hl : typesOk ts = true) : ∀ (m : Nat), m ≤ 100000000 → (∀ s (d : Int), cntS s ≤ m → 0 ≤ d → d ≤ 1000 → PC Tryz.prog 68 [sl cI ts, aStmt s, iv d] (fun r => r = bv (okS ts d.toNat s))) ∧
    (∀ l (d : Int), cntL l ≤ m → 0 ≤ d → d ≤ 1000 → PC Tryz.prog 39 [sl cI ts, sl cStmt l, iv d] (fun r => r = bv (okL ts d.toNat l))) := by
  intro m
  induction m using Nat.strongRecOn with
  | ind m ih =>
    intro hm
    have h1 : ∀ s (d : Int), cntS s ≤ m → 0 ≤ d → d ≤ 1000 → PC Tryz.prog 68 [sl cI ts, aStmt s, iv d] (fun r => r = bv (okS ts d.toNat s)) :=
      fun s d h1 h2 h3 => l1Stmt_c0 ts hl m (fun l d' g1 g2 g3 => (ih (cntL l) g1 (by omega)).2 l d' (Nat.le_refl _) g2 g3) s d h1 h2 h3
    exact ⟨h1, fun l d g1 g2 g3 => l1Body_c0 ts hl m h1 l d g1 hm g2 g3⟩
-- spec.l1Count
theorem l1Count_c0 (m0 : Nat) (ih : ∀ l (most : Int), cntL l < m0 → -1 ≤ most → most ≤ 1000 → PC Tryz.prog 40 [sl cStmt l, iv most] (fun r => r = iv (lcL most 0 l))) (l : List AL.Stmt) (most : Int) (hs : cntL l ≤ m0) (hm : m0 ≤ 100000000) (hd0 : -1 ≤ most) (hd : most ≤ 1000) :
    PC Tryz.prog 40 [sl cStmt l, iv most] (fun r => r = iv (lcL most 0 l)) := by
  have hlen := cntL_len l
  have hall := lcL_bd l most 0
  (refine pc_of_aw Tryz.func40 rfl (by simp [Tryz.ntmps40]) ?_; rw [Tryz.ntmps40])
  repeat' (first | ((with_reducible apply id_rw); first | ((with_reducible apply rx_assign); (case hx | hN => rfl)) | ((with_reducible apply rw_nil); (case hf => kernel_rfl))) | ((with_reducible apply id_aw); first | with_reducible apply aw_seq | with_reducible apply aw_region | with_reducible apply aw_block) | with_reducible apply tq_normal)
  refine aw_loopK (σ := Nat × Int) [0, 1] [(0, _), (1, _)] [] [] (fun k => [(6, iv (k.1 : Int)), (5, iv k.2)]) (fun k => []) (fun k => k.1 ≤ l.length ∧ lcL most k.2 (l.drop k.1) = lcL most 0 l ∧ 0 ≤ k.2 ∧ k.2 ≤ cntL l) (fun k => l.length - k.1) (0, 0) ⟨by omega, rfl, by omega, by omega⟩ rfl rfl (by repeat' (first | exact trivial | refine And.intro rfl ?_)) (by repeat' ((exact trivial))) ?_
  rintro ⟨k, n⟩ ⟨hk, hn, hn0, hn1⟩
  dsimp only at hk hn hn0 hn1 ⊢
  have hck := cntL_at l k
  have hct := cnt_th l[k]!
  have b1 := lcL_bd l[k]!.th (most - n) 0
  have b2 := fun z => lcL_bd l[k]!.el z 0
  have b3 := lcS_bd l[k]! most n
  have b4 := lcL_bd (l.drop (k + 1)) most (lcS most n l[k]!)
  have b5 := lcL_drop most n l k
  rw [lcS_def] at b3 b4 b5
  repeat' (first | ((with_reducible apply id_rw); first | ((with_reducible apply rx_callE (k := 40)); (case ha => rfl); (case h => (apply ih <;> omega)); (case hp => (exact Pur.pf)); (case hN => rfl)) | ((with_reducible apply rx_move); (case hx | hN => rfl)) | (((with_reducible apply rx_load1); (case hx | hd => rfl); (case hc | hN => rfl))) | ((with_reducible apply rx_fieldAddr); (case hx | hp | hN => rfl)) | (first | ((with_reducible apply rx_guardY); (case hj | hb | hN => rfl); (case hw => (assumption))) | ((with_reducible apply rx_guardNs); (case hj | hb | hN => rfl); (case hw => (assumption))) | ((with_reducible apply rx_guardS); (case hj | hb | hN => rfl); all_goals (intro hg; have hq := hg; (try simp only [Bool.and_eq_true, Bool.and_eq_false_iff, Bool.or_eq_true, Bool.or_eq_false_iff, decide_eq_true_eq, decide_eq_false_iff_not, Bool.not_eq_true', Bool.not_eq_false', Bool.not_true, Bool.not_false, Int.not_lt, Int.not_le] at hq); (try (exfalso; omega))))) | (first | ((with_reducible apply rx_add); (case hx | hy => rfl); (case h => omega); (case hN => rfl)) | ((with_reducible apply rx_sub); (case hx | hy => rfl); (case h => omega); (case hN => rfl)) | ((with_reducible apply rx_bin); (case hx | hy => rfl); (case h | hN => rfl))) | ((with_reducible apply rx_assign); (case hx | hN => rfl)) | (first | ((with_reducible apply rx_pickT); (case hc => rfl); (case hb => (assumption)); (case hx | hN => rfl)) | ((with_reducible apply rx_pickF); (case hc => rfl); (case hb => (assumption)); (case hx | hN => rfl))) | (((with_reducible apply rx_indexFN); (case hx | hi => rfl); (case hm => ((omega))); (case hml => ((rfl))); (case hα => infer_instance); (case hf => infer_instance); (case hg => infer_instance); (case hN => rfl))) | (((with_reducible apply rx_len); (case hx | hn | hN => rfl))) | ((with_reducible apply rw_nil); (case hf => kernel_rfl))) | ((with_reducible apply id_aw); first | with_reducible apply aw_seq | with_reducible apply aw_region | ((with_reducible apply aw_condF); (case hc => rfl); (case hb => (rfl))) | ((with_reducible apply aw_cond); (case hc => rfl); all_goals (intro hc; have hq := hc; (try simp only [Bool.and_eq_true, Bool.and_eq_false_iff, Bool.or_eq_true, Bool.or_eq_false_iff, decide_eq_true_eq, decide_eq_false_iff_not, Bool.not_eq_true', Bool.not_eq_false', Bool.not_true, Bool.not_false, Int.not_lt, Int.not_le] at hq); (try (exfalso; omega)))) | with_reducible apply aw_block | with_reducible apply aw_skip | with_reducible apply aw_exit | with_reducible apply aw_ret) | with_reducible apply tq_normal | with_reducible apply tq_exit | with_reducible apply bq_normal | with_reducible apply bq_here | ((with_reducible apply rq_ret); case hr => rfl))
  · (apply Exists.intro (k + 1, n + 1 + lcL (most - n) 0 l[k]!.th + lcL (most - (n + 1 + lcL (most - n) 0 l[k]!.th)) 0 l[k]!.el); refine And.intro ?_ (And.intro ?_ ?_); rotate_left 2; focus (refine Le.ren [] rfl (by decide) ?_ ?_ <;> repeat' (first | exact trivial | refine And.intro ⟨_, rfl, ?_⟩ ?_ | refine Or.inl ⟨?_, (by first | rfl | exact pur_sl _ _)⟩ | rfl)))
    · dsimp only; grind
    · dsimp only; omega
  · (apply Exists.intro (k + 1, n + 1 + lcL (most - n) 0 l[k]!.th); refine And.intro ?_ (And.intro ?_ ?_); rotate_left 2; focus (refine Le.ren [] rfl (by decide) ?_ ?_ <;> repeat' (first | exact trivial | refine And.intro ⟨_, rfl, ?_⟩ ?_ | refine Or.inl ⟨?_, (by first | rfl | exact pur_sl _ _)⟩ | rfl)))
    · dsimp only; grind
    · dsimp only; omega
  · (refine ⟨?_, rfl⟩; simp only [oneOf, AV.v.injEq, Value.bool.injEq, Value.int.injEq, true_and])
    rw [← hn, lcL_stop _ _ _ (by omega)]
  · (refine ⟨?_, rfl⟩; simp only [oneOf, AV.v.injEq, Value.bool.injEq, Value.int.injEq, true_and])
    rw [← hn, lcL_end _ _ _ _ (by omega)]
theorem l1Count_c (l : List AL.Stmt) (most : Int) (hs : cntL l ≤ 100000000) (hd0 : -1 ≤ most) (hd : most ≤ 1000) :
    PC Tryz.prog 40 [sl cStmt l, iv most] (fun r => r = iv (lcL most 0 l)) := by
  have h : ∀ (m : Nat), m ≤ 100000000 → ∀ l (most : Int), cntL l ≤ m → -1 ≤ most → most ≤ 1000 → PC Tryz.prog 40 [sl cStmt l, iv most] (fun r => r = iv (lcL most 0 l)) := by
    intro m
    induction m using Nat.strongRecOn with
    | ind m ih =>
      intro hm l most h1 h2 h3
      exact l1Count_c0 m (fun l' most' g1 g2 g3 => ih _ g1 (by omega) l' most' (Nat.le_refl _) g2 g3) l most h1 hm h2 h3
  exact h _ hs l most (Nat.le_refl _) hd0 hd
-- spec.l1Body
theorem l1Body_c (ts : List Int) (l : List AL.Stmt) (d : Int) (hl : typesOk ts = true) (hs : cntL l ≤ 100000000) (hd0 : 0 ≤ d) (hd : d ≤ 1000) : PC Tryz.prog 39 [sl cI ts, sl cStmt l, iv d] (fun r => r = bv (okL ts d.toNat l)) :=
  (l1_both ts hl _ hs).2 l d (Nat.le_refl _) hd0 hd
-- spec.l1Types
theorem l1Types_c (ts : List Int) (hl : ts.length ≤ 1000000) : PC Tryz.prog 38 [sl cI ts] (fun r => r = bv (typesOk ts)) := by
  (refine pc_of_aw Tryz.func38 rfl (by simp [Tryz.ntmps38]) ?_; rw [Tryz.ntmps38])
  repeat' (first | ((with_reducible apply id_rw); first | ((with_reducible apply rx_assign); (case hx | hN => rfl)) | ((with_reducible apply rw_nil); (case hf => kernel_rfl))) | ((with_reducible apply id_aw); first | with_reducible apply aw_seq | with_reducible apply aw_region | with_reducible apply aw_block) | with_reducible apply tq_normal)
  refine aw_loopK (σ := Nat) [0] [(0, _)] [] [] (fun k => [(3, iv (k : Int))]) (fun k => []) (fun k => k ≤ ts.length ∧ ∀ i, i < k → 1 ≤ ts[i]! ∧ ts[i]! ≤ 4) (fun k => ts.length - k) (0) ⟨by omega, by omega⟩ rfl rfl (by repeat' (first | exact trivial | refine And.intro rfl ?_)) (by repeat' ((exact trivial))) ?_
  intro k ⟨hk, hall⟩
  repeat' (first | ((with_reducible apply id_rw); first | ((with_reducible apply rx_move); (case hx | hN => rfl)) | (((with_reducible apply rx_load1); (case hx | hd => rfl); (case hc | hN => rfl))) | (first | ((with_reducible apply rx_guardY); (case hj | hb | hN => rfl); (case hw => (assumption))) | ((with_reducible apply rx_guardNs); (case hj | hb | hN => rfl); (case hw => (assumption))) | ((with_reducible apply rx_guardS); (case hj | hb | hN => rfl); all_goals (intro hg; have hq := hg; (try simp only [Bool.and_eq_true, Bool.and_eq_false_iff, Bool.or_eq_true, Bool.or_eq_false_iff, decide_eq_true_eq, decide_eq_false_iff_not, Bool.not_eq_true', Bool.not_eq_false', Bool.not_true, Bool.not_false, Int.not_lt, Int.not_le] at hq); (try (exfalso; omega))))) | (first | ((with_reducible apply rx_add); (case hx | hy => rfl); (case h => omega); (case hN => rfl)) | ((with_reducible apply rx_bin); (case hx | hy => rfl); (case h | hN => rfl))) | ((with_reducible apply rx_assign); (case hx | hN => rfl)) | (first | ((with_reducible apply rx_pickT); (case hc => rfl); (case hb => (assumption)); (case hx | hN => rfl)) | ((with_reducible apply rx_pickF); (case hc => rfl); (case hb => (assumption)); (case hx | hN => rfl))) | (((with_reducible apply rx_indexFN); (case hx | hi => rfl); (case hm => ((omega))); (case hml => ((rfl))); (case hα => infer_instance); (case hf => infer_instance); (case hg => infer_instance); (case hN => rfl))) | (((with_reducible apply rx_len); (case hx | hn | hN => rfl))) | ((with_reducible apply rw_nil); (case hf => kernel_rfl))) | ((with_reducible apply id_aw); first | with_reducible apply aw_seq | with_reducible apply aw_region | ((with_reducible apply aw_condT); (case hc => rfl); (case hb => (rfl))) | ((with_reducible apply aw_cond); (case hc => rfl); all_goals (intro hc; have hq := hc; (try simp only [Bool.and_eq_true, Bool.and_eq_false_iff, Bool.or_eq_true, Bool.or_eq_false_iff, decide_eq_true_eq, decide_eq_false_iff_not, Bool.not_eq_true', Bool.not_eq_false', Bool.not_true, Bool.not_false, Int.not_lt, Int.not_le] at hq); (try (exfalso; omega)))) | with_reducible apply aw_block | with_reducible apply aw_skip | with_reducible apply aw_exit | with_reducible apply aw_ret) | with_reducible apply tq_normal | with_reducible apply tq_ret | with_reducible apply tq_exit | with_reducible apply bq_normal | with_reducible apply bq_ret | with_reducible apply bq_here | ((with_reducible apply rq_ret); case hr => rfl))
  · (refine ⟨?_, rfl⟩; simp only [oneOf, AV.v.injEq, Value.bool.injEq, Value.int.injEq, true_and])
    unfold typesOk; grind [all_false, all_iff]
  · (apply Exists.intro (k + 1); refine And.intro ?_ (And.intro ?_ ?_); rotate_left 2; focus (refine Le.ren [] rfl (by decide) ?_ ?_ <;> repeat' (first | exact trivial | refine And.intro ⟨_, rfl, ?_⟩ ?_ | refine Or.inl ⟨?_, (by first | rfl | exact pur_sl _ _)⟩ | rfl)))
    · grind
    · omega
  · (refine ⟨?_, rfl⟩; simp only [oneOf, AV.v.injEq, Value.bool.injEq, Value.int.injEq, true_and])
    unfold typesOk; grind [all_false, all_iff]
  · (refine ⟨?_, rfl⟩; simp only [oneOf, AV.v.injEq, Value.bool.injEq, Value.int.injEq, true_and])
    unfold typesOk; grind [all_false, all_iff]
-- spec.ProgramValid
theorem validS_c (p : Prg) (hl : p.types.length ≤ 1000000) (hs : cntL p.body ≤ 100000000) : PC Tryz.prog 21 [aPrg p] (fun r => r = bv (validF p)) := by
  unfold validF
  cases ht : typesOk p.types
  · (refine pc_of_aw Tryz.func21 rfl (by simp [Tryz.ntmps21]) ?_; rw [Tryz.ntmps21])
    repeat' (first | ((with_reducible apply id_rw); first | ((with_reducible apply rx_move); (case hx | hN => rfl)) | (((with_reducible apply rx_load1); (case hx | hd => rfl); (case hc | hN => rfl))) | ((with_reducible apply rx_fieldAddr); (case hx | hp | hN => rfl)) | (((with_reducible apply rx_guardNs); (case hj | hb | hN => rfl); (case hw => first | rfl | assumption))) | ((with_reducible apply rx_assign); (case hx | hN => rfl)) | (((with_reducible apply rx_pickF); (case hc => rfl); (case hb => first | rfl | assumption); (case hx | hN => rfl))) | (((with_reducible apply rx_callE (k := 38)); (case ha => rfl); (case h => (apply l1Types_c <;> ((assumption)))); (case hp => (exact Pur.pf)); (case hN => rfl))) | ((with_reducible apply rw_nil); (case hf => kernel_rfl)) | ((with_reducible apply rx_box); (case hx | hc => rfl); (case hM | hN => rfl))) | ((with_reducible apply id_aw); first | with_reducible apply aw_seq | with_reducible apply aw_region | with_reducible apply aw_ret) | with_reducible apply tq_normal | ((with_reducible apply rq_ret); case hr => rfl))
    (refine ⟨?_, rfl⟩; simp only [oneOf, AV.v.injEq, Value.bool.injEq, Value.int.injEq, true_and])
    rfl
  · (refine pc_of_aw Tryz.func21 rfl (by simp [Tryz.ntmps21]) ?_; rw [Tryz.ntmps21])
    repeat' (first | ((with_reducible apply id_rw); first | ((with_reducible apply rx_move); (case hx | hN => rfl)) | (((with_reducible apply rx_load1); (case hx | hd => rfl); (case hc | hN => rfl))) | ((with_reducible apply rx_fieldAddr); (case hx | hp | hN => rfl)) | (first | ((with_reducible apply rx_guardY); (case hj | hb | hN => rfl); (case hw => (assumption))) | ((with_reducible apply rx_guardNs); (case hj | hb | hN => rfl); (case hw => (assumption))) | ((with_reducible apply rx_guardS); (case hj | hb | hN => rfl); all_goals (intro hg; have hq := hg; (try simp only [Bool.and_eq_true, Bool.and_eq_false_iff, Bool.or_eq_true, Bool.or_eq_false_iff, decide_eq_true_eq, decide_eq_false_iff_not, Bool.not_eq_true', Bool.not_eq_false', Bool.not_true, Bool.not_false, Int.not_lt, Int.not_le] at hq); (try (exfalso; omega))))) | (((with_reducible apply rx_bin); (case hx | hy => rfl); (case h | hN => rfl))) | ((with_reducible apply rx_assign); (case hx | hN => rfl)) | (first | ((with_reducible apply rx_pickT); (case hc => rfl); (case hb => (assumption)); (case hx | hN => rfl)) | ((with_reducible apply rx_pickF); (case hc => rfl); (case hb => (assumption)); (case hx | hN => rfl))) | (first | ((with_reducible apply rx_callE (k := 38)); (case ha => rfl); (case h => (apply l1Types_c <;> ((assumption)))); (case hp => (exact Pur.pf)); (case hN => rfl)) | ((with_reducible apply rx_callE (k := 39)); (case ha => rfl); (case h => (apply l1Body_c <;> (first | assumption | omega))); (case hp => (exact Pur.pf)); (case hN => rfl)) | ((with_reducible apply rx_callE (k := 40)); (case ha => rfl); (case h => (apply l1Count_c <;> (first | assumption | omega))); (case hp => (exact Pur.pf)); (case hN => rfl))) | ((with_reducible apply rw_nil); (case hf => kernel_rfl)) | ((with_reducible apply rx_box); (case hx | hc => rfl); (case hM | hN => rfl))) | ((with_reducible apply id_aw); first | with_reducible apply aw_seq | with_reducible apply aw_region | with_reducible apply aw_ret) | with_reducible apply tq_normal | ((with_reducible apply rq_ret); case hr => rfl))
    · (refine ⟨?_, rfl⟩; simp only [oneOf, AV.v.injEq, Value.bool.injEq, Value.int.injEq, true_and])
      rw [show okL p.types 4 p.body = true from hq]; simp only [Bool.true_and, lcL_le, decide_eq_decide]; omega
    · (refine ⟨?_, rfl⟩; simp only [oneOf, AV.v.injEq, Value.bool.injEq, Value.int.injEq, true_and])
      rw [show okL p.types 4 p.body = false from hq]; rfl
end Go.Proofs.YtjebhaeihokgmaaGreat

namespace Go.Proofs.YtjebhaeihokgmaaGreat
open Go.AL Go.RowKit
set_option linter.unusedSimpArgs false
set_option linter.unusedVariables false
set_option maxHeartbeats 4000000

theorem rx_scan {ts : List Int} {s : AL.Stmt} {nest c : Int} {N : Nat} {Q : Exit → AS → Prop} {all : Array Oper} {rest : List Oper} {tsl : List (Nat × AV)} {hsl : List (Nat × Option (List AV))} {nidl : Nat} {z0 : Lo} {md : Md} {d : Nat} {ty : TypeId} {pos : String} {af : Array Edge} {tys : Array TypeId} {x0 x1 x2 x3 : Operand} {i0 : Nat} (ha0 : ev (lk tsl) x0 = some (sl cI ts)) (ha1 : ev (lk tsl) x1 = some (aStmt s)) (ha2 : ev (lk tsl) x2 = some (iv nest)) (ha3 : ev (lk tsl) x3 = some (.optr i0 0)) (hH0 : lkH hsl i0 = some ([iv c])) (hmc : MC Tryz.prog 52 [sl cI ts, aStmt s, iv nest, .optr 0 0] [(0, some ([iv c]))] 1 (fun _ : Unit => True) (fun _ => bv (scS ts nest c s).1) (fun _ => [(0, some ([iv (scS ts nest c s).2]))])) (hM : Nat.ble (nidl + 0) big = true) (hN : Nat.blt d N = true) {md' : Md} [hmd : MdA md (rOs [x0, x1, x2, x3] ++ [.inr i0]) (List.map Sum.inr (List.map Prod.fst ([(i0, some ([iv (scS ts nest c s).2]))] : List (Nat × Option (List AV)))) ++ [.inl d]) md'] (kk : RW Tryz.prog N all Q md' rest ⟨(d, bv (scS ts nest c s).1) :: tsl, wrH hsl [(i0, some ([iv (scS ts nest c s).2]))], nidl + 0, z0⟩) : RW Tryz.prog N all Q md (⟨some d, .call ⟨.value (.func 52), #[x0, x1, x2, x3], tys⟩, ty, pos, af, none⟩ :: rest) ⟨tsl, hsl, nidl, z0⟩ := by
  refine rx_mcallE [i0] 1 [(i0, some ([iv (scS ts nest c s).2]))] hmc (avs := [sl cI ts, aStmt s, iv nest, .optr i0 0]) ?_ rfl ?_ rfl ?_ (by simpa using hM) ?_ ?_ ?_ hN (md' := md') (hmd := hmd) kk
  · show evL (lk tsl) [x0, x1, x2, x3] = _
    simp only [evL, ha0, ha1, ha2, ha3]
  · exact ⟨⟨_, _, rfl, hH0, by (repeat' ((exact RnL.purI inferInstance)))⟩, trivial⟩
  · (repeat' (first | exact RnL.purI inferInstance | exact RnV.purI inferInstance | exact RnV.optr rfl | refine RnL.cons ?_ ?_))
  · (repeat' ((exact RnV.purI inferInstance)))
  · simp [wsAll]
  · (repeat' (first | exact trivial | (refine And.intro ⟨0, _, rfl, rfl, ?_⟩ ?_) | exact RnL.purI inferInstance))

theorem rx_scanAll {ts : List Int} {l : List AL.Stmt} {nest c : Int} {N : Nat} {Q : Exit → AS → Prop} {all : Array Oper} {rest : List Oper} {tsl : List (Nat × AV)} {hsl : List (Nat × Option (List AV))} {nidl : Nat} {z0 : Lo} {md : Md} {d : Nat} {ty : TypeId} {pos : String} {af : Array Edge} {tys : Array TypeId} {x0 x1 x2 x3 : Operand} {i0 : Nat} (ha0 : ev (lk tsl) x0 = some (sl cI ts)) (ha1 : ev (lk tsl) x1 = some (sl cStmt l)) (ha2 : ev (lk tsl) x2 = some (iv nest)) (ha3 : ev (lk tsl) x3 = some (.optr i0 0)) (hH0 : lkH hsl i0 = some ([iv c])) (hmc : MC Tryz.prog 26 [sl cI ts, sl cStmt l, iv nest, .optr 0 0] [(0, some ([iv c]))] 1 (fun _ : Unit => True) (fun _ => bv (scL ts nest c l).1) (fun _ => [(0, some ([iv (scL ts nest c l).2]))])) (hM : Nat.ble (nidl + 0) big = true) (hN : Nat.blt d N = true) {md' : Md} [hmd : MdA md (rOs [x0, x1, x2, x3] ++ [.inr i0]) (List.map Sum.inr (List.map Prod.fst ([(i0, some ([iv (scL ts nest c l).2]))] : List (Nat × Option (List AV)))) ++ [.inl d]) md'] (kk : RW Tryz.prog N all Q md' rest ⟨(d, bv (scL ts nest c l).1) :: tsl, wrH hsl [(i0, some ([iv (scL ts nest c l).2]))], nidl + 0, z0⟩) : RW Tryz.prog N all Q md (⟨some d, .call ⟨.value (.func 26), #[x0, x1, x2, x3], tys⟩, ty, pos, af, none⟩ :: rest) ⟨tsl, hsl, nidl, z0⟩ := by
  refine rx_mcallE [i0] 1 [(i0, some ([iv (scL ts nest c l).2]))] hmc (avs := [sl cI ts, sl cStmt l, iv nest, .optr i0 0]) ?_ rfl ?_ rfl ?_ (by simpa using hM) ?_ ?_ ?_ hN (md' := md') (hmd := hmd) kk
  · show evL (lk tsl) [x0, x1, x2, x3] = _
    simp only [evL, ha0, ha1, ha2, ha3]
  · exact ⟨⟨_, _, rfl, hH0, by (repeat' ((exact RnL.purI inferInstance)))⟩, trivial⟩
  · (repeat' (first | exact RnL.purI inferInstance | exact RnV.purI inferInstance | exact RnV.optr rfl | refine RnL.cons ?_ ?_))
  · (repeat' ((exact RnV.purI inferInstance)))
  · simp [wsAll]
  · (repeat' (first | exact trivial | (refine And.intro ⟨0, _, rfl, rfl, ?_⟩ ?_) | exact RnL.purI inferInstance))

-- impl.scan
theorem scan_c0 (ts : List Int) (htO : typesOk ts = true) (m : Nat) (scanAll_ih : ∀ l nest c, cntL l < m → 0 ≤ nest → nest ≤ 4 → 0 ≤ c → c ≤ 30 → MC Tryz.prog 26 [sl cI ts, sl cStmt l, iv nest, .optr 0 0] [(0, some ([iv c]))] 1 (fun _ : Unit => True) (fun _ => bv (scL ts nest c l).1) (fun _ => [(0, some ([iv (scL ts nest c l).2]))])) (s : AL.Stmt) (nest c : Int) (hs : cntS s ≤ m) (hn0 : 0 ≤ nest) (hn : nest ≤ 4) (hc0 : 0 ≤ c) (hc : c ≤ 30) : MC Tryz.prog 52 [sl cI ts, aStmt s, iv nest, .optr 0 0] [(0, some ([iv c]))] 1 (fun _ : Unit => True) (fun _ => bv (scS ts nest c s).1) (fun _ => [(0, some ([iv (scS ts nest c s).2]))]) := by
  have ct := cnt_th s
  have hb1 := scL_bd ts s.th (nest + 1) (c + 1)
  (refine mc_of_aw Tryz.func52 rfl (by simp [Tryz.ntmps52]) ?_; rw [Tryz.ntmps52])
  repeat' (first | ((with_reducible apply id_rw); first | ((with_reducible apply rx_move); (case hx | hN => rfl)) | (first | ((with_reducible apply rx_load1); (case hx | hd => rfl); (case hc | hN => rfl)) | ((with_reducible apply rx_loadA); (case hx | hd => rfl); (case hc => ((exact (rfl : _ = [_, _, _, _, _, _])))); (case hn | h0 | hN => rfl))) | ((with_reducible apply rx_fieldAddr); (case hx | hp | hN => rfl)) | (first | ((with_reducible apply rx_guardU); (case hj | hb | hN => rfl)) | ((with_reducible apply rx_guardY); (case hj | hb | hN => rfl); (case hw => (assumption))) | ((with_reducible apply rx_guardNs); (case hj | hb | hN => rfl); (case hw => first | rfl | assumption)) | ((with_reducible apply rx_guardS); (case hj | hb | hN => rfl); all_goals (intro hg; have hq := hg; (try simp only [Bool.and_eq_true, Bool.and_eq_false_iff, Bool.or_eq_true, Bool.or_eq_false_iff, decide_eq_true_eq, decide_eq_false_iff_not, Bool.not_eq_true', Bool.not_eq_false', Bool.not_true, Bool.not_false, Int.not_lt, Int.not_le] at hq); (try (exfalso; omega))))) | (first | ((with_reducible apply rx_add); (case hx | hy => rfl); (case h => omega); (case hN => rfl)) | ((with_reducible apply rx_bin); (case hx | hy => rfl); (case h | hN => rfl))) | ((with_reducible apply rx_assign); (case hx | hN => rfl)) | (first | ((with_reducible apply rx_pickT); (case hc => rfl); (case hb => first | rfl | assumption); (case hx | hN => rfl)) | ((with_reducible apply rx_pickF); (case hc => rfl); (case hb => (assumption)); (case hx | hN => rfl))) | (first | ((with_reducible apply rx_scanAll); (case ha0 | ha1 => rfl); (case ha2 | ha3 => rfl); (case hH0 => ((rfl))); (case hmc => ((apply scanAll_ih <;> (first | assumption | omega | grind)))); (case hM | hN => rfl)) | ((with_reducible apply rx_callE (k := 78)); (case ha => rfl); (case h => (apply isBranch_c <;> (fail))); (case hp => (rfl)); (case hN => rfl)) | ((with_reducible apply rx_callE (k := 79)); (case ha => rfl); (case h => (apply simpleOk_c <;> ((assumption)))); (case hp => (exact Pur.pf)); (case hN => rfl))) | (((with_reducible apply rx_len); (case hx | hn | hN => rfl))) | ((with_reducible apply rw_nil); (case hf => kernel_rfl)) | ((with_reducible apply rx_not); (case hx | hN => rfl)) | ((with_reducible apply rx_nil); (case hx | hp | hN => rfl)) | ((with_reducible apply rx_box); (case hx | hc => rfl); (case hM | hN => rfl)) | ((with_reducible apply rx_store); (case hx | hy => rfl); (case hc | hn | hH => rfl); (case hl => ((simp;done))); (case hcs => (exact (rfl : _ = [_]))))) | ((with_reducible apply id_aw); first | with_reducible apply aw_seq | with_reducible apply aw_region | ((with_reducible apply aw_condT); (case hc => rfl); (case hb => (rfl))) | ((with_reducible apply aw_condF); (case hc => rfl); (case hb => (rfl))) | ((with_reducible apply aw_cond); (case hc => rfl); all_goals (intro hc; have hq := hc; (try simp only [Bool.and_eq_true, Bool.and_eq_false_iff, Bool.or_eq_true, Bool.or_eq_false_iff, decide_eq_true_eq, decide_eq_false_iff_not, Bool.not_eq_true', Bool.not_eq_false', Bool.not_true, Bool.not_false, Int.not_lt, Int.not_le] at hq); (try (exfalso; omega)))) | with_reducible apply aw_skip | with_reducible apply aw_ret) | with_reducible apply tq_normal | with_reducible apply tq_ret)
  all_goals (refine rq_ret rfl ?_; refine mc_ret () trivial ?_ ⟨.inr (Eq.trans (b := some _) rfl ?_), trivial⟩)
  all_goals (try simp only [oneOf, AV.v.injEq, Value.bool.injEq, Value.int.injEq, true_and, spl, List.take, List.drop, List.length, List.append, List.nil_append, List.append_nil, Option.some.injEq, List.cons.injEq, and_true])
  all_goals rw [scS_def]
  all_goals clear scanAll_ih
  all_goals (cases hel : s.el <;> simp only [hel, List.length_nil, List.length_cons] at * <;> grind)
-- impl.scanAll
theorem scanAll_c0 (ts : List Int) (m : Nat) (hm : m ≤ 100000000) (scan_ih : ∀ s nest c, cntS s ≤ m → 0 ≤ nest → nest ≤ 4 → 0 ≤ c → c ≤ 30 → MC Tryz.prog 52 [sl cI ts, aStmt s, iv nest, .optr 0 0] [(0, some ([iv c]))] 1 (fun _ : Unit => True) (fun _ => bv (scS ts nest c s).1) (fun _ => [(0, some ([iv (scS ts nest c s).2]))])) (l : List AL.Stmt) (nest c : Int) (hs : cntL l ≤ m) (hn0 : 0 ≤ nest) (hn : nest ≤ 4) (hc0 : 0 ≤ c) (hc : c ≤ 30) : MC Tryz.prog 26 [sl cI ts, sl cStmt l, iv nest, .optr 0 0] [(0, some ([iv c]))] 1 (fun _ : Unit => True) (fun _ => bv (scL ts nest c l).1) (fun _ => [(0, some ([iv (scL ts nest c l).2]))]) := by
  have hlen := cntL_len l
  (refine mc_of_aw Tryz.func26 rfl (by simp [Tryz.ntmps26]) ?_; rw [Tryz.ntmps26])
  repeat' (first | ((with_reducible apply id_rw); first | ((with_reducible apply rx_move); (case hx | hN => rfl)) | ((with_reducible apply rx_assign); (case hx | hN => rfl)) | (((with_reducible apply rx_len); (case hx | hn | hN => rfl))) | ((with_reducible apply rw_nil); (case hf => kernel_rfl))) | ((with_reducible apply id_aw); first | with_reducible apply aw_seq | with_reducible apply aw_region | with_reducible apply aw_block) | with_reducible apply tq_normal)
  refine aw_loopK (σ := Nat × Int) [0, 2, 3, 11, 12] [(0, _), (2, _), (3, _), (11, _), (12, _)] [] [] (fun k => [(13, iv (k.1 : Int))]) (fun k => [(0, some [iv k.2])]) (fun k => k.1 ≤ l.length ∧ scL ts nest k.2 (l.drop k.1) = scL ts nest c l ∧ 0 ≤ k.2 ∧ k.2 ≤ 30) (fun k => l.length - k.1) (0, c) ⟨by omega, rfl, by omega, by omega⟩ rfl rfl (by repeat' (first | exact trivial | refine And.intro rfl ?_)) (by repeat' (first | exact trivial | refine And.intro (.inr rfl) ?_)) ?_
  rintro ⟨k, c'⟩ ⟨hk, hn, hn0, hn1⟩
  dsimp only at hk hn hn0 hn1 ⊢
  have hck := cntL_at l k
  have hb1 := scS_bd ts l[k]! nest c'
  have hst := @scL_stop ts nest c' l k
  repeat' (first | ((with_reducible apply id_rw); first | ((with_reducible apply rx_move); (case hx | hN => rfl)) | (((with_reducible apply rx_loadA); (case hx | hd => rfl); (case hc => ((exact (rfl : _ = [_, _, _, _, _, _])))); (case hn | h0 | hN => rfl))) | (first | ((with_reducible apply rx_add); (case hx | hy => rfl); (case h => omega); (case hN => rfl)) | ((with_reducible apply rx_bin); (case hx | hy => rfl); (case h | hN => rfl))) | ((with_reducible apply rx_assign); (case hx | hN => rfl)) | (((with_reducible apply rx_indexFN); (case hx | hi => rfl); (case hm => ((omega))); (case hml => ((rfl))); (case hα => infer_instance); (case hf => infer_instance); (case hg => infer_instance); (case hN => rfl))) | (((with_reducible apply rx_scan); (case ha0 | ha1 => rfl); (case ha2 | ha3 => rfl); (case hH0 => ((rfl))); (case hmc => ((apply scan_ih <;> (first | assumption | omega)))); (case hM | hN => rfl))) | ((with_reducible apply rw_nil); (case hf => kernel_rfl)) | ((with_reducible apply rx_not); (case hx | hN => rfl)) | ((with_reducible apply rx_alloc); (case hM | hN => rfl)) | ((with_reducible apply rx_store); (case hx | hy => rfl); (case hc | hn | hH => rfl); (case hl => ((simp;done))); (case hcs => (exact (rfl : _ = [_, _, _, _, _, _]))))) | ((with_reducible apply id_aw); first | with_reducible apply aw_seq | with_reducible apply aw_region | ((with_reducible apply aw_cond); (case hc => rfl); all_goals (intro hc; have hq := hc; (try simp only [Bool.and_eq_true, Bool.and_eq_false_iff, Bool.or_eq_true, Bool.or_eq_false_iff, decide_eq_true_eq, decide_eq_false_iff_not, Bool.not_eq_true', Bool.not_eq_false', Bool.not_true, Bool.not_false, Int.not_lt, Int.not_le] at hq); (try (exfalso; omega)))) | with_reducible apply aw_block | with_reducible apply aw_skip | with_reducible apply aw_exit | with_reducible apply aw_ret) | with_reducible apply tq_normal | with_reducible apply tq_ret | with_reducible apply tq_exit | with_reducible apply bq_normal | with_reducible apply bq_ret | with_reducible apply bq_here)
  · (refine rq_ret rfl ?_; refine mc_ret () trivial ?_ ⟨.inr (Eq.trans (b := some _) rfl ?_), trivial⟩)
    all_goals (try simp only [oneOf, AV.v.injEq, Value.bool.injEq, Value.int.injEq, true_and, spl, List.take, List.drop, List.length, List.append, List.nil_append, List.append_nil, Option.some.injEq, List.cons.injEq, and_true])
    all_goals (rw [← hn, hst (by omega)]; grind)
  · (apply Exists.intro (k + 1, (scS ts nest c' l[k]!).2); refine And.intro ?_ (And.intro ?_ ?_); rotate_left 2; focus (refine Le.ren [] rfl (by decide) ?_ ?_ <;> repeat' (first | exact trivial | refine And.intro ⟨_, rfl, ?_⟩ ?_ | refine And.intro ⟨_, _, rfl, rfl, ?_⟩ ?_ | exact Or.inr rfl | refine Or.inl ⟨?_, (by first | rfl | exact pur_sl _ _)⟩ | rfl)))
    · dsimp only; grind
    · dsimp only; omega
  · (refine rq_ret rfl ?_; refine mc_ret () trivial ?_ ⟨.inr (Eq.trans (b := some _) rfl ?_), trivial⟩)
    all_goals (try simp only [oneOf, AV.v.injEq, Value.bool.injEq, Value.int.injEq, true_and, spl, List.take, List.drop, List.length, List.append, List.nil_append, List.append_nil, Option.some.injEq, List.cons.injEq, and_true])
    all_goals (rw [← hn, List.drop_of_length_le (by omega), scL])
theorem scan_both (ts : List Int) (hl : typesOk ts = true) : ∀ (m : Nat), m ≤ 100000000 → (∀ s (nest c : Int), cntS s ≤ m → 0 ≤ nest → nest ≤ 4 → 0 ≤ c → c ≤ 30 → MC Tryz.prog 52 [sl cI ts, aStmt s, iv nest, .optr 0 0] [(0, some ([iv c]))] 1 (fun _ : Unit => True) (fun _ => bv (scS ts nest c s).1) (fun _ => [(0, some ([iv (scS ts nest c s).2]))])) ∧
    (∀ l (nest c : Int), cntL l ≤ m → 0 ≤ nest → nest ≤ 4 → 0 ≤ c → c ≤ 30 → MC Tryz.prog 26 [sl cI ts, sl cStmt l, iv nest, .optr 0 0] [(0, some ([iv c]))] 1 (fun _ : Unit => True) (fun _ => bv (scL ts nest c l).1) (fun _ => [(0, some ([iv (scL ts nest c l).2]))])) := by
  intro m
  induction m using Nat.strongRecOn with
  | ind m ih =>
    intro hm
    have h1 : ∀ s (nest c : Int), cntS s ≤ m → 0 ≤ nest → nest ≤ 4 → 0 ≤ c → c ≤ 30 → MC Tryz.prog 52 [sl cI ts, aStmt s, iv nest, .optr 0 0] [(0, some ([iv c]))] 1 (fun _ : Unit => True) (fun _ => bv (scS ts nest c s).1) (fun _ => [(0, some ([iv (scS ts nest c s).2]))]) :=
      fun s nest c h1 h2 h3 h4 h5 => scan_c0 ts hl m (fun l nest c g1 g2 g3 g4 g5 => (ih (cntL l) g1 (by omega)).2 l nest c (Nat.le_refl _) g2 g3 g4 g5) s nest c h1 h2 h3 h4 h5
    exact ⟨h1, fun l nest c g1 g2 g3 g4 g5 => scanAll_c0 ts m hm h1 l nest c g1 g2 g3 g4 g5⟩
theorem scanAll_c (ts : List Int) (l : List AL.Stmt) (nest c : Int) (hl : typesOk ts = true) (hs : cntL l ≤ 100000000) (hn0 : 0 ≤ nest) (hn : nest ≤ 4) (hc0 : 0 ≤ c) (hc : c ≤ 30) : MC Tryz.prog 26 [sl cI ts, sl cStmt l, iv nest, .optr 0 0] [(0, some ([iv c]))] 1 (fun _ : Unit => True) (fun _ => bv (scL ts nest c l).1) (fun _ => [(0, some ([iv (scL ts nest c l).2]))]) :=
  (scan_both ts hl _ hs).2 l nest c (Nat.le_refl _) hn0 hn hc0 hc
-- impl.typesOk$1
theorem typesOk1_c (t : Int) : PC Tryz.prog 51 [iv t] (fun r => r = bv (!(decide (1 ≤ t) && decide (t ≤ 4)))) := by
  (refine pc_of_aw Tryz.func51 rfl (by simp [Tryz.ntmps51]) ?_; rw [Tryz.ntmps51])
  repeat' (first | ((with_reducible apply id_rw); first | ((with_reducible apply rx_move); (case hx | hN => rfl)) | ((with_reducible apply rx_assign); (case hx | hN => rfl)) | (((with_reducible apply rx_callE (k := 33)); (case ha => rfl); (case h => (apply within_c <;> (fail))); (case hp => (rfl)); (case hN => rfl))) | ((with_reducible apply rw_nil); (case hf => kernel_rfl)) | ((with_reducible apply rx_not); (case hx | hN => rfl))) | ((with_reducible apply id_aw); first | with_reducible apply aw_seq | with_reducible apply aw_region | with_reducible apply aw_ret) | with_reducible apply tq_normal | ((with_reducible apply rq_ret); case hr => rfl))
  all_goals (refine ⟨?_, rfl⟩; simp only [oneOf, AV.v.injEq, Value.bool.injEq, Value.int.injEq, true_and])
def idxBad (ts : List Int) : Int := match ts.findIdx? (fun t => !(decide (1 ≤ t) && decide (t ≤ 4))) with | some i => i | none => -1
-- slices.IndexFunc[[]int,int]
theorem idxBad_c (ts : List Int) (hl : ts.length ≤ 1000000) : PC Tryz.prog 77 [sl cI ts, .v (.func (.func 51) #[] #[])] (fun r => r = iv (idxBad ts)) := by
  (refine pc_of_aw Tryz.func77 rfl (by simp [Tryz.ntmps77]) ?_; rw [Tryz.ntmps77])
  repeat' (first | ((with_reducible apply id_rw); first | ((with_reducible apply rx_move); (case hx | hN => rfl)) | ((with_reducible apply rx_assign); (case hx | hN => rfl)) | (((with_reducible apply rx_len); (case hx | hn | hN => rfl))) | ((with_reducible apply rw_nil); (case hf => kernel_rfl))) | ((with_reducible apply id_aw); first | with_reducible apply aw_seq | with_reducible apply aw_region | with_reducible apply aw_block) | with_reducible apply tq_normal)
  refine aw_loopK (σ := Nat) [0, 1, 7] [(0, _), (1, _), (7, _)] [] [] (fun k => [(8, iv (k : Int))]) (fun k => []) (fun k => k ≤ ts.length ∧ ∀ i, i < k → 1 ≤ ts[i]! ∧ ts[i]! ≤ 4) (fun k => ts.length - k) (0) ⟨by omega, by omega⟩ rfl rfl (by repeat' (first | exact trivial | refine And.intro rfl ?_)) (by repeat' ((exact trivial))) ?_
  intro k ⟨hk, hall⟩
  repeat' (first | ((with_reducible apply id_rw); first | ((with_reducible apply rx_move); (case hx | hN => rfl)) | (((with_reducible apply rx_load1); (case hx | hd => rfl); (case hc | hN => rfl))) | (first | ((with_reducible apply rx_add); (case hx | hy => rfl); (case h => omega); (case hN => rfl)) | ((with_reducible apply rx_bin); (case hx | hy => rfl); (case h | hN => rfl))) | ((with_reducible apply rx_assign); (case hx | hN => rfl)) | (((with_reducible apply rx_indexFN); (case hx | hi => rfl); (case hm => ((omega))); (case hml => ((rfl))); (case hα => infer_instance); (case hf => infer_instance); (case hg => infer_instance); (case hN => rfl))) | (((with_reducible apply rx_callC); (case hx | hcl => rfl); (case hc => infer_instance); (case ha => rfl); (case h => ((apply typesOk1_c <;> (fail)))); (case hp => (rfl)); (case hN => rfl))) | ((with_reducible apply rw_nil); (case hf => kernel_rfl))) | ((with_reducible apply id_aw); first | with_reducible apply aw_seq | with_reducible apply aw_region | ((with_reducible apply aw_cond); (case hc => rfl); all_goals (intro hc; have hq := hc; (try simp only [Bool.and_eq_true, Bool.and_eq_false_iff, Bool.or_eq_true, Bool.or_eq_false_iff, decide_eq_true_eq, decide_eq_false_iff_not, Bool.not_eq_true', Bool.not_eq_false', Bool.not_true, Bool.not_false, Int.not_lt, Int.not_le] at hq); (try (exfalso; omega)))) | with_reducible apply aw_block | with_reducible apply aw_skip | with_reducible apply aw_exit | with_reducible apply aw_ret) | with_reducible apply tq_normal | with_reducible apply tq_ret | with_reducible apply tq_exit | with_reducible apply bq_normal | with_reducible apply bq_ret | with_reducible apply bq_here | ((with_reducible apply rq_ret); case hr => rfl))
  · (refine ⟨?_, rfl⟩; simp only [oneOf, AV.v.injEq, Value.bool.injEq, Value.int.injEq, true_and])
    have hlt : k < ts.length := by omega
    have : ts.findIdx? (fun t => !(decide (1 ≤ t) && decide (t ≤ 4))) = some k := by
      rw [List.findIdx?_eq_some_iff_getElem]
      refine ⟨hlt, ?_, fun j hj => ?_⟩
      · rw [← getB ts k hlt]; grind
      · have := hall j hj; rw [getB ts j (by omega)] at this; simp; omega
    simp only [idxBad, this]
  · (apply Exists.intro (k + 1); refine And.intro ?_ (And.intro ?_ ?_); rotate_left 2; focus (refine Le.ren [] rfl (by decide) ?_ ?_ <;> repeat' (first | exact trivial | refine And.intro ⟨_, rfl, ?_⟩ ?_ | refine Or.inl ⟨?_, (by first | rfl | exact pur_sl _ _)⟩ | rfl)))
    · grind
    · omega
  · (refine ⟨?_, rfl⟩; simp only [oneOf, AV.v.injEq, Value.bool.injEq, Value.int.injEq, true_and])
    have : ts.findIdx? (fun t => !(decide (1 ≤ t) && decide (t ≤ 4))) = none := by
      rw [List.findIdx?_eq_none_iff]
      intro x hx
      obtain ⟨i, hi, rfl⟩ := List.getElem_of_mem hx
      have := hall i (by omega); rw [getB ts i hi] at this; simp; omega
    simp only [idxBad, this]
theorem idxBad_ge (ts : List Int) : decide (0 ≤ idxBad ts) = !(ts.all (fun t => decide (1 ≤ t) && decide (t ≤ 4))) := by
  unfold idxBad
  split
  · rename_i i h
    obtain ⟨h1, h2, _⟩ := List.findIdx?_eq_some_iff_getElem.1 h
    have : ts.all (fun t => decide (1 ≤ t) && decide (t ≤ 4)) = false := by
      rw [List.all_eq_false]; exact ⟨ts[i], List.getElem_mem h1, by simp at h2 ⊢; omega⟩
    rw [this]; simp
  · rename_i h
    rw [List.findIdx?_eq_none_iff] at h
    have : ts.all (fun t => decide (1 ≤ t) && decide (t ≤ 4)) = true := by
      rw [List.all_eq_true]; intro x hx; simpa using h x hx
    rw [this]; rfl
-- slices.ContainsFunc[[]int,int]
theorem contBad_c (ts : List Int) (hl : ts.length ≤ 1000000) : PC Tryz.prog 50 [sl cI ts, .v (.func (.func 51) #[] #[])] (fun r => r = bv (!(ts.all (fun t => decide (1 ≤ t) && decide (t ≤ 4))))) := by
  (refine pc_of_aw Tryz.func50 rfl (by simp [Tryz.ntmps50]) ?_; rw [Tryz.ntmps50])
  repeat' (first | ((with_reducible apply id_rw); first | ((with_reducible apply rx_move); (case hx | hN => rfl)) | (((with_reducible apply rx_bin); (case hx | hy => rfl); (case h | hN => rfl))) | ((with_reducible apply rx_assign); (case hx | hN => rfl)) | (((with_reducible apply rx_callE (k := 77)); (case ha => rfl); (case h => (apply idxBad_c <;> ((assumption)))); (case hp => (exact Pur.pf)); (case hN => rfl))) | ((with_reducible apply rw_nil); (case hf => kernel_rfl))) | ((with_reducible apply id_aw); first | with_reducible apply aw_seq | with_reducible apply aw_region | with_reducible apply aw_ret) | with_reducible apply tq_normal | ((with_reducible apply rq_ret); case hr => rfl))
  (refine ⟨?_, rfl⟩; simp only [oneOf, AV.v.injEq, Value.bool.injEq, Value.int.injEq, true_and])
  exact idxBad_ge ts
-- impl.typesOk
theorem typesOkI_c (ts : List Int) (hl : ts.length ≤ 1000000) : PC Tryz.prog 25 [sl cI ts] (fun r => r = bv (typesOk ts)) := by
  (refine pc_of_aw Tryz.func25 rfl (by simp [Tryz.ntmps25]) ?_; rw [Tryz.ntmps25])
  repeat' (first | ((with_reducible apply id_rw); first | ((with_reducible apply rx_move); (case hx | hN => rfl)) | (first | ((with_reducible apply rx_guardY); (case hj | hb | hN => rfl); (case hw => (assumption))) | ((with_reducible apply rx_guardNs); (case hj | hb | hN => rfl); (case hw => (assumption))) | ((with_reducible apply rx_guardS); (case hj | hb | hN => rfl); all_goals (intro hg; have hq := hg; (try simp only [Bool.and_eq_true, Bool.and_eq_false_iff, Bool.or_eq_true, Bool.or_eq_false_iff, decide_eq_true_eq, decide_eq_false_iff_not, Bool.not_eq_true', Bool.not_eq_false', Bool.not_true, Bool.not_false, Int.not_lt, Int.not_le] at hq); (try (exfalso; omega))))) | (((with_reducible apply rx_bin); (case hx | hy => rfl); (case h | hN => rfl))) | ((with_reducible apply rx_assign); (case hx | hN => rfl)) | (first | ((with_reducible apply rx_pickT); (case hc => rfl); (case hb => (assumption)); (case hx | hN => rfl)) | ((with_reducible apply rx_pickF); (case hc => rfl); (case hb => (assumption)); (case hx | hN => rfl))) | (((with_reducible apply rx_callE (k := 50)); (case ha => rfl); (case h => (apply contBad_c <;> ((assumption)))); (case hp => (exact Pur.pf)); (case hN => rfl))) | (((with_reducible apply rx_len); (case hx | hn | hN => rfl))) | ((with_reducible apply rw_nil); (case hf => kernel_rfl)) | ((with_reducible apply rx_not); (case hx | hN => rfl))) | ((with_reducible apply id_aw); first | with_reducible apply aw_seq | with_reducible apply aw_region | with_reducible apply aw_ret) | with_reducible apply tq_normal | ((with_reducible apply rq_ret); case hr => rfl))
  all_goals (refine ⟨?_, rfl⟩; simp only [oneOf, AV.v.injEq, Value.bool.injEq, Value.int.injEq, true_and])
  all_goals (unfold typesOk; grind)
-- impl.ProgramValid
theorem validI_c (p : Prg) (hl : p.types.length ≤ 1000000) (hs : cntL p.body ≤ 100000000) : PC Tryz.prog 15 [aPrg p] (fun r => r = bv (validF p)) := by
  rw [← scL_valid]
  cases ht : typesOk p.types
  · (refine pc_of_aw Tryz.func15 rfl (by simp [Tryz.ntmps15]) ?_; rw [Tryz.ntmps15])
    repeat' (first | ((with_reducible apply id_rw); first | ((with_reducible apply rx_move); (case hx | hN => rfl)) | (((with_reducible apply rx_load1); (case hx | hd => rfl); (case hc | hN => rfl))) | ((with_reducible apply rx_fieldAddr); (case hx | hp | hN => rfl)) | (((with_reducible apply rx_guardNs); (case hj | hb | hN => rfl); (case hw => (assumption)))) | ((with_reducible apply rx_assign); (case hx | hN => rfl)) | (((with_reducible apply rx_pickF); (case hc => rfl); (case hb => (assumption)); (case hx | hN => rfl))) | (((with_reducible apply rx_callE (k := 25)); (case ha => rfl); (case h => (apply typesOkI_c <;> ((assumption)))); (case hp => (exact Pur.pf)); (case hN => rfl))) | ((with_reducible apply rw_nil); (case hf => kernel_rfl)) | ((with_reducible apply rx_box); (case hx | hc => rfl); (case hM | hN => rfl)) | ((with_reducible apply rx_alloc); (case hM | hN => rfl)) | ((with_reducible apply rx_store); (case hx | hy => rfl); (case hc | hn | hH => rfl); (case hl => ((decide))); (case hcs => (exact (rfl : _ = [_]))))) | ((with_reducible apply id_aw); first | with_reducible apply aw_seq | with_reducible apply aw_region | with_reducible apply aw_ret) | with_reducible apply tq_normal | ((with_reducible apply rq_ret); case hr => rfl))
    all_goals (refine ⟨?_, rfl⟩; simp only [oneOf, AV.v.injEq, Value.bool.injEq, Value.int.injEq, true_and])
    all_goals grind
  · (refine pc_of_aw Tryz.func15 rfl (by simp [Tryz.ntmps15]) ?_; rw [Tryz.ntmps15])
    repeat' (first | ((with_reducible apply id_rw); first | ((with_reducible apply rx_move); (case hx | hN => rfl)) | (((with_reducible apply rx_load1); (case hx | hd => rfl); (case hc | hN => rfl))) | ((with_reducible apply rx_fieldAddr); (case hx | hp | hN => rfl)) | (((with_reducible apply rx_guardY); (case hj | hb | hN => rfl); (case hw => (assumption)))) | ((with_reducible apply rx_assign); (case hx | hN => rfl)) | (((with_reducible apply rx_pickT); (case hc => rfl); (case hb => (assumption)); (case hx | hN => rfl))) | (first | ((with_reducible apply rx_callE (k := 25)); (case ha => rfl); (case h => (apply typesOkI_c <;> ((assumption)))); (case hp => (exact Pur.pf)); (case hN => rfl)) | ((with_reducible apply rx_scanAll); (case ha0 | ha1 => rfl); (case ha2 | ha3 => rfl); (case hH0 => ((rfl))); (case hmc => ((apply scanAll_c <;> (first | assumption | omega)))); (case hM | hN => rfl))) | ((with_reducible apply rw_nil); (case hf => kernel_rfl)) | ((with_reducible apply rx_box); (case hx | hc => rfl); (case hM | hN => rfl)) | ((with_reducible apply rx_alloc); (case hM | hN => rfl)) | ((with_reducible apply rx_store); (case hx | hy => rfl); (case hc | hn | hH => rfl); (case hl => ((decide))); (case hcs => (exact (rfl : _ = [_]))))) | ((with_reducible apply id_aw); first | with_reducible apply aw_seq | with_reducible apply aw_region | with_reducible apply aw_ret) | with_reducible apply tq_normal | ((with_reducible apply rq_ret); case hr => rfl))
    all_goals (refine ⟨?_, rfl⟩; simp only [oneOf, AV.v.injEq, Value.bool.injEq, Value.int.injEq, true_and])
    all_goals grind
end Go.Proofs.YtjebhaeihokgmaaGreat

namespace Go.Proofs.YtjebhaeihokgmaaGreat
open Go.AL Go.RowKit
set_option linter.unusedSimpArgs false
set_option linter.unusedVariables false
set_option maxHeartbeats 4000000
set_option maxRecDepth 4000

theorem rx_pointsOf {l : List AL.Stmt} {pts : List Pnt} {m : Nat} {N : Nat} {Q : Exit → AS → Prop} {all : Array Oper} {rest : List Oper} {tsl : List (Nat × AV)} {hsl : List (Nat × Option (List AV))} {nidl : Nat} {z0 : Lo} {md : Md} {d : Nat} {ty : TypeId} {pos : String} {af : Array Edge} {tys : Array TypeId} {x0 x1 : Operand} {i0 : Nat} (ha0 : ev (lk tsl) x0 = some (sl cStmt l)) (ha1 : ev (lk tsl) x1 = some (.own i0 0 m 5)) (hH0 : lkH hsl i0 = some (flat cPnt pts)) (hmc : MC Tryz.prog 49 [sl cStmt l, .own 0 0 m 5] [(0, some (flat cPnt pts))] 1 (fun _ : Unit => True) (fun _ => .own 1 0 (m + npL l) 5) (fun _ => [(1, some (flat cPnt (pts ++ ptL pts.length l)))])) (hM : Nat.ble (nidl + 1) big = true) (hN : Nat.blt d N = true) {md' : Md} [hmd : MdA md (rOs [x0, x1] ++ [.inr i0]) (List.map Sum.inr (List.map Prod.fst ([(nidl, some (flat cPnt (pts ++ ptL pts.length l))), (i0, none)] : List (Nat × Option (List AV)))) ++ [.inl d]) md'] (kk : RW Tryz.prog N all Q md' rest ⟨(d, .own nidl 0 (m + npL l) 5) :: tsl, wrH hsl [(nidl, some (flat cPnt (pts ++ ptL pts.length l))), (i0, none)], nidl + 1, z0⟩) : RW Tryz.prog N all Q md (⟨some d, .call ⟨.value (.func 49), #[x0, x1], tys⟩, ty, pos, af, none⟩ :: rest) ⟨tsl, hsl, nidl, z0⟩ := by
  refine rx_mcallE [i0] 2 [(nidl, some (flat cPnt (pts ++ ptL pts.length l))), (i0, none)] hmc (avs := [sl cStmt l, .own i0 0 m 5]) ?_ rfl ?_ rfl ?_ (by simpa using hM) ?_ ?_ ?_ hN (md' := md') (hmd := hmd) kk
  · show evL (lk tsl) [x0, x1] = _
    simp only [evL, ha0, ha1]
  · exact ⟨⟨_, _, rfl, hH0, by (repeat' ((exact RnL.purI inferInstance)))⟩, trivial⟩
  · (repeat' (first | exact RnL.purI inferInstance | exact RnV.purI inferInstance | exact RnV.own rfl | refine RnL.cons ?_ ?_))
  · (repeat' ((exact RnV.own rfl)))
  · simp [wsAll]
  · (repeat' (first | exact trivial | (refine And.intro ⟨1, _, rfl, rfl, ?_⟩ ?_) | exact RnL.purI inferInstance))

-- impl.pointsOf
theorem pointsOf_c0 (mm : Nat) (hmm : mm ≤ 1000000) (pointsOf_ih : ∀ l pts m, cntL l < mm → m = pts.length → m + npL l ≤ 12000000 → MC Tryz.prog 49 [sl cStmt l, .own 0 0 m 5] [(0, some (flat cPnt pts))] 1 (fun _ : Unit => True) (fun _ => .own 1 0 (m + npL l) 5) (fun _ => [(1, some (flat cPnt (pts ++ ptL pts.length l)))])) (l : List AL.Stmt) (pts : List Pnt) (m : Nat) (hs : cntL l ≤ mm) (hm : m = pts.length) (hb : m + npL l ≤ 12000000) : MC Tryz.prog 49 [sl cStmt l, .own 0 0 m 5] [(0, some (flat cPnt pts))] 1 (fun _ : Unit => True) (fun _ => .own 1 0 (m + npL l) 5) (fun _ => [(1, some (flat cPnt (pts ++ ptL pts.length l)))]) := by
  have hlen := cntL_len l
  subst hm
  (refine mc_of_aw Tryz.func49 rfl (by simp [Tryz.ntmps49]) ?_; rw [Tryz.ntmps49])
  repeat' (first | ((with_reducible apply id_rw); first | ((with_reducible apply rx_move); (case hx | hN => rfl)) | ((with_reducible apply rx_assign); (case hx | hN => rfl)) | (((with_reducible apply rx_len); (case hx | hn | hN => rfl))) | ((with_reducible apply rw_nil); (case hf => kernel_rfl))) | ((with_reducible apply id_aw); first | with_reducible apply aw_seq | with_reducible apply aw_region | with_reducible apply aw_block) | with_reducible apply tq_normal)
  refine AW.le ?_ (Le.mv (d := 1) (i := 0) (cs := flat cPnt pts) rfl rfl (by decide))
  refine aw_loopK (σ := Nat × List Pnt × Nat) [9, 10] [(9, _), (10, _)] [] [] (fun k => [(11, iv (k.1 : Int)), (1, .own 1 0 k.2.2 5)]) (fun k => [(1, some (flat cPnt k.2.1))]) (fun k => k.1 ≤ l.length ∧ k.2.1 = pts ++ ptL pts.length (l.take k.1) ∧ k.2.2 = k.2.1.length ∧ k.2.2 = pts.length + npL (l.take k.1)) (fun k => l.length - k.1) (0, pts, pts.length) ⟨by omega, by simp [ptL], rfl, by simp [npL]⟩ rfl rfl (by repeat' (first | exact trivial | refine And.intro rfl ?_)) (by repeat' (first | exact trivial | refine And.intro (.inr rfl) ?_)) ?_
  rintro ⟨k, xs, m1⟩ ⟨hk, hxs, hm1, hm2⟩
  dsimp only at hk hxs hm1 hm2 ⊢
  have hck := cntL_at l k
  have hct := cnt_th l[k]!
  have hnt := npL_at l k
  have n9 := npS_9 l[k]!
  have n10 := npS_10 l[k]!
  have n1 := npS_1 l[k]!
  repeat' (first | ((with_reducible apply id_rw); first | ((with_reducible apply rx_move); (case hx | hN => rfl)) | (first | ((with_reducible apply rx_load1); (case hx | hd => rfl); (case hc | hN => rfl)) | ((with_reducible apply rx_loadA); (case hx | hd => rfl); (case hc => ((exact (rfl : _ = [_, _, _, _, _, _])))); (case hn | h0 | hN => rfl))) | ((with_reducible apply rx_fieldAddr); (case hx | hp | hN => rfl)) | (first | ((with_reducible apply rx_add); (case hx | hy => rfl); (case h => omega); (case hN => rfl)) | ((with_reducible apply rx_bin); (case hx | hy => rfl); (case h | hN => rfl))) | ((with_reducible apply rx_assign); (case hx | hN => rfl)) | (first | ((with_reducible apply rx_indexFN); (case hx | hi => rfl); (case hm => ((omega))); (case hml => ((rfl))); (case hα => infer_instance); (case hf => infer_instance); (case hg => infer_instance); (case hN => rfl)) | ((with_reducible apply rx_indexON); (case hx | hi => rfl); (case hm => ((omega))); (case hN => rfl))) | (((with_reducible apply rx_pointsOf); (case ha0 | ha1 => rfl); (case hH0 => ((rfl))); (case hmc => ((apply pointsOf_ih <;> (first | omega | (simp only [List.length_append, List.length_cons, List.length_nil, List.length_set, List.length_take, List.length_map, List.length_replicate, ptL_len, Nat.mul_one, Nat.zero_add, Nat.add_zero] <;> omega))))); (case hM | hN => rfl))) | (first | ((with_reducible apply rx_len); (case hx | hn | hN => rfl)) | ((with_reducible apply rx_append); (case hx | hy => rfl); (case hze | he0 | hH => rfl); (case hl => first | (rw [flat_length]; omega) | (rw [flat_length]; simp only [List.length_append, List.length_cons, List.length_nil, List.length_set, List.length_take, List.length_map, List.length_replicate, ptL_len, Nat.mul_one, Nat.zero_add, Nat.add_zero] <;> omega)); (case hs' => (rfl)); (case hbig => omega); (case hmx => omega); (case hcs => first | exact app_pnt1 (by (first | assumption | (simp only [List.length_append, List.length_cons, List.length_nil, List.length_set, List.length_take, List.length_map, List.length_replicate, ptL_len, Nat.mul_one, Nat.zero_add, Nat.add_zero] <;> omega))) | exact app_pnt0 (by (first | assumption | (simp only [List.length_append, List.length_cons, List.length_nil, List.length_set, List.length_take, List.length_map, List.length_replicate, ptL_len, Nat.mul_one, Nat.zero_add, Nat.add_zero] <;> omega)))); (case hM | hN => rfl))) | ((with_reducible apply rw_nil); (case hf => kernel_rfl)) | (((with_reducible apply rx_buildK); (case hl => rfl); (case hf => ((exact (rfl : _ = some [_, _, _, _, _])))); (case hk => ((exact (rfl : _ = [_, _, _, _, _])))); (case hN => rfl))) | ((with_reducible apply rx_alloc); (case hM | hN => rfl)) | ((with_reducible apply rx_buildSliceI (t := _)); (case hze | hsm | hl => rfl); (case hfl => (first | exact (rfl : _ = some [_]) | exact (rfl : _ = some [_, _]) | exact (rfl : _ = some [_, _, _, _, _]))); (case hM | hN => rfl)) | ((with_reducible apply rx_store); (case hx | hy => rfl); (case hc | hn | hH => rfl); (case hl => (first | (rw [flat_length]; simp only [List.length_append, List.length_cons, List.length_nil, List.length_set, List.length_take, List.length_map, List.length_replicate, ptL_len, Nat.mul_one, Nat.zero_add, Nat.add_zero] <;> omega) | (simp;done))); (case hcs => first | exact st_next1 (by ((simp only [List.length_append, List.length_cons, List.length_nil, List.length_set, List.length_take, List.length_map, List.length_replicate, ptL_len, Nat.mul_one, Nat.zero_add, Nat.add_zero] <;> omega))) | exact st_next2 (by ((simp only [List.length_append, List.length_cons, List.length_nil, List.length_set, List.length_take, List.length_map, List.length_replicate, ptL_len, Nat.mul_one, Nat.zero_add, Nat.add_zero] <;> omega))) | exact (rfl : _ = [_, _, _, _, _, _])))) | ((with_reducible apply id_aw); first | with_reducible apply aw_seq | with_reducible apply aw_region | ((with_reducible apply aw_cond); (case hc => rfl); all_goals (intro hc; have hq := hc; (try simp only [Bool.and_eq_true, Bool.and_eq_false_iff, Bool.or_eq_true, Bool.or_eq_false_iff, decide_eq_true_eq, decide_eq_false_iff_not, Bool.not_eq_true', Bool.not_eq_false', Bool.not_true, Bool.not_false, Int.not_lt, Int.not_le] at hq); (try (exfalso; omega)))) | with_reducible apply aw_block | with_reducible apply aw_skip | with_reducible apply aw_exit | with_reducible apply aw_ret) | with_reducible apply tq_normal | with_reducible apply tq_exit | with_reducible apply bq_normal | with_reducible apply bq_here)
  · (apply Exists.intro (k + 1, _, _); refine And.intro ?_ (And.intro ?_ ?_); rotate_left 2; focus (refine Le.ren [(1, 8)] rfl (by decide) ?_ ?_ <;> repeat' (first | exact trivial | refine And.intro ⟨_, rfl, ?_⟩ ?_ | refine And.intro ⟨_, _, rfl, rfl, ?_⟩ ?_ | exact Or.inr rfl | refine Or.inl ⟨?_, (by first | rfl | exact pur_sl _ _)⟩ | rfl)))
    · dsimp only
      rw [if_get1 hm1, if_set1 hm1, if_get2 (by rw [ptL_len, hm1]), if_set2 (by rw [ptL_len, hm1]), ptL_take l _ k (by omega), npL_take l k (by omega), ptS_def, if_pos hq, n9 hq]
      refine ⟨by omega, ?_, by simp [ptL_len]; omega, by omega⟩
      have e1 : xs.length = pts.length + npL (l.take k) := by omega
      rw [← List.append_assoc pts, ← hxs, ← e1]
      simp only [List.append_assoc, List.length_append, List.length_cons, List.length_nil, ptL_len, hm1, Nat.zero_add]
      clear pointsOf_ih hxs hck hnt n9 n10 n1
      grind
    · dsimp only; omega
  · (apply Exists.intro (k + 1, _, _); refine And.intro ?_ (And.intro ?_ ?_); rotate_left 2; focus (refine Le.ren [(1, 8)] rfl (by decide) ?_ ?_ <;> repeat' (first | exact trivial | refine And.intro ⟨_, rfl, ?_⟩ ?_ | refine And.intro ⟨_, _, rfl, rfl, ?_⟩ ?_ | exact Or.inr rfl | refine Or.inl ⟨?_, (by first | rfl | exact pur_sl _ _)⟩ | rfl)))
    · dsimp only
      rw [lp_get hm1, lp_set hm1, ptL_take l _ k (by omega), npL_take l k (by omega), ptS_def, if_neg (by omega), if_pos hq, n10 hq]
      refine ⟨by omega, ?_, by simp [ptL_len]; omega, by omega⟩
      have e1 : xs.length = pts.length + npL (l.take k) := by omega
      rw [← List.append_assoc pts, ← hxs, ← e1]
      simp only [List.append_assoc, List.length_append, List.length_cons, List.length_nil, ptL_len, hm1, Nat.zero_add]
      clear pointsOf_ih hxs hck hnt n9 n10 n1
      grind
    · dsimp only; omega
  · (apply Exists.intro (k + 1, _, _); refine And.intro ?_ (And.intro ?_ ?_); rotate_left 2; focus (refine Le.ren [(1, 5)] rfl (by decide) ?_ ?_ <;> repeat' (first | exact trivial | refine And.intro ⟨_, rfl, ?_⟩ ?_ | refine And.intro ⟨_, _, rfl, rfl, ?_⟩ ?_ | exact Or.inr rfl | refine Or.inl ⟨?_, (by first | rfl | exact pur_sl _ _)⟩ | rfl)))
    · dsimp only
      rw [ptL_take l _ k (by omega), npL_take l k (by omega), ptS_def, if_neg ‹¬l[k]!.op = 9›, if_neg hq, n1 ‹¬l[k]!.op = 9› hq]
      refine ⟨by omega, ?_, by simp [ptL_len]; omega, by omega⟩
      have e1 : xs.length = pts.length + npL (l.take k) := by omega
      rw [← List.append_assoc pts, ← hxs, ← e1, hm1]
    · dsimp only; omega
  · refine rq_ret rfl ?_
    have e2 : l.take k = l := List.take_of_length_le (by omega)
    rw [e2] at hxs hm2
    refine mc_ret () trivial ?_ ⟨.inr (Eq.trans (b := some _) rfl ?_), trivial⟩
    · simp only [oneOf]; rw [hm2]
    · rw [hxs]
theorem pointsOf_c (l : List AL.Stmt) (pts : List Pnt) (m : Nat) (hs : cntL l ≤ 1000000) (hm : m = pts.length) (hb : m + npL l ≤ 12000000) : MC Tryz.prog 49 [sl cStmt l, .own 0 0 m 5] [(0, some (flat cPnt pts))] 1 (fun _ : Unit => True) (fun _ => .own 1 0 (m + npL l) 5) (fun _ => [(1, some (flat cPnt (pts ++ ptL pts.length l)))]) := by
  have h : ∀ (mm : Nat), mm ≤ 1000000 → ∀ l pts m, cntL l ≤ mm → m = pts.length → m + npL l ≤ 12000000 → MC Tryz.prog 49 [sl cStmt l, .own 0 0 m 5] [(0, some (flat cPnt pts))] 1 (fun _ : Unit => True) (fun _ => .own 1 0 (m + npL l) 5) (fun _ => [(1, some (flat cPnt (pts ++ ptL pts.length l)))]) := by
    intro mm
    induction mm using Nat.strongRecOn with
    | ind mm ih =>
      intro h0 l pts m h1 h2 h3
      exact pointsOf_c0 mm h0 (fun l' pts' m' g1 g2 g3 => ih _ g1 (by omega) l' pts' m' (Nat.le_refl _) g2 g3) l pts m h1 h2 h3
  exact h _ hs l pts m (Nat.le_refl _) hm hb
end Go.Proofs.YtjebhaeihokgmaaGreat

namespace Go.Proofs.YtjebhaeihokgmaaGreat
open Go.AL Go.RowKit
set_option linter.unusedSimpArgs false
set_option linter.unusedVariables false
set_option maxHeartbeats 4000000
set_option maxRecDepth 4000

theorem rx_pointsOfN {l : List AL.Stmt} {N : Nat} {Q : Exit → AS → Prop} {all : Array Oper} {rest : List Oper} {tsl : List (Nat × AV)} {hsl : List (Nat × Option (List AV))} {nidl : Nat} {z0 : Lo} {md : Md} {d : Nat} {ty : TypeId} {pos : String} {af : Array Edge} {tys : Array TypeId} {x0 x1 : Operand} (ha0 : ev (lk tsl) x0 = some (sl cStmt l)) (ha1 : ev (lk tsl) x1 = some (.v (.slice none 0 0))) (hmc : MC Tryz.prog 49 [sl cStmt l, .v (.slice none 0 0)] [] 0 (fun _ : Unit => True) (fun _ => .own 0 0 (npL l) 5) (fun _ => [(0, some (flat cPnt (ptL 0 l)))])) (hM : Nat.ble (nidl + 1) big = true) (hN : Nat.blt d N = true) {md' : Md} [hmd : MdA md (rOs [x0, x1] ++ []) (List.map Sum.inr (List.map Prod.fst ([(nidl, some (flat cPnt (ptL 0 l)))] : List (Nat × Option (List AV)))) ++ [.inl d]) md'] (kk : RW Tryz.prog N all Q md' rest ⟨(d, .own nidl 0 (npL l) 5) :: tsl, wrH hsl [(nidl, some (flat cPnt (ptL 0 l)))], nidl + 1, z0⟩) : RW Tryz.prog N all Q md (⟨some d, .call ⟨.value (.func 49), #[x0, x1], tys⟩, ty, pos, af, none⟩ :: rest) ⟨tsl, hsl, nidl, z0⟩ := by
  refine rx_mcallE [] 1 [(nidl, some (flat cPnt (ptL 0 l)))] hmc (avs := [sl cStmt l, .v (.slice none 0 0)]) ?_ rfl ?_ rfl ?_ (by simpa using hM) ?_ ?_ ?_ hN (md' := md') (hmd := hmd) kk
  · show evL (lk tsl) [x0, x1] = _
    simp only [evL, ha0, ha1]
  · exact trivial
  · (repeat' ((exact RnL.purI inferInstance)))
  · (repeat' ((exact RnV.own rfl)))
  · simp [wsAll]
  · (repeat' (first | exact trivial | (refine And.intro ⟨0, _, rfl, rfl, ?_⟩ ?_) | exact RnL.purI inferInstance))

-- impl.pointsOf
theorem pointsOfN_c (l : List AL.Stmt) (hs : cntL l ≤ 1000000) : MC Tryz.prog 49 [sl cStmt l, .v (.slice none 0 0)] [] 0 (fun _ : Unit => True) (fun _ => .own 0 0 (npL l) 5) (fun _ => [(0, some (flat cPnt (ptL 0 l)))]) := by
  have hlen := cntL_len l
  have hn2 := npL_le l
  (refine mc_of_aw Tryz.func49 rfl (by simp [Tryz.ntmps49]) ?_; rw [Tryz.ntmps49])
  repeat' (first | ((with_reducible apply id_rw); first | ((with_reducible apply rx_move); (case hx | hN => rfl)) | ((with_reducible apply rx_assign); (case hx | hN => rfl)) | (((with_reducible apply rx_len); (case hx | hn | hN => rfl))) | ((with_reducible apply rw_nil); (case hf => kernel_rfl))) | ((with_reducible apply id_aw); first | with_reducible apply aw_seq | with_reducible apply aw_region | with_reducible apply aw_block) | with_reducible apply tq_normal)
  refine AW.le ?_ (Le.nilOwn (d := 1) 5 rfl (by decide))
  refine aw_loopK (σ := Nat × List Pnt × Nat) [9, 10] [(9, _), (10, _)] [] [] (fun k => [(11, iv (k.1 : Int)), (1, .own 0 0 k.2.2 5)]) (fun k => [(0, some (flat cPnt k.2.1))]) (fun k => k.1 ≤ l.length ∧ k.2.1 = ptL 0 (l.take k.1) ∧ k.2.2 = k.2.1.length ∧ k.2.2 = npL (l.take k.1)) (fun k => l.length - k.1) (0, [], 0) ⟨by omega, by simp [ptL], rfl, by simp [npL]⟩ rfl rfl (by repeat' (first | exact trivial | refine And.intro rfl ?_)) (by repeat' (first | exact trivial | refine And.intro (.inr rfl) ?_)) ?_
  rintro ⟨k, xs, m1⟩ ⟨hk, hxs, hm1, hm2⟩
  dsimp only at hk hxs hm1 hm2 ⊢
  have hck := cntL_at l k
  have hct := cnt_th l[k]!
  have hnt := npL_at l k
  have n9 := npS_9 l[k]!
  have n10 := npS_10 l[k]!
  have n1 := npS_1 l[k]!
  repeat' (first | ((with_reducible apply id_rw); first | ((with_reducible apply rx_move); (case hx | hN => rfl)) | (first | ((with_reducible apply rx_load1); (case hx | hd => rfl); (case hc | hN => rfl)) | ((with_reducible apply rx_loadA); (case hx | hd => rfl); (case hc => ((exact (rfl : _ = [_, _, _, _, _, _])))); (case hn | h0 | hN => rfl))) | ((with_reducible apply rx_fieldAddr); (case hx | hp | hN => rfl)) | (first | ((with_reducible apply rx_add); (case hx | hy => rfl); (case h => omega); (case hN => rfl)) | ((with_reducible apply rx_bin); (case hx | hy => rfl); (case h | hN => rfl))) | ((with_reducible apply rx_assign); (case hx | hN => rfl)) | (first | ((with_reducible apply rx_indexFN); (case hx | hi => rfl); (case hm => ((omega))); (case hml => ((rfl))); (case hα => infer_instance); (case hf => infer_instance); (case hg => infer_instance); (case hN => rfl)) | ((with_reducible apply rx_indexON); (case hx | hi => rfl); (case hm => ((omega))); (case hN => rfl))) | (((with_reducible apply rx_pointsOf); (case ha0 | ha1 => rfl); (case hH0 => ((rfl))); (case hmc => ((apply pointsOf_c <;> (first | omega | (simp only [List.length_append, List.length_cons, List.length_nil, List.length_set, List.length_take, List.length_map, List.length_replicate, ptL_len, Nat.mul_one, Nat.zero_add, Nat.add_zero] <;> omega))))); (case hM | hN => rfl))) | (first | ((with_reducible apply rx_len); (case hx | hn | hN => rfl)) | ((with_reducible apply rx_append); (case hx | hy => rfl); (case hze | he0 | hH => rfl); (case hl => first | (rw [flat_length]; omega) | (rw [flat_length]; simp only [List.length_append, List.length_cons, List.length_nil, List.length_set, List.length_take, List.length_map, List.length_replicate, ptL_len, Nat.mul_one, Nat.zero_add, Nat.add_zero] <;> omega)); (case hs' => (rfl)); (case hbig => omega); (case hmx => omega); (case hcs => first | exact app_pnt1 (by (first | assumption | (simp only [List.length_append, List.length_cons, List.length_nil, List.length_set, List.length_take, List.length_map, List.length_replicate, ptL_len, Nat.mul_one, Nat.zero_add, Nat.add_zero] <;> omega))) | exact app_pnt0 (by (first | assumption | (simp only [List.length_append, List.length_cons, List.length_nil, List.length_set, List.length_take, List.length_map, List.length_replicate, ptL_len, Nat.mul_one, Nat.zero_add, Nat.add_zero] <;> omega)))); (case hM | hN => rfl))) | ((with_reducible apply rw_nil); (case hf => kernel_rfl)) | (((with_reducible apply rx_buildK); (case hl => rfl); (case hf => ((exact (rfl : _ = some [_, _, _, _, _])))); (case hk => ((exact (rfl : _ = [_, _, _, _, _])))); (case hN => rfl))) | ((with_reducible apply rx_alloc); (case hM | hN => rfl)) | ((with_reducible apply rx_buildSliceI (t := _)); (case hze | hsm | hl => rfl); (case hfl => (first | exact (rfl : _ = some [_]) | exact (rfl : _ = some [_, _]) | exact (rfl : _ = some [_, _, _, _, _]))); (case hM | hN => rfl)) | ((with_reducible apply rx_store); (case hx | hy => rfl); (case hc | hn | hH => rfl); (case hl => (first | (rw [flat_length]; simp only [List.length_append, List.length_cons, List.length_nil, List.length_set, List.length_take, List.length_map, List.length_replicate, ptL_len, Nat.mul_one, Nat.zero_add, Nat.add_zero] <;> omega) | (simp;done))); (case hcs => first | exact st_next1 (by ((simp only [List.length_append, List.length_cons, List.length_nil, List.length_set, List.length_take, List.length_map, List.length_replicate, ptL_len, Nat.mul_one, Nat.zero_add, Nat.add_zero] <;> omega))) | exact st_next2 (by ((simp only [List.length_append, List.length_cons, List.length_nil, List.length_set, List.length_take, List.length_map, List.length_replicate, ptL_len, Nat.mul_one, Nat.zero_add, Nat.add_zero] <;> omega))) | exact (rfl : _ = [_, _, _, _, _, _])))) | ((with_reducible apply id_aw); first | with_reducible apply aw_seq | with_reducible apply aw_region | ((with_reducible apply aw_cond); (case hc => rfl); all_goals (intro hc; have hq := hc; (try simp only [Bool.and_eq_true, Bool.and_eq_false_iff, Bool.or_eq_true, Bool.or_eq_false_iff, decide_eq_true_eq, decide_eq_false_iff_not, Bool.not_eq_true', Bool.not_eq_false', Bool.not_true, Bool.not_false, Int.not_lt, Int.not_le] at hq); (try (exfalso; omega)))) | with_reducible apply aw_block | with_reducible apply aw_skip | with_reducible apply aw_exit | with_reducible apply aw_ret) | with_reducible apply tq_normal | with_reducible apply tq_exit | with_reducible apply bq_normal | with_reducible apply bq_here)
  · (apply Exists.intro (k + 1, _, _); refine And.intro ?_ (And.intro ?_ ?_); rotate_left 2; focus (refine Le.ren [(0, 7)] rfl (by decide) ?_ ?_ <;> repeat' (first | exact trivial | refine And.intro ⟨_, rfl, ?_⟩ ?_ | refine And.intro ⟨_, _, rfl, rfl, ?_⟩ ?_ | exact Or.inr rfl | refine Or.inl ⟨?_, (by first | rfl | exact pur_sl _ _)⟩ | rfl)))
    · dsimp only
      rw [if_get1 hm1, if_set1 hm1, if_get2 (by rw [ptL_len, hm1]), if_set2 (by rw [ptL_len, hm1]), ptL_take l _ k (by omega), npL_take l k (by omega), ptS_def, if_pos hq, n9 hq]
      refine ⟨by omega, ?_, by simp [ptL_len]; omega, by omega⟩
      have e1 : npL (l.take k) = xs.length := by omega
      rw [Nat.zero_add, e1]
      rw [← hxs]
      simp only [List.append_assoc, List.length_append, List.length_cons, List.length_nil, ptL_len, hm1, Nat.zero_add]
      clear hxs hck hnt n9 n10 n1
      grind
    · dsimp only; omega
  · (apply Exists.intro (k + 1, _, _); refine And.intro ?_ (And.intro ?_ ?_); rotate_left 2; focus (refine Le.ren [(0, 7)] rfl (by decide) ?_ ?_ <;> repeat' (first | exact trivial | refine And.intro ⟨_, rfl, ?_⟩ ?_ | refine And.intro ⟨_, _, rfl, rfl, ?_⟩ ?_ | exact Or.inr rfl | refine Or.inl ⟨?_, (by first | rfl | exact pur_sl _ _)⟩ | rfl)))
    · dsimp only
      rw [lp_get hm1, lp_set hm1, ptL_take l _ k (by omega), npL_take l k (by omega), ptS_def, if_neg (by omega), if_pos hq, n10 hq]
      refine ⟨by omega, ?_, by simp [ptL_len]; omega, by omega⟩
      have e1 : npL (l.take k) = xs.length := by omega
      rw [Nat.zero_add, e1]
      rw [← hxs]
      simp only [List.append_assoc, List.length_append, List.length_cons, List.length_nil, ptL_len, hm1, Nat.zero_add]
      clear hxs hck hnt n9 n10 n1
      grind
    · dsimp only; omega
  · (apply Exists.intro (k + 1, _, _); refine And.intro ?_ (And.intro ?_ ?_); rotate_left 2; focus (refine Le.ren [(0, 4)] rfl (by decide) ?_ ?_ <;> repeat' (first | exact trivial | refine And.intro ⟨_, rfl, ?_⟩ ?_ | refine And.intro ⟨_, _, rfl, rfl, ?_⟩ ?_ | exact Or.inr rfl | refine Or.inl ⟨?_, (by first | rfl | exact pur_sl _ _)⟩ | rfl)))
    · dsimp only
      rw [ptL_take l _ k (by omega), npL_take l k (by omega), ptS_def, if_neg ‹¬l[k]!.op = 9›, if_neg hq, n1 ‹¬l[k]!.op = 9› hq]
      refine ⟨by omega, ?_, by simp [ptL_len]; omega, by omega⟩
      have e1 : npL (l.take k) = xs.length := by omega
      rw [Nat.zero_add, e1]
      rw [← hxs, hm1]
    · dsimp only; omega
  · refine rq_ret rfl ?_
    have e2 : l.take k = l := List.take_of_length_le (by omega)
    rw [e2] at hxs hm2
    refine mc_ret () trivial ?_ ⟨.inr (Eq.trans (b := some _) rfl ?_), trivial⟩
    · simp only [oneOf]; rw [hm2]
    · rw [hxs]
-- (impl.Program).points
theorem points_c (p : Prg) (hs : cntL p.body ≤ 1000000) : PC Tryz.prog 24 [aPrg p] (fun r => r = sl cPnt (ptsF p)) := by
  have hn := npL_le p.body
  (refine pc_of_aw Tryz.func24 rfl (by simp [Tryz.ntmps24]) ?_; rw [Tryz.ntmps24])
  repeat' (first | ((with_reducible apply id_rw); first | (((with_reducible apply rx_load1); (case hx | hd => rfl); (case hc | hN => rfl))) | ((with_reducible apply rx_fieldAddr); (case hx | hp | hN => rfl)) | ((with_reducible apply rx_assign); (case hx | hN => rfl)) | (((with_reducible apply rx_pointsOfN); (case ha0 | ha1 => rfl); (case hmc => ((apply pointsOfN_c <;> ((assumption))))); (case hM | hN => rfl))) | (((with_reducible apply rx_append); (case hx | hy => rfl); (case hze | he0 | hH => rfl); (case hl => (rw [flat_length]; simp only [List.length_append, List.length_cons, List.length_nil, List.length_set, List.length_take, List.length_map, List.length_replicate, ptL_len, Nat.mul_one, Nat.zero_add, Nat.add_zero] <;> omega)); (case hs' => (rfl)); (case hbig => omega); (case hmx => omega); (case hcs => (exact app_pnt0 (by ((simp only [List.length_append, List.length_cons, List.length_nil, List.length_set, List.length_take, List.length_map, List.length_replicate, ptL_len, Nat.mul_one, Nat.zero_add, Nat.add_zero] <;> omega))))); (case hM | hN => rfl))) | ((with_reducible apply rw_nil); (case hf => kernel_rfl)) | (((with_reducible apply rx_buildK); (case hl => rfl); (case hf => ((exact (rfl : _ = some [_, _, _, _, _])))); (case hk => ((exact (rfl : _ = [_, _, _, _, _])))); (case hN => rfl))) | ((with_reducible apply rx_box); (case hx | hc => rfl); (case hM | hN => rfl)) | ((with_reducible apply rx_buildSliceI (t := _)); (case hze | hsm | hl => rfl); (case hfl => ((exact (rfl : _ = some [_, _, _, _, _])))); (case hM | hN => rfl))) | ((with_reducible apply id_aw); first | with_reducible apply aw_seq | with_reducible apply aw_region | with_reducible apply aw_ret) | with_reducible apply tq_normal)
  (refine rq_le (Le.frzD (d := 2) (i := 3) rfl rfl) ?_; refine rq_ret rfl ?_)
  refine ⟨?_, ?_⟩
  · simp only [oneOf, sl, ptsF, List.length_append, List.length_cons, List.length_nil, ptL_len, Nat.zero_add]
  · ((exact pur_sl _ _))
-- impl.PointsOf
theorem PointsOfI_c (p : Prg) (hl : p.types.length ≤ 1000000) (hs : cntL p.body ≤ 1000000) : PC Tryz.prog 9 [aPrg p] (fun r => r = sl cPnt (if validF p = true then ptsF p else [])) := by
  (refine pc_of_aw Tryz.func9 rfl (by simp [Tryz.ntmps9]) ?_; rw [Tryz.ntmps9])
  repeat' (first | ((with_reducible apply id_rw); first | (((with_reducible apply rx_loadA); (case hx | hd => rfl); (case hc => ((exact (rfl : _ = [_, _])))); (case hn | h0 | hN => rfl))) | ((with_reducible apply rx_assign); (case hx | hN => rfl)) | (first | ((with_reducible apply rx_callE (k := 15)); (case ha => rfl); (case h => (apply validI_c <;> (first | assumption | omega))); (case hp => (exact Pur.pf)); (case hN => rfl)) | ((with_reducible apply rx_callE (k := 24)); (case ha => rfl); (case h => (apply points_c <;> ((assumption)))); (case hp => (exact Pur.pf)); (case hN => rfl))) | ((with_reducible apply rw_nil); (case hf => kernel_rfl)) | ((with_reducible apply rx_not); (case hx | hN => rfl)) | ((with_reducible apply rx_box); (case hx | hc => rfl); (case hM | hN => rfl))) | ((with_reducible apply id_aw); first | with_reducible apply aw_seq | with_reducible apply aw_region | ((with_reducible apply aw_cond); (case hc => rfl); all_goals (intro hc; have hq := hc; (try simp only [Bool.and_eq_true, Bool.and_eq_false_iff, Bool.or_eq_true, Bool.or_eq_false_iff, decide_eq_true_eq, decide_eq_false_iff_not, Bool.not_eq_true', Bool.not_eq_false', Bool.not_true, Bool.not_false, Int.not_lt, Int.not_le] at hq); (try (exfalso; omega)))) | with_reducible apply aw_skip | with_reducible apply aw_ret) | with_reducible apply tq_normal | with_reducible apply tq_ret)
  · (refine rq_le (Le.nilImm (d := 2) rfl) ?_; refine rq_ret rfl ?_)
    refine ⟨?_, (by (rfl))⟩
    simp only [hq, oneOf, Bool.false_eq_true, if_false]; rfl
  · refine rq_ret rfl ⟨?_, (by (exact pur_sl _ _))⟩
    simp only [hq, oneOf, if_true]
end Go.Proofs.YtjebhaeihokgmaaGreat

namespace Go.Proofs.YtjebhaeihokgmaaGreat
open Go.AL Go.RowKit
set_option linter.unusedSimpArgs false
set_option linter.unusedVariables false
set_option maxHeartbeats 4000000
set_option maxRecDepth 4000

theorem rx_l2Add {l : List AL.Stmt} {pts : List Pnt} {m : Nat} {N : Nat} {Q : Exit → AS → Prop} {all : Array Oper} {rest : List Oper} {tsl : List (Nat × AV)} {hsl : List (Nat × Option (List AV))} {nidl : Nat} {z0 : Lo} {md : Md} {d : Nat} {ty : TypeId} {pos : String} {af : Array Edge} {tys : Array TypeId} {x0 x1 : Operand} {i0 : Nat} (ha0 : ev (lk tsl) x0 = some (.own i0 0 m 5)) (ha1 : ev (lk tsl) x1 = some (sl cStmt l)) (hH0 : lkH hsl i0 = some (flat cPnt pts)) (hmc : MC Tryz.prog 69 [.own 0 0 m 5, sl cStmt l] [(0, some (flat cPnt pts))] 1 (fun _ : Unit => True) (fun _ => .own 1 0 (m + npL l) 5) (fun _ => [(1, some (flat cPnt (pts ++ ptL pts.length l)))])) (hM : Nat.ble (nidl + 1) big = true) (hN : Nat.blt d N = true) {md' : Md} [hmd : MdA md (rOs [x0, x1] ++ [.inr i0]) (List.map Sum.inr (List.map Prod.fst ([(nidl, some (flat cPnt (pts ++ ptL pts.length l))), (i0, none)] : List (Nat × Option (List AV)))) ++ [.inl d]) md'] (kk : RW Tryz.prog N all Q md' rest ⟨(d, .own nidl 0 (m + npL l) 5) :: tsl, wrH hsl [(nidl, some (flat cPnt (pts ++ ptL pts.length l))), (i0, none)], nidl + 1, z0⟩) : RW Tryz.prog N all Q md (⟨some d, .call ⟨.value (.func 69), #[x0, x1], tys⟩, ty, pos, af, none⟩ :: rest) ⟨tsl, hsl, nidl, z0⟩ := by
  refine rx_mcallE [i0] 2 [(nidl, some (flat cPnt (pts ++ ptL pts.length l))), (i0, none)] hmc (avs := [.own i0 0 m 5, sl cStmt l]) ?_ rfl ?_ rfl ?_ (by simpa using hM) ?_ ?_ ?_ hN (md' := md') (hmd := hmd) kk
  · show evL (lk tsl) [x0, x1] = _
    simp only [evL, ha0, ha1]
  · exact ⟨⟨_, _, rfl, hH0, by (repeat' ((exact RnL.purI inferInstance)))⟩, trivial⟩
  · (repeat' (first | exact RnL.purI inferInstance | exact RnV.own rfl | refine RnL.cons ?_ ?_))
  · (repeat' ((exact RnV.own rfl)))
  · simp [wsAll]
  · (repeat' (first | exact trivial | (refine And.intro ⟨1, _, rfl, rfl, ?_⟩ ?_) | exact RnL.purI inferInstance))

-- spec.l2Add
theorem l2Add_c0 (mm : Nat) (hmm : mm ≤ 1000000) (l2Add_ih : ∀ l pts m, cntL l < mm → m = pts.length → m + npL l ≤ 12000000 → MC Tryz.prog 69 [.own 0 0 m 5, sl cStmt l] [(0, some (flat cPnt pts))] 1 (fun _ : Unit => True) (fun _ => .own 1 0 (m + npL l) 5) (fun _ => [(1, some (flat cPnt (pts ++ ptL pts.length l)))])) (l : List AL.Stmt) (pts : List Pnt) (m : Nat) (hs : cntL l ≤ mm) (hm : m = pts.length) (hb : m + npL l ≤ 12000000) : MC Tryz.prog 69 [.own 0 0 m 5, sl cStmt l] [(0, some (flat cPnt pts))] 1 (fun _ : Unit => True) (fun _ => .own 1 0 (m + npL l) 5) (fun _ => [(1, some (flat cPnt (pts ++ ptL pts.length l)))]) := by
  have hlen := cntL_len l
  subst hm
  (refine mc_of_aw Tryz.func69 rfl (by simp [Tryz.ntmps69]) ?_; rw [Tryz.ntmps69])
  repeat' (first | ((with_reducible apply id_rw); first | ((with_reducible apply rx_assign); (case hx | hN => rfl)) | ((with_reducible apply rw_nil); (case hf => kernel_rfl))) | ((with_reducible apply id_aw); first | with_reducible apply aw_seq | with_reducible apply aw_region | with_reducible apply aw_block) | with_reducible apply tq_normal)
  refine AW.le ?_ (Le.mv (d := 0) (i := 0) (cs := flat cPnt pts) rfl rfl (by decide))
  refine aw_loopK (σ := Nat × List Pnt × Nat) [1] [(1, _)] [] [] (fun k => [(5, iv (k.1 : Int)), (0, .own 1 0 k.2.2 5)]) (fun k => [(1, some (flat cPnt k.2.1))]) (fun k => k.1 ≤ l.length ∧ k.2.1 = pts ++ ptL pts.length (l.take k.1) ∧ k.2.2 = k.2.1.length ∧ k.2.2 = pts.length + npL (l.take k.1)) (fun k => l.length - k.1) (0, pts, pts.length) ⟨by omega, by simp [ptL], rfl, by simp [npL]⟩ rfl rfl (by repeat' (first | exact trivial | refine And.intro rfl ?_)) (by repeat' (first | exact trivial | refine And.intro (.inr rfl) ?_)) ?_
  rintro ⟨k, xs, m1⟩ ⟨hk, hxs, hm1, hm2⟩
  dsimp only at hk hxs hm1 hm2 ⊢
  have hck := cntL_at l k
  have hct := cnt_th l[k]!
  have hnt := npL_at l k
  have n9 := npS_9 l[k]!
  have n10 := npS_10 l[k]!
  have n1 := npS_1 l[k]!
  repeat' (first | ((with_reducible apply id_rw); first | ((with_reducible apply rx_move); (case hx | hN => rfl)) | (first | ((with_reducible apply rx_load1); (case hx | hd => rfl); (case hc | hN => rfl)) | ((with_reducible apply rx_loadA); (case hx | hd => rfl); (case hc => ((exact (rfl : _ = [_, _, _, _, _, _])))); (case hn | h0 | hN => rfl))) | ((with_reducible apply rx_fieldAddr); (case hx | hp | hN => rfl)) | (first | ((with_reducible apply rx_add); (case hx | hy => rfl); (case h => omega); (case hN => rfl)) | ((with_reducible apply rx_bin); (case hx | hy => rfl); (case h | hN => rfl))) | ((with_reducible apply rx_assign); (case hx | hN => rfl)) | (first | ((with_reducible apply rx_indexFN); (case hx | hi => rfl); (case hm => ((omega))); (case hml => ((rfl))); (case hα => infer_instance); (case hf => infer_instance); (case hg => infer_instance); (case hN => rfl)) | ((with_reducible apply rx_indexON); (case hx | hi => rfl); (case hm => ((omega))); (case hN => rfl))) | (((with_reducible apply rx_l2Add); (case ha0 | ha1 => rfl); (case hH0 => ((rfl))); (case hmc => ((apply l2Add_ih <;> (first | omega | (simp only [List.length_append, List.length_cons, List.length_nil, List.length_set, List.length_take, List.length_map, List.length_replicate, ptL_len, Nat.mul_one, Nat.zero_add, Nat.add_zero] <;> omega))))); (case hM | hN => rfl))) | (first | ((with_reducible apply rx_len); (case hx | hn | hN => rfl)) | ((with_reducible apply rx_append); (case hx | hy => rfl); (case hze | he0 | hH => rfl); (case hl => first | (rw [flat_length]; omega) | (rw [flat_length]; simp only [List.length_append, List.length_cons, List.length_nil, List.length_set, List.length_take, List.length_map, List.length_replicate, ptL_len, Nat.mul_one, Nat.zero_add, Nat.add_zero] <;> omega)); (case hs' => (rfl)); (case hbig => omega); (case hmx => omega); (case hcs => first | exact app_pnt1 (by (first | assumption | (simp only [List.length_append, List.length_cons, List.length_nil, List.length_set, List.length_take, List.length_map, List.length_replicate, ptL_len, Nat.mul_one, Nat.zero_add, Nat.add_zero] <;> omega))) | exact app_pnt0 (by (first | assumption | (simp only [List.length_append, List.length_cons, List.length_nil, List.length_set, List.length_take, List.length_map, List.length_replicate, ptL_len, Nat.mul_one, Nat.zero_add, Nat.add_zero] <;> omega)))); (case hM | hN => rfl))) | ((with_reducible apply rw_nil); (case hf => kernel_rfl)) | (((with_reducible apply rx_buildK); (case hl => rfl); (case hf => ((exact (rfl : _ = some [_, _, _, _, _])))); (case hk => ((exact (rfl : _ = [_, _, _, _, _])))); (case hN => rfl))) | ((with_reducible apply rx_alloc); (case hM | hN => rfl)) | ((with_reducible apply rx_buildSliceI (t := _)); (case hze | hsm | hl => rfl); (case hfl => (first | exact (rfl : _ = some [_]) | exact (rfl : _ = some [_, _]) | exact (rfl : _ = some [_, _, _, _, _]))); (case hM | hN => rfl)) | ((with_reducible apply rx_store); (case hx | hy => rfl); (case hc | hn | hH => rfl); (case hl => (first | (rw [flat_length]; simp only [List.length_append, List.length_cons, List.length_nil, List.length_set, List.length_take, List.length_map, List.length_replicate, ptL_len, Nat.mul_one, Nat.zero_add, Nat.add_zero] <;> omega) | (simp;done))); (case hcs => first | exact st_next1 (by ((simp only [List.length_append, List.length_cons, List.length_nil, List.length_set, List.length_take, List.length_map, List.length_replicate, ptL_len, Nat.mul_one, Nat.zero_add, Nat.add_zero] <;> omega))) | exact st_next2 (by ((simp only [List.length_append, List.length_cons, List.length_nil, List.length_set, List.length_take, List.length_map, List.length_replicate, ptL_len, Nat.mul_one, Nat.zero_add, Nat.add_zero] <;> omega))) | exact (rfl : _ = [_, _, _, _, _, _])))) | ((with_reducible apply id_aw); first | with_reducible apply aw_seq | with_reducible apply aw_region | ((with_reducible apply aw_cond); (case hc => rfl); all_goals (intro hc; have hq := hc; (try simp only [Bool.and_eq_true, Bool.and_eq_false_iff, Bool.or_eq_true, Bool.or_eq_false_iff, decide_eq_true_eq, decide_eq_false_iff_not, Bool.not_eq_true', Bool.not_eq_false', Bool.not_true, Bool.not_false, Int.not_lt, Int.not_le] at hq); (try (exfalso; omega)))) | with_reducible apply aw_block | with_reducible apply aw_skip | with_reducible apply aw_exit | with_reducible apply aw_ret) | with_reducible apply tq_normal | with_reducible apply tq_exit | with_reducible apply bq_normal | with_reducible apply bq_here)
  · (apply Exists.intro (k + 1, _, _); refine And.intro ?_ (And.intro ?_ ?_); rotate_left 2; focus (refine Le.ren [(1, 8)] rfl (by decide) ?_ ?_ <;> repeat' (first | exact trivial | refine And.intro ⟨_, rfl, ?_⟩ ?_ | refine And.intro ⟨_, _, rfl, rfl, ?_⟩ ?_ | exact Or.inr rfl | refine Or.inl ⟨?_, (by first | rfl | exact pur_sl _ _)⟩ | rfl)))
    · dsimp only
      rw [if_get2 (by rw [ptL_len, hm1]), if_set2 (by rw [ptL_len, hm1]), if_get1 hm1, if_set1 hm1, ptL_take l _ k (by omega), npL_take l k (by omega), ptS_def, if_pos hq, n9 hq]
      refine ⟨by omega, ?_, by simp [ptL_len]; omega, by omega⟩
      have e1 : xs.length = pts.length + npL (l.take k) := by omega
      rw [← List.append_assoc pts, ← hxs, ← e1]
      simp only [List.append_assoc, List.length_append, List.length_cons, List.length_nil, ptL_len, hm1, Nat.zero_add]
      clear l2Add_ih hxs hck hnt n9 n10 n1
      grind
    · dsimp only; omega
  · (apply Exists.intro (k + 1, _, _); refine And.intro ?_ (And.intro ?_ ?_); rotate_left 2; focus (refine Le.ren [(1, 8)] rfl (by decide) ?_ ?_ <;> repeat' (first | exact trivial | refine And.intro ⟨_, rfl, ?_⟩ ?_ | refine And.intro ⟨_, _, rfl, rfl, ?_⟩ ?_ | exact Or.inr rfl | refine Or.inl ⟨?_, (by first | rfl | exact pur_sl _ _)⟩ | rfl)))
    · dsimp only
      rw [lp_get hm1, lp_set hm1, ptL_take l _ k (by omega), npL_take l k (by omega), ptS_def, if_neg (by omega), if_pos hq, n10 hq]
      refine ⟨by omega, ?_, by simp [ptL_len]; omega, by omega⟩
      have e1 : xs.length = pts.length + npL (l.take k) := by omega
      rw [← List.append_assoc pts, ← hxs, ← e1]
      simp only [List.append_assoc, List.length_append, List.length_cons, List.length_nil, ptL_len, hm1, Nat.zero_add]
      clear l2Add_ih hxs hck hnt n9 n10 n1
      grind
    · dsimp only; omega
  · (apply Exists.intro (k + 1, _, _); refine And.intro ?_ (And.intro ?_ ?_); rotate_left 2; focus (refine Le.ren [(1, 5)] rfl (by decide) ?_ ?_ <;> repeat' (first | exact trivial | refine And.intro ⟨_, rfl, ?_⟩ ?_ | refine And.intro ⟨_, _, rfl, rfl, ?_⟩ ?_ | exact Or.inr rfl | refine Or.inl ⟨?_, (by first | rfl | exact pur_sl _ _)⟩ | rfl)))
    · dsimp only
      rw [ptL_take l _ k (by omega), npL_take l k (by omega), ptS_def, if_neg ‹¬l[k]!.op = 9›, if_neg hq, n1 ‹¬l[k]!.op = 9› hq]
      refine ⟨by omega, ?_, by simp [ptL_len]; omega, by omega⟩
      have e1 : xs.length = pts.length + npL (l.take k) := by omega
      rw [← List.append_assoc pts, ← hxs, ← e1, hm1]
    · dsimp only; omega
  · refine rq_ret rfl ?_
    have e2 : l.take k = l := List.take_of_length_le (by omega)
    rw [e2] at hxs hm2
    refine mc_ret () trivial ?_ ⟨.inr (Eq.trans (b := some _) rfl ?_), trivial⟩
    · simp only [oneOf]; rw [hm2]
    · rw [hxs]
theorem l2Add_c (l : List AL.Stmt) (pts : List Pnt) (m : Nat) (hs : cntL l ≤ 1000000) (hm : m = pts.length) (hb : m + npL l ≤ 12000000) : MC Tryz.prog 69 [.own 0 0 m 5, sl cStmt l] [(0, some (flat cPnt pts))] 1 (fun _ : Unit => True) (fun _ => .own 1 0 (m + npL l) 5) (fun _ => [(1, some (flat cPnt (pts ++ ptL pts.length l)))]) := by
  have h : ∀ (mm : Nat), mm ≤ 1000000 → ∀ l pts m, cntL l ≤ mm → m = pts.length → m + npL l ≤ 12000000 → MC Tryz.prog 69 [.own 0 0 m 5, sl cStmt l] [(0, some (flat cPnt pts))] 1 (fun _ : Unit => True) (fun _ => .own 1 0 (m + npL l) 5) (fun _ => [(1, some (flat cPnt (pts ++ ptL pts.length l)))]) := by
    intro mm
    induction mm using Nat.strongRecOn with
    | ind mm ih =>
      intro h0 l pts m h1 h2 h3
      exact l2Add_c0 mm h0 (fun l' pts' m' g1 g2 g3 => ih _ g1 (by omega) l' pts' m' (Nat.le_refl _) g2 g3) l pts m h1 h2 h3
  exact h _ hs l pts m (Nat.le_refl _) hm hb
-- spec.l2Points
theorem l2Points_c (p : Prg) (hs : cntL p.body ≤ 1000000) : PC Tryz.prog 41 [aPrg p] (fun r => r = sl cPnt (ptsF p)) := by
  have hn := npL_le p.body
  have e0 : ([] : List AV) = flat cPnt [] := rfl
  (refine pc_of_aw Tryz.func41 rfl (by simp [Tryz.ntmps41]) ?_; rw [Tryz.ntmps41])
  repeat' (first | ((with_reducible apply id_rw); first | (((with_reducible apply rx_load1); (case hx | hd => rfl); (case hc | hN => rfl))) | ((with_reducible apply rx_fieldAddr); (case hx | hp | hN => rfl)) | ((with_reducible apply rx_assign); (case hx | hN => rfl)) | (((with_reducible apply rx_l2Add); (case ha0 | ha1 => rfl); (case hH0 => ((exact flat_nilH rfl))); (case hmc => ((apply l2Add_c <;> (first | assumption | omega | (simp only [List.length_append, List.length_cons, List.length_nil, List.length_set, List.length_take, List.length_map, List.length_replicate, ptL_len, Nat.mul_one, Nat.zero_add, Nat.add_zero] <;> omega))))); (case hM | hN => rfl))) | (((with_reducible apply rx_append); (case hx | hy => rfl); (case hze | he0 | hH => rfl); (case hl => (rw [flat_length]; simp only [List.length_append, List.length_cons, List.length_nil, List.length_set, List.length_take, List.length_map, List.length_replicate, ptL_len, Nat.mul_one, Nat.zero_add, Nat.add_zero] <;> omega)); (case hs' => (rfl)); (case hbig => omega); (case hmx => omega); (case hcs => (exact app_pnt0 (by ((simp only [List.length_append, List.length_cons, List.length_nil, List.length_set, List.length_take, List.length_map, List.length_replicate, ptL_len, Nat.mul_one, Nat.zero_add, Nat.add_zero] <;> omega))))); (case hM | hN => rfl))) | ((with_reducible apply rw_nil); (case hf => kernel_rfl)) | (((with_reducible apply rx_buildK); (case hl => rfl); (case hf => ((exact (rfl : _ = some [_, _, _, _, _])))); (case hk => ((exact (rfl : _ = [_, _, _, _, _])))); (case hN => rfl))) | ((with_reducible apply rx_box); (case hx | hc => rfl); (case hM | hN => rfl)) | ((with_reducible apply rx_buildSlice); (case hze | hsm | hl => rfl); (case hfl => (first | exact (rfl : _ = some [_, _, _, _, _]) | rfl)); (case hM | hN => rfl))) | ((with_reducible apply id_aw); first | with_reducible apply aw_seq | with_reducible apply aw_region | with_reducible apply aw_ret) | with_reducible apply tq_normal)
  (refine rq_le (Le.frzD (d := 2) (i := 4) rfl rfl) ?_; refine rq_ret rfl ?_)
  refine ⟨?_, (by (exact pur_sl _ _))⟩
  simp only [oneOf, sl, ptsF, List.length_append, List.length_cons, List.length_nil, ptL_len, Nat.zero_add, List.nil_append]
end Go.Proofs.YtjebhaeihokgmaaGreat
