/-
  A part of the proofs over this program: rules and contracts of its functions (the contracts).
-/
import Derived.Test.YtlbbbmeadnelbaaGreatA06
import Derived.Test.YtlbbbmeadnelbaaGreatRows
set_option linter.unusedVariables false
set_option linter.unusedSimpArgs false
set_option maxHeartbeats 8000000
set_option maxRecDepth 4000
attribute [local irreducible] Go.AL.RW Go.AL.AW Go.AL.Stop
namespace Go.Proofs.YtlbbbmeadnelbaaGreat
open Go.AL
theorem within_c (a b c : Int) : PC Tryz.prog 58 [iv a, iv b, iv c] (fun r => r = bv (decide (b ≤ a) && decide (a ≤ c))) := by
  (refine pc_of_aw Tryz.func58 rfl (by simp [Tryz.ntmps58]) ?_; rw [Tryz.ntmps58])
  repeat' (first|(apply id_rw;first|(apply rx_move;rfl;rfl)|(first|(apply rx_guardY;rfl;rfl;rfl;(assumption))|(apply rx_guardNs;rfl;rfl;rfl;(assumption))|(apply rx_guardS;(case hj|hb|hN => rfl);all_goals (intro hg;have hq := hg;(try simp only [bqs] at hq);(try (exfalso;omega)))))|(apply rx_bin;rfl;rfl;rfl;rfl)|(apply rx_assign;rfl;rfl)|(first|(apply rx_pickT;rfl;(assumption);rfl;rfl)|(apply rx_pickF;rfl;(assumption);rfl;rfl))|(apply rw_nil;kernel_rfl))|(apply id_aw;first|apply aw_seq|apply aw_region|apply aw_ret)|with_reducible apply tq_normal|((with_reducible apply rq_ret);case hr => rfl))
  all_goals (refine ⟨?_, rfl⟩; simp only [oneOf, AV.v.injEq, Value.bool.injEq, Value.int.injEq, true_and])
  all_goals grind
theorem isRefI_c (t : Int) : PC Tryz.prog 207 [iv t] (fun r => r = bv (isRef t)) := by
  (refine pc_of_aw Tryz.func207 rfl (by simp [Tryz.ntmps207]) ?_; rw [Tryz.ntmps207])
  repeat' (first|(apply id_rw;first|(apply rx_move;rfl;rfl)|(first|(apply rx_guardY;rfl;rfl;rfl;(assumption))|(apply rx_guardNs;rfl;rfl;rfl;(assumption))|(apply rx_guardS;(case hj|hb|hN => rfl);all_goals (intro hg;have hq := hg;(try simp only [bqs] at hq);(try (exfalso;omega)))))|(apply rx_bin;rfl;rfl;rfl;rfl)|(apply rx_assign;rfl;rfl)|(first|(apply rx_pickT;rfl;(assumption);rfl;rfl)|(apply rx_pickF;rfl;(assumption);rfl;rfl))|(apply rw_nil;kernel_rfl))|(apply id_aw;first|apply aw_seq|apply aw_region|apply aw_ret)|with_reducible apply tq_normal|((with_reducible apply rq_ret);case hr => rfl))
  all_goals (refine ⟨?_, rfl⟩; simp only [oneOf, AV.v.injEq, Value.bool.injEq, Value.int.injEq, true_and])
  all_goals grind [isRef]
theorem isHolder_c (t : Int) : PC Tryz.prog 205 [iv t] (fun r => r = bv (decide (t = 2) || isRef t)) := by
  (refine pc_of_aw Tryz.func205 rfl (by simp [Tryz.ntmps205]) ?_; rw [Tryz.ntmps205])
  repeat' (first|(apply id_rw;first|(apply rx_move;rfl;rfl)|(first|(apply rx_guardY;rfl;rfl;rfl;(assumption))|(apply rx_guardNs;rfl;rfl;rfl;(assumption))|(apply rx_guardS;(case hj|hb|hN => rfl);all_goals (intro hg;have hq := hg;(try simp only [bqs] at hq);(try (exfalso;omega)))))|(apply rx_bin;rfl;rfl;rfl;rfl)|(apply rx_assign;rfl;rfl)|(first|(apply rx_pickT;rfl;(assumption);rfl;rfl)|(apply rx_pickF;rfl;(assumption);rfl;rfl))|((with_reducible apply rx_callE (k := 207));(case ha => rfl);(case h => (apply isRefI_c <;> (fail)));(case hp => (rfl));(case hN => rfl))|(apply rw_nil;kernel_rfl))|(apply id_aw;first|apply aw_seq|apply aw_region|apply aw_ret)|with_reducible apply tq_normal|((with_reducible apply rq_ret);case hr => rfl))
  all_goals (refine ⟨?_, rfl⟩; simp only [oneOf, AV.v.injEq, Value.bool.injEq, Value.int.injEq, true_and])
  all_goals grind
theorem isBranch_c (t : Int) : PC Tryz.prog 174 [iv t] (fun r => r = bv (decide (t = 9) || decide (t = 10))) := by
  (refine pc_of_aw Tryz.func174 rfl (by simp [Tryz.ntmps174]) ?_; rw [Tryz.ntmps174])
  repeat' (first|(apply id_rw;first|(apply rx_move;rfl;rfl)|(first|(apply rx_guardY;rfl;rfl;rfl;(assumption))|(apply rx_guardNs;rfl;rfl;rfl;(assumption))|(apply rx_guardS;(case hj|hb|hN => rfl);all_goals (intro hg;have hq := hg;(try simp only [bqs] at hq);(try (exfalso;omega)))))|(apply rx_bin;rfl;rfl;rfl;rfl)|(apply rx_assign;rfl;rfl)|(first|(apply rx_pickT;rfl;(assumption);rfl;rfl)|(apply rx_pickF;rfl;(assumption);rfl;rfl))|(apply rw_nil;kernel_rfl))|(apply id_aw;first|apply aw_seq|apply aw_region|apply aw_ret)|with_reducible apply tq_normal|((with_reducible apply rq_ret);case hr => rfl))
  all_goals (refine ⟨?_, rfl⟩; simp only [oneOf, AV.v.injEq, Value.bool.injEq, Value.int.injEq, true_and])
  all_goals grind
theorem l1Type_c (ts : List Int) (v : Int) : PC Tryz.prog 215 [sl cI ts, iv v] (fun r => r = iv (typeAt ts v)) := by
  (refine pc_of_aw Tryz.func215 rfl (by simp [Tryz.ntmps215]) ?_; rw [Tryz.ntmps215])
  repeat' (first|(apply id_rw;first|(apply rx_move;rfl;rfl)|(apply rx_load1;rfl;rfl;rfl;rfl)|(first|(apply rx_guardY;rfl;rfl;rfl;(assumption))|(apply rx_guardNs;rfl;rfl;rfl;(assumption))|(apply rx_guardS;(case hj|hb|hN => rfl);all_goals (intro hg;have hq := hg;(try simp only [bqs] at hq);(try (exfalso;omega)))))|(apply rx_bin;rfl;rfl;rfl;rfl)|(apply rx_assign;rfl;rfl)|(first|(apply rx_pickT;rfl;(assumption);rfl;rfl)|(apply rx_pickF;rfl;(assumption);rfl;rfl))|(apply rx_indexF;(case hx|hi => rfl);(case hm => (omega));(case hml => (rfl));(case hα | hf|hg => infer_instance);(case hN => rfl))|(apply rx_len;rfl;rfl;rfl)|(apply rw_nil;kernel_rfl))|(apply id_aw;first|apply aw_seq|apply aw_region|(apply aw_condT;rfl;(rfl))|(apply aw_cond;rfl;all_goals intro hc;have hq:=hc;(try simp only [bqs] at hq);try exfalso;omega)|apply aw_skip|apply aw_ret)|with_reducible apply tq_normal|with_reducible apply tq_ret|((with_reducible apply rq_ret);case hr => rfl))
  all_goals (refine ⟨?_, rfl⟩; simp only [oneOf, AV.v.injEq, Value.bool.injEq, Value.int.injEq, true_and])
  all_goals grind [typeAt]
theorem typeOf_c (ts : List Int) (v : Int) (hl : ts.length ≤ 1000000) : PC Tryz.prog 204 [sl cI ts, iv v] (fun r => r = iv (typeAt ts v)) := by
  (refine pc_of_aw Tryz.func204 rfl (by simp [Tryz.ntmps204]) ?_; rw [Tryz.ntmps204])
  repeat' (first|(apply id_rw;first|(apply rx_move;rfl;rfl)|(apply rx_load1;rfl;rfl;rfl;rfl)|(apply rx_sub;rfl;rfl;omega;rfl)|(apply rx_assign;rfl;rfl)|(apply rx_indexF;(case hx|hi => rfl);(case hm => (omega));(case hml => (rfl));(case hα | hf|hg => infer_instance);(case hN => rfl))|((with_reducible apply rx_callE (k := 58));(case ha => rfl);(case h => (apply within_c <;> (fail)));(case hp => (rfl));(case hN => rfl))|(apply rx_len;rfl;rfl;rfl)|(apply rw_nil;kernel_rfl)|(apply rx_not;rfl;rfl))|(apply id_aw;first|apply aw_seq|apply aw_region|(apply aw_cond;rfl;all_goals intro hc;have hq:=hc;(try simp only [bqs] at hq);try exfalso;omega)|apply aw_skip|apply aw_ret)|with_reducible apply tq_normal|with_reducible apply tq_ret|((with_reducible apply rq_ret);case hr => rfl))
  all_goals (refine ⟨?_, rfl⟩; simp only [oneOf, AV.v.injEq, Value.bool.injEq, Value.int.injEq, true_and])
  all_goals grind [typeAt]
theorem simpleOk_c (ts : List Int) (s : AL.Stmt) (hl : typesOk ts = true) : PC Tryz.prog 175 [sl cI ts, aStmt s] (fun r => r = bv (s.th.isEmpty && s.el.isEmpty && simpleF ts s)) := by
  have hl2 := typesOk_len hl
  have hx := typeAt_bd hl s.x
  have hy := typeAt_bd hl s.y
  (refine pc_of_aw Tryz.func175 rfl (by simp [Tryz.ntmps175]) ?_; rw [Tryz.ntmps175])
  repeat' (first|(apply id_rw;first|(apply rx_move;rfl;rfl)|(apply rx_load1;rfl;rfl;rfl;rfl)|(apply rx_fieldAddr;rfl;rfl;rfl)|(first|(apply rx_guardU;rfl;rfl;rfl)|(apply rx_guardY;rfl;rfl;rfl;(first|rfl|assumption))|(apply rx_guardNs;rfl;rfl;rfl;(first|rfl|assumption))|(apply rx_guardS;(case hj|hb|hN => rfl);all_goals (intro hg;have hq := hg;(try simp only [bqs] at hq);(try (exfalso;omega)))))|(apply rx_bin;rfl;rfl;rfl;rfl)|(apply rx_assign;rfl;rfl)|(first|(apply rx_pickT;rfl;(first|rfl|assumption);rfl;rfl)|(apply rx_pickF;rfl;(first|rfl|assumption);rfl;rfl))|(first|((with_reducible apply rx_callE (k := 58));(case ha => rfl);(case h => (apply within_c <;> (fail)));(case hp => (rfl));(case hN => rfl))|((with_reducible apply rx_callE (k := 204));(case ha => rfl);(case h => (apply typeOf_c <;> (omega)));(case hp => (exact Pur.pf));(case hN => rfl))|((with_reducible apply rx_callE (k := 205));(case ha => rfl);(case h => (apply isHolder_c <;> (fail)));(case hp => (rfl));(case hN => rfl)))|(apply rx_len;rfl;rfl;rfl)|(apply rw_nil;kernel_rfl)|(apply rx_not;rfl;rfl)|(apply rx_box;rfl;rfl;rfl;rfl))|(apply id_aw;first|apply aw_seq|apply aw_region|(apply aw_draw;kernel_rfl)|(apply aw_condT;rfl;(first|rfl|assumption))|(apply aw_condF;rfl;(assumption))|(apply aw_cond;rfl;all_goals intro hc;have hq:=hc;(try simp only [bqs] at hq);try exfalso;omega)|apply aw_block|apply aw_skip|apply aw_ret)|with_reducible apply tq_normal|with_reducible apply tq_ret|with_reducible apply bq_normal|with_reducible apply bq_ret|((with_reducible apply rq_ret);case hr => rfl))
  all_goals (refine ⟨?_, rfl⟩; simp only [oneOf, AV.v.injEq, Value.bool.injEq, Value.int.injEq, true_and])
  all_goals (cases hth : s.th <;> cases hel : s.el <;> simp only [hth, hel, List.length_nil, List.length_cons, List.isEmpty_nil, List.isEmpty_cons, Bool.true_and, Bool.false_and] at *)
  all_goals (try unfold simpleF)
  all_goals (try simp only [isRef, Bool.or_eq_true, Bool.or_eq_false_iff, decide_eq_true_eq, decide_eq_false_iff_not] at *)
  all_goals grind
theorem l1Simple_c (ts : List Int) (s : AL.Stmt) (hl : typesOk ts = true) : PC Tryz.prog 202 [sl cI ts, aStmt s] (fun r => r = bv (simpleF ts s)) := by
  have hl2 := typesOk_len hl
  have hx := typeAt_bd hl s.x
  have hy := typeAt_bd hl s.y
  (refine pc_of_aw Tryz.func202 rfl (by simp [Tryz.ntmps202]) ?_; rw [Tryz.ntmps202])
  repeat' (first|(apply id_rw;first|(apply rx_move;rfl;rfl)|(apply rx_load1;rfl;rfl;rfl;rfl)|(apply rx_fieldAddr;rfl;rfl;rfl)|(first|(apply rx_guardU;rfl;rfl;rfl)|(apply rx_guardY;rfl;rfl;rfl;(first|rfl|assumption))|(apply rx_guardNs;rfl;rfl;rfl;(first|rfl|assumption))|(apply rx_guardS;(case hj|hb|hN => rfl);all_goals (intro hg;have hq := hg;(try simp only [bqs] at hq);(try (exfalso;omega)))))|(apply rx_bin;rfl;rfl;rfl;rfl)|(apply rx_assign;rfl;rfl)|(first|(apply rx_pickT;rfl;(first|rfl|assumption);rfl;rfl)|(apply rx_pickF;rfl;(first|rfl|assumption);rfl;rfl))|((with_reducible apply rx_callE (k := 215));(case ha => rfl);(case h => (apply l1Type_c <;> (fail)));(case hp => (exact Pur.pf));(case hN => rfl))|(apply rw_nil;kernel_rfl)|(apply rx_box;rfl;rfl;rfl;rfl))|(apply id_aw;first|apply aw_seq|apply aw_region|(apply aw_condF;rfl;(rfl))|(apply aw_cond;rfl;all_goals intro hc;have hq:=hc;(try simp only [bqs] at hq);try exfalso;omega)|apply aw_block|apply aw_skip|apply aw_ret)|with_reducible apply tq_normal|with_reducible apply tq_ret|with_reducible apply bq_normal|with_reducible apply bq_ret|((with_reducible apply rq_ret);case hr => rfl))
  all_goals (refine ⟨?_, rfl⟩; simp only [oneOf, AV.v.injEq, Value.bool.injEq, Value.int.injEq, true_and])
  all_goals (try unfold simpleF)
  all_goals grind
theorem l1Stmt_c0 (ts : List Int) (hl : typesOk ts = true) (m : Nat) (ih : ∀ l (d : Int), cntL l < m → 0 ≤ d → d ≤ 1000 → PC Tryz.prog 123 [sl cI ts, sl cStmt l, iv d] (fun r => r = bv (okL ts d.toNat l))) (s : AL.Stmt) (d : Int) (hs : cntS s ≤ m) (hd0 : 0 ≤ d) (hd : d ≤ 1000) :
    PC Tryz.prog 167 [sl cI ts, aStmt s, iv d] (fun r => r = bv (okS ts d.toNat s)) := by
  rw [okS_int ts d hd0]
  (refine pc_of_aw Tryz.func167 rfl (by simp [Tryz.ntmps167]) ?_; rw [Tryz.ntmps167])
  repeat' (first|(apply id_rw;first|(apply rx_move;rfl;rfl)|(first|(apply rx_load1;rfl;rfl;rfl;rfl)|(apply rx_loadA;rfl;rfl;(exact (rfl:_=[_, _, _, _, _, _]));rfl;rfl;rfl))|(apply rx_fieldAddr;rfl;rfl;rfl)|(first|(apply rx_guardU;rfl;rfl;rfl)|(apply rx_guardY;rfl;rfl;rfl;(assumption))|(apply rx_guardNs;rfl;rfl;rfl;(first|rfl|assumption))|(apply rx_guardS;(case hj|hb|hN => rfl);all_goals (intro hg;have hq := hg;(try simp only [bqs] at hq);(try (exfalso;omega)))))|(first|(apply rx_sub;rfl;rfl;omega;rfl)|(apply rx_bin;rfl;rfl;rfl;rfl))|(apply rx_assign;rfl;rfl)|(first|(apply rx_pickT;rfl;(first|rfl|assumption);rfl;rfl)|(apply rx_pickF;rfl;(first|rfl|assumption);rfl;rfl))|(first|((with_reducible apply rx_callE (k := 123));(case ha => rfl);(case h => (apply ih <;> (first|omega|(have := cnt_th s;omega))));(case hp => (exact Pur.pf));(case hN => rfl))|((with_reducible apply rx_callE (k := 202));(case ha => rfl);(case h => (apply l1Simple_c <;> (assumption)));(case hp => (exact Pur.pf));(case hN => rfl)))|(apply rx_len;rfl;rfl;rfl)|(apply rw_nil;kernel_rfl)|(apply rx_box;rfl;rfl;rfl;rfl))|(apply id_aw;first|apply aw_seq|apply aw_region|(apply aw_condT;rfl;(rfl))|(apply aw_condF;rfl;(rfl))|(apply aw_cond;rfl;all_goals intro hc;have hq:=hc;(try simp only [bqs] at hq);try exfalso;omega)|apply aw_skip|apply aw_ret)|with_reducible apply tq_normal|with_reducible apply tq_ret|((with_reducible apply rq_ret);case hr => rfl))
  all_goals (refine ⟨?_, rfl⟩; simp only [oneOf, AV.v.injEq, Value.bool.injEq, Value.int.injEq, true_and])
  all_goals (cases hth : s.th <;> cases hel : s.el <;> simp only [hth, hel, List.length_nil, List.length_cons, List.isEmpty_nil, List.isEmpty_cons, Bool.true_and, Bool.false_and] at *)
  all_goals grind
theorem l1Body_c0 (ts : List Int) (hl : typesOk ts = true) (m : Nat) (ih : ∀ s (d : Int), cntS s ≤ m → 0 ≤ d → d ≤ 1000 → PC Tryz.prog 167 [sl cI ts, aStmt s, iv d] (fun r => r = bv (okS ts d.toNat s))) (l : List AL.Stmt) (d : Int) (hs : cntL l ≤ m) (hm : m ≤ 100000000) (hd0 : 0 ≤ d) (hd : d ≤ 1000) :
    PC Tryz.prog 123 [sl cI ts, sl cStmt l, iv d] (fun r => r = bv (okL ts d.toNat l)) := by
  have hlen := cntL_len l
  (refine pc_of_aw Tryz.func123 rfl (by simp [Tryz.ntmps123]) ?_; rw [Tryz.ntmps123])
  repeat' (first|(apply id_rw;first|(apply rx_assign;rfl;rfl)|(apply rw_nil;kernel_rfl))|(apply id_aw;first|apply aw_seq|apply aw_region|apply aw_block)|with_reducible apply tq_normal)
  refine aw_loopK (σ := Nat) [0, 1, 2] [(0, _), (1, _), (2, _)] [] [] (fun k => [(7, iv (k : Int))]) (fun k => []) (fun k => k ≤ l.length ∧ ∀ i, i < k → okS ts d.toNat l[i]! = true) (fun k => l.length - k) (0) ⟨by omega, by omega⟩ rfl rfl (by repeat' (first|exact trivial|refine And.intro rfl ?_)) (by repeat' (exact trivial)) ?_
  intro k ⟨hk, hall⟩
  have hck := cntL_at l k
  repeat' (first|(apply id_rw;first|((with_reducible apply rx_callE (k := 167));(case ha => rfl);(case h => (apply ih _ d (Nat.le_trans (hck (by omega)) hs) hd0 hd));(case hp => (exact Pur.pf));(case hN => rfl))|(apply rx_move;rfl;rfl)|(apply rx_loadA;rfl;rfl;(exact (rfl:_=[_, _, _, _, _, _]));rfl;rfl;rfl)|(first|(apply rx_add;rfl;rfl;omega;rfl)|(apply rx_bin;rfl;rfl;rfl;rfl))|(apply rx_assign;rfl;rfl)|(apply rx_indexFN;(case hx|hi => rfl);(case hm => (omega));(case hml => (rfl));(case hα | hf|hg => infer_instance);(case hN => rfl))|(apply rx_len;rfl;rfl;rfl)|(apply rw_nil;kernel_rfl)|(apply rx_not;rfl;rfl))|(apply id_aw;first|apply aw_seq|apply aw_region|(apply aw_cond;rfl;all_goals intro hc;have hq:=hc;(try simp only [bqs] at hq);try exfalso;omega)|apply aw_block|apply aw_skip|apply aw_exit|apply aw_ret)|with_reducible apply tq_normal|with_reducible apply tq_ret|with_reducible apply tq_exit|with_reducible apply bq_normal|with_reducible apply bq_ret|with_reducible apply bq_here|((with_reducible apply rq_ret);case hr => rfl))
  · (refine ⟨?_, rfl⟩; simp only [oneOf, AV.v.injEq, Value.bool.injEq, Value.int.injEq, true_and])
    rw [okL_take (k := k) (by omega) hq]
  · (apply ex3 (k + 1); focus (refine Le.ren [] rfl (by decide) ?_ ?_ <;> repeat' (first | exact trivial | refine And.intro ⟨_, rfl, ?_⟩ ?_ | refine Or.inl ⟨?_, (by first | rfl | exact pur_sl _ _)⟩ | rfl)))
    · grind
    · omega
  · (refine ⟨?_, rfl⟩; simp only [oneOf, AV.v.injEq, Value.bool.injEq, Value.int.injEq, true_and])
    rw [okL_all (fun i hi => hall i (by omega))]
theorem l1_both (ts : List Int) (hl : typesOk ts = true) : ∀ (m : Nat), m ≤ 100000000 → (∀ s (d : Int), cntS s ≤ m → 0 ≤ d → d ≤ 1000 → PC Tryz.prog 167 [sl cI ts, aStmt s, iv d] (fun r => r = bv (okS ts d.toNat s))) ∧
    (∀ l (d : Int), cntL l ≤ m → 0 ≤ d → d ≤ 1000 → PC Tryz.prog 123 [sl cI ts, sl cStmt l, iv d] (fun r => r = bv (okL ts d.toNat l))) := by
  intro m
  induction m using Nat.strongRecOn with
  | ind m ih =>
    intro hm
    have h1 : ∀ s (d : Int), cntS s ≤ m → 0 ≤ d → d ≤ 1000 → PC Tryz.prog 167 [sl cI ts, aStmt s, iv d] (fun r => r = bv (okS ts d.toNat s)) :=
      fun s d h1 h2 h3 => l1Stmt_c0 ts hl m (fun l d' g1 g2 g3 => (ih (cntL l) g1 (by omega)).2 l d' (Nat.le_refl _) g2 g3) s d h1 h2 h3
    exact ⟨h1, fun l d g1 g2 g3 => l1Body_c0 ts hl m h1 l d g1 hm g2 g3⟩
theorem l1Count_c0 (m0 : Nat) (ih : ∀ l (most : Int), cntL l < m0 → -1 ≤ most → most ≤ 1000 → PC Tryz.prog 124 [sl cStmt l, iv most] (fun r => r = iv (lcL most 0 l))) (l : List AL.Stmt) (most : Int) (hs : cntL l ≤ m0) (hm : m0 ≤ 100000000) (hd0 : -1 ≤ most) (hd : most ≤ 1000) :
    PC Tryz.prog 124 [sl cStmt l, iv most] (fun r => r = iv (lcL most 0 l)) := by
  have hlen := cntL_len l
  have hall := lcL_bd l most 0
  (refine pc_of_aw Tryz.func124 rfl (by simp [Tryz.ntmps124]) ?_; rw [Tryz.ntmps124])
  repeat' (first|(apply id_rw;first|(apply rx_assign;rfl;rfl)|(apply rw_nil;kernel_rfl))|(apply id_aw;first|apply aw_seq|apply aw_region|apply aw_block)|with_reducible apply tq_normal)
  refine aw_loopK (σ := Nat × Int) [0, 1] [(0, _), (1, _)] [] [] (fun k => [(6, iv (k.1 : Int)), (5, iv k.2)]) (fun k => []) (fun k => k.1 ≤ l.length ∧ lcL most k.2 (l.drop k.1) = lcL most 0 l ∧ 0 ≤ k.2 ∧ k.2 ≤ cntL l) (fun k => l.length - k.1) (0, 0) ⟨by omega, rfl, by omega, by omega⟩ rfl rfl (by repeat' (first|exact trivial|refine And.intro rfl ?_)) (by repeat' (exact trivial)) ?_
  rintro ⟨k, n⟩ ⟨hk, hn, hn0, hn1⟩
  dsimp only at hk hn hn0 hn1 ⊢
  have hck := cntL_at l k
  have hct := cnt_th l[k]!
  have b1 := lcL_bd l[k]!.th (most - n) 0
  have b2 := fun z => lcL_bd l[k]!.el z 0
  have b3 := lcS_bd l[k]! most n
  have b4 := lcL_bd (l.drop (k + 1)) most (lcS most n l[k]!)
  have b5 := lcL_drop most n l k
  rw [lcS_def] at b3 b4 b5
  repeat' (first|(apply id_rw;first|((with_reducible apply rx_callE (k := 124));(case ha => rfl);(case h => (apply ih <;> omega));(case hp => (exact Pur.pf));(case hN => rfl))|(apply rx_move;rfl;rfl)|(apply rx_load1;rfl;rfl;rfl;rfl)|(apply rx_fieldAddr;rfl;rfl;rfl)|(first|(apply rx_guardY;rfl;rfl;rfl;(assumption))|(apply rx_guardNs;rfl;rfl;rfl;(assumption))|(apply rx_guardS;(case hj|hb|hN => rfl);all_goals (intro hg;have hq := hg;(try simp only [bqs] at hq);(try (exfalso;omega)))))|(first|(apply rx_add;rfl;rfl;omega;rfl)|(apply rx_sub;rfl;rfl;omega;rfl)|(apply rx_bin;rfl;rfl;rfl;rfl))|(apply rx_assign;rfl;rfl)|(first|(apply rx_pickT;rfl;(assumption);rfl;rfl)|(apply rx_pickF;rfl;(assumption);rfl;rfl))|(apply rx_indexFN;(case hx|hi => rfl);(case hm => (omega));(case hml => (rfl));(case hα | hf|hg => infer_instance);(case hN => rfl))|(apply rx_len;rfl;rfl;rfl)|(apply rw_nil;kernel_rfl))|(apply id_aw;first|apply aw_seq|apply aw_region|(apply aw_condF;rfl;(rfl))|(apply aw_cond;rfl;all_goals intro hc;have hq:=hc;(try simp only [bqs] at hq);try exfalso;omega)|apply aw_block|apply aw_skip|apply aw_exit|apply aw_ret)|with_reducible apply tq_normal|with_reducible apply tq_exit|with_reducible apply bq_normal|with_reducible apply bq_here|((with_reducible apply rq_ret);case hr => rfl))
  · (apply Exists.intro (k + 1, n + 1 + lcL (most - n) 0 l[k]!.th + lcL (most - (n + 1 + lcL (most - n) 0 l[k]!.th)) 0 l[k]!.el); refine And.intro ?_ (And.intro ?_ ?_); rotate_left 2; focus (refine Le.ren [] rfl (by decide) ?_ ?_ <;> repeat' (first | exact trivial | refine And.intro ⟨_, rfl, ?_⟩ ?_ | refine Or.inl ⟨?_, (by first | rfl | exact pur_sl _ _)⟩ | rfl)))
    · dsimp only;grind
    · dsimp only;omega
  · (apply ex3 (k + 1, n + 1 + lcL (most - n) 0 l[k]!.th); focus (refine Le.ren [] rfl (by decide) ?_ ?_ <;> repeat' (first | exact trivial | refine And.intro ⟨_, rfl, ?_⟩ ?_ | refine Or.inl ⟨?_, (by first | rfl | exact pur_sl _ _)⟩ | rfl)))
    · dsimp only;grind
    · dsimp only;omega
  · (refine ⟨?_, rfl⟩; simp only [oneOf, AV.v.injEq, Value.bool.injEq, Value.int.injEq, true_and])
    rw [← hn, lcL_stop _ _ _ (by omega)]
  · (refine ⟨?_, rfl⟩; simp only [oneOf, AV.v.injEq, Value.bool.injEq, Value.int.injEq, true_and])
    rw [← hn, lcL_end _ _ _ _ (by omega)]
theorem l1Count_c (l : List AL.Stmt) (most : Int) (hs : cntL l ≤ 100000000) (hd0 : -1 ≤ most) (hd : most ≤ 1000) :
    PC Tryz.prog 124 [sl cStmt l, iv most] (fun r => r = iv (lcL most 0 l)) := by
  have h : ∀ (m : Nat), m ≤ 100000000 → ∀ l (most : Int), cntL l ≤ m → -1 ≤ most → most ≤ 1000 → PC Tryz.prog 124 [sl cStmt l, iv most] (fun r => r = iv (lcL most 0 l)) := by
    intro m
    induction m using Nat.strongRecOn with
    | ind m ih =>
      intro hm l most h1 h2 h3
      exact l1Count_c0 m (fun l' most' g1 g2 g3 => ih _ g1 (by omega) l' most' (Nat.le_refl _) g2 g3) l most h1 hm h2 h3
  exact h _ hs l most (Nat.le_refl _) hd0 hd
theorem l1Body_c (ts : List Int) (l : List AL.Stmt) (d : Int) (hl : typesOk ts = true) (hs : cntL l ≤ 100000000) (hd0 : 0 ≤ d) (hd : d ≤ 1000) : PC Tryz.prog 123 [sl cI ts, sl cStmt l, iv d] (fun r => r = bv (okL ts d.toNat l)) :=
  (l1_both ts hl _ hs).2 l d (Nat.le_refl _) hd0 hd
theorem l1Types_c (ts : List Int) (hl : ts.length ≤ 1000000) : PC Tryz.prog 122 [sl cI ts] (fun r => r = bv (typesOk ts)) := by
  (refine pc_of_aw Tryz.func122 rfl (by simp [Tryz.ntmps122]) ?_; rw [Tryz.ntmps122])
  repeat' (first|(apply id_rw;first|(apply rx_assign;rfl;rfl)|(apply rw_nil;kernel_rfl))|(apply id_aw;first|apply aw_seq|apply aw_region|apply aw_block)|with_reducible apply tq_normal)
  refine aw_loopK (σ := Nat) [0] [(0, _)] [] [] (fun k => [(3, iv (k : Int))]) (fun k => []) (fun k => k ≤ ts.length ∧ ∀ i, i < k → 1 ≤ ts[i]! ∧ ts[i]! ≤ 4) (fun k => ts.length - k) (0) ⟨by omega, by omega⟩ rfl rfl (by repeat' (first|exact trivial|refine And.intro rfl ?_)) (by repeat' (exact trivial)) ?_
  intro k ⟨hk, hall⟩
  repeat' (first|(apply id_rw;first|(apply rx_move;rfl;rfl)|(apply rx_load1;rfl;rfl;rfl;rfl)|(first|(apply rx_guardY;rfl;rfl;rfl;(assumption))|(apply rx_guardNs;rfl;rfl;rfl;(assumption))|(apply rx_guardS;(case hj|hb|hN => rfl);all_goals (intro hg;have hq := hg;(try simp only [bqs] at hq);(try (exfalso;omega)))))|(first|(apply rx_add;rfl;rfl;omega;rfl)|(apply rx_bin;rfl;rfl;rfl;rfl))|(apply rx_assign;rfl;rfl)|(first|(apply rx_pickT;rfl;(assumption);rfl;rfl)|(apply rx_pickF;rfl;(assumption);rfl;rfl))|(apply rx_indexFN;(case hx|hi => rfl);(case hm => (omega));(case hml => (rfl));(case hα | hf|hg => infer_instance);(case hN => rfl))|(apply rx_len;rfl;rfl;rfl)|(apply rw_nil;kernel_rfl))|(apply id_aw;first|apply aw_seq|apply aw_region|(apply aw_condT;rfl;(rfl))|(apply aw_cond;rfl;all_goals intro hc;have hq:=hc;(try simp only [bqs] at hq);try exfalso;omega)|apply aw_block|apply aw_skip|apply aw_exit|apply aw_ret)|with_reducible apply tq_normal|with_reducible apply tq_ret|with_reducible apply tq_exit|with_reducible apply bq_normal|with_reducible apply bq_ret|with_reducible apply bq_here|((with_reducible apply rq_ret);case hr => rfl))
  · (refine ⟨?_, rfl⟩; simp only [oneOf, AV.v.injEq, Value.bool.injEq, Value.int.injEq, true_and])
    unfold typesOk;grind [all_false, all_iff]
  · (apply ex3 (k + 1); focus (refine Le.ren [] rfl (by decide) ?_ ?_ <;> repeat' (first | exact trivial | refine And.intro ⟨_, rfl, ?_⟩ ?_ | refine Or.inl ⟨?_, (by first | rfl | exact pur_sl _ _)⟩ | rfl)))
    · grind
    · omega
  · (refine ⟨?_, rfl⟩; simp only [oneOf, AV.v.injEq, Value.bool.injEq, Value.int.injEq, true_and])
    unfold typesOk;grind [all_false, all_iff]
  · (refine ⟨?_, rfl⟩; simp only [oneOf, AV.v.injEq, Value.bool.injEq, Value.int.injEq, true_and])
    unfold typesOk;grind [all_false, all_iff]
theorem validS_c (p : Prg) (hl : p.types.length ≤ 1000000) (hs : cntL p.body ≤ 100000000) : PC Tryz.prog 90 [aPrg p] (fun r => r = bv (validF p)) := by
  unfold validF
  cases ht : typesOk p.types
  · (refine pc_of_aw Tryz.func90 rfl (by simp [Tryz.ntmps90]) ?_; rw [Tryz.ntmps90])
    repeat' (first|(apply id_rw;first|(apply rx_move;rfl;rfl)|(apply rx_load1;rfl;rfl;rfl;rfl)|(apply rx_fieldAddr;rfl;rfl;rfl)|(apply rx_guardNs;rfl;rfl;rfl;(first|rfl|assumption))|(apply rx_assign;rfl;rfl)|(apply rx_pickF;rfl;(first|rfl|assumption);rfl;rfl)|((with_reducible apply rx_callE (k := 122));(case ha => rfl);(case h => (apply l1Types_c <;> (assumption)));(case hp => (exact Pur.pf));(case hN => rfl))|(apply rw_nil;kernel_rfl)|(apply rx_box;rfl;rfl;rfl;rfl))|(apply id_aw;first|apply aw_seq|apply aw_region|apply aw_ret)|with_reducible apply tq_normal|((with_reducible apply rq_ret);case hr => rfl))
    (refine ⟨?_, rfl⟩; simp only [oneOf, AV.v.injEq, Value.bool.injEq, Value.int.injEq, true_and])
    rfl
  · (refine pc_of_aw Tryz.func90 rfl (by simp [Tryz.ntmps90]) ?_; rw [Tryz.ntmps90])
    repeat' (first|(apply id_rw;first|(apply rx_move;rfl;rfl)|(apply rx_load1;rfl;rfl;rfl;rfl)|(apply rx_fieldAddr;rfl;rfl;rfl)|(first|(apply rx_guardY;rfl;rfl;rfl;(assumption))|(apply rx_guardNs;rfl;rfl;rfl;(assumption))|(apply rx_guardS;(case hj|hb|hN => rfl);all_goals (intro hg;have hq := hg;(try simp only [bqs] at hq);(try (exfalso;omega)))))|(apply rx_bin;rfl;rfl;rfl;rfl)|(apply rx_assign;rfl;rfl)|(first|(apply rx_pickT;rfl;(assumption);rfl;rfl)|(apply rx_pickF;rfl;(assumption);rfl;rfl))|(first|((with_reducible apply rx_callE (k := 122));(case ha => rfl);(case h => (apply l1Types_c <;> (assumption)));(case hp => (exact Pur.pf));(case hN => rfl))|((with_reducible apply rx_callE (k := 123));(case ha => rfl);(case h => (apply l1Body_c <;> (first|assumption|omega)));(case hp => (exact Pur.pf));(case hN => rfl))|((with_reducible apply rx_callE (k := 124));(case ha => rfl);(case h => (apply l1Count_c <;> (first|assumption|omega)));(case hp => (exact Pur.pf));(case hN => rfl)))|(apply rw_nil;kernel_rfl)|(apply rx_box;rfl;rfl;rfl;rfl))|(apply id_aw;first|apply aw_seq|apply aw_region|apply aw_ret)|with_reducible apply tq_normal|((with_reducible apply rq_ret);case hr => rfl))
    · (refine ⟨?_, rfl⟩; simp only [oneOf, AV.v.injEq, Value.bool.injEq, Value.int.injEq, true_and])
      rw [show okL p.types 4 p.body = true from hq]; simp only [Bool.true_and, lcL_le, decide_eq_decide]; omega
    · (refine ⟨?_, rfl⟩; simp only [oneOf, AV.v.injEq, Value.bool.injEq, Value.int.injEq, true_and])
      rw [show okL p.types 4 p.body = false from hq]; rfl
end Go.Proofs.YtlbbbmeadnelbaaGreat
namespace Go.Proofs.YtlbbbmeadnelbaaGreat
open Go.AL Go.RowKit
theorem rx_scan {ts : List Int} {s : AL.Stmt} {nest c : Int} {N : Nat} {Q : Exit → AS → Prop} {all : Array Oper} {rest : List Oper} {tsl : List (Nat × AV)} {hsl : List (Nat × Option (List AV))} {nidl : Nat} {z0 : Lo} {md : Md} {d : Nat} {ty : TypeId} {pos : String} {af : Array Edge} {tys : Array TypeId} {x0 x1 x2 x3 : Operand} {i0 : Nat} (ha0 : ev (lk tsl) x0 = some (sl cI ts)) (ha1 : ev (lk tsl) x1 = some (aStmt s)) (ha2 : ev (lk tsl) x2 = some (iv nest)) (ha3 : ev (lk tsl) x3 = some (.optr i0 0)) (hH0 : lkH hsl i0 = some ([iv c])) (hmc : MC Tryz.prog 138 [sl cI ts, aStmt s, iv nest, .optr 0 0] [(0, some ([iv c]))] 1 (fun _ : Unit => True) (fun _ => bv (scS ts nest c s).1) (fun _ => [(0, some ([iv (scS ts nest c s).2]))])) (hM : Nat.ble (nidl + 0) big = true) (hN : Nat.blt d N = true) {md' : Md} [hmd : MdA md (rOs [x0, x1, x2, x3] ++ [.inr i0]) (List.map Sum.inr (List.map Prod.fst ([(i0, some ([iv (scS ts nest c s).2]))] : List (Nat × Option (List AV)))) ++ [.inl d]) md'] (kk : RW Tryz.prog N all Q md' rest ⟨(d, bv (scS ts nest c s).1) :: tsl, wrH hsl [(i0, some ([iv (scS ts nest c s).2]))], nidl + 0, z0⟩) : RW Tryz.prog N all Q md (⟨some d, .call ⟨.value (.func 138), #[x0, x1, x2, x3], tys⟩, ty, pos, af, none⟩ :: rest) ⟨tsl, hsl, nidl, z0⟩ := by
  refine rx_mcallE [i0] 1 [(i0, some ([iv (scS ts nest c s).2]))] hmc (avs := [sl cI ts, aStmt s, iv nest, .optr i0 0]) ?_ rfl ?_ rfl ?_ (by simpa using hM) ?_ ?_ ?_ hN (md' := md') (hmd := hmd) kk
  · show evL (lk tsl) [x0, x1, x2, x3] = _
    simp only [evL, ha0, ha1, ha2, ha3]
  · exact ⟨⟨_, _, rfl, hH0, by (repeat' (exact RnL.purI inferInstance))⟩, trivial⟩
  · (repeat' (first|exact RnL.purI inferInstance|exact RnV.purI inferInstance|exact RnV.optr rfl|refine RnL.cons ?_ ?_))
  · (repeat' (exact RnV.purI inferInstance))
  · simp [wsAll]
  · (repeat' (first|exact trivial|(refine And.intro ⟨0, _, rfl, rfl, ?_⟩ ?_)|exact RnL.purI inferInstance))
theorem rx_scanAll {ts : List Int} {l : List AL.Stmt} {nest c : Int} {N : Nat} {Q : Exit → AS → Prop} {all : Array Oper} {rest : List Oper} {tsl : List (Nat × AV)} {hsl : List (Nat × Option (List AV))} {nidl : Nat} {z0 : Lo} {md : Md} {d : Nat} {ty : TypeId} {pos : String} {af : Array Edge} {tys : Array TypeId} {x0 x1 x2 x3 : Operand} {i0 : Nat} (ha0 : ev (lk tsl) x0 = some (sl cI ts)) (ha1 : ev (lk tsl) x1 = some (sl cStmt l)) (ha2 : ev (lk tsl) x2 = some (iv nest)) (ha3 : ev (lk tsl) x3 = some (.optr i0 0)) (hH0 : lkH hsl i0 = some ([iv c])) (hmc : MC Tryz.prog 97 [sl cI ts, sl cStmt l, iv nest, .optr 0 0] [(0, some ([iv c]))] 1 (fun _ : Unit => True) (fun _ => bv (scL ts nest c l).1) (fun _ => [(0, some ([iv (scL ts nest c l).2]))])) (hM : Nat.ble (nidl + 0) big = true) (hN : Nat.blt d N = true) {md' : Md} [hmd : MdA md (rOs [x0, x1, x2, x3] ++ [.inr i0]) (List.map Sum.inr (List.map Prod.fst ([(i0, some ([iv (scL ts nest c l).2]))] : List (Nat × Option (List AV)))) ++ [.inl d]) md'] (kk : RW Tryz.prog N all Q md' rest ⟨(d, bv (scL ts nest c l).1) :: tsl, wrH hsl [(i0, some ([iv (scL ts nest c l).2]))], nidl + 0, z0⟩) : RW Tryz.prog N all Q md (⟨some d, .call ⟨.value (.func 97), #[x0, x1, x2, x3], tys⟩, ty, pos, af, none⟩ :: rest) ⟨tsl, hsl, nidl, z0⟩ := by
  refine rx_mcallE [i0] 1 [(i0, some ([iv (scL ts nest c l).2]))] hmc (avs := [sl cI ts, sl cStmt l, iv nest, .optr i0 0]) ?_ rfl ?_ rfl ?_ (by simpa using hM) ?_ ?_ ?_ hN (md' := md') (hmd := hmd) kk
  · show evL (lk tsl) [x0, x1, x2, x3] = _
    simp only [evL, ha0, ha1, ha2, ha3]
  · exact ⟨⟨_, _, rfl, hH0, by (repeat' (exact RnL.purI inferInstance))⟩, trivial⟩
  · (repeat' (first|exact RnL.purI inferInstance|exact RnV.purI inferInstance|exact RnV.optr rfl|refine RnL.cons ?_ ?_))
  · (repeat' (exact RnV.purI inferInstance))
  · simp [wsAll]
  · (repeat' (first|exact trivial|(refine And.intro ⟨0, _, rfl, rfl, ?_⟩ ?_)|exact RnL.purI inferInstance))
theorem scan_c0 (ts : List Int) (htO : typesOk ts = true) (m : Nat) (scanAll_ih : ∀ l nest c, cntL l < m → 0 ≤ nest → nest ≤ 4 → 0 ≤ c → c ≤ 30 → MC Tryz.prog 97 [sl cI ts, sl cStmt l, iv nest, .optr 0 0] [(0, some ([iv c]))] 1 (fun _ : Unit => True) (fun _ => bv (scL ts nest c l).1) (fun _ => [(0, some ([iv (scL ts nest c l).2]))])) (s : AL.Stmt) (nest c : Int) (hs : cntS s ≤ m) (hn0 : 0 ≤ nest) (hn : nest ≤ 4) (hc0 : 0 ≤ c) (hc : c ≤ 30) : MC Tryz.prog 138 [sl cI ts, aStmt s, iv nest, .optr 0 0] [(0, some ([iv c]))] 1 (fun _ : Unit => True) (fun _ => bv (scS ts nest c s).1) (fun _ => [(0, some ([iv (scS ts nest c s).2]))]) := by
  have ct := cnt_th s
  have hb1 := scL_bd ts s.th (nest + 1) (c + 1)
  (refine mc_of_aw Tryz.func138 rfl (by simp [Tryz.ntmps138]) ?_; rw [Tryz.ntmps138])
  repeat' (first|(apply id_rw;first|(apply rx_move;rfl;rfl)|(first|(apply rx_load1;rfl;rfl;rfl;rfl)|(apply rx_loadA;rfl;rfl;(exact (rfl:_=[_, _, _, _, _, _]));rfl;rfl;rfl))|(apply rx_fieldAddr;rfl;rfl;rfl)|(first|(apply rx_guardU;rfl;rfl;rfl)|(apply rx_guardY;rfl;rfl;rfl;(assumption))|(apply rx_guardNs;rfl;rfl;rfl;(first|rfl|assumption))|(apply rx_guardS;(case hj|hb|hN => rfl);all_goals (intro hg;have hq := hg;(try simp only [bqs] at hq);(try (exfalso;omega)))))|(first|(apply rx_add;rfl;rfl;omega;rfl)|(apply rx_bin;rfl;rfl;rfl;rfl))|(apply rx_assign;rfl;rfl)|(first|(apply rx_pickT;rfl;(first|rfl|assumption);rfl;rfl)|(apply rx_pickF;rfl;(assumption);rfl;rfl))|(first|(apply rx_scanAll;rfl;rfl;rfl;rfl;(rfl);(apply scanAll_ih <;> (first|assumption|omega|grind));rfl;rfl)|((with_reducible apply rx_callE (k := 174));(case ha => rfl);(case h => (apply isBranch_c <;> (fail)));(case hp => (rfl));(case hN => rfl))|((with_reducible apply rx_callE (k := 175));(case ha => rfl);(case h => (apply simpleOk_c <;> (assumption)));(case hp => (exact Pur.pf));(case hN => rfl)))|(apply rx_len;rfl;rfl;rfl)|(apply rw_nil;kernel_rfl)|(apply rx_not;rfl;rfl)|(apply rx_nil;rfl;rfl;rfl)|(apply rx_box;rfl;rfl;rfl;rfl)|(apply rx_store;rfl;rfl;rfl;rfl;rfl;(case hl => (simp;done));(exact (rfl:_=[_]))))|(apply id_aw;first|apply aw_seq|apply aw_region|(apply aw_condT;rfl;(rfl))|(apply aw_condF;rfl;(rfl))|(apply aw_cond;rfl;all_goals intro hc;have hq:=hc;(try simp only [bqs] at hq);try exfalso;omega)|apply aw_skip|apply aw_ret)|with_reducible apply tq_normal|with_reducible apply tq_ret)
  all_goals (refine rq_ret rfl ?_; refine mc_ret () trivial ?_ ⟨.inr (Eq.trans (b := some _) rfl ?_), trivial⟩)
  all_goals (try simp only [oneOf, AV.v.injEq, Value.bool.injEq, Value.int.injEq, true_and, spl, List.take, List.drop, List.length, List.append, List.nil_append, List.append_nil, Option.some.injEq, List.cons.injEq, and_true])
  all_goals rw [scS_def]
  all_goals clear scanAll_ih
  all_goals (cases hel : s.el <;> simp only [hel, List.length_nil, List.length_cons] at * <;> grind)
theorem scanAll_c0 (ts : List Int) (m : Nat) (hm : m ≤ 100000000) (scan_ih : ∀ s nest c, cntS s ≤ m → 0 ≤ nest → nest ≤ 4 → 0 ≤ c → c ≤ 30 → MC Tryz.prog 138 [sl cI ts, aStmt s, iv nest, .optr 0 0] [(0, some ([iv c]))] 1 (fun _ : Unit => True) (fun _ => bv (scS ts nest c s).1) (fun _ => [(0, some ([iv (scS ts nest c s).2]))])) (l : List AL.Stmt) (nest c : Int) (hs : cntL l ≤ m) (hn0 : 0 ≤ nest) (hn : nest ≤ 4) (hc0 : 0 ≤ c) (hc : c ≤ 30) : MC Tryz.prog 97 [sl cI ts, sl cStmt l, iv nest, .optr 0 0] [(0, some ([iv c]))] 1 (fun _ : Unit => True) (fun _ => bv (scL ts nest c l).1) (fun _ => [(0, some ([iv (scL ts nest c l).2]))]) := by
  have hlen := cntL_len l
  (refine mc_of_aw Tryz.func97 rfl (by simp [Tryz.ntmps97]) ?_; rw [Tryz.ntmps97])
  repeat' (first|(apply id_rw;first|(apply rx_move;rfl;rfl)|(apply rx_assign;rfl;rfl)|(apply rx_len;rfl;rfl;rfl)|(apply rw_nil;kernel_rfl))|(apply id_aw;first|apply aw_seq|apply aw_region|apply aw_block)|with_reducible apply tq_normal)
  refine aw_loopK (σ := Nat × Int) [0, 2, 3, 11, 12] [(0, _), (2, _), (3, _), (11, _), (12, _)] [] [] (fun k => [(13, iv (k.1 : Int))]) (fun k => [(0, some [iv k.2])]) (fun k => k.1 ≤ l.length ∧ scL ts nest k.2 (l.drop k.1) = scL ts nest c l ∧ 0 ≤ k.2 ∧ k.2 ≤ 30) (fun k => l.length - k.1) (0, c) ⟨by omega, rfl, by omega, by omega⟩ rfl rfl (by repeat' (first|exact trivial|refine And.intro rfl ?_)) (by repeat' (first|exact trivial|refine And.intro (.inr rfl) ?_)) ?_
  rintro ⟨k, c'⟩ ⟨hk, hn, hn0, hn1⟩
  dsimp only at hk hn hn0 hn1 ⊢
  have hck := cntL_at l k
  have hb1 := scS_bd ts l[k]! nest c'
  have hst := @scL_stop ts nest c' l k
  repeat' (first|(apply id_rw;first|(apply rx_move;rfl;rfl)|(apply rx_loadA;rfl;rfl;(exact (rfl:_=[_, _, _, _, _, _]));rfl;rfl;rfl)|(first|(apply rx_add;rfl;rfl;omega;rfl)|(apply rx_bin;rfl;rfl;rfl;rfl))|(apply rx_assign;rfl;rfl)|(apply rx_indexFN;(case hx|hi => rfl);(case hm => (omega));(case hml => (rfl));(case hα | hf|hg => infer_instance);(case hN => rfl))|(apply rx_scan;rfl;rfl;rfl;rfl;(rfl);(apply scan_ih <;> (first|assumption|omega));rfl;rfl)|(apply rw_nil;kernel_rfl)|(apply rx_not;rfl;rfl)|(apply rx_alloc;rfl;rfl)|(apply rx_store;rfl;rfl;rfl;rfl;rfl;(case hl => (simp;done));(exact (rfl:_=[_, _, _, _, _, _]))))|(apply id_aw;first|apply aw_seq|apply aw_region|(apply aw_cond;rfl;all_goals intro hc;have hq:=hc;(try simp only [bqs] at hq);try exfalso;omega)|apply aw_block|apply aw_skip|apply aw_exit|apply aw_ret)|with_reducible apply tq_normal|with_reducible apply tq_ret|with_reducible apply tq_exit|with_reducible apply bq_normal|with_reducible apply bq_ret|with_reducible apply bq_here)
  · (refine rq_ret rfl ?_; refine mc_ret () trivial ?_ ⟨.inr (Eq.trans (b := some _) rfl ?_), trivial⟩)
    all_goals (try simp only [oneOf, AV.v.injEq, Value.bool.injEq, Value.int.injEq, true_and, spl, List.take, List.drop, List.length, List.append, List.nil_append, List.append_nil, Option.some.injEq, List.cons.injEq, and_true])
    all_goals (rw [← hn, hst (by omega)]; grind)
  · (apply ex3 (k + 1, (scS ts nest c' l[k]!).2); focus (refine Le.ren [] rfl (by decide) ?_ ?_ <;> repeat' (first | exact trivial | refine And.intro ⟨_, rfl, ?_⟩ ?_ | refine And.intro ⟨_, _, rfl, rfl, ?_⟩ ?_ | exact Or.inr rfl | refine Or.inl ⟨?_, (by first | rfl | exact pur_sl _ _)⟩ | rfl)))
    · dsimp only;grind
    · dsimp only;omega
  · (refine rq_ret rfl ?_; refine mc_ret () trivial ?_ ⟨.inr (Eq.trans (b := some _) rfl ?_), trivial⟩)
    all_goals (try simp only [oneOf, AV.v.injEq, Value.bool.injEq, Value.int.injEq, true_and, spl, List.take, List.drop, List.length, List.append, List.nil_append, List.append_nil, Option.some.injEq, List.cons.injEq, and_true])
    all_goals (rw [← hn, List.drop_of_length_le (by omega), scL])
theorem scan_both (ts : List Int) (hl : typesOk ts = true) : ∀ (m : Nat), m ≤ 100000000 → (∀ s (nest c : Int), cntS s ≤ m → 0 ≤ nest → nest ≤ 4 → 0 ≤ c → c ≤ 30 → MC Tryz.prog 138 [sl cI ts, aStmt s, iv nest, .optr 0 0] [(0, some ([iv c]))] 1 (fun _ : Unit => True) (fun _ => bv (scS ts nest c s).1) (fun _ => [(0, some ([iv (scS ts nest c s).2]))])) ∧
    (∀ l (nest c : Int), cntL l ≤ m → 0 ≤ nest → nest ≤ 4 → 0 ≤ c → c ≤ 30 → MC Tryz.prog 97 [sl cI ts, sl cStmt l, iv nest, .optr 0 0] [(0, some ([iv c]))] 1 (fun _ : Unit => True) (fun _ => bv (scL ts nest c l).1) (fun _ => [(0, some ([iv (scL ts nest c l).2]))])) := by
  intro m
  induction m using Nat.strongRecOn with
  | ind m ih =>
    intro hm
    have h1 : ∀ s (nest c : Int), cntS s ≤ m → 0 ≤ nest → nest ≤ 4 → 0 ≤ c → c ≤ 30 → MC Tryz.prog 138 [sl cI ts, aStmt s, iv nest, .optr 0 0] [(0, some ([iv c]))] 1 (fun _ : Unit => True) (fun _ => bv (scS ts nest c s).1) (fun _ => [(0, some ([iv (scS ts nest c s).2]))]) :=
      fun s nest c h1 h2 h3 h4 h5 => scan_c0 ts hl m (fun l nest c g1 g2 g3 g4 g5 => (ih (cntL l) g1 (by omega)).2 l nest c (Nat.le_refl _) g2 g3 g4 g5) s nest c h1 h2 h3 h4 h5
    exact ⟨h1, fun l nest c g1 g2 g3 g4 g5 => scanAll_c0 ts m hm h1 l nest c g1 g2 g3 g4 g5⟩
theorem scanAll_c (ts : List Int) (l : List AL.Stmt) (nest c : Int) (hl : typesOk ts = true) (hs : cntL l ≤ 100000000) (hn0 : 0 ≤ nest) (hn : nest ≤ 4) (hc0 : 0 ≤ c) (hc : c ≤ 30) : MC Tryz.prog 97 [sl cI ts, sl cStmt l, iv nest, .optr 0 0] [(0, some ([iv c]))] 1 (fun _ : Unit => True) (fun _ => bv (scL ts nest c l).1) (fun _ => [(0, some ([iv (scL ts nest c l).2]))]) :=
  (scan_both ts hl _ hs).2 l nest c (Nat.le_refl _) hn0 hn hc0 hc
theorem typesOk1_c (t : Int) : PC Tryz.prog 137 [iv t] (fun r => r = bv (!(decide (1 ≤ t) && decide (t ≤ 4)))) := by
  (refine pc_of_aw Tryz.func137 rfl (by simp [Tryz.ntmps137]) ?_; rw [Tryz.ntmps137])
  repeat' (first|(apply id_rw;first|(apply rx_move;rfl;rfl)|(apply rx_assign;rfl;rfl)|((with_reducible apply rx_callE (k := 58));(case ha => rfl);(case h => (apply within_c <;> (fail)));(case hp => (rfl));(case hN => rfl))|(apply rw_nil;kernel_rfl)|(apply rx_not;rfl;rfl))|(apply id_aw;first|apply aw_seq|apply aw_region|apply aw_ret)|with_reducible apply tq_normal|((with_reducible apply rq_ret);case hr => rfl))
  all_goals (refine ⟨?_, rfl⟩; simp only [oneOf, AV.v.injEq, Value.bool.injEq, Value.int.injEq, true_and])
def idxBad (ts : List Int) : Int := match ts.findIdx? (fun t => !(decide (1 ≤ t) && decide (t ≤ 4))) with | some i => i | none => -1
theorem idxBad_c (ts : List Int) (hl : ts.length ≤ 1000000) : PC Tryz.prog 173 [sl cI ts, .v (.func (.func 137) #[] #[])] (fun r => r = iv (idxBad ts)) := by
  (refine pc_of_aw Tryz.func173 rfl (by simp [Tryz.ntmps173]) ?_; rw [Tryz.ntmps173])
  repeat' (first|(apply id_rw;first|(apply rx_move;rfl;rfl)|(apply rx_assign;rfl;rfl)|(apply rx_len;rfl;rfl;rfl)|(apply rw_nil;kernel_rfl))|(apply id_aw;first|apply aw_seq|apply aw_region|apply aw_block)|with_reducible apply tq_normal)
  refine aw_loopK (σ := Nat) [0, 1, 7] [(0, _), (1, _), (7, _)] [] [] (fun k => [(8, iv (k : Int))]) (fun k => []) (fun k => k ≤ ts.length ∧ ∀ i, i < k → 1 ≤ ts[i]! ∧ ts[i]! ≤ 4) (fun k => ts.length - k) (0) ⟨by omega, by omega⟩ rfl rfl (by repeat' (first|exact trivial|refine And.intro rfl ?_)) (by repeat' (exact trivial)) ?_
  intro k ⟨hk, hall⟩
  repeat' (first|(apply id_rw;first|(apply rx_move;rfl;rfl)|(apply rx_load1;rfl;rfl;rfl;rfl)|(first|(apply rx_add;rfl;rfl;omega;rfl)|(apply rx_bin;rfl;rfl;rfl;rfl))|(apply rx_assign;rfl;rfl)|(apply rx_indexFN;(case hx|hi => rfl);(case hm => (omega));(case hml => (rfl));(case hα | hf|hg => infer_instance);(case hN => rfl))|((with_reducible apply rx_callC);(case hx|hcl => rfl);(case hc => infer_instance);(case ha => rfl);(case h => (apply typesOk1_c <;> (fail)));(case hp => (rfl));(case hN => rfl))|(apply rw_nil;kernel_rfl))|(apply id_aw;first|apply aw_seq|apply aw_region|(apply aw_cond;rfl;all_goals intro hc;have hq:=hc;(try simp only [bqs] at hq);try exfalso;omega)|apply aw_block|apply aw_skip|apply aw_exit|apply aw_ret)|with_reducible apply tq_normal|with_reducible apply tq_ret|with_reducible apply tq_exit|with_reducible apply bq_normal|with_reducible apply bq_ret|with_reducible apply bq_here|((with_reducible apply rq_ret);case hr => rfl))
  · (refine ⟨?_, rfl⟩; simp only [oneOf, AV.v.injEq, Value.bool.injEq, Value.int.injEq, true_and])
    have hlt : k < ts.length := by omega
    have : ts.findIdx? (fun t => !(decide (1 ≤ t) && decide (t ≤ 4))) = some k := by
      rw [List.findIdx?_eq_some_iff_getElem]
      refine ⟨hlt, ?_, fun j hj => ?_⟩
      · rw [← getB ts k hlt]; grind
      · have := hall j hj;rw [getB ts j (by omega)] at this;simp;omega
    simp only [idxBad, this]
  · (apply ex3 (k + 1); focus (refine Le.ren [] rfl (by decide) ?_ ?_ <;> repeat' (first | exact trivial | refine And.intro ⟨_, rfl, ?_⟩ ?_ | refine Or.inl ⟨?_, (by first | rfl | exact pur_sl _ _)⟩ | rfl)))
    · grind
    · omega
  · (refine ⟨?_, rfl⟩; simp only [oneOf, AV.v.injEq, Value.bool.injEq, Value.int.injEq, true_and])
    have : ts.findIdx? (fun t => !(decide (1 ≤ t) && decide (t ≤ 4))) = none := by
      rw [List.findIdx?_eq_none_iff]
      intro x hx
      obtain ⟨i, hi, rfl⟩ := List.getElem_of_mem hx
      have := hall i (by omega);rw [getB ts i hi] at this;simp;omega
    simp only [idxBad, this]
theorem idxBad_ge (ts : List Int) : decide (0 ≤ idxBad ts) = !(ts.all (fun t => decide (1 ≤ t) && decide (t ≤ 4))) := by
  unfold idxBad
  split
  · rename_i i h
    obtain ⟨h1, h2, _⟩ := List.findIdx?_eq_some_iff_getElem.1 h
    have : ts.all (fun t => decide (1 ≤ t) && decide (t ≤ 4)) = false := by
      rw [List.all_eq_false]; exact ⟨ts[i], List.getElem_mem h1, by simp at h2 ⊢; omega⟩
    rw [this]; simp
  · rename_i h
    rw [List.findIdx?_eq_none_iff] at h
    have : ts.all (fun t => decide (1 ≤ t) && decide (t ≤ 4)) = true := by
      rw [List.all_eq_true]; intro x hx;simpa using h x hx
    rw [this]; rfl
theorem contBad_c (ts : List Int) (hl : ts.length ≤ 1000000) : PC Tryz.prog 136 [sl cI ts, .v (.func (.func 137) #[] #[])] (fun r => r = bv (!(ts.all (fun t => decide (1 ≤ t) && decide (t ≤ 4))))) := by
  (refine pc_of_aw Tryz.func136 rfl (by simp [Tryz.ntmps136]) ?_; rw [Tryz.ntmps136])
  repeat' (first|(apply id_rw;first|(apply rx_move;rfl;rfl)|(apply rx_bin;rfl;rfl;rfl;rfl)|(apply rx_assign;rfl;rfl)|((with_reducible apply rx_callE (k := 173));(case ha => rfl);(case h => (apply idxBad_c <;> (assumption)));(case hp => (exact Pur.pf));(case hN => rfl))|(apply rw_nil;kernel_rfl))|(apply id_aw;first|apply aw_seq|apply aw_region|apply aw_ret)|with_reducible apply tq_normal|((with_reducible apply rq_ret);case hr => rfl))
  (refine ⟨?_, rfl⟩; simp only [oneOf, AV.v.injEq, Value.bool.injEq, Value.int.injEq, true_and])
  exact idxBad_ge ts
theorem typesOkI_c (ts : List Int) (hl : ts.length ≤ 1000000) : PC Tryz.prog 96 [sl cI ts] (fun r => r = bv (typesOk ts)) := by
  (refine pc_of_aw Tryz.func96 rfl (by simp [Tryz.ntmps96]) ?_; rw [Tryz.ntmps96])
  repeat' (first|(apply id_rw;first|(apply rx_move;rfl;rfl)|(first|(apply rx_guardY;rfl;rfl;rfl;(assumption))|(apply rx_guardNs;rfl;rfl;rfl;(assumption))|(apply rx_guardS;(case hj|hb|hN => rfl);all_goals (intro hg;have hq := hg;(try simp only [bqs] at hq);(try (exfalso;omega)))))|(apply rx_bin;rfl;rfl;rfl;rfl)|(apply rx_assign;rfl;rfl)|(first|(apply rx_pickT;rfl;(assumption);rfl;rfl)|(apply rx_pickF;rfl;(assumption);rfl;rfl))|((with_reducible apply rx_callE (k := 136));(case ha => rfl);(case h => (apply contBad_c <;> (assumption)));(case hp => (exact Pur.pf));(case hN => rfl))|(apply rx_len;rfl;rfl;rfl)|(apply rw_nil;kernel_rfl)|(apply rx_not;rfl;rfl))|(apply id_aw;first|apply aw_seq|apply aw_region|apply aw_ret)|with_reducible apply tq_normal|((with_reducible apply rq_ret);case hr => rfl))
  all_goals (refine ⟨?_, rfl⟩; simp only [oneOf, AV.v.injEq, Value.bool.injEq, Value.int.injEq, true_and])
  all_goals (unfold typesOk;grind)
theorem validI_c (p : Prg) (hl : p.types.length ≤ 1000000) (hs : cntL p.body ≤ 100000000) : PC Tryz.prog 61 [aPrg p] (fun r => r = bv (validF p)) := by
  rw [← scL_valid]
  cases ht : typesOk p.types
  · (refine pc_of_aw Tryz.func61 rfl (by simp [Tryz.ntmps61]) ?_; rw [Tryz.ntmps61])
    repeat' (first|(apply id_rw;first|(apply rx_move;rfl;rfl)|(apply rx_load1;rfl;rfl;rfl;rfl)|(apply rx_fieldAddr;rfl;rfl;rfl)|(apply rx_guardNs;rfl;rfl;rfl;(assumption))|(apply rx_assign;rfl;rfl)|(apply rx_pickF;rfl;(assumption);rfl;rfl)|((with_reducible apply rx_callE (k := 96));(case ha => rfl);(case h => (apply typesOkI_c <;> (assumption)));(case hp => (exact Pur.pf));(case hN => rfl))|(apply rw_nil;kernel_rfl)|(apply rx_box;rfl;rfl;rfl;rfl)|(apply rx_alloc;rfl;rfl)|(apply rx_store;rfl;rfl;rfl;rfl;rfl;(decide);(exact (rfl:_=[_]))))|(apply id_aw;first|apply aw_seq|apply aw_region|apply aw_ret)|with_reducible apply tq_normal|((with_reducible apply rq_ret);case hr => rfl))
    all_goals (refine ⟨?_, rfl⟩; simp only [oneOf, AV.v.injEq, Value.bool.injEq, Value.int.injEq, true_and])
    all_goals grind
  · (refine pc_of_aw Tryz.func61 rfl (by simp [Tryz.ntmps61]) ?_; rw [Tryz.ntmps61])
    repeat' (first|(apply id_rw;first|(apply rx_move;rfl;rfl)|(apply rx_load1;rfl;rfl;rfl;rfl)|(apply rx_fieldAddr;rfl;rfl;rfl)|(apply rx_guardY;rfl;rfl;rfl;(assumption))|(apply rx_assign;rfl;rfl)|(apply rx_pickT;rfl;(assumption);rfl;rfl)|(first|((with_reducible apply rx_callE (k := 96));(case ha => rfl);(case h => (apply typesOkI_c <;> (assumption)));(case hp => (exact Pur.pf));(case hN => rfl))|(apply rx_scanAll;rfl;rfl;rfl;rfl;(rfl);(apply scanAll_c <;> (first|assumption|omega));rfl;rfl))|(apply rw_nil;kernel_rfl)|(apply rx_box;rfl;rfl;rfl;rfl)|(apply rx_alloc;rfl;rfl)|(apply rx_store;rfl;rfl;rfl;rfl;rfl;(decide);(exact (rfl:_=[_]))))|(apply id_aw;first|apply aw_seq|apply aw_region|apply aw_ret)|with_reducible apply tq_normal|((with_reducible apply rq_ret);case hr => rfl))
    all_goals (refine ⟨?_, rfl⟩; simp only [oneOf, AV.v.injEq, Value.bool.injEq, Value.int.injEq, true_and])
    all_goals grind
theorem rx_pointsOf {l : List AL.Stmt} {pts : List Pnt} {m : Nat} {N : Nat} {Q : Exit → AS → Prop} {all : Array Oper} {rest : List Oper} {tsl : List (Nat × AV)} {hsl : List (Nat × Option (List AV))} {nidl : Nat} {z0 : Lo} {md : Md} {d : Nat} {ty : TypeId} {pos : String} {af : Array Edge} {tys : Array TypeId} {x0 x1 : Operand} {i0 : Nat} (ha0 : ev (lk tsl) x0 = some (sl cStmt l)) (ha1 : ev (lk tsl) x1 = some (.own i0 0 m 5)) (hH0 : lkH hsl i0 = some (flat cPnt pts)) (hmc : MC Tryz.prog 98 [sl cStmt l, .own 0 0 m 5] [(0, some (flat cPnt pts))] 1 (fun _ : Unit => True) (fun _ => .own 1 0 (m + npL l) 5) (fun _ => [(1, some (flat cPnt (pts ++ ptL pts.length l)))])) (hM : Nat.ble (nidl + 1) big = true) (hN : Nat.blt d N = true) {md' : Md} [hmd : MdA md (rOs [x0, x1] ++ [.inr i0]) (List.map Sum.inr (List.map Prod.fst ([(nidl, some (flat cPnt (pts ++ ptL pts.length l))), (i0, none)] : List (Nat × Option (List AV)))) ++ [.inl d]) md'] (kk : RW Tryz.prog N all Q md' rest ⟨(d, .own nidl 0 (m + npL l) 5) :: tsl, wrH hsl [(nidl, some (flat cPnt (pts ++ ptL pts.length l))), (i0, none)], nidl + 1, z0⟩) : RW Tryz.prog N all Q md (⟨some d, .call ⟨.value (.func 98), #[x0, x1], tys⟩, ty, pos, af, none⟩ :: rest) ⟨tsl, hsl, nidl, z0⟩ := by
  refine rx_mcallE [i0] 2 [(nidl, some (flat cPnt (pts ++ ptL pts.length l))), (i0, none)] hmc (avs := [sl cStmt l, .own i0 0 m 5]) ?_ rfl ?_ rfl ?_ (by simpa using hM) ?_ ?_ ?_ hN (md' := md') (hmd := hmd) kk
  · show evL (lk tsl) [x0, x1] = _
    simp only [evL, ha0, ha1]
  · exact ⟨⟨_, _, rfl, hH0, by (repeat' (exact RnL.purI inferInstance))⟩, trivial⟩
  · (repeat' (first|exact RnL.purI inferInstance|exact RnV.purI inferInstance|exact RnV.own rfl|refine RnL.cons ?_ ?_))
  · (repeat' (exact RnV.own rfl))
  · simp [wsAll]
  · (repeat' (first|exact trivial|(refine And.intro ⟨1, _, rfl, rfl, ?_⟩ ?_)|exact RnL.purI inferInstance))
theorem pointsOf_c0 (mm : Nat) (hmm : mm ≤ 1000000) (pointsOf_ih : ∀ l pts m, cntL l < mm → m = pts.length → m + npL l ≤ 12000000 → MC Tryz.prog 98 [sl cStmt l, .own 0 0 m 5] [(0, some (flat cPnt pts))] 1 (fun _ : Unit => True) (fun _ => .own 1 0 (m + npL l) 5) (fun _ => [(1, some (flat cPnt (pts ++ ptL pts.length l)))])) (l : List AL.Stmt) (pts : List Pnt) (m : Nat) (hs : cntL l ≤ mm) (hm : m = pts.length) (hb : m + npL l ≤ 12000000) : MC Tryz.prog 98 [sl cStmt l, .own 0 0 m 5] [(0, some (flat cPnt pts))] 1 (fun _ : Unit => True) (fun _ => .own 1 0 (m + npL l) 5) (fun _ => [(1, some (flat cPnt (pts ++ ptL pts.length l)))]) := by
  have hlen := cntL_len l
  subst hm
  (refine mc_of_aw Tryz.func98 rfl (by simp [Tryz.ntmps98]) ?_; rw [Tryz.ntmps98])
  repeat' (first|(apply id_rw;first|(apply rx_move;rfl;rfl)|(apply rx_assign;rfl;rfl)|(apply rx_len;rfl;rfl;rfl)|(apply rw_nil;kernel_rfl))|(apply id_aw;first|apply aw_seq|apply aw_region|apply aw_block)|with_reducible apply tq_normal)
  refine AW.le ?_ (Le.mv (d := 1) (i := 0) (cs := flat cPnt pts) rfl rfl (by decide))
  refine aw_loopK (σ := Nat × List Pnt × Nat) [9, 10] [(9, _), (10, _)] [] [] (fun k => [(11, iv (k.1 : Int)), (1, .own 1 0 k.2.2 5)]) (fun k => [(1, some (flat cPnt k.2.1))]) (fun k => k.1 ≤ l.length ∧ k.2.1 = pts ++ ptL pts.length (l.take k.1) ∧ k.2.2 = k.2.1.length ∧ k.2.2 = pts.length + npL (l.take k.1)) (fun k => l.length - k.1) (0, pts, pts.length) ⟨by omega, by simp [ptL], rfl, by simp [npL]⟩ rfl rfl (by repeat' (first|exact trivial|refine And.intro rfl ?_)) (by repeat' (first|exact trivial|refine And.intro (.inr rfl) ?_)) ?_
  rintro ⟨k, xs, m1⟩ ⟨hk, hxs, hm1, hm2⟩
  dsimp only at hk hxs hm1 hm2 ⊢
  have hck := cntL_at l k
  have hct := cnt_th l[k]!
  have hnt := npL_at l k
  have n9 := npS_9 l[k]!
  have n10 := npS_10 l[k]!
  have n1 := npS_1 l[k]!
  repeat' (first|(apply id_rw;first|(apply rx_move;rfl;rfl)|(first|(apply rx_load1;rfl;rfl;rfl;rfl)|(apply rx_loadA;rfl;rfl;(exact (rfl:_=[_, _, _, _, _, _]));rfl;rfl;rfl))|(apply rx_fieldAddr;rfl;rfl;rfl)|(first|(apply rx_add;rfl;rfl;omega;rfl)|(apply rx_bin;rfl;rfl;rfl;rfl))|(apply rx_assign;rfl;rfl)|(first|(apply rx_indexFN;(case hx|hi => rfl);(case hm => (omega));(case hml => (rfl));(case hα | hf|hg => infer_instance);(case hN => rfl))|(apply rx_indexON;rfl;rfl;(omega);rfl))|(apply rx_pointsOf;rfl;rfl;(rfl);(apply pointsOf_ih <;> (first|omega|(simp only [lns] <;> omega)));rfl;rfl)|(first|(apply rx_len;rfl;rfl;rfl)|(apply rx_append;rfl;rfl;rfl;rfl;rfl;(first|(rw [flat_length]; omega)|(rw [flat_length]; simp only [lns] <;> omega));(rfl);omega;omega;(first|exact app_pnt1 (by (first|assumption|(simp only [lns] <;> omega)))|exact app_pnt0 (by (first|assumption|(simp only [lns] <;> omega))));rfl;rfl))|(apply rw_nil;kernel_rfl)|(apply rx_buildK;rfl;(exact (rfl:_=some [_, _, _, _, _]));(exact (rfl:_=[_, _, _, _, _]));rfl)|(apply rx_alloc;rfl;rfl)|((apply rx_buildSliceI (t := _));(case hze|hsm|hl => rfl);(case hfl => (first|exact (rfl:_=some [_])|exact (rfl:_=some [_, _])|exact (rfl:_=some [_, _, _, _, _])));(case hM|hN => rfl))|(apply rx_store;rfl;rfl;rfl;rfl;rfl;(case hl => (first|(rw [flat_length]; simp only [lns] <;> omega)|(simp;done)));(first|exact st_next1 (by (simp only [lns] <;> omega))|exact st_next2 (by (simp only [lns] <;> omega))|exact (rfl:_=[_, _, _, _, _, _]))))|(apply id_aw;first|apply aw_seq|apply aw_region|(apply aw_cond;rfl;all_goals intro hc;have hq:=hc;(try simp only [bqs] at hq);try exfalso;omega)|apply aw_block|apply aw_skip|apply aw_exit|apply aw_ret)|with_reducible apply tq_normal|with_reducible apply tq_exit|with_reducible apply bq_normal|with_reducible apply bq_here)
  · (apply ex3 (k + 1, _, _); focus (refine Le.ren [(1, 8)] rfl (by decide) ?_ ?_ <;> repeat' (first | exact trivial | refine And.intro ⟨_, rfl, ?_⟩ ?_ | refine And.intro ⟨_, _, rfl, rfl, ?_⟩ ?_ | exact Or.inr rfl | refine Or.inl ⟨?_, (by first | rfl | exact pur_sl _ _)⟩ | rfl)))
    · dsimp only
      rw [if_get1 hm1, if_set1 hm1, if_get2 (by rw [ptL_len, hm1]), if_set2 (by rw [ptL_len, hm1]), ptL_take l _ k (by omega), npL_take l k (by omega), ptS_def, if_pos hq, n9 hq]
      refine ⟨by omega, ?_, by simp [ptL_len]; omega, by omega⟩
      have e1 : xs.length = pts.length + npL (l.take k) := by omega
      rw [← List.append_assoc pts, ← hxs, ← e1]
      simp only [List.append_assoc, List.length_append, List.length_cons, List.length_nil, ptL_len, hm1, Nat.zero_add]
      clear pointsOf_ih hxs hck hnt n9 n10 n1
      grind
    · dsimp only;omega
  · (apply ex3 (k + 1, _, _); focus (refine Le.ren [(1, 8)] rfl (by decide) ?_ ?_ <;> repeat' (first | exact trivial | refine And.intro ⟨_, rfl, ?_⟩ ?_ | refine And.intro ⟨_, _, rfl, rfl, ?_⟩ ?_ | exact Or.inr rfl | refine Or.inl ⟨?_, (by first | rfl | exact pur_sl _ _)⟩ | rfl)))
    · dsimp only
      rw [lp_get hm1, lp_set hm1, ptL_take l _ k (by omega), npL_take l k (by omega), ptS_def, if_neg (by omega), if_pos hq, n10 hq]
      refine ⟨by omega, ?_, by simp [ptL_len]; omega, by omega⟩
      have e1 : xs.length = pts.length + npL (l.take k) := by omega
      rw [← List.append_assoc pts, ← hxs, ← e1]
      simp only [List.append_assoc, List.length_append, List.length_cons, List.length_nil, ptL_len, hm1, Nat.zero_add]
      clear pointsOf_ih hxs hck hnt n9 n10 n1
      grind
    · dsimp only;omega
  · (apply ex3 (k + 1, _, _); focus (refine Le.ren [(1, 5)] rfl (by decide) ?_ ?_ <;> repeat' (first | exact trivial | refine And.intro ⟨_, rfl, ?_⟩ ?_ | refine And.intro ⟨_, _, rfl, rfl, ?_⟩ ?_ | exact Or.inr rfl | refine Or.inl ⟨?_, (by first | rfl | exact pur_sl _ _)⟩ | rfl)))
    · dsimp only
      rw [ptL_take l _ k (by omega), npL_take l k (by omega), ptS_def, if_neg ‹¬l[k]!.op = 9›, if_neg hq, n1 ‹¬l[k]!.op = 9› hq]
      refine ⟨by omega, ?_, by simp [ptL_len]; omega, by omega⟩
      have e1 : xs.length = pts.length + npL (l.take k) := by omega
      rw [← List.append_assoc pts, ← hxs, ← e1, hm1]
    · dsimp only;omega
  · refine rq_ret rfl ?_
    have e2 : l.take k = l := List.take_of_length_le (by omega)
    rw [e2] at hxs hm2
    refine mc_ret () trivial ?_ ⟨.inr (Eq.trans (b := some _) rfl ?_), trivial⟩
    · simp only [oneOf]; rw [hm2]
    · rw [hxs]
theorem pointsOf_c (l : List AL.Stmt) (pts : List Pnt) (m : Nat) (hs : cntL l ≤ 1000000) (hm : m = pts.length) (hb : m + npL l ≤ 12000000) : MC Tryz.prog 98 [sl cStmt l, .own 0 0 m 5] [(0, some (flat cPnt pts))] 1 (fun _ : Unit => True) (fun _ => .own 1 0 (m + npL l) 5) (fun _ => [(1, some (flat cPnt (pts ++ ptL pts.length l)))]) := by
  have h : ∀ (mm : Nat), mm ≤ 1000000 → ∀ l pts m, cntL l ≤ mm → m = pts.length → m + npL l ≤ 12000000 → MC Tryz.prog 98 [sl cStmt l, .own 0 0 m 5] [(0, some (flat cPnt pts))] 1 (fun _ : Unit => True) (fun _ => .own 1 0 (m + npL l) 5) (fun _ => [(1, some (flat cPnt (pts ++ ptL pts.length l)))]) := by
    intro mm
    induction mm using Nat.strongRecOn with
    | ind mm ih =>
      intro h0 l pts m h1 h2 h3
      exact pointsOf_c0 mm h0 (fun l' pts' m' g1 g2 g3 => ih _ g1 (by omega) l' pts' m' (Nat.le_refl _) g2 g3) l pts m h1 h2 h3
  exact h _ hs l pts m (Nat.le_refl _) hm hb
theorem rx_pointsOfN {l : List AL.Stmt} {N : Nat} {Q : Exit → AS → Prop} {all : Array Oper} {rest : List Oper} {tsl : List (Nat × AV)} {hsl : List (Nat × Option (List AV))} {nidl : Nat} {z0 : Lo} {md : Md} {d : Nat} {ty : TypeId} {pos : String} {af : Array Edge} {tys : Array TypeId} {x0 x1 : Operand} (ha0 : ev (lk tsl) x0 = some (sl cStmt l)) (ha1 : ev (lk tsl) x1 = some (.v (.slice none 0 0))) (hmc : MC Tryz.prog 98 [sl cStmt l, .v (.slice none 0 0)] [] 0 (fun _ : Unit => True) (fun _ => .own 0 0 (npL l) 5) (fun _ => [(0, some (flat cPnt (ptL 0 l)))])) (hM : Nat.ble (nidl + 1) big = true) (hN : Nat.blt d N = true) {md' : Md} [hmd : MdA md (rOs [x0, x1] ++ []) (List.map Sum.inr (List.map Prod.fst ([(nidl, some (flat cPnt (ptL 0 l)))] : List (Nat × Option (List AV)))) ++ [.inl d]) md'] (kk : RW Tryz.prog N all Q md' rest ⟨(d, .own nidl 0 (npL l) 5) :: tsl, wrH hsl [(nidl, some (flat cPnt (ptL 0 l)))], nidl + 1, z0⟩) : RW Tryz.prog N all Q md (⟨some d, .call ⟨.value (.func 98), #[x0, x1], tys⟩, ty, pos, af, none⟩ :: rest) ⟨tsl, hsl, nidl, z0⟩ := by
  refine rx_mcallE [] 1 [(nidl, some (flat cPnt (ptL 0 l)))] hmc (avs := [sl cStmt l, .v (.slice none 0 0)]) ?_ rfl ?_ rfl ?_ (by simpa using hM) ?_ ?_ ?_ hN (md' := md') (hmd := hmd) kk
  · show evL (lk tsl) [x0, x1] = _
    simp only [evL, ha0, ha1]
  · exact trivial
  · (repeat' (exact RnL.purI inferInstance))
  · (repeat' (exact RnV.own rfl))
  · simp [wsAll]
  · (repeat' (first|exact trivial|(refine And.intro ⟨0, _, rfl, rfl, ?_⟩ ?_)|exact RnL.purI inferInstance))
theorem pointsOfN_c (l : List AL.Stmt) (hs : cntL l ≤ 1000000) : MC Tryz.prog 98 [sl cStmt l, .v (.slice none 0 0)] [] 0 (fun _ : Unit => True) (fun _ => .own 0 0 (npL l) 5) (fun _ => [(0, some (flat cPnt (ptL 0 l)))]) := by
  have hlen := cntL_len l
  have hn2 := npL_le l
  (refine mc_of_aw Tryz.func98 rfl (by simp [Tryz.ntmps98]) ?_; rw [Tryz.ntmps98])
  repeat' (first|(apply id_rw;first|(apply rx_move;rfl;rfl)|(apply rx_assign;rfl;rfl)|(apply rx_len;rfl;rfl;rfl)|(apply rw_nil;kernel_rfl))|(apply id_aw;first|apply aw_seq|apply aw_region|apply aw_block)|with_reducible apply tq_normal)
  refine AW.le ?_ (Le.nilOwn (d := 1) 5 rfl (by decide))
  refine aw_loopK (σ := Nat × List Pnt × Nat) [9, 10] [(9, _), (10, _)] [] [] (fun k => [(11, iv (k.1 : Int)), (1, .own 0 0 k.2.2 5)]) (fun k => [(0, some (flat cPnt k.2.1))]) (fun k => k.1 ≤ l.length ∧ k.2.1 = ptL 0 (l.take k.1) ∧ k.2.2 = k.2.1.length ∧ k.2.2 = npL (l.take k.1)) (fun k => l.length - k.1) (0, [], 0) ⟨by omega, by simp [ptL], rfl, by simp [npL]⟩ rfl rfl (by repeat' (first|exact trivial|refine And.intro rfl ?_)) (by repeat' (first|exact trivial|refine And.intro (.inr rfl) ?_)) ?_
  rintro ⟨k, xs, m1⟩ ⟨hk, hxs, hm1, hm2⟩
  dsimp only at hk hxs hm1 hm2 ⊢
  have hck := cntL_at l k
  have hct := cnt_th l[k]!
  have hnt := npL_at l k
  have n9 := npS_9 l[k]!
  have n10 := npS_10 l[k]!
  have n1 := npS_1 l[k]!
  repeat' (first|(apply id_rw;first|(apply rx_move;rfl;rfl)|(first|(apply rx_load1;rfl;rfl;rfl;rfl)|(apply rx_loadA;rfl;rfl;(exact (rfl:_=[_, _, _, _, _, _]));rfl;rfl;rfl))|(apply rx_fieldAddr;rfl;rfl;rfl)|(first|(apply rx_add;rfl;rfl;omega;rfl)|(apply rx_bin;rfl;rfl;rfl;rfl))|(apply rx_assign;rfl;rfl)|(first|(apply rx_indexFN;(case hx|hi => rfl);(case hm => (omega));(case hml => (rfl));(case hα | hf|hg => infer_instance);(case hN => rfl))|(apply rx_indexON;rfl;rfl;(omega);rfl))|(apply rx_pointsOf;rfl;rfl;(rfl);(apply pointsOf_c <;> (first|omega|(simp only [lns] <;> omega)));rfl;rfl)|(first|(apply rx_len;rfl;rfl;rfl)|(apply rx_append;rfl;rfl;rfl;rfl;rfl;(first|(rw [flat_length]; omega)|(rw [flat_length]; simp only [lns] <;> omega));(rfl);omega;omega;(first|exact app_pnt1 (by (first|assumption|(simp only [lns] <;> omega)))|exact app_pnt0 (by (first|assumption|(simp only [lns] <;> omega))));rfl;rfl))|(apply rw_nil;kernel_rfl)|(apply rx_buildK;rfl;(exact (rfl:_=some [_, _, _, _, _]));(exact (rfl:_=[_, _, _, _, _]));rfl)|(apply rx_alloc;rfl;rfl)|((apply rx_buildSliceI (t := _));(case hze|hsm|hl => rfl);(case hfl => (first|exact (rfl:_=some [_])|exact (rfl:_=some [_, _])|exact (rfl:_=some [_, _, _, _, _])));(case hM|hN => rfl))|(apply rx_store;rfl;rfl;rfl;rfl;rfl;(case hl => (first|(rw [flat_length]; simp only [lns] <;> omega)|(simp;done)));(first|exact st_next1 (by (simp only [lns] <;> omega))|exact st_next2 (by (simp only [lns] <;> omega))|exact (rfl:_=[_, _, _, _, _, _]))))|(apply id_aw;first|apply aw_seq|apply aw_region|(apply aw_cond;rfl;all_goals intro hc;have hq:=hc;(try simp only [bqs] at hq);try exfalso;omega)|apply aw_block|apply aw_skip|apply aw_exit|apply aw_ret)|with_reducible apply tq_normal|with_reducible apply tq_exit|with_reducible apply bq_normal|with_reducible apply bq_here)
  · (apply ex3 (k + 1, _, _); focus (refine Le.ren [(0, 7)] rfl (by decide) ?_ ?_ <;> repeat' (first | exact trivial | refine And.intro ⟨_, rfl, ?_⟩ ?_ | refine And.intro ⟨_, _, rfl, rfl, ?_⟩ ?_ | exact Or.inr rfl | refine Or.inl ⟨?_, (by first | rfl | exact pur_sl _ _)⟩ | rfl)))
    · dsimp only
      rw [if_get1 hm1, if_set1 hm1, if_get2 (by rw [ptL_len, hm1]), if_set2 (by rw [ptL_len, hm1]), ptL_take l _ k (by omega), npL_take l k (by omega), ptS_def, if_pos hq, n9 hq]
      refine ⟨by omega, ?_, by simp [ptL_len]; omega, by omega⟩
      have e1 : npL (l.take k) = xs.length := by omega
      rw [Nat.zero_add, e1]
      rw [← hxs]
      simp only [List.append_assoc, List.length_append, List.length_cons, List.length_nil, ptL_len, hm1, Nat.zero_add]
      clear hxs hck hnt n9 n10 n1
      grind
    · dsimp only;omega
  · (apply ex3 (k + 1, _, _); focus (refine Le.ren [(0, 7)] rfl (by decide) ?_ ?_ <;> repeat' (first | exact trivial | refine And.intro ⟨_, rfl, ?_⟩ ?_ | refine And.intro ⟨_, _, rfl, rfl, ?_⟩ ?_ | exact Or.inr rfl | refine Or.inl ⟨?_, (by first | rfl | exact pur_sl _ _)⟩ | rfl)))
    · dsimp only
      rw [lp_get hm1, lp_set hm1, ptL_take l _ k (by omega), npL_take l k (by omega), ptS_def, if_neg (by omega), if_pos hq, n10 hq]
      refine ⟨by omega, ?_, by simp [ptL_len]; omega, by omega⟩
      have e1 : npL (l.take k) = xs.length := by omega
      rw [Nat.zero_add, e1]
      rw [← hxs]
      simp only [List.append_assoc, List.length_append, List.length_cons, List.length_nil, ptL_len, hm1, Nat.zero_add]
      clear hxs hck hnt n9 n10 n1
      grind
    · dsimp only;omega
  · (apply ex3 (k + 1, _, _); focus (refine Le.ren [(0, 4)] rfl (by decide) ?_ ?_ <;> repeat' (first | exact trivial | refine And.intro ⟨_, rfl, ?_⟩ ?_ | refine And.intro ⟨_, _, rfl, rfl, ?_⟩ ?_ | exact Or.inr rfl | refine Or.inl ⟨?_, (by first | rfl | exact pur_sl _ _)⟩ | rfl)))
    · dsimp only
      rw [ptL_take l _ k (by omega), npL_take l k (by omega), ptS_def, if_neg ‹¬l[k]!.op = 9›, if_neg hq, n1 ‹¬l[k]!.op = 9› hq]
      refine ⟨by omega, ?_, by simp [ptL_len]; omega, by omega⟩
      have e1 : npL (l.take k) = xs.length := by omega
      rw [Nat.zero_add, e1]
      rw [← hxs, hm1]
    · dsimp only;omega
  · refine rq_ret rfl ?_
    have e2 : l.take k = l := List.take_of_length_le (by omega)
    rw [e2] at hxs hm2
    refine mc_ret () trivial ?_ ⟨.inr (Eq.trans (b := some _) rfl ?_), trivial⟩
    · simp only [oneOf]; rw [hm2]
    · rw [hxs]
theorem points_c (p : Prg) (hs : cntL p.body ≤ 1000000) : PC Tryz.prog 62 [aPrg p] (fun r => r = sl cPnt (ptsF p)) := by
  have hn := npL_le p.body
  (refine pc_of_aw Tryz.func62 rfl (by simp [Tryz.ntmps62]) ?_; rw [Tryz.ntmps62])
  repeat' (first|(apply id_rw;first|(apply rx_load1;rfl;rfl;rfl;rfl)|(apply rx_fieldAddr;rfl;rfl;rfl)|(apply rx_assign;rfl;rfl)|(apply rx_pointsOfN;rfl;rfl;(apply pointsOfN_c <;> (assumption));rfl;rfl)|(apply rx_append;rfl;rfl;rfl;rfl;rfl;(rw [flat_length]; simp only [lns] <;> omega);(rfl);omega;omega;(exact app_pnt0 (by (simp only [lns] <;> omega)));rfl;rfl)|(apply rw_nil;kernel_rfl)|(apply rx_buildK;rfl;(exact (rfl:_=some [_, _, _, _, _]));(exact (rfl:_=[_, _, _, _, _]));rfl)|(apply rx_box;rfl;rfl;rfl;rfl)|((apply rx_buildSliceI (t := _));(case hze|hsm|hl => rfl);(case hfl => (exact (rfl:_=some [_, _, _, _, _])));(case hM|hN => rfl)))|(apply id_aw;first|apply aw_seq|apply aw_region|apply aw_ret)|with_reducible apply tq_normal)
  (refine rq_le (Le.frzD (d := 2) (i := 3) rfl rfl) ?_; refine rq_ret rfl ?_)
  refine ⟨?_, ?_⟩
  · simp only [oneOf, sl, ptsF, List.length_append, List.length_cons, List.length_nil, ptL_len, Nat.zero_add]
  · (exact pur_sl _ _)
theorem PointsOfI_c (p : Prg) (hl : p.types.length ≤ 1000000) (hs : cntL p.body ≤ 1000000) : PC Tryz.prog 22 [aPrg p] (fun r => r = sl cPnt (if validF p = true then ptsF p else [])) := by
  (refine pc_of_aw Tryz.func22 rfl (by simp [Tryz.ntmps22]) ?_; rw [Tryz.ntmps22])
  repeat' (first|(apply id_rw;first|(apply rx_loadA;rfl;rfl;(exact (rfl:_=[_, _]));rfl;rfl;rfl)|(apply rx_assign;rfl;rfl)|(first|((with_reducible apply rx_callE (k := 61));(case ha => rfl);(case h => (apply validI_c <;> (first|assumption|omega)));(case hp => (exact Pur.pf));(case hN => rfl))|((with_reducible apply rx_callE (k := 62));(case ha => rfl);(case h => (apply points_c <;> (assumption)));(case hp => (exact Pur.pf));(case hN => rfl)))|(apply rw_nil;kernel_rfl)|(apply rx_not;rfl;rfl)|(apply rx_box;rfl;rfl;rfl;rfl))|(apply id_aw;first|apply aw_seq|apply aw_region|(apply aw_cond;rfl;all_goals intro hc;have hq:=hc;(try simp only [bqs] at hq);try exfalso;omega)|apply aw_skip|apply aw_ret)|with_reducible apply tq_normal|with_reducible apply tq_ret)
  · (refine rq_le (Le.nilImm (d := 2) rfl) ?_; refine rq_ret rfl ?_)
    refine ⟨?_, (by (rfl))⟩
    simp only [hq, oneOf, Bool.false_eq_true, if_false]; rfl
  · refine rq_ret rfl ⟨?_, (by (exact pur_sl _ _))⟩
    simp only [hq, oneOf, if_true]
theorem rx_l2Add {l : List AL.Stmt} {pts : List Pnt} {m : Nat} {N : Nat} {Q : Exit → AS → Prop} {all : Array Oper} {rest : List Oper} {tsl : List (Nat × AV)} {hsl : List (Nat × Option (List AV))} {nidl : Nat} {z0 : Lo} {md : Md} {d : Nat} {ty : TypeId} {pos : String} {af : Array Edge} {tys : Array TypeId} {x0 x1 : Operand} {i0 : Nat} (ha0 : ev (lk tsl) x0 = some (.own i0 0 m 5)) (ha1 : ev (lk tsl) x1 = some (sl cStmt l)) (hH0 : lkH hsl i0 = some (flat cPnt pts)) (hmc : MC Tryz.prog 125 [.own 0 0 m 5, sl cStmt l] [(0, some (flat cPnt pts))] 1 (fun _ : Unit => True) (fun _ => .own 1 0 (m + npL l) 5) (fun _ => [(1, some (flat cPnt (pts ++ ptL pts.length l)))])) (hM : Nat.ble (nidl + 1) big = true) (hN : Nat.blt d N = true) {md' : Md} [hmd : MdA md (rOs [x0, x1] ++ [.inr i0]) (List.map Sum.inr (List.map Prod.fst ([(nidl, some (flat cPnt (pts ++ ptL pts.length l))), (i0, none)] : List (Nat × Option (List AV)))) ++ [.inl d]) md'] (kk : RW Tryz.prog N all Q md' rest ⟨(d, .own nidl 0 (m + npL l) 5) :: tsl, wrH hsl [(nidl, some (flat cPnt (pts ++ ptL pts.length l))), (i0, none)], nidl + 1, z0⟩) : RW Tryz.prog N all Q md (⟨some d, .call ⟨.value (.func 125), #[x0, x1], tys⟩, ty, pos, af, none⟩ :: rest) ⟨tsl, hsl, nidl, z0⟩ := by
  refine rx_mcallE [i0] 2 [(nidl, some (flat cPnt (pts ++ ptL pts.length l))), (i0, none)] hmc (avs := [.own i0 0 m 5, sl cStmt l]) ?_ rfl ?_ rfl ?_ (by simpa using hM) ?_ ?_ ?_ hN (md' := md') (hmd := hmd) kk
  · show evL (lk tsl) [x0, x1] = _
    simp only [evL, ha0, ha1]
  · exact ⟨⟨_, _, rfl, hH0, by (repeat' (exact RnL.purI inferInstance))⟩, trivial⟩
  · (repeat' (first|exact RnL.purI inferInstance|exact RnV.own rfl|refine RnL.cons ?_ ?_))
  · (repeat' (exact RnV.own rfl))
  · simp [wsAll]
  · (repeat' (first|exact trivial|(refine And.intro ⟨1, _, rfl, rfl, ?_⟩ ?_)|exact RnL.purI inferInstance))
theorem l2Add_c0 (mm : Nat) (hmm : mm ≤ 1000000) (l2Add_ih : ∀ l pts m, cntL l < mm → m = pts.length → m + npL l ≤ 12000000 → MC Tryz.prog 125 [.own 0 0 m 5, sl cStmt l] [(0, some (flat cPnt pts))] 1 (fun _ : Unit => True) (fun _ => .own 1 0 (m + npL l) 5) (fun _ => [(1, some (flat cPnt (pts ++ ptL pts.length l)))])) (l : List AL.Stmt) (pts : List Pnt) (m : Nat) (hs : cntL l ≤ mm) (hm : m = pts.length) (hb : m + npL l ≤ 12000000) : MC Tryz.prog 125 [.own 0 0 m 5, sl cStmt l] [(0, some (flat cPnt pts))] 1 (fun _ : Unit => True) (fun _ => .own 1 0 (m + npL l) 5) (fun _ => [(1, some (flat cPnt (pts ++ ptL pts.length l)))]) := by
  have hlen := cntL_len l
  subst hm
  (refine mc_of_aw Tryz.func125 rfl (by simp [Tryz.ntmps125]) ?_; rw [Tryz.ntmps125])
  repeat' (first|(apply id_rw;first|(apply rx_assign;rfl;rfl)|(apply rw_nil;kernel_rfl))|(apply id_aw;first|apply aw_seq|apply aw_region|apply aw_block)|with_reducible apply tq_normal)
  refine AW.le ?_ (Le.mv (d := 0) (i := 0) (cs := flat cPnt pts) rfl rfl (by decide))
  refine aw_loopK (σ := Nat × List Pnt × Nat) [1] [(1, _)] [] [] (fun k => [(5, iv (k.1 : Int)), (0, .own 1 0 k.2.2 5)]) (fun k => [(1, some (flat cPnt k.2.1))]) (fun k => k.1 ≤ l.length ∧ k.2.1 = pts ++ ptL pts.length (l.take k.1) ∧ k.2.2 = k.2.1.length ∧ k.2.2 = pts.length + npL (l.take k.1)) (fun k => l.length - k.1) (0, pts, pts.length) ⟨by omega, by simp [ptL], rfl, by simp [npL]⟩ rfl rfl (by repeat' (first|exact trivial|refine And.intro rfl ?_)) (by repeat' (first|exact trivial|refine And.intro (.inr rfl) ?_)) ?_
  rintro ⟨k, xs, m1⟩ ⟨hk, hxs, hm1, hm2⟩
  dsimp only at hk hxs hm1 hm2 ⊢
  have hck := cntL_at l k
  have hct := cnt_th l[k]!
  have hnt := npL_at l k
  have n9 := npS_9 l[k]!
  have n10 := npS_10 l[k]!
  have n1 := npS_1 l[k]!
  repeat' (first|(apply id_rw;first|(apply rx_move;rfl;rfl)|(first|(apply rx_load1;rfl;rfl;rfl;rfl)|(apply rx_loadA;rfl;rfl;(exact (rfl:_=[_, _, _, _, _, _]));rfl;rfl;rfl))|(apply rx_fieldAddr;rfl;rfl;rfl)|(first|(apply rx_add;rfl;rfl;omega;rfl)|(apply rx_bin;rfl;rfl;rfl;rfl))|(apply rx_assign;rfl;rfl)|(first|(apply rx_indexFN;(case hx|hi => rfl);(case hm => (omega));(case hml => (rfl));(case hα | hf|hg => infer_instance);(case hN => rfl))|(apply rx_indexON;rfl;rfl;(omega);rfl))|(apply rx_l2Add;rfl;rfl;(rfl);(apply l2Add_ih <;> (first|omega|(simp only [lns] <;> omega)));rfl;rfl)|(first|(apply rx_len;rfl;rfl;rfl)|(apply rx_append;rfl;rfl;rfl;rfl;rfl;(first|(rw [flat_length]; omega)|(rw [flat_length]; simp only [lns] <;> omega));(rfl);omega;omega;(first|exact app_pnt1 (by (first|assumption|(simp only [lns] <;> omega)))|exact app_pnt0 (by (first|assumption|(simp only [lns] <;> omega))));rfl;rfl))|(apply rw_nil;kernel_rfl)|(apply rx_buildK;rfl;(exact (rfl:_=some [_, _, _, _, _]));(exact (rfl:_=[_, _, _, _, _]));rfl)|(apply rx_alloc;rfl;rfl)|((apply rx_buildSliceI (t := _));(case hze|hsm|hl => rfl);(case hfl => (first|exact (rfl:_=some [_])|exact (rfl:_=some [_, _])|exact (rfl:_=some [_, _, _, _, _])));(case hM|hN => rfl))|(apply rx_store;rfl;rfl;rfl;rfl;rfl;(case hl => (first|(rw [flat_length]; simp only [lns] <;> omega)|(simp;done)));(first|exact st_next1 (by (simp only [lns] <;> omega))|exact st_next2 (by (simp only [lns] <;> omega))|exact (rfl:_=[_, _, _, _, _, _]))))|(apply id_aw;first|apply aw_seq|apply aw_region|(apply aw_cond;rfl;all_goals intro hc;have hq:=hc;(try simp only [bqs] at hq);try exfalso;omega)|apply aw_block|apply aw_skip|apply aw_exit|apply aw_ret)|with_reducible apply tq_normal|with_reducible apply tq_exit|with_reducible apply bq_normal|with_reducible apply bq_here)
  · (apply ex3 (k + 1, _, _); focus (refine Le.ren [(1, 8)] rfl (by decide) ?_ ?_ <;> repeat' (first | exact trivial | refine And.intro ⟨_, rfl, ?_⟩ ?_ | refine And.intro ⟨_, _, rfl, rfl, ?_⟩ ?_ | exact Or.inr rfl | refine Or.inl ⟨?_, (by first | rfl | exact pur_sl _ _)⟩ | rfl)))
    · dsimp only
      rw [if_get2 (by rw [ptL_len, hm1]), if_set2 (by rw [ptL_len, hm1]), if_get1 hm1, if_set1 hm1, ptL_take l _ k (by omega), npL_take l k (by omega), ptS_def, if_pos hq, n9 hq]
      refine ⟨by omega, ?_, by simp [ptL_len]; omega, by omega⟩
      have e1 : xs.length = pts.length + npL (l.take k) := by omega
      rw [← List.append_assoc pts, ← hxs, ← e1]
      simp only [List.append_assoc, List.length_append, List.length_cons, List.length_nil, ptL_len, hm1, Nat.zero_add]
      clear l2Add_ih hxs hck hnt n9 n10 n1
      grind
    · dsimp only;omega
  · (apply ex3 (k + 1, _, _); focus (refine Le.ren [(1, 8)] rfl (by decide) ?_ ?_ <;> repeat' (first | exact trivial | refine And.intro ⟨_, rfl, ?_⟩ ?_ | refine And.intro ⟨_, _, rfl, rfl, ?_⟩ ?_ | exact Or.inr rfl | refine Or.inl ⟨?_, (by first | rfl | exact pur_sl _ _)⟩ | rfl)))
    · dsimp only
      rw [lp_get hm1, lp_set hm1, ptL_take l _ k (by omega), npL_take l k (by omega), ptS_def, if_neg (by omega), if_pos hq, n10 hq]
      refine ⟨by omega, ?_, by simp [ptL_len]; omega, by omega⟩
      have e1 : xs.length = pts.length + npL (l.take k) := by omega
      rw [← List.append_assoc pts, ← hxs, ← e1]
      simp only [List.append_assoc, List.length_append, List.length_cons, List.length_nil, ptL_len, hm1, Nat.zero_add]
      clear l2Add_ih hxs hck hnt n9 n10 n1
      grind
    · dsimp only;omega
  · (apply ex3 (k + 1, _, _); focus (refine Le.ren [(1, 5)] rfl (by decide) ?_ ?_ <;> repeat' (first | exact trivial | refine And.intro ⟨_, rfl, ?_⟩ ?_ | refine And.intro ⟨_, _, rfl, rfl, ?_⟩ ?_ | exact Or.inr rfl | refine Or.inl ⟨?_, (by first | rfl | exact pur_sl _ _)⟩ | rfl)))
    · dsimp only
      rw [ptL_take l _ k (by omega), npL_take l k (by omega), ptS_def, if_neg ‹¬l[k]!.op = 9›, if_neg hq, n1 ‹¬l[k]!.op = 9› hq]
      refine ⟨by omega, ?_, by simp [ptL_len]; omega, by omega⟩
      have e1 : xs.length = pts.length + npL (l.take k) := by omega
      rw [← List.append_assoc pts, ← hxs, ← e1, hm1]
    · dsimp only;omega
  · refine rq_ret rfl ?_
    have e2 : l.take k = l := List.take_of_length_le (by omega)
    rw [e2] at hxs hm2
    refine mc_ret () trivial ?_ ⟨.inr (Eq.trans (b := some _) rfl ?_), trivial⟩
    · simp only [oneOf]; rw [hm2]
    · rw [hxs]
theorem l2Add_c (l : List AL.Stmt) (pts : List Pnt) (m : Nat) (hs : cntL l ≤ 1000000) (hm : m = pts.length) (hb : m + npL l ≤ 12000000) : MC Tryz.prog 125 [.own 0 0 m 5, sl cStmt l] [(0, some (flat cPnt pts))] 1 (fun _ : Unit => True) (fun _ => .own 1 0 (m + npL l) 5) (fun _ => [(1, some (flat cPnt (pts ++ ptL pts.length l)))]) := by
  have h : ∀ (mm : Nat), mm ≤ 1000000 → ∀ l pts m, cntL l ≤ mm → m = pts.length → m + npL l ≤ 12000000 → MC Tryz.prog 125 [.own 0 0 m 5, sl cStmt l] [(0, some (flat cPnt pts))] 1 (fun _ : Unit => True) (fun _ => .own 1 0 (m + npL l) 5) (fun _ => [(1, some (flat cPnt (pts ++ ptL pts.length l)))]) := by
    intro mm
    induction mm using Nat.strongRecOn with
    | ind mm ih =>
      intro h0 l pts m h1 h2 h3
      exact l2Add_c0 mm h0 (fun l' pts' m' g1 g2 g3 => ih _ g1 (by omega) l' pts' m' (Nat.le_refl _) g2 g3) l pts m h1 h2 h3
  exact h _ hs l pts m (Nat.le_refl _) hm hb
theorem l2Points_c (p : Prg) (hs : cntL p.body ≤ 1000000) : PC Tryz.prog 91 [aPrg p] (fun r => r = sl cPnt (ptsF p)) := by
  have hn := npL_le p.body
  have e0 : ([] : List AV) = flat cPnt [] := rfl
  (refine pc_of_aw Tryz.func91 rfl (by simp [Tryz.ntmps91]) ?_; rw [Tryz.ntmps91])
  repeat' (first|(apply id_rw;first|(apply rx_load1;rfl;rfl;rfl;rfl)|(apply rx_fieldAddr;rfl;rfl;rfl)|(apply rx_assign;rfl;rfl)|(apply rx_l2Add;rfl;rfl;(exact flat_nilH rfl);(apply l2Add_c <;> (first|assumption|omega|(simp only [lns] <;> omega)));rfl;rfl)|(apply rx_append;rfl;rfl;rfl;rfl;rfl;(rw [flat_length]; simp only [lns] <;> omega);(rfl);omega;omega;(exact app_pnt0 (by (simp only [lns] <;> omega)));rfl;rfl)|(apply rw_nil;kernel_rfl)|(apply rx_buildK;rfl;(exact (rfl:_=some [_, _, _, _, _]));(exact (rfl:_=[_, _, _, _, _]));rfl)|(apply rx_box;rfl;rfl;rfl;rfl)|(apply rx_buildSlice;rfl;rfl;rfl;(first|exact (rfl:_=some [_, _, _, _, _])|rfl);rfl;rfl))|(apply id_aw;first|apply aw_seq|apply aw_region|apply aw_ret)|with_reducible apply tq_normal)
  (refine rq_le (Le.frzD (d := 2) (i := 4) rfl rfl) ?_; refine rq_ret rfl ?_)
  refine ⟨?_, (by (exact pur_sl _ _))⟩
  simp only [oneOf, sl, ptsF, List.length_append, List.length_cons, List.length_nil, ptL_len, Nat.zero_add, List.nil_append]
theorem takes_c (ts : List Int) (bd : List AL.Stmt) (pts : List Pnt) (v : Int) (h : 0 ≤ v ∧ v < ts.length) : PC Tryz.prog 115 [aG ts bd pts, iv v] (fun r => r = bv (tkT ts[v.toNat]!)) := by
  (refine pc_of_aw Tryz.func115 rfl (by simp [Tryz.ntmps115]) ?_; rw [Tryz.ntmps115])
  repeat' (first|(apply id_rw;first|(apply rx_move;rfl;rfl)|(apply rx_load1;rfl;rfl;rfl;rfl)|(apply rx_fieldAddr;rfl;rfl;rfl)|(first|(apply rx_guardY;rfl;rfl;rfl;(assumption))|(apply rx_guardNs;rfl;rfl;rfl;(assumption))|(apply rx_guardS;(case hj|hb|hN => rfl);all_goals (intro hg;have hq := hg;(try simp only [bqs] at hq);(try (exfalso;omega)))))|(apply rx_bin;rfl;rfl;rfl;rfl)|(apply rx_assign;rfl;rfl)|(first|(apply rx_pickT;rfl;(assumption);rfl;rfl)|(apply rx_pickF;rfl;(assumption);rfl;rfl))|(apply rx_indexF;(case hx|hi => rfl);(case hm => (assumption));(case hml => (rfl));(case hα | hf|hg => infer_instance);(case hN => rfl))|(apply rw_nil;kernel_rfl)|(apply rx_nil;rfl;rfl;rfl))|(apply id_aw;first|apply aw_seq|apply aw_region|apply aw_ret)|with_reducible apply tq_normal|((with_reducible apply rq_ret);case hr => rfl))
  all_goals (refine ⟨?_, rfl⟩; simp only [oneOf, AV.v.injEq, Value.bool.injEq, Value.int.injEq, true_and])
  all_goals grind [tkT]
theorem use_c (ts : List Int) (bd : List AL.Stmt) (pts : List Pnt) (x : Pnt) (v : Int) (h : 0 ≤ v ∧ v < ts.length) : PC Tryz.prog 178 [aG ts bd pts, aPnt x, iv v] (fun r => r = iv (useAt ts x v)) := by
  (refine pc_of_aw Tryz.func178 rfl (by simp [Tryz.ntmps178]) ?_; rw [Tryz.ntmps178])
  repeat' (first|(apply id_rw;first|(apply rx_move;rfl;rfl)|(apply rx_load1;rfl;rfl;rfl;rfl)|(apply rx_fieldAddr;rfl;rfl;rfl)|(first|(apply rx_guardY;rfl;rfl;rfl;(assumption))|(apply rx_guardNs;rfl;rfl;rfl;(assumption))|(apply rx_guardS;(case hj|hb|hN => rfl);all_goals (intro hg;have hq := hg;(try simp only [bqs] at hq);(try (exfalso;omega)))))|(apply rx_bin;rfl;rfl;rfl;rfl)|(apply rx_assign;rfl;rfl)|(first|(apply rx_pickT;rfl;(assumption);rfl;rfl)|(apply rx_pickF;rfl;(assumption);rfl;rfl))|((with_reducible apply rx_callE (k := 115));(case ha => rfl);(case h => (apply takes_c <;> (assumption)));(case hp => (exact Pur.pf));(case hN => rfl))|(apply rw_nil;kernel_rfl)|(apply rx_box;rfl;rfl;rfl;rfl))|(apply id_aw;first|apply aw_seq|apply aw_region|(apply aw_condT;rfl;(assumption))|(apply aw_condF;rfl;(first|rfl|assumption))|(apply aw_cond;rfl;all_goals intro hc;have hq:=hc;(try simp only [bqs] at hq);try exfalso;omega)|apply aw_block|apply aw_skip|apply aw_ret)|with_reducible apply tq_normal|with_reducible apply tq_ret|with_reducible apply bq_normal|with_reducible apply bq_ret|((with_reducible apply rq_ret);case hr => rfl))
  all_goals (refine ⟨?_, rfl⟩; simp only [oneOf, AV.v.injEq, Value.bool.injEq, Value.int.injEq, true_and])
  all_goals grind [tkT, useAt]
def idxF (xs : List Int) (v : Int) : Int := match xs.findIdx? (fun t => decide (t = v)) with | some i => i | none => -1
theorem index_c (xs : List Int) (v : Int) (hl : xs.length ≤ 1000000) : PC Tryz.prog 206 [sl cI xs, iv v] (fun r => r = iv (idxF xs v)) := by
  (refine pc_of_aw Tryz.func206 rfl (by simp [Tryz.ntmps206]) ?_; rw [Tryz.ntmps206])
  repeat' (first|(apply id_rw;first|(apply rx_move;rfl;rfl)|(apply rx_assign;rfl;rfl)|(apply rx_len;rfl;rfl;rfl)|(apply rw_nil;kernel_rfl))|(apply id_aw;first|apply aw_seq|apply aw_region|apply aw_block)|with_reducible apply tq_normal)
  refine aw_loopK (σ := Nat) [0, 1, 7] [(0, _), (1, _), (7, _)] [] [] (fun k => [(8, iv (k : Int))]) (fun k => []) (fun k => k ≤ xs.length ∧ ∀ i, i < k → xs[i]! ≠ v) (fun k => xs.length - k) (0) ⟨by omega, by omega⟩ rfl rfl (by repeat' (first|exact trivial|refine And.intro rfl ?_)) (by repeat' (exact trivial)) ?_
  intro k ⟨hk, hall⟩
  repeat' (first|(apply id_rw;first|(apply rx_move;rfl;rfl)|(apply rx_load1;rfl;rfl;rfl;rfl)|(first|(apply rx_add;rfl;rfl;omega;rfl)|(apply rx_bin;rfl;rfl;rfl;rfl))|(apply rx_assign;rfl;rfl)|(apply rx_indexFN;(case hx|hi => rfl);(case hm => (omega));(case hml => (rfl));(case hα | hf|hg => infer_instance);(case hN => rfl))|(apply rw_nil;kernel_rfl))|(apply id_aw;first|apply aw_seq|apply aw_region|(apply aw_cond;rfl;all_goals intro hc;have hq:=hc;(try simp only [bqs] at hq);try exfalso;omega)|apply aw_block|apply aw_skip|apply aw_exit|apply aw_ret)|with_reducible apply tq_normal|with_reducible apply tq_ret|with_reducible apply tq_exit|with_reducible apply bq_normal|with_reducible apply bq_ret|with_reducible apply bq_here|((with_reducible apply rq_ret);case hr => rfl))
  · (refine ⟨?_, rfl⟩; simp only [oneOf, AV.v.injEq, Value.bool.injEq, Value.int.injEq, true_and])
    have hlt : k < xs.length := by omega
    have : xs.findIdx? (fun t => decide (t = v)) = some k := by
      rw [List.findIdx?_eq_some_iff_getElem]
      refine ⟨hlt, ?_, fun j hj => ?_⟩
      · rw [← getB xs k hlt]; grind
      · have := hall j hj;rw [getB xs j (by omega)] at this;simpa using this
    simp only [idxF, this]
  · (apply ex3 (k + 1); focus (refine Le.ren [] rfl (by decide) ?_ ?_ <;> repeat' (first | exact trivial | refine And.intro ⟨_, rfl, ?_⟩ ?_ | refine Or.inl ⟨?_, (by first | rfl | exact pur_sl _ _)⟩ | rfl)))
    · grind
    · omega
  · (refine ⟨?_, rfl⟩; simp only [oneOf, AV.v.injEq, Value.bool.injEq, Value.int.injEq, true_and])
    have : xs.findIdx? (fun t => decide (t = v)) = none := by
      rw [List.findIdx?_eq_none_iff]
      intro x hx
      obtain ⟨i, hi, rfl⟩ := List.getElem_of_mem hx
      have := hall i (by omega);rw [getB xs i hi] at this;simpa using this
    simp only [idxF, this]
theorem idxF_ge (xs : List Int) (v : Int) : decide (0 ≤ idxF xs v) = decide (v ∈ xs) := by
  unfold idxF
  split
  · rename_i i h
    obtain ⟨h1, h2, _⟩ := List.findIdx?_eq_some_iff_getElem.1 h
    simp only [decide_eq_true_eq] at h2
    have : v ∈ xs := by rw [← h2]; exact List.getElem_mem h1
    simp [this]
  · rename_i h
    rw [List.findIdx?_eq_none_iff] at h
    have : v ∉ xs := fun hm => by have := h v hm;simp at this
    simp [this]
theorem contains_c (xs : List Int) (v : Int) (hl : xs.length ≤ 1000000) : PC Tryz.prog 177 [sl cI xs, iv v] (fun r => r = bv (decide (v ∈ xs))) := by
  (refine pc_of_aw Tryz.func177 rfl (by simp [Tryz.ntmps177]) ?_; rw [Tryz.ntmps177])
  repeat' (first|(apply id_rw;first|(apply rx_move;rfl;rfl)|(apply rx_bin;rfl;rfl;rfl;rfl)|(apply rx_assign;rfl;rfl)|((with_reducible apply rx_callE (k := 206));(case ha => rfl);(case h => (apply index_c <;> (assumption)));(case hp => (exact Pur.pf));(case hN => rfl))|(apply rw_nil;kernel_rfl))|(apply id_aw;first|apply aw_seq|apply aw_region|apply aw_ret)|with_reducible apply tq_normal|((with_reducible apply rq_ret);case hr => rfl))
  (refine ⟨?_, rfl⟩; simp only [oneOf, AV.v.injEq, Value.bool.injEq, Value.int.injEq, true_and])
  exact idxF_ge xs v
theorem which_c (ts : List Int) (bd : List AL.Stmt) (pts : List Pnt) (x : Pnt) (us : List Int) (h : ts.length ≤ 6) (hu : us.length ≤ 1000) : PC Tryz.prog 140 [aG ts bd pts, aPnt x, sl cI us] (fun r => r = iv (wS ts x us : Nat)) := by
  (refine pc_of_aw Tryz.func140 rfl (by simp [Tryz.ntmps140]) ?_; rw [Tryz.ntmps140])
  repeat' (first|(apply id_rw;first|(apply rx_move;rfl;rfl)|(apply rx_load1;rfl;rfl;rfl;rfl)|(apply rx_fieldAddr;rfl;rfl;rfl)|(apply rx_assign;rfl;rfl)|(apply rx_len;rfl;rfl;rfl)|(apply rw_nil;kernel_rfl)|(apply rx_nil;rfl;rfl;rfl)|(apply rx_box;rfl;rfl;rfl;rfl))|(apply id_aw;first|apply aw_seq|apply aw_region|apply aw_block)|with_reducible apply tq_normal)
  refine aw_loopK (σ := Nat × Nat) [0, 2, 4, 14] [(0, _), (2, _), (4, _), (14, _)] [0] [(0, some _)] (fun k => [(15, iv (k.1 : Int)), (7, iv (k.2 : Int))]) (fun k => []) (fun k => k.1 ≤ ts.length ∧ k.2 = mkBits (fun v => decide (useAt ts x v ∈ us)) k.1) (fun k => ts.length - k.1) (0, 0) ⟨by omega, rfl⟩ rfl rfl (by repeat' (first|exact trivial|refine And.intro rfl ?_)) (by repeat' (exact trivial)) ?_
  rintro ⟨k, A⟩ ⟨hk, hA⟩
  dsimp only at hk hA ⊢
  have hsm : Sm A := hA ▸ mkBits_sm (by omega)
  repeat' (first|(apply id_rw;first|(apply rx_move;rfl;rfl)|(apply rx_loadA;rfl;rfl;(exact (rfl:_=[_, _, _, _, _]));rfl;rfl;rfl)|(first|(apply rx_orN;rfl;rfl;infer_instance;infer_instance;infer_instance;rfl)|(apply rx_shl1;rfl;rfl;infer_instance;omega;rfl;(case' kk => intro hsm))|(apply rx_add;rfl;rfl;omega;rfl)|(apply rx_bin;rfl;rfl;rfl;rfl))|(apply rx_assign;rfl;rfl)|(first|((with_reducible apply rx_callE (k := 177));(case ha => rfl);(case h => (apply contains_c <;> (omega)));(case hp => (exact Pur.pf));(case hN => rfl))|((with_reducible apply rx_callE (k := 178));(case ha => rfl);(case h => (apply use_c <;> (omega)));(case hp => (exact Pur.pf));(case hN => rfl)))|(apply rw_nil;kernel_rfl))|(apply id_aw;first|apply aw_seq|apply aw_region|(apply aw_cond;rfl;all_goals intro hc;have hq:=hc;(try simp only [bqs] at hq);try exfalso;omega)|apply aw_block|apply aw_skip|apply aw_exit|apply aw_ret)|with_reducible apply tq_normal|with_reducible apply tq_exit|with_reducible apply bq_normal|with_reducible apply bq_here|((with_reducible apply rq_ret);case hr => rfl))
  · (apply ex3 (k + 1, _); focus (refine Le.ren [(0, 0)] rfl (by decide) ?_ ?_ <;> repeat' (first | exact trivial | refine And.intro ⟨_, rfl, ?_⟩ ?_ | refine And.intro ⟨_, _, rfl, rfl, ?_⟩ ?_ | exact Or.inr rfl | refine Or.inl ⟨?_, (by first | rfl | exact pur_sl _ _ | exact Pur.pf)⟩ | rfl)))
    · dsimp only
      rw [hA]
      exact ⟨by omega, mkBits_succ _ _ (by simpa using hq)⟩
    · dsimp only;omega
  · (apply ex3 (k + 1, _); focus (refine Le.ren [(0, 0)] rfl (by decide) ?_ ?_ <;> repeat' (first | exact trivial | refine And.intro ⟨_, rfl, ?_⟩ ?_ | refine And.intro ⟨_, _, rfl, rfl, ?_⟩ ?_ | exact Or.inr rfl | refine Or.inl ⟨?_, (by first | rfl | exact pur_sl _ _ | exact Pur.pf)⟩ | rfl)))
    · dsimp only
      rw [hA]
      exact ⟨by omega, mkBits_skip _ _ (by simpa using hq)⟩
    · dsimp only;omega
  · (refine ⟨?_, rfl⟩; simp only [oneOf, AV.v.injEq, Value.bool.injEq, Value.int.injEq, true_and])
    rw [hA, show k = ts.length by omega]; rfl
theorem used_c (ts : List Int) (bd : List AL.Stmt) (pts : List Pnt) (x : Pnt) (h : ts.length ≤ 6) : PC Tryz.prog 100 [aG ts bd pts, aPnt x] (fun r => r = iv (wS ts x [1, 2, 3] : Nat)) := by
  (refine pc_of_aw Tryz.func100 rfl (by simp [Tryz.ntmps100]) ?_; rw [Tryz.ntmps100])
  repeat' (first|(apply id_rw;first|(apply rx_move;rfl;rfl)|(apply rx_loadA;rfl;rfl;(exact (rfl:_=[_, _, _, _, _]));rfl;rfl;rfl)|(apply rx_assign;rfl;rfl)|((with_reducible apply rx_callE (k := 140));(case ha => rfl);(case h => (apply which_c (us := [1, 2, 3]) <;> (first|assumption|decide)));(case hp => (exact Pur.pf));(case hN => rfl))|(apply rw_nil;kernel_rfl)|(apply rx_box;rfl;rfl;rfl;rfl)|((apply rx_buildSliceI (t := _));(case hze|hsm|hl => rfl);(case hfl => (exact (rfl:_=some [_, _, _])));(case hM|hN => rfl)))|(apply id_aw;first|apply aw_seq|apply aw_region|apply aw_ret)|with_reducible apply tq_normal|((with_reducible apply rq_ret);case hr => rfl))
  (refine ⟨?_, rfl⟩; simp only [oneOf, AV.v.injEq, Value.bool.injEq, Value.int.injEq, true_and])
theorem bits_c (A : Nat) (hA : Sm A) : PC Tryz.prog 66 [iv (A : Int)] (fun r => r = sl cI (bitsI A)) := by
  (refine pc_of_aw Tryz.func66 rfl (by simp [Tryz.ntmps66]) ?_; rw [Tryz.ntmps66])
  repeat' (first|(apply id_rw;first|(apply rx_assign;rfl;rfl)|(apply rw_nil;kernel_rfl))|(apply id_aw;first|apply aw_seq|apply aw_region|apply aw_block)|with_reducible apply tq_normal)
  refine AW.le ?_ (Le.nilOwn (d := 3) 1 rfl (by decide))
  refine aw_loopK (σ := Nat × List Int × Nat) [0] [(0, _)] [] [] (fun k => [(4, iv (k.1 : Int)), (3, .own 0 0 k.2.2 1)]) (fun k => [(0, some (flat cI k.2.1))]) (fun k => k.1 ≤ 62 ∧ k.2.1 = ((List.range k.1).filter (A.testBit ·)).map (fun v : Nat => (v : Int)) ∧ k.2.2 = k.2.1.length ∧ k.2.2 ≤ k.1) (fun k => 62 - k.1) (0, [], 0) ⟨by omega, rfl, rfl, Nat.le_refl _⟩ rfl rfl (by repeat' (first|exact trivial|refine And.intro rfl ?_)) (by repeat' (first|exact trivial|refine And.intro (.inr rfl) ?_)) ?_
  rintro ⟨k, u, m⟩ ⟨hk, hu, hm, hmk⟩
  dsimp only at hk hu hm hmk ⊢
  repeat' (first|(apply id_rw;first|(apply rx_move;rfl;rfl)|(first|(apply rx_and1;rfl;rfl;infer_instance;infer_instance;rfl)|(apply rx_shrN;rfl;rfl;infer_instance;infer_instance;omega;rfl)|(apply rx_add;rfl;rfl;omega;rfl)|(apply rx_bin;rfl;rfl;rfl;rfl))|(apply rx_assign;rfl;rfl)|(apply rx_append;rfl;rfl;rfl;rfl;rfl;(rw [flat_length]; omega);(rfl);omega;omega;(exact app_int (by (assumption)));rfl;rfl)|(apply rw_nil;kernel_rfl)|((apply rx_buildSliceI (t := _));(case hze|hsm|hl => rfl);(case hfl => exact (rfl:_=some [_]));(case hM|hN => rfl)))|(apply id_aw;first|apply aw_seq|apply aw_region|(apply aw_cond;rfl;all_goals intro hc;have hq:=hc;(try simp only [bqs] at hq);try exfalso;omega)|apply aw_block|apply aw_skip|apply aw_exit|apply aw_ret)|with_reducible apply tq_normal|with_reducible apply tq_exit|with_reducible apply bq_normal|with_reducible apply bq_here)
  · have hlt := shr_pos hA (show 0 < ((A >>> k : Nat) : Int) by assumption)
    (apply ex3 (k + 1, _, _);focus (refine Le.ren [(0, 2)] rfl (by decide) ?_ ?_ <;> repeat' (first|exact trivial|refine And.intro ⟨_, rfl, ?_⟩ ?_|refine And.intro ⟨_, _, rfl, rfl, ?_⟩ ?_|exact Or.inr rfl|refine Or.inl ⟨?_, (by first|rfl|exact pur_sl _ _)⟩|rfl)))
    · dsimp only
      exact ⟨by omega, filt_snoc hq hu, by simp;omega, by omega⟩
    · dsimp only;omega
  · have hlt := shr_pos hA (show 0 < ((A >>> k : Nat) : Int) by assumption)
    (apply ex3 (k + 1, u, m);focus (refine Le.ren [(0, 0)] rfl (by decide) ?_ ?_ <;> repeat' (first|exact trivial|refine And.intro ⟨_, rfl, ?_⟩ ?_|refine And.intro ⟨_, _, rfl, rfl, ?_⟩ ?_|exact Or.inr rfl|refine Or.inl ⟨?_, (by first|rfl|exact pur_sl _ _)⟩|rfl)))
    · dsimp only
      exact ⟨by omega, filt_skip hq hu, hm, by omega⟩
    · dsimp only;omega
  · (refine rq_le (Le.frzD (d := 2) (i := 0) rfl rfl) ?_; refine rq_ret rfl ?_)
    refine ⟨?_, (by (exact pur_sl _ _))⟩
    simp only [oneOf, sl]
    rw [bitsI_pre (k := k) (fun v hv => shr_zero hq v hv) (by omega) hA, ← hu, ← hm]
theorem graphOf_c (p : Prg) (hl : p.types.length ≤ 1000000) (hs : cntL p.body ≤ 1000000) : PC Tryz.prog 57 [aPrg p, .v (.slice none 0 0)] (fun r => r = if validF p = true then .tup [aG p.types p.body (ptsF p), bv true] else .tup [.v (.pointer none), bv false]) := by
  have hpl := ptsF_len p
  have hnl := npL_le p.body
  (refine pc_of_aw Tryz.func57 rfl (by simp [Tryz.ntmps57]) ?_; rw [Tryz.ntmps57])
  repeat' (first|(apply id_rw;first|(apply rx_move;rfl;rfl)|(apply rx_loadA;rfl;rfl;(exact (rfl:_=[_, _]));rfl;rfl;rfl)|(apply rx_assign;rfl;rfl)|(first|((with_reducible apply rx_callE (k := 61));(case ha => rfl);(case h => (apply validI_c <;> (first|assumption|omega)));(case hp => (exact Pur.pf));(case hN => rfl))|((with_reducible apply rx_callE (k := 62));(case ha => rfl);(case h => (apply points_c <;> (assumption)));(case hp => (exact Pur.pf));(case hN => rfl)))|(apply rx_len;rfl;rfl;rfl)|(apply rw_nil;kernel_rfl)|(apply rx_buildK;rfl;(exact (rfl:_=some [_, _, _]));(exact (rfl:_=[_, _, _]));rfl)|(apply rx_not;rfl;rfl)|(apply rx_box;rfl;rfl;rfl;rfl))|(apply id_aw;first|apply aw_seq|apply aw_region|(apply aw_draw;kernel_rfl)|(apply aw_cond;rfl;all_goals intro hc;have hq:=hc;(try simp only [bqs] at hq);try exfalso;omega)|apply aw_block|apply aw_skip|apply aw_ret)|with_reducible apply tq_normal|with_reducible apply tq_ret)
  · refine rq_ret rfl ⟨?_, (by (rfl))⟩
    rw [if_neg (by simp [hq])]; rfl
  · refine aw_loopK (σ := Unit) [6, 17, 18] [(6, _), (17, _), (18, _)] [1] [(1, some _)] (fun _u => [(19, iv 0)]) (fun _u => []) (fun _u => True) (fun _u => 0) () trivial rfl rfl (by repeat' (first | exact trivial | refine And.intro rfl ?_)) (by repeat' (exact trivial)) ?_
    intro _ _
    repeat' (first|(apply id_rw;first|(apply rx_move;rfl;rfl)|(apply rx_bin;rfl;rfl;rfl;rfl)|(apply rx_assign;rfl;rfl)|(apply rw_nil;kernel_rfl))|(apply id_aw;first|apply aw_seq|apply aw_region|(apply aw_condF;rfl;(rfl))|apply aw_exit|apply aw_ret)|with_reducible apply tq_normal|with_reducible apply tq_exit|with_reducible apply bq_here)
    refine rq_le (Le.frzP (d := 4) (i := 1) rfl rfl) ?_
    refine rq_ret rfl ⟨?_, (by show (AV.tup [aG p.types p.body (ptsF p), bv true]).pur = true;exact PurV.pf)⟩
    rw [if_pos hq]; rfl
abbrev cRd (bs : List UInt8) (p : Nat) : List AV := [sl cU bs, iv (p : Int)]
def pickX (bs : List UInt8) (q : Int) : Int := ((bs[(q % (bs.length : Int)).toNat]!).toNat : Int) * 131 + ((bs[((q * 7 + 3) % (bs.length : Int)).toNat]!).toNat : Int) * 1117 + q * 29 + q / (bs.length : Int) * 53
def pickF (bs : List UInt8) (p : Nat) (n : Int) : Int :=
  if n < 1 then 0 else if (bs.length : Int) = 0 then 0 else
  if (p : Int) + 1 - 1 < (bs.length : Int) then ((bs[((p : Int) + 1 - 1).toNat]!).toNat : Int) % n
  else (((pickX bs ((p : Int) + 1 - 1)).toNat ^^^ (pickX bs ((p : Int) + 1 - 1) / 64).toNat : Nat) : Int) % n
theorem pickF_bd (bs : List UInt8) (p : Nat) (n : Int) : 0 ≤ pickF bs p n ∧ (pickF bs p n < n ∨ n < 1 ∧ pickF bs p n = 0) := by
  unfold pickF
  split
  · omega
  · split
    · omega
    · split
      · exact ⟨Int.emod_nonneg _ (by omega), .inl (Int.emod_lt_of_pos _ (by omega))⟩
      · exact ⟨Int.emod_nonneg _ (by omega), .inl (Int.emod_lt_of_pos _ (by omega))⟩
def numF (bs : List UInt8) (p : Nat) (xs : List Int) : Int := xs[(pickF bs p (xs.length : Int)).toNat]!
class NumL (cs : List AV) (xs : outParam (List Int)) : Prop where h : cs = flat cI xs
instance NumL.nil : NumL [] [] := ⟨rfl⟩
instance NumL.cons {n : Int} {cs : List AV} {xs : List Int} [h : NumL cs xs] : NumL (.v (.int .i64 n) :: cs) (n :: xs) := ⟨by rw [h.h]; rfl⟩
theorem rx_pick {bs : List UInt8} {p : Nat} {n : Int} {N : Nat} {Q : Exit → AS → Prop} {all : Array Oper} {rest : List Oper} {tsl : List (Nat × AV)} {hsl : List (Nat × Option (List AV))} {nidl : Nat} {z0 : Lo} {md : Md} {d : Nat} {ty : TypeId} {pos : String} {af : Array Edge} {tys : Array TypeId} {x0 x1 : Operand} {i0 : Nat} (ha0 : ev (lk tsl) x0 = some (.optr i0 0)) (ha1 : ev (lk tsl) x1 = some (iv n)) (hH0 : lkH hsl i0 = some (cRd bs p)) (hmc : MC Tryz.prog 109 [.optr 0 0, iv n] [(0, some (cRd bs p))] 1 (fun _ : Unit => True) (fun _ => iv (pickF bs p n)) (fun _ => [(0, some (cRd bs (p + 1)))])) (hM : Nat.ble (nidl + 0) big = true) (hN : Nat.blt d N = true) {md' : Md} [hmd : MdA md (rOs [x0, x1] ++ [.inr i0]) (List.map Sum.inr (List.map Prod.fst ([(i0, some (cRd bs (p + 1)))] : List (Nat × Option (List AV)))) ++ [.inl d]) md'] (kk : RW Tryz.prog N all Q md' rest ⟨(d, iv (pickF bs p n)) :: tsl, wrH hsl [(i0, some (cRd bs (p + 1)))], nidl + 0, z0⟩) : RW Tryz.prog N all Q md (⟨some d, .call ⟨.value (.func 109), #[x0, x1], tys⟩, ty, pos, af, none⟩ :: rest) ⟨tsl, hsl, nidl, z0⟩ := by
  refine rx_mcallE [i0] 1 [(i0, some (cRd bs (p + 1)))] hmc (avs := [.optr i0 0, iv n]) ?_ rfl ?_ rfl ?_ (by simpa using hM) ?_ ?_ ?_ hN (md' := md') (hmd := hmd) kk
  · show evL (lk tsl) [x0, x1] = _
    simp only [evL, ha0, ha1]
  · exact ⟨⟨_, _, rfl, hH0, by (repeat' (exact RnL.purI inferInstance))⟩, trivial⟩
  · (repeat' (first|exact RnL.purI inferInstance|exact RnV.optr rfl|refine RnL.cons ?_ ?_))
  · (repeat' (exact RnV.purI inferInstance))
  · simp [wsAll]
  · (repeat' (first|exact trivial|(refine And.intro ⟨0, _, rfl, rfl, ?_⟩ ?_)|exact RnL.purI inferInstance))
theorem rx_num0 {bs : List UInt8} {p : Nat} {xs : List Int} {N : Nat} {Q : Exit → AS → Prop} {all : Array Oper} {rest : List Oper} {tsl : List (Nat × AV)} {hsl : List (Nat × Option (List AV))} {nidl : Nat} {z0 : Lo} {md : Md} {d : Nat} {ty : TypeId} {pos : String} {af : Array Edge} {tys : Array TypeId} {x0 x1 : Operand} {i0 : Nat} (ha0 : ev (lk tsl) x0 = some (.optr i0 0)) (ha1 : ev (lk tsl) x1 = some (sl cI xs)) (hH0 : lkH hsl i0 = some (cRd bs p)) (hmc : MC Tryz.prog 88 [.optr 0 0, sl cI xs] [(0, some (cRd bs p))] 1 (fun _ : Unit => True) (fun _ => iv (numF bs p xs)) (fun _ => [(0, some (cRd bs (p + 1)))])) (hM : Nat.ble (nidl + 0) big = true) (hN : Nat.blt d N = true) {md' : Md} [hmd : MdA md (rOs [x0, x1] ++ [.inr i0]) (List.map Sum.inr (List.map Prod.fst ([(i0, some (cRd bs (p + 1)))] : List (Nat × Option (List AV)))) ++ [.inl d]) md'] (kk : RW Tryz.prog N all Q md' rest ⟨(d, iv (numF bs p xs)) :: tsl, wrH hsl [(i0, some (cRd bs (p + 1)))], nidl + 0, z0⟩) : RW Tryz.prog N all Q md (⟨some d, .call ⟨.value (.func 88), #[x0, x1], tys⟩, ty, pos, af, none⟩ :: rest) ⟨tsl, hsl, nidl, z0⟩ := by
  refine rx_mcallE [i0] 1 [(i0, some (cRd bs (p + 1)))] hmc (avs := [.optr i0 0, sl cI xs]) ?_ rfl ?_ rfl ?_ (by simpa using hM) ?_ ?_ ?_ hN (md' := md') (hmd := hmd) kk
  · show evL (lk tsl) [x0, x1] = _
    simp only [evL, ha0, ha1]
  · exact ⟨⟨_, _, rfl, hH0, by (repeat' (exact RnL.purI inferInstance))⟩, trivial⟩
  · (repeat' (first|exact RnL.purI inferInstance|exact RnV.optr rfl|refine RnL.cons ?_ ?_))
  · (repeat' (exact RnV.purI inferInstance))
  · simp [wsAll]
  · (repeat' (first|exact trivial|(refine And.intro ⟨0, _, rfl, rfl, ?_⟩ ?_)|exact RnL.purI inferInstance))
theorem rx_num0O {bs : List UInt8} {p : Nat} {xs : List Int} {N : Nat} {Q : Exit → AS → Prop} {all : Array Oper} {rest : List Oper} {tsl : List (Nat × AV)} {hsl : List (Nat × Option (List AV))} {nidl : Nat} {z0 : Lo} {md : Md} {d : Nat} {ty : TypeId} {pos : String} {af : Array Edge} {tys : Array TypeId} {x0 x1 : Operand} {i0 i1 : Nat} (ha0 : ev (lk tsl) x0 = some (.optr i0 0)) (ha1 : ev (lk tsl) x1 = some (.own i1 0 xs.length 1)) (hH0 : lkH hsl i0 = some (cRd bs p)) (hH1 : lkH hsl i1 = some (flat cI xs)) (hdd : Go.AL.distinct [i0, i1] = true) (hmc : MC Tryz.prog 88 [.optr 0 0, .own 1 0 xs.length 1] [(0, some (cRd bs p)), (1, some (flat cI xs))] 2 (fun _ : Unit => True) (fun _ => iv (numF bs p xs)) (fun _ => [(0, some (cRd bs (p + 1)))])) (hM : Nat.ble (nidl + 0) big = true) (hN : Nat.blt d N = true) {md' : Md} [hmd : MdA md (rOs [x0, x1] ++ [.inr i0, .inr i1]) (List.map Sum.inr (List.map Prod.fst ([(i0, some (cRd bs (p + 1))), (i1, none)] : List (Nat × Option (List AV)))) ++ [.inl d]) md'] (kk : RW Tryz.prog N all Q md' rest ⟨(d, iv (numF bs p xs)) :: tsl, wrH hsl [(i0, some (cRd bs (p + 1))), (i1, none)], nidl + 0, z0⟩) : RW Tryz.prog N all Q md (⟨some d, .call ⟨.value (.func 88), #[x0, x1], tys⟩, ty, pos, af, none⟩ :: rest) ⟨tsl, hsl, nidl, z0⟩ := by
  refine rx_mcallE [i0, i1] 2 [(i0, some (cRd bs (p + 1))), (i1, none)] hmc (avs := [.optr i0 0, .own i1 0 xs.length 1]) ?_ hdd ?_ rfl ?_ (by simpa using hM) ?_ ?_ ?_ hN (md' := md') (hmd := hmd) kk
  · show evL (lk tsl) [x0, x1] = _
    simp only [evL, ha0, ha1]
  · exact ⟨⟨_, _, rfl, hH0, by (repeat' (exact RnL.purI inferInstance))⟩, ⟨⟨_, _, rfl, hH1, by (repeat' (exact RnL.purI inferInstance))⟩, trivial⟩⟩
  · (repeat' (first|exact RnL.purI inferInstance|exact RnV.own rfl|exact RnV.optr rfl|refine RnL.cons ?_ ?_))
  · (repeat' (exact RnV.purI inferInstance))
  · simp [wsAll]
  · (repeat' (first|exact trivial|(refine And.intro ⟨0, _, rfl, rfl, ?_⟩ ?_)|exact RnL.purI inferInstance))
theorem pick_c (bs : List UInt8) (p : Nat) (n : Int) (hb : bs.length ≤ 2000) (hp : p ≤ 1000000) (hn0 : 0 ≤ n) (hn : n ≤ 1000000) : MC Tryz.prog 109 [.optr 0 0, iv n] [(0, some (cRd bs p))] 1 (fun _ : Unit => True) (fun _ => iv (pickF bs p n)) (fun _ => [(0, some (cRd bs (p + 1)))]) := by
  have hdiv : 0 ≤ ((p : Int) + 1 - 1) / (bs.length : Int) ∧ ((p : Int) + 1 - 1) / (bs.length : Int) ≤ p + 1 - 1 := ⟨Int.ediv_nonneg (by omega) (by omega), Int.ediv_le_self _ (by omega)⟩
  (refine mc_of_aw Tryz.func109 rfl (by simp [Tryz.ntmps109]) ?_; rw [Tryz.ntmps109])
  repeat' (first|(apply id_rw;first|(apply rx_move;rfl;rfl)|(apply rx_load1;rfl;rfl;rfl;rfl)|(apply rx_fieldAddr;rfl;rfl;rfl)|(first|(apply rx_guardY;rfl;rfl;rfl;(assumption))|(apply rx_guardNs;rfl;rfl;rfl;(assumption))|(apply rx_guardS;(case hj|hb|hN => rfl);all_goals (intro hg;have hq := hg;(try simp only [bqs] at hq);(try (exfalso;omega)))))|(first|(apply rx_add;rfl;rfl;omega;rfl)|(apply rx_sub;rfl;rfl;omega;rfl)|(apply rx_xor;rfl;rfl;omega;omega;rfl)|(apply rx_mul;rfl;rfl;omega;rfl)|(apply rx_rem;rfl;rfl;omega;rfl)|(apply rx_quo;rfl;rfl;omega;rfl)|(apply rx_bin;rfl;rfl;rfl;rfl))|(apply rx_assign;rfl;rfl)|(first|(apply rx_pickT;rfl;(assumption);rfl;rfl)|(apply rx_pickF;rfl;(assumption);rfl;rfl))|(apply rx_indexF;(case hx|hi => rfl);(case hm => (first|omega|exact ⟨Int.emod_nonneg _ (by omega), Int.emod_lt_of_pos _ (by omega)⟩));(case hml => (rfl));(case hα | hf|hg => infer_instance);(case hN => rfl))|(apply rx_len;rfl;rfl;rfl)|(apply rw_nil;kernel_rfl)|(apply rx_convB;rfl;rfl;(case' kk => intro hbd))|(apply rx_nil;rfl;rfl;rfl)|(apply rx_store;rfl;rfl;rfl;rfl;rfl;(case hl => (simp;done));(exact (rfl:_=[_, _]))))|(apply id_aw;first|apply aw_seq|apply aw_region|(apply aw_draw;kernel_rfl)|(apply aw_condT;rfl;(rfl))|(apply aw_cond;rfl;all_goals intro hc;have hq:=hc;(try simp only [bqs] at hq);try exfalso;omega)|apply aw_skip|apply aw_ret)|with_reducible apply tq_normal|with_reducible apply tq_ret)
  all_goals (refine rq_ret rfl ?_; refine mc_ret () trivial ?_ ⟨.inr (Eq.trans (b := some _) rfl ?_), trivial⟩)
  all_goals first|rfl|skip
  all_goals simp only [oneOf, AV.v.injEq, Value.int.injEq, true_and, pickF]
  · rw [if_neg (by omega), if_pos (by omega)]
  · rw [if_neg (by omega), if_neg (by omega), if_pos (by omega)]
  · rw [if_neg (by omega), if_neg (by omega), if_neg (by omega)]; rfl
  · rw [if_pos (by omega)]
theorem num0_c (bs : List UInt8) (p : Nat) (xs : List Int) (hb : bs.length ≤ 2000) (hp : p ≤ 1000000) (h0 : 0 < xs.length) (hn : xs.length ≤ 1000000) : MC Tryz.prog 88 [.optr 0 0, sl cI xs] [(0, some (cRd bs p))] 1 (fun _ : Unit => True) (fun _ => iv (numF bs p xs)) (fun _ => [(0, some (cRd bs (p + 1)))]) := by
  have hpf := pickF_bd bs p xs.length
  (refine mc_of_aw Tryz.func88 rfl (by simp [Tryz.ntmps88]) ?_; rw [Tryz.ntmps88])
  repeat' (first|(apply id_rw;first|(apply rx_move;rfl;rfl)|(apply rx_load1;rfl;rfl;rfl;rfl)|(apply rx_assign;rfl;rfl)|(apply rx_indexF;(case hx|hi => rfl);(case hm => (omega));(case hml => (rfl));(case hα | hf|hg => infer_instance);(case hN => rfl))|(apply rx_pick;rfl;rfl;(rfl);(apply pick_c <;> (first|assumption|omega));rfl;rfl)|(apply rx_len;rfl;rfl;rfl)|(apply rw_nil;kernel_rfl))|(apply id_aw;first|apply aw_seq|apply aw_region|apply aw_ret)|with_reducible apply tq_normal)
  (refine rq_ret rfl ?_; refine mc_ret () trivial ?_ ⟨.inr (Eq.trans (b := some _) rfl ?_), trivial⟩)
  · rfl
  · rfl
theorem rx_num {Q : Exit → AS → Prop} {all : Array Oper} {rest : List Oper} {N : Nat} {tsl : List (Nat × AV)} {hsl : List (Nat × Option (List AV))} {nidl : Nat} {z0 : Lo} {md : Md} {d : Nat} {ty : TypeId} {pos : String} {af : Array Edge} {tys : Array TypeId}
    {bs : List UInt8} {p m : Nat} {cs : List AV} {xs : List Int} {x0 x1 : Operand} {i0 : Nat} (ha0 : ev (lk tsl) x0 = some (.optr i0 0)) (ha1 : ev (lk tsl) x1 = some (.imm m cs)) (hcs : NumL cs xs) (hH0 : lkH hsl i0 = some (cRd bs p))
    (hm : m = xs.length) (hb : bs.length ≤ 2000) (hp : p ≤ 1000000) (h0 : 0 < xs.length) (hn : xs.length ≤ 1000000) (hM : Nat.ble (nidl + 0) big = true) (hN : Nat.blt d N = true) {md' : Md}
    [hmd : MdA md (rOs [x0, x1] ++ [.inr i0]) [.inr i0, .inl d] md']
    (kk : RW Tryz.prog N all Q md' rest ⟨(d, iv (numF bs p xs)) :: tsl, (i0, some (cRd bs (p + 1))) :: hsl, nidl + 0, z0⟩) : RW Tryz.prog N all Q md (⟨some d, .call ⟨.value (.func 88), #[x0, x1], tys⟩, ty, pos, af, none⟩ :: rest) ⟨tsl, hsl, nidl, z0⟩ := by
  have h := hcs.h
  subst hm h
  exact rx_num0 ha0 ha1 hH0 (num0_c bs p xs hb hp h0 hn) hM hN (hmd := hmd) kk
theorem num0O_c (bs : List UInt8) (p : Nat) (xs : List Int) (hb : bs.length ≤ 2000) (hp : p ≤ 1000000) (h0 : 0 < xs.length) (hn : xs.length ≤ 1000000) : MC Tryz.prog 88 [.optr 0 0, .own 1 0 xs.length 1] [(0, some (cRd bs p)), (1, some (flat cI xs))] 2 (fun _ : Unit => True) (fun _ => iv (numF bs p xs)) (fun _ => [(0, some (cRd bs (p + 1)))]) := by
  have hpf := pickF_bd bs p xs.length
  (refine mc_of_aw Tryz.func88 rfl (by simp [Tryz.ntmps88]) ?_; rw [Tryz.ntmps88])
  repeat' (first|(apply id_rw;first|(apply rx_move;rfl;rfl)|(apply rx_loadF0;(case hx|hH => rfl);(case hf|hg|hα => infer_instance);(case hk => omega);(case hc|hN => rfl))|(apply rx_assign;rfl;rfl)|(apply rx_indexO;rfl;rfl;(omega);rfl)|(apply rx_pick;rfl;rfl;(rfl);(apply pick_c <;> (first|assumption|omega));rfl;rfl)|(apply rx_len;rfl;rfl;rfl)|(apply rw_nil;kernel_rfl))|(apply id_aw;first|apply aw_seq|apply aw_region|apply aw_ret)|with_reducible apply tq_normal)
  (refine rq_ret rfl ?_; refine mc_ret () trivial ?_ ⟨.inr (Eq.trans (b := some _) rfl ?_), trivial⟩)
  · rfl
  · rfl
theorem rx_numO {Q : Exit → AS → Prop} {all : Array Oper} {rest : List Oper} {N : Nat} {tsl : List (Nat × AV)} {hsl : List (Nat × Option (List AV))} {nidl : Nat} {z0 : Lo} {md : Md} {d : Nat} {ty : TypeId} {pos : String} {af : Array Edge} {tys : Array TypeId}
    {bs : List UInt8} {p m : Nat} {cs : List AV} {xs : List Int} {x0 x1 : Operand} {i0 i1 : Nat} (ha0 : ev (lk tsl) x0 = some (.optr i0 0)) (ha1 : ev (lk tsl) x1 = some (.own i1 0 m 1)) (hH0 : lkH hsl i0 = some (cRd bs p)) (hH1 : lkH hsl i1 = some cs) (hcs : NumL cs xs)
    (hdd : Go.AL.distinct [i0, i1] = true) (hm : m = xs.length) (hb : bs.length ≤ 2000) (hp : p ≤ 1000000) (h0 : 0 < xs.length) (hn : xs.length ≤ 1000000) (hM : Nat.ble (nidl + 0) big = true) (hN : Nat.blt d N = true) {md' : Md}
    [hmd : MdA md (rOs [x0, x1] ++ [.inr i0, .inr i1]) [.inr i0, .inr i1, .inl d] md']
    (kk : RW Tryz.prog N all Q md' rest ⟨(d, iv (numF bs p xs)) :: tsl, wrH hsl [(i0, some (cRd bs (p + 1))), (i1, none)], nidl + 0, z0⟩) : RW Tryz.prog N all Q md (⟨some d, .call ⟨.value (.func 88), #[x0, x1], tys⟩, ty, pos, af, none⟩ :: rest) ⟨tsl, hsl, nidl, z0⟩ := by
  have h := hcs.h
  subst hm h
  exact rx_num0O ha0 ha1 hH0 hH1 hdd (num0O_c bs p xs hb hp h0 hn) hM hN (hmd := hmd) kk
theorem open_c (bs : List UInt8) (hb : bs.length ≤ 1048576) : MC Tryz.prog 84 [sl cU bs] [] 0 (fun _ : Unit => True) (fun _ => .optr 0 0) (fun _ => [(0, some (cRd (bs.take 2000) 0))]) := by
  (refine mc_of_aw Tryz.func84 rfl (by simp [Tryz.ntmps84]) ?_; rw [Tryz.ntmps84])
  repeat' (first|(apply id_rw;first|(apply rx_move;rfl;rfl)|(apply rx_bin;rfl;rfl;rfl;rfl)|(apply rx_assign;rfl;rfl)|(apply rx_len;rfl;rfl;rfl)|(apply rw_nil;kernel_rfl)|(apply rx_buildK;rfl;(exact (rfl:_=some [_, _]));(exact (rfl:_=[_, _]));rfl)|(apply rx_sliceF;rfl;infer_instance;rfl;rfl;(omega);rfl)|(apply rx_box;rfl;rfl;rfl;rfl))|(apply id_aw;first|apply aw_seq|apply aw_region|(apply aw_cond;rfl;all_goals intro hc;have hq:=hc;(try simp only [bqs] at hq);try exfalso;omega)|apply aw_skip|apply aw_ret)|with_reducible apply tq_normal)
  · (refine rq_ret rfl ?_; refine mc_ret () trivial ?_ ⟨.inr (Eq.trans (b := some _) rfl ?_), trivial⟩)
    · rfl
    · rfl
  · (refine rq_ret rfl ?_; refine mc_ret () trivial ?_ ⟨.inr (Eq.trans (b := some _) rfl ?_), trivial⟩)
    · rfl
    · rw [List.take_of_length_le (by omega)]; rfl
end Go.Proofs.YtlbbbmeadnelbaaGreat
