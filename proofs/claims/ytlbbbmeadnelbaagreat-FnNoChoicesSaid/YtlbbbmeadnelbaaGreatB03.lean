/-
  A part of the proofs over this program: rules and contracts of its functions (the contracts).
-/
import Derived.Test.YtlbbbmeadnelbaaGreatB02
set_option linter.unusedVariables false
set_option linter.unusedSimpArgs false
set_option maxHeartbeats 8000000
set_option maxRecDepth 4000
attribute [local irreducible] Go.AL.RW Go.AL.AW Go.AL.Stop
namespace Go.Proofs.YtlbbbmeadnelbaaGreat
open Go.AL Go.RowKit
theorem tgIx_first {stk : List Tg} {id : Int} (h : 0 ≤ tgIx stk id) : ∀ k < (tgIx stk id).toNat, stk[k]!.id ≠ id := by
  unfold tgIx at h ⊢
  split
  · rename_i k hk
    obtain ⟨h1, h2, h3⟩ := List.findIdx?_eq_some_iff_getElem.1 hk
    rw [Int.toNat_natCast]
    intro j hj he
    have := h3 j hj
    rw [getB _ _ (by omega)] at he
    simp [he] at this
  · rename_i hk;rw [hk] at h;dsimp only at h;omega
theorem tgIx_eq {stk : List Tg} {id : Int} {i : Nat} (hi : i < stk.length) (h : stk[i]!.id = id) (hn : ∀ k < i, stk[k]!.id ≠ id) : tgIx stk id = (i : Int) := by
  have hb := tgIx_bd stk id
  by_cases hneg : tgIx stk id < 0
  · have := tgIx_none.1 hneg stk[i]! (by rw [getB _ _ hi]; exact List.getElem_mem hi)
    exact absurd h this
  · have ha := tgIx_at (stk := stk) (id := id) (by omega)
    have hf := tgIx_first (stk := stk) (id := id) (by omega)
    rcases Nat.lt_trichotomy (tgIx stk id).toNat i with h1|h1|h1
    · exact absurd ha (hn _ h1)
    · omega
    · exact absurd h (hf _ h1)
theorem l6Tag_c (stk : List Tg) (id : Int) (hl : stk.length ≤ 1000000) : PC Tryz.prog 176 [sl cTg stk, iv id] (fun r => r = iv (tgIx stk id)) := by
  (refine pc_of_aw Tryz.func176 rfl (by simp [Tryz.ntmps176]) ?_; rw [Tryz.ntmps176])
  repeat' (first|(apply id_rw;first|(apply rx_assign;rfl;rfl)|(apply rw_nil;kernel_rfl))|(apply id_aw;first|apply aw_seq|apply aw_region|apply aw_block)|with_reducible apply tq_normal)
  refine aw_loopK (σ := Nat) [0, 1] [(0, _), (1, _)] [] [] (fun i => [(5, iv (i : Int))]) (fun i => []) (fun i => i ≤ stk.length ∧ (∀ k < i, stk[k]!.id ≠ id)) (fun i => stk.length - i) (0) ⟨Nat.zero_le _, fun k hk => absurd hk (by omega)⟩ rfl rfl (by repeat' (first|exact trivial|refine And.intro rfl ?_)) (by repeat' (exact trivial)) ?_
  rintro i ⟨hi, hn⟩
  try dsimp only at hi hn
  repeat' (first|(apply id_rw;first|(apply rx_move;rfl;rfl)|(apply rx_load1;rfl;rfl;rfl;rfl)|(apply rx_fieldAddr;rfl;rfl;rfl)|(first|(apply rx_add;rfl;rfl;omega;rfl)|(apply rx_bin;rfl;rfl;rfl;rfl))|(apply rx_assign;rfl;rfl)|(apply rx_indexFN;(case hx|hi => rfl);(case hm => (omega));(case hml => (rfl));(case hα | hf|hg => infer_instance);(case hN => rfl))|(apply rx_len;rfl;rfl;rfl)|(apply rw_nil;kernel_rfl))|(apply id_aw;first|apply aw_seq|apply aw_region|(apply aw_cond;rfl;all_goals intro hc;have hq:=hc;(try simp only [bqs] at hq);try exfalso;omega)|apply aw_block|apply aw_skip|apply aw_exit|apply aw_ret)|with_reducible apply tq_normal|with_reducible apply tq_ret|with_reducible apply tq_exit|with_reducible apply bq_normal|with_reducible apply bq_ret|with_reducible apply bq_here)
  · refine rq_ret rfl ⟨?_, rfl⟩
    simp only [oneOf]; rw [tgIx_eq (i := i) (by omega) (by assumption) hn]
  · (apply ex3 (i + 1); focus (refine Le.ren [] rfl (by decide) ?_ ?_ <;> repeat' (first | exact trivial | refine And.intro ⟨_, rfl, ?_⟩ ?_ | refine Or.inl ⟨?_, (by first | rfl | exact pur_sl _ _)⟩ | rfl)))
    · refine ⟨by omega, fun k hk => ?_⟩
      rcases Nat.lt_or_ge k i with h|h
      · exact hn k h
      · rw [show k = i by omega]; assumption
    · show stk.length - (i + 1) < stk.length - i;omega
  · refine rq_ret rfl ⟨?_, rfl⟩
    have := tgIx_none (stk := stk) (id := id)
    have hb := tgIx_bd stk id
    have : tgIx stk id < 0 := this.2 (fun t ht => by obtain ⟨k, hk, rfl⟩ := List.getElem_of_mem ht;have := hn k (by omega);rwa [getB _ _ hk] at this)
    simp only [oneOf]; rw [show tgIx stk id = -1 by omega]
theorem OkC_iff (c : Cl) : OkC c ↔ (0 ≤ c.val ∧ c.val ≤ 9) ∧ (1 ≤ c.next ∧ c.next ≤ 1000) ∧ (1 ≤ c.stk.length ∧ c.stk.length ≤ 200) ∧ c.stk[0]!.uq = true ∧ (∀ k < c.stk.length, 0 ≤ c.stk[k]!.id ∧ c.stk[k]!.id < c.next ∧ tgIx c.stk c.stk[k]!.id = (k : Int)) := by
  constructor
  · intro h
    refine ⟨h.v, h.n, h.l, h.u, fun k hk => ?_⟩
    have h1 := h.i c.stk[k]! (by rw [getB _ _ hk]; exact List.getElem_mem hk)
    refine ⟨h1.1, h1.2, tgIx_eq hk rfl (fun j hj he => ?_)⟩
    have hd := List.nodup_iff_pairwise_ne.1 h.d |> List.pairwise_iff_getElem.1
    have := hd j k (by rw [List.length_map]; omega) (by rw [List.length_map]; omega) hj
    simp only [List.getElem_map] at this
    rw [getB _ _ (by omega), getB _ _ hk] at he
    exact this he
  · rintro ⟨h1, h2, h3, h4, h5⟩
    refine ⟨h1, h2, h3, h4, fun t ht => ?_, ?_⟩
    · obtain ⟨k, hk, rfl⟩ := List.getElem_of_mem ht
      have := h5 k hk;rw [getB _ _ hk] at this
      exact ⟨this.1, this.2.1⟩
    · rw [List.nodup_iff_pairwise_ne, List.pairwise_iff_getElem]
      intro i j hi hj hij he
      rw [List.length_map] at hi hj
      simp only [List.getElem_map] at he
      have a := (h5 i hi).2.2
      have b := (h5 j hj).2.2
      rw [getB _ _ hi] at a;rw [getB _ _ hj, ← he, a] at b
      omega
instance (c : Cl) : Decidable (OkC c) := decidable_of_iff _ (OkC_iff c).symm
theorem OkM_iff (m : List Cl) : OkM m ↔ m.length ≤ 200 ∧ ∀ k < m.length, OkC m[k]! := by
  constructor
  · exact fun h => ⟨h.l, fun k hk => h.c _ (by rw [getB _ _ hk]; exact List.getElem_mem hk)⟩
  · exact fun h => ⟨h.1, fun c hc => by obtain ⟨k, hk, rfl⟩ := List.getElem_of_mem hc;have := h.2 k hk;rwa [getB _ _ hk] at this⟩
instance (m : List Cl) : Decidable (OkM m) := decidable_of_iff _ (OkM_iff m).symm
theorem l6Cell_c (c : Cl) : PC Tryz.prog 139 [aCl c] (fun r => r = bv (decide (OkC c))) := by
  (refine pc_of_aw Tryz.func139 rfl (by simp [Tryz.ntmps139]) ?_; rw [Tryz.ntmps139])
  repeat' (first|(apply id_rw;first|(apply rx_move;rfl;rfl)|(apply rx_load1;rfl;rfl;rfl;rfl)|(apply rx_fieldAddr;rfl;rfl;rfl)|(first|(apply rx_guardY;rfl;rfl;rfl;(assumption))|(apply rx_guardNs;rfl;rfl;rfl;(first|rfl|assumption))|(apply rx_guardS;(case hj|hb|hN => rfl);all_goals (intro hg;have hq := hg;(try simp only [bqs] at hq);(try (exfalso;omega)))))|(apply rx_bin;rfl;rfl;rfl;rfl)|(apply rx_assign;rfl;rfl)|(first|(apply rx_pickT;rfl;(first|rfl|assumption);rfl;rfl)|(apply rx_pickF;rfl;(assumption);rfl;rfl))|(apply rx_indexF;(case hx|hi => rfl);(case hm => (omega));(case hml => (rfl));(case hα | hf|hg => infer_instance);(case hN => rfl))|(apply rx_len;rfl;rfl;rfl)|(apply rw_nil;kernel_rfl)|(apply rx_not;rfl;rfl)|(apply rx_box;rfl;rfl;rfl;rfl))|(apply id_aw;first|apply aw_seq|apply aw_region|(apply aw_condT;rfl;(rfl))|(apply aw_cond;rfl;all_goals intro hc;have hq:=hc;(try simp only [bqs] at hq);try exfalso;omega)|apply aw_block|apply aw_skip|apply aw_ret)|with_reducible apply tq_normal|with_reducible apply tq_ret)
  all_goals try (refine rq_ret rfl ⟨?_, rfl⟩; simp only [oneOf]; rw [show decide (OkC c) = false from decide_eq_false (fun h => by
    obtain ⟨h1, h2, h3, h4, h5⟩ := (OkC_iff c).1 h
    first|omega|exact absurd (by assumption : c.stk[Int.toNat 0]!.uq = false) (by rw [show Int.toNat 0 = 0 from rfl, h4]; decide))]; done)
  have hu : c.stk[0]!.uq = true := by assumption
  refine aw_loopK (σ := Nat) [1] [(1, _)] [0] [(0, some _)] (fun i => [(3, iv (i : Int))]) (fun i => []) (fun i => i ≤ c.stk.length ∧ (∀ k < i, 0 ≤ c.stk[k]!.id ∧ c.stk[k]!.id < c.next ∧ tgIx c.stk c.stk[k]!.id = (k : Int))) (fun i => c.stk.length - i) (0) ⟨Nat.zero_le _, fun k hk => absurd hk (by omega)⟩ rfl rfl (by repeat' (first|exact trivial|refine And.intro rfl ?_)) (by repeat' (exact trivial)) ?_
  rintro i ⟨hi, hn⟩
  try dsimp only at hi hn
  repeat' (first|(apply id_rw;first|((with_reducible apply rx_callE (k := 176));(case ha => rfl);(case h => exact l6Tag_c c.stk c.stk[i]!.id (by omega));(case hp => (exact Pur.pf));(case hN => rfl))|(apply rx_move;rfl;rfl)|(apply rx_load1;rfl;rfl;rfl;rfl)|(apply rx_fieldAddr;rfl;rfl;rfl)|(first|(apply rx_guardY;rfl;rfl;rfl;(assumption))|(apply rx_guardNs;rfl;rfl;rfl;(first|rfl|assumption))|(apply rx_guardS;(case hj|hb|hN => rfl);all_goals (intro hg;have hq := hg;(try simp only [bqs] at hq);(try (exfalso;omega)))))|(first|(apply rx_add;rfl;rfl;omega;rfl)|(apply rx_bin;rfl;rfl;rfl;rfl))|(apply rx_assign;rfl;rfl)|(first|(apply rx_pickT;rfl;(first|rfl|assumption);rfl;rfl)|(apply rx_pickF;rfl;(assumption);rfl;rfl))|(apply rx_indexFN;(case hx|hi => rfl);(case hm => (omega));(case hml => (rfl));(case hα | hf|hg => infer_instance);(case hN => rfl))|(apply rx_len;rfl;rfl;rfl)|(apply rw_nil;kernel_rfl))|(apply id_aw;first|apply aw_seq|apply aw_region|(apply aw_draw;kernel_rfl)|(apply aw_condT;rfl;(rfl))|(apply aw_cond;rfl;all_goals intro hc;have hq:=hc;(try simp only [bqs] at hq);try exfalso;omega)|apply aw_block|apply aw_skip|apply aw_exit|apply aw_ret)|with_reducible apply tq_normal|with_reducible apply tq_ret|with_reducible apply tq_exit|with_reducible apply bq_normal|with_reducible apply bq_ret|with_reducible apply bq_here)
  all_goals try (refine rq_ret rfl ⟨?_, rfl⟩; simp only [oneOf]; rw [show decide (OkC c) = false from decide_eq_false (fun h => by
    obtain ⟨h1, h2, h3, h4, h5⟩ := (OkC_iff c).1 h
    exact absurd (h5 i (by omega)) (by omega))]; done)
  · (apply ex3 (i + 1); focus (refine Le.ren [(0, 0)] rfl (by decide) ?_ ?_ <;> repeat' (first | exact trivial | refine And.intro ⟨_, rfl, ?_⟩ ?_ | refine And.intro ⟨_, _, rfl, rfl, ?_⟩ ?_ | exact Or.inr rfl | refine Or.inl ⟨?_, (by first | rfl | exact Pur.pf)⟩ | rfl)))
    · refine ⟨by omega, fun k hk => ?_⟩
      rcases Nat.lt_or_ge k i with h|h
      · exact hn k h
      · rw [show k = i by omega]; exact ⟨by assumption, by assumption, by assumption⟩
    · show c.stk.length - (i + 1) < c.stk.length - i;omega
  · refine rq_ret rfl ⟨?_, rfl⟩
    simp only [oneOf]
    rw [show decide (OkC c) = true from decide_eq_true ((OkC_iff c).2 ⟨by omega, by omega, by omega, hu, fun k hk => hn k (by omega)⟩)]
theorem CellsValidS_c (m : List Cl) (hl : m.length ≤ 1000000) : PC Tryz.prog 99 [sl cCl m] (fun r => r = bv (decide (OkM m))) := by
  (refine pc_of_aw Tryz.func99 rfl (by simp [Tryz.ntmps99]) ?_; rw [Tryz.ntmps99])
  repeat' (first|(apply id_rw;first|(apply rx_assign;rfl;rfl)|(apply rw_nil;kernel_rfl))|(apply id_aw;first|apply aw_seq|apply aw_region|apply aw_block)|with_reducible apply tq_normal)
  refine aw_loopK (σ := Nat) [0] [(0, _)] [] [] (fun i => [(3, iv (i : Int))]) (fun i => []) (fun i => i ≤ m.length ∧ i ≤ 201 ∧ (∀ k < i, OkC m[k]!)) (fun i => m.length - i) (0) ⟨Nat.zero_le _, by omega, fun k hk => absurd hk (by omega)⟩ rfl rfl (by repeat' (first|exact trivial|refine And.intro rfl ?_)) (by repeat' (exact trivial)) ?_
  rintro i ⟨hi, hi2, hn⟩
  try dsimp only at hi hi2 hn
  repeat' (first|(apply id_rw;first|((with_reducible apply rx_callE (k := 139));(case ha => rfl);(case h => exact l6Cell_c m[i]!);(case hp => (exact Pur.pf));(case hN => rfl))|(apply rx_move;rfl;rfl)|(apply rx_loadA;rfl;rfl;(exact (rfl:_=[_, _, _, _]));rfl;rfl;rfl)|(first|(apply rx_guardY;rfl;rfl;rfl;(assumption))|(apply rx_guardNs;rfl;rfl;rfl;(assumption))|(apply rx_guardS;(case hj|hb|hN => rfl);all_goals (intro hg;have hq := hg;(try simp only [bqs] at hq);(try (exfalso;omega)))))|(first|(apply rx_add;rfl;rfl;omega;rfl)|(apply rx_bin;rfl;rfl;rfl;rfl))|(apply rx_assign;rfl;rfl)|(first|(apply rx_pickT;rfl;(assumption);rfl;rfl)|(apply rx_pickF;rfl;(assumption);rfl;rfl))|(apply rx_indexFN;(case hx|hi => rfl);(case hm => (omega));(case hml => (rfl));(case hα | hf|hg => infer_instance);(case hN => rfl))|(apply rx_len;rfl;rfl;rfl)|(apply rw_nil;kernel_rfl)|(apply rx_not;rfl;rfl))|(apply id_aw;first|apply aw_seq|apply aw_region|(apply aw_condF;rfl;(rfl))|(apply aw_cond;rfl;all_goals intro hc;have hq:=hc;(try simp only [bqs] at hq);try exfalso;omega)|apply aw_block|apply aw_skip|apply aw_exit|apply aw_ret)|with_reducible apply tq_normal|with_reducible apply tq_ret|with_reducible apply tq_exit|with_reducible apply bq_normal|with_reducible apply bq_ret|with_reducible apply bq_here)
  · refine rq_ret rfl ⟨?_, rfl⟩
    simp only [oneOf]; rw [show decide (OkM m) = false from decide_eq_false (fun h => by
      have h1 := ((OkM_iff m).1 h).2 i (by omega)
      have h2 : ¬ OkC m[i]! := by assumption
      exact h2 h1)]
  · (apply ex3 (i + 1); focus (refine Le.ren [] rfl (by decide) ?_ ?_ <;> repeat' (first | exact trivial | refine And.intro ⟨_, rfl, ?_⟩ ?_ | refine Or.inl ⟨?_, (by first | rfl | exact pur_sl _ _)⟩ | rfl)))
    · refine ⟨by omega, by omega, fun k hk => ?_⟩
      rcases Nat.lt_or_ge k i with h|h
      · exact hn k h
      · rw [show k = i by omega]; assumption
    · show m.length - (i + 1) < m.length - i;omega
  · refine rq_ret rfl ⟨?_, rfl⟩
    simp only [oneOf]
    rw [show decide ((m.length : Int) ≤ 200) = false from decide_eq_false (by omega), show decide (OkM m) = false from decide_eq_false (fun h => by have := h.l;omega)]
  · refine rq_ret rfl ⟨?_, rfl⟩
    simp only [oneOf]
    rw [show decide ((m.length : Int) ≤ 200) = decide (OkM m) from decide_eq_decide.2 ⟨fun h => (OkM_iff m).2 ⟨by omega, fun k hk => hn k (by omega)⟩, fun h => by have := h.l;omega⟩]
theorem l7Code_c (k : Int) : PC Tryz.prog 128 [iv k] (fun r => r = iv (if k = 1 then 3 else if k = 0 then 0 else 4)) := by
  (refine pc_of_aw Tryz.func128 rfl (by simp [Tryz.ntmps128]) ?_; rw [Tryz.ntmps128])
  repeat' (first|(apply id_rw;first|(apply rx_move;rfl;rfl)|(apply rx_bin;rfl;rfl;rfl;rfl)|(apply rx_assign;rfl;rfl)|(apply rw_nil;kernel_rfl))|(apply id_aw;first|apply aw_seq|apply aw_region|(apply aw_cond;rfl;all_goals intro hc;have hq:=hc;(try simp only [bqs] at hq);try exfalso;omega)|apply aw_block|apply aw_skip|apply aw_ret)|with_reducible apply tq_normal|with_reducible apply tq_ret|with_reducible apply bq_normal|with_reducible apply bq_ret|((with_reducible apply rq_ret);case hr => rfl))
  all_goals (refine ⟨?_, rfl⟩; simp only [oneOf, AV.v.injEq, Value.bool.injEq, Value.int.injEq, true_and])
  all_goals grind
theorem endOf_c (k : Int) : PC Tryz.prog 117 [iv k] (fun r => r = iv (endK k)) := by
  (refine pc_of_aw Tryz.func117 rfl (by simp [Tryz.ntmps117]) ?_; rw [Tryz.ntmps117])
  repeat' (first|(apply id_rw;first|(apply rx_move;rfl;rfl)|(apply rx_bin;rfl;rfl;rfl;rfl)|(apply rx_assign;rfl;rfl)|(apply rw_nil;kernel_rfl))|(apply id_aw;first|apply aw_seq|apply aw_region|(apply aw_cond;rfl;all_goals intro hc;have hq:=hc;(try simp only [bqs] at hq);try exfalso;omega)|apply aw_skip|apply aw_ret)|with_reducible apply tq_normal|with_reducible apply tq_ret|((with_reducible apply rq_ret);case hr => rfl))
  all_goals (refine ⟨?_, rfl⟩; simp only [oneOf, AV.v.injEq, Value.bool.injEq, Value.int.injEq, true_and])
  all_goals grind [endK]
theorem app_tg {xs : List Tg} {m : Nat} {a : Int} {b : Bool} (hm : m = xs.length) : ((flat cTg xs).drop 0).take (m * 2) ++ [iv a, bv b] = flat cTg (xs ++ [⟨a, b⟩]) := app_flat hm rfl
theorem app_cl {xs : List Cl} {m : Nat} {a c : Int} {b : Bool} {s : List Tg} (hm : m = xs.length) : ((flat cCl xs).drop 0).take (m * 4) ++ [iv a, bv b, iv c, sl cTg s] = flat cCl (xs ++ [⟨a, b, c, s⟩]) := app_flat hm rfl
theorem take_succ_d {α : Type} [Inhabited α] (l : List α) {k i : Nat} (h : k ≤ i) (hi : i < l.length) : (l.drop k).take (i + 1 - k) = (l.drop k).take (i - k) ++ [l[i]!] := by
  have hl : i - k < (l.drop k).length := by rw [List.length_drop]; omega
  have h1 := take_succB (l.drop k) (i - k) hl
  rw [show i + 1 - k = i - k + 1 by omega, h1]
  congr 2
  rw [getB (l.drop k) (i - k) hl, List.getElem_drop, getB l i hi]
  congr 1;omega
theorem filter1_t {α} {p : α → Bool} {a : α} (h : p a = true) : [a].filter p = [a] := by simp [h]
theorem filter1_f {α} {p : α → Bool} {a : α} (h : p a = false) : [a].filter p = [] := by simp [h]
theorem l6Read_c (stk : List Tg) (k : Nat) (hk : k < stk.length) (hl : stk.length ≤ 1000000) : PC Tryz.prog 172 [sl cTg stk, iv (k : Int)] (fun r => r = sl cTg (tchS stk k false)) := by
  have e1 : List.take (((k : Int) + 1).toNat - 0) (List.drop 0 stk) = stk.take (k + 1) := by rw [List.drop_zero]; congr 1
  have e2 : (stk.take (k + 1)).length = k + 1 := by rw [List.length_take]; omega
  (refine pc_of_aw Tryz.func172 rfl (by simp [Tryz.ntmps172]) ?_; rw [Tryz.ntmps172])
  repeat' (first|(apply id_rw;first|(with_reducible apply rw_stop (d := 12))|(apply rx_move;rfl;rfl)|(apply rx_add;rfl;rfl;omega;rfl)|(apply rx_assign;rfl;rfl)|(apply rw_nil;kernel_rfl)|(apply rx_sliceF;rfl;infer_instance;rfl;rfl;(omega);rfl)|(apply rx_buildSlice;rfl;rfl;rfl;(rfl);rfl;rfl))|(apply id_aw;first|apply aw_seq|apply aw_region)|with_reducible apply tq_normal)
  refine rw_go ?_
  rw [e1]
  repeat' (first|(apply id_rw;first|(apply rx_move;rfl;rfl)|(apply rx_add;rfl;rfl;omega;rfl)|(apply rx_assign;rfl;rfl)|(apply rx_append;rfl;rfl;rfl;rfl;rfl;(case hl => (simp [flat_length]; done));(exact sC_imm (by (rfl)));omega;omega;(exact app_nilF (by (omega)));rfl;rfl)|(apply rw_nil;kernel_rfl))|(apply id_aw;first|apply aw_seq|apply aw_region|apply aw_block)|with_reducible apply tq_normal)
  refine aw_loopK (σ := Nat × List Tg × Nat) [0] [(0, _)] [] [] (fun s => [(6, iv (s.1 : Int)), (5, .own 1 0 s.2.2 2)]) (fun s => [(1, some (flat cTg s.2.1))]) (fun s => k + 1 ≤ s.1 ∧ s.1 ≤ stk.length ∧ s.2.1 = stk.take (k + 1) ++ ((stk.drop (k + 1)).take (s.1 - (k + 1))).filter (fun t => !t.uq) ∧ s.2.2 = s.2.1.length ∧ s.2.2 ≤ s.1) (fun s => stk.length - s.1) (k + 1, stk.take (k + 1), 0 + (stk.take (k + 1)).length) ⟨Nat.le_refl _, by dsimp only;omega, by simp, by dsimp only;omega, by dsimp only;omega⟩ rfl rfl (by repeat' (first|exact trivial|refine And.intro rfl ?_)) (by repeat' (first|exact trivial|refine And.intro (.inr rfl) ?_)) ?_
  rintro ⟨i, xs, n⟩ ⟨hki, hi, hxs, hn, hni⟩
  dsimp only at hki hi hxs hn hni ⊢
  repeat' (first|(apply id_rw;first|(apply rx_move;rfl;rfl)|(first|(apply rx_load1;rfl;rfl;rfl;rfl)|(apply rx_loadA;rfl;rfl;(exact (rfl:_=[_, _]));rfl;rfl;rfl))|(apply rx_fieldAddr;rfl;rfl;rfl)|(first|(apply rx_add;rfl;rfl;omega;rfl)|(apply rx_bin;rfl;rfl;rfl;rfl))|(apply rx_assign;rfl;rfl)|(apply rx_indexFN;(case hx|hi => rfl);(case hm => (omega));(case hml => (rfl));(case hα | hf|hg => infer_instance);(case hN => rfl))|(first|(apply rx_len;rfl;rfl;rfl)|(apply rx_append;rfl;rfl;rfl;rfl;rfl;(rw [flat_length]; omega);(rfl);omega;omega;(exact app_tg (by (assumption)));rfl;rfl))|(apply rw_nil;kernel_rfl)|(apply rx_not;rfl;rfl)|((apply rx_buildSliceI (t := _));(case hze|hsm|hl => rfl);(case hfl => (exact (rfl:_=some [_, _])));(case hM|hN => rfl)))|(apply id_aw;first|apply aw_seq|apply aw_region|(apply aw_cond;rfl;all_goals intro hc;have hq:=hc;(try simp only [bqs] at hq);try exfalso;omega)|apply aw_block|apply aw_skip|apply aw_exit|apply aw_ret)|with_reducible apply tq_normal|with_reducible apply tq_exit|with_reducible apply bq_normal|with_reducible apply bq_here)
  · (apply ex3 (i + 1, _, _); focus (refine Le.ren [(1, 3)] rfl (by decide) ?_ ?_ <;> repeat' (first | exact trivial | refine And.intro ⟨_, rfl, ?_⟩ ?_ | refine And.intro ⟨_, _, rfl, rfl, ?_⟩ ?_ | exact Or.inr rfl | refine Or.inl ⟨?_, (by first | rfl | exact pur_sl _ _)⟩ | rfl)))
    · refine ⟨by dsimp only; omega, by dsimp only; omega, ?_, by dsimp only; rw [List.length_append, hn]; rfl, by dsimp only; omega⟩
      dsimp only
      rw [hxs, take_succ_d stk hki (by omega), List.filter_append, List.append_assoc]
      congr 2
      have hu : stk[i]!.uq = false := by assumption
      rw [filter1_t (by rw [hu]; rfl)]
    · dsimp only;omega
  · (apply ex3 (i + 1, xs, n); focus (refine Le.ren [(1, 1)] rfl (by decide) ?_ ?_ <;> repeat' (first | exact trivial | refine And.intro ⟨_, rfl, ?_⟩ ?_ | refine And.intro ⟨_, _, rfl, rfl, ?_⟩ ?_ | exact Or.inr rfl | refine Or.inl ⟨?_, (by first | rfl | exact pur_sl _ _)⟩ | rfl)))
    · refine ⟨by dsimp only; omega, by dsimp only; omega, ?_, hn, by dsimp only; omega⟩
      dsimp only
      have hu : stk[i]!.uq = true := by assumption
      rw [hxs, take_succ_d stk hki (by omega), List.filter_append, filter1_f (by rw [hu]; rfl), List.append_nil]
    · dsimp only;omega
  · (refine rq_le (Le.frzD (d := 4) (i := 1) rfl rfl) ?_; refine rq_ret rfl ?_)
    refine ⟨?_, (by (exact pur_sl _ _))⟩
    have hie : i = stk.length := by omega
    simp only [oneOf, sl]
    have hd : (stk.drop (k + 1)).take (stk.length - (k + 1)) = stk.drop (k + 1) := List.take_of_length_le (by rw [List.length_drop]; exact Nat.le_refl _)
    rw [hn, hxs, hie, hd]
    rfl
theorem l6Copy_c (m : List Cl) (hm : OkM m) : PC Tryz.prog 64 [sl cCl m] (fun r => r = sl cCl m) := by
  have hml := hm.l
  (refine pc_of_aw Tryz.func64 rfl (by simp [Tryz.ntmps64]) ?_; rw [Tryz.ntmps64])
  repeat' (first|(apply id_rw;first|(apply rx_assign;rfl;rfl)|(apply rw_nil;kernel_rfl)|(apply rx_buildSlice;rfl;rfl;rfl;(rfl);rfl;rfl))|(apply id_aw;first|apply aw_seq|apply aw_region|apply aw_block)|with_reducible apply tq_normal)
  refine aw_loopK (σ := Nat × List Cl) [0] [(0, _)] [] [] (fun k => [(4, iv (k.1 : Int)), (3, .own 0 0 k.1 4)]) (fun k => [(0, some (flat cCl k.2))]) (fun k => k.1 ≤ m.length ∧ k.2 = m.take k.1) (fun k => m.length - k.1) (0, []) ⟨by omega, rfl⟩ rfl rfl (by repeat' (first|exact trivial|refine And.intro rfl ?_)) (by repeat' (first|exact trivial|refine And.intro (.inr rfl) ?_)) ?_
  rintro ⟨i, xs⟩ ⟨hi, hxs⟩
  dsimp only at hi hxs ⊢
  have hln : xs.length = i := by rw [hxs, List.length_take]; exact Nat.min_eq_left hi
  have hst : i < m.length → m[i]!.stk.length ≤ 200 := fun h => (((OkM_iff m).1 hm).2 i h).l.2
  repeat' (first|(apply id_rw;first|(with_reducible apply rw_stop (d := 21))|(apply rx_move;rfl;rfl)|(first|(apply rx_load1;rfl;rfl;rfl;rfl)|(apply rx_loadA;rfl;rfl;(exact (rfl:_=[_, _, _, _]));rfl;rfl;rfl))|(apply rx_fieldAddr;rfl;rfl;rfl)|(apply rx_bin;rfl;rfl;rfl;rfl)|(apply rx_assign;rfl;rfl)|(apply rx_indexFN;(case hx|hi => rfl);(case hm => (omega));(case hml => (rfl));(case hα | hf|hg => infer_instance);(case hN => rfl))|(first|(apply rx_len;rfl;rfl;rfl)|(apply rx_append;rfl;rfl;rfl;rfl;rfl;(case hl => (simp [flat_length]; done));(exact sC_imm (by (rfl)));omega;omega;(exact app_nilF (by (omega)));rfl;rfl))|(apply rw_nil;kernel_rfl)|(apply rx_alloc;rfl;rfl)|(apply rx_buildSlice;rfl;rfl;rfl;(rfl);rfl;rfl)|(apply rx_store;rfl;rfl;rfl;rfl;rfl;(case hl => (simp;done));(exact (rfl:_=[_, _, _, _]))))|(apply id_aw;first|apply aw_seq|apply aw_region|(apply aw_cond;rfl;all_goals intro hc;have hq:=hc;(try simp only [bqs] at hq);try exfalso;omega)|apply aw_block|apply aw_skip|apply aw_exit|apply aw_ret)|with_reducible apply tq_normal|with_reducible apply tq_exit|with_reducible apply bq_here)
  · refine rw_go (rw_le ?_ (Le.frzD (d := 20) (i := 3) rfl rfl))
    rw [Nat.zero_add m[i]!.stk.length]
    repeat' (first|(apply id_rw;first|(apply rx_move;rfl;rfl)|(apply rx_loadA;rfl;rfl;(exact (rfl:_=[_, _, _, _]));rfl;rfl;rfl)|(apply rx_fieldAddr;rfl;rfl;rfl)|(apply rx_add;rfl;rfl;omega;rfl)|(apply rx_assign;rfl;rfl)|(apply rx_append;rfl;rfl;rfl;rfl;rfl;(rw [flat_length]; omega);(rfl);omega;omega;(exact app_cl (by (omega)));rfl;rfl)|(apply rw_nil;kernel_rfl)|((apply rx_buildSliceI (t := _));(case hze|hsm|hl => rfl);(case hfl => (exact (rfl:_=some [_, _, _, _])));(case hM|hN => rfl))|(apply rx_store;rfl;rfl;rfl;rfl;rfl;(case hl => (simp;done));(exact (rfl:_=[_, _, _, _]))))|(apply id_aw;(apply aw_region))|with_reducible apply tq_normal|with_reducible apply bq_normal)
    (apply ex3 (i + 1, _);focus (refine Le.ren [(0, 5)] rfl (by decide) ?_ ?_ <;> repeat' (first|exact trivial|refine And.intro ⟨_, rfl, ?_⟩ ?_|refine And.intro ⟨_, _, rfl, rfl, ?_⟩ ?_|exact Or.inr rfl|refine Or.inl ⟨?_, (by first|rfl|exact pur_sl _ _)⟩|rfl)))
    · exact ⟨by dsimp only;omega, by dsimp only;rw [hxs, take_succB m i (by omega)]⟩
    · dsimp only;omega
  · (refine rq_le (Le.frzD (d := 2) (i := 0) rfl rfl) ?_; refine rq_ret rfl ?_)
    refine ⟨?_, (by (exact pur_sl _ _))⟩
    have hie : i = m.length := by omega
    simp only [oneOf, sl]
    rw [hxs, hie, List.take_length]
theorem tchK_4 {m : List Cl} {x : Pt} {wr : Bool} (h : x.cell < 0 ∨ (m.length : Int) ≤ x.cell) : tchK m x wr = 4 := by
  unfold tchK;rw [if_pos (by omega)]
theorem tchK_1 {m : List Cl} {x : Pt} {wr : Bool} (h : 0 ≤ x.cell) (h2 : x.cell < m.length) (h3 : m[x.cell.toNat]!.alive = false) : tchK m x wr = 1 := by
  unfold tchK;rw [if_neg (by omega), if_pos h3]
theorem tchK_2 {m : List Cl} {x : Pt} {wr : Bool} (h : 0 ≤ x.cell) (h2 : x.cell < m.length) (h3 : m[x.cell.toNat]!.alive = true) (h4 : tgIx m[x.cell.toNat]!.stk x.tag < 0) : tchK m x wr = 2 := by
  unfold tchK;rw [if_neg (by omega), if_neg (by rw [h3]; decide), if_pos h4]
theorem tchK_0f {m : List Cl} {x : Pt} (h : 0 ≤ x.cell) (h2 : x.cell < m.length) (h3 : m[x.cell.toNat]!.alive = true) (h4 : 0 ≤ tgIx m[x.cell.toNat]!.stk x.tag) : tchK m x false = 0 := by
  unfold tchK;rw [if_neg (by omega), if_neg (by rw [h3]; decide), if_neg (by omega), if_neg (by intro q;exact absurd q.1 (by decide))]
theorem tchK_wr {m : List Cl} {x : Pt} : tchK m x true = if tchK m x false = 0 then (if m[x.cell.toNat]!.stk[(tgIx m[x.cell.toNat]!.stk x.tag).toNat]!.uq = false then 3 else 0) else tchK m x false := by
  unfold tchK
  split
  · rw [if_neg (by decide)]
  · split
    · rw [if_neg (by decide)]
    · split
      · rw [if_neg (by decide)]
      · rw [if_neg (c := false = true ∧ _) (by intro q; exact absurd q.1 (by decide)), if_pos rfl]
        simp only [true_and]
theorem tchK_in {m : List Cl} {x : Pt} {wr : Bool} (h : tchK m x wr = 0) : 0 ≤ x.cell ∧ x.cell < m.length ∧ m[x.cell.toNat]!.alive = true ∧ 0 ≤ tgIx m[x.cell.toNat]!.stk x.tag ∧ (wr = true → m[x.cell.toNat]!.stk[(tgIx m[x.cell.toNat]!.stk x.tag).toNat]!.uq = true) := by
  unfold tchK at h
  split at h
  · omega
  · split at h
    · omega
    · split at h
      · omega
      · split at h
        · omega
        · rename_i a b c d
          refine ⟨by omega, by omega, by simpa using b, by omega, fun hw => ?_⟩
          by_cases q : m[x.cell.toNat]!.stk[(tgIx m[x.cell.toNat]!.stk x.tag).toNat]!.uq = false
          · exact absurd ⟨hw, q⟩ d
          · simpa using q
theorem rx_l6CopyM {m : List Cl} {N : Nat} {Q : Exit → AS → Prop} {all : Array Oper} {rest : List Oper} {tsl : List (Nat × AV)} {hsl : List (Nat × Option (List AV))} {nidl : Nat} {z0 : Lo} {md : Md} {d : Nat} {ty : TypeId} {pos : String} {af : Array Edge} {tys : Array TypeId} {x0 : Operand} (ha0 : ev (lk tsl) x0 = some (sl cCl m)) (hmc : MC Tryz.prog 64 [sl cCl m] [] 0 (fun _ : Unit => True) (fun _ => .own 0 0 m.length 4) (fun _ => [(0, some (flat cCl m))])) (hM : Nat.ble (nidl + 1) big = true) (hN : Nat.blt d N = true) {md' : Md} [hmd : MdA md (rOs [x0] ++ []) (List.map Sum.inr (List.map Prod.fst ([(nidl, some (flat cCl m))] : List (Nat × Option (List AV)))) ++ [.inl d]) md'] (kk : RW Tryz.prog N all Q md' rest ⟨(d, .own nidl 0 m.length 4) :: tsl, wrH hsl [(nidl, some (flat cCl m))], nidl + 1, z0⟩) : RW Tryz.prog N all Q md (⟨some d, .call ⟨.value (.func 64), #[x0], tys⟩, ty, pos, af, none⟩ :: rest) ⟨tsl, hsl, nidl, z0⟩ := by
  refine rx_mcallE [] 1 [(nidl, some (flat cCl m))] hmc (avs := [sl cCl m]) ?_ rfl ?_ rfl ?_ (by simpa using hM) ?_ ?_ ?_ hN (md' := md') (hmd := hmd) kk
  · show evL (lk tsl) [x0] = _
    simp only [evL, ha0]
  · exact trivial
  · (repeat' (exact RnL.purI inferInstance))
  · (repeat' (exact RnV.own rfl))
  · simp [wsAll]
  · (repeat' (first|exact trivial|(refine And.intro ⟨0, _, rfl, rfl, ?_⟩ ?_)|exact RnL.purI inferInstance))
theorem l6CopyM_c (m : List Cl) (hm : OkM m) : MC Tryz.prog 64 [sl cCl m] [] 0 (fun _ : Unit => True) (fun _ => .own 0 0 m.length 4) (fun _ => [(0, some (flat cCl m))]) := by
  have hml := hm.l
  (refine mc_of_aw Tryz.func64 rfl (by simp [Tryz.ntmps64]) ?_; rw [Tryz.ntmps64])
  repeat' (first|(apply id_rw;first|(apply rx_assign;rfl;rfl)|(apply rw_nil;kernel_rfl)|(apply rx_buildSlice;rfl;rfl;rfl;(rfl);rfl;rfl))|(apply id_aw;first|apply aw_seq|apply aw_region|apply aw_block)|with_reducible apply tq_normal)
  refine aw_loopK (σ := Nat × List Cl) [0] [(0, _)] [] [] (fun k => [(4, iv (k.1 : Int)), (3, .own 0 0 k.1 4)]) (fun k => [(0, some (flat cCl k.2))]) (fun k => k.1 ≤ m.length ∧ k.2 = m.take k.1) (fun k => m.length - k.1) (0, []) ⟨by omega, rfl⟩ rfl rfl (by repeat' (first|exact trivial|refine And.intro rfl ?_)) (by repeat' (first|exact trivial|refine And.intro (.inr rfl) ?_)) ?_
  rintro ⟨i, xs⟩ ⟨hi, hxs⟩
  dsimp only at hi hxs ⊢
  have hln : xs.length = i := by rw [hxs, List.length_take]; exact Nat.min_eq_left hi
  have hst : i < m.length → m[i]!.stk.length ≤ 200 := fun h => (((OkM_iff m).1 hm).2 i h).l.2
  repeat' (first|(apply id_rw;first|(with_reducible apply rw_stop (d := 21))|(apply rx_move;rfl;rfl)|(first|(apply rx_load1;rfl;rfl;rfl;rfl)|(apply rx_loadA;rfl;rfl;(exact (rfl:_=[_, _, _, _]));rfl;rfl;rfl))|(apply rx_fieldAddr;rfl;rfl;rfl)|(apply rx_bin;rfl;rfl;rfl;rfl)|(apply rx_assign;rfl;rfl)|(apply rx_indexFN;(case hx|hi => rfl);(case hm => (omega));(case hml => (rfl));(case hα | hf|hg => infer_instance);(case hN => rfl))|(first|(apply rx_len;rfl;rfl;rfl)|(apply rx_append;rfl;rfl;rfl;rfl;rfl;(case hl => (simp [flat_length]; done));(exact sC_imm (by (rfl)));omega;omega;(exact app_nilF (by (omega)));rfl;rfl))|(apply rw_nil;kernel_rfl)|(apply rx_alloc;rfl;rfl)|(apply rx_buildSlice;rfl;rfl;rfl;(rfl);rfl;rfl)|(apply rx_store;rfl;rfl;rfl;rfl;rfl;(case hl => (simp;done));(exact (rfl:_=[_, _, _, _]))))|(apply id_aw;first|apply aw_seq|apply aw_region|(apply aw_cond;rfl;all_goals intro hc;have hq:=hc;(try simp only [bqs] at hq);try exfalso;omega)|apply aw_block|apply aw_skip|apply aw_exit|apply aw_ret)|with_reducible apply tq_normal|with_reducible apply tq_exit|with_reducible apply bq_here)
  · refine rw_go (rw_le ?_ (Le.frzD (d := 20) (i := 3) rfl rfl))
    rw [Nat.zero_add m[i]!.stk.length]
    repeat' (first|(apply id_rw;first|(apply rx_move;rfl;rfl)|(apply rx_loadA;rfl;rfl;(exact (rfl:_=[_, _, _, _]));rfl;rfl;rfl)|(apply rx_fieldAddr;rfl;rfl;rfl)|(apply rx_add;rfl;rfl;omega;rfl)|(apply rx_assign;rfl;rfl)|(apply rx_append;rfl;rfl;rfl;rfl;rfl;(rw [flat_length]; omega);(rfl);omega;omega;(exact app_cl (by (omega)));rfl;rfl)|(apply rw_nil;kernel_rfl)|((apply rx_buildSliceI (t := _));(case hze|hsm|hl => rfl);(case hfl => (exact (rfl:_=some [_, _, _, _])));(case hM|hN => rfl))|(apply rx_store;rfl;rfl;rfl;rfl;rfl;(case hl => (simp;done));(exact (rfl:_=[_, _, _, _]))))|(apply id_aw;(apply aw_region))|with_reducible apply tq_normal|with_reducible apply bq_normal)
    (apply ex3 (i + 1, _);focus (refine Le.ren [(0, 5)] rfl (by decide) ?_ ?_ <;> repeat' (first|exact trivial|refine And.intro ⟨_, rfl, ?_⟩ ?_|refine And.intro ⟨_, _, rfl, rfl, ?_⟩ ?_|exact Or.inr rfl|refine Or.inl ⟨?_, (by first|rfl|exact pur_sl _ _)⟩|rfl)))
    · exact ⟨by dsimp only;omega, by dsimp only;rw [hxs, take_succB m i (by omega)]⟩
    · dsimp only;omega
  · have hie : i = m.length := by omega
    (refine rq_ret rfl ?_; refine mc_ret () trivial ?_ ⟨.inr (Eq.trans (b := some _) rfl ?_), trivial⟩)
    · rw [hie]; rfl
    · rw [hxs, hie, List.take_length]
theorem l6Place_c (m : List Cl) (hm : OkM m) (x : Pt) : PC Tryz.prog 171 [sl cCl m, aPt x] (fun r => r = .tup [iv (if tchK m x false = 0 then tgIx m[x.cell.toNat]!.stk x.tag else 0), iv (tchK m x false)]) := by
  have hml := hm.l
  have hcv := CellsValidS_c m (by omega)
  rw [decide_eq_true hm] at hcv
  have hst : 0 ≤ x.cell → x.cell < m.length → m[x.cell.toNat]!.stk.length ≤ 1000000 := fun h1 h2 => Nat.le_trans (((OkM_iff m).1 hm).2 x.cell.toNat (by omega)).l.2 (by decide)
  (refine pc_of_aw Tryz.func171 rfl (by simp [Tryz.ntmps171]) ?_; rw [Tryz.ntmps171])
  repeat' (first|(apply id_rw;first|((with_reducible apply rx_callE (k := 99));(case ha => rfl);(case h => exact hcv);(case hp => (exact Pur.pf));(case hN => rfl))|((with_reducible apply rx_callE (k := 176));(case ha => rfl);(case h => exact l6Tag_c m[x.cell.toNat]!.stk x.tag (hst (by assumption) (by assumption)));(case hp => (exact Pur.pf));(case hN => rfl))|(apply rx_move;rfl;rfl)|(apply rx_load1;rfl;rfl;rfl;rfl)|(apply rx_fieldAddr;rfl;rfl;rfl)|(first|(apply rx_guardY;rfl;rfl;rfl;(first|rfl|assumption))|(apply rx_guardNs;rfl;rfl;rfl;(assumption))|(apply rx_guardS;(case hj|hb|hN => rfl);all_goals (intro hg;have hq := hg;(try simp only [bqs] at hq);(try (exfalso;omega)))))|(apply rx_bin;rfl;rfl;rfl;rfl)|(apply rx_assign;rfl;rfl)|(first|(apply rx_pickT;rfl;(assumption);rfl;rfl)|(apply rx_pickF;rfl;(first|rfl|assumption);rfl;rfl))|(apply rx_indexF;(case hx|hi => rfl);(case hm => (omega));(case hml => (rfl));(case hα | hf|hg => infer_instance);(case hN => rfl))|(apply rx_len;rfl;rfl;rfl)|(apply rw_nil;kernel_rfl)|(apply rx_not;rfl;rfl)|(apply rx_box;rfl;rfl;rfl;rfl))|(apply id_aw;first|apply aw_seq|apply aw_region|(apply aw_draw;kernel_rfl)|(apply aw_condT;rfl;(rfl))|(apply aw_cond;rfl;all_goals intro hc;have hq:=hc;(try simp only [bqs] at hq);try exfalso;omega)|apply aw_skip|apply aw_ret)|with_reducible apply tq_normal|with_reducible apply tq_ret)
  all_goals (refine rq_ret rfl ⟨?_, rfl⟩; simp only [oneOf])
  · rw [tchK_4 (by omega)]; rfl
  · rw [tchK_1 (by assumption) (by assumption) (by assumption)]; rfl
  · rw [tchK_2 (by assumption) (by assumption) (by assumption) (by assumption)]; rfl
  · rw [tchK_0f (by assumption) (by assumption) (by assumption) (by assumption)]; rfl
  · rw [tchK_4 (by omega)]; rfl
theorem st_clS {xs : List Cl} {k : Nat} {s : List Tg} (hk : k < xs.length) : spl (flat cCl xs) (0 + k * 4 + 3) [sl cTg s] = flat cCl (xs.set k { xs[k]! with stk := s }) := st_flat hk (by simp) rfl
theorem st_clV {xs : List Cl} {k : Nat} {v : Int} (hk : k < xs.length) : spl (flat cCl xs) (0 + k * 4 + 0) [iv v] = flat cCl (xs.set k { xs[k]! with val := v }) := st_flat hk (by simp) rfl
theorem st_clA {xs : List Cl} {k : Nat} {b : Bool} (hk : k < xs.length) : spl (flat cCl xs) (0 + k * 4 + 1) [.v (.bool b)] = flat cCl (xs.set k { xs[k]! with alive := b }) := st_flat hk (by simp) rfl
theorem sl_len {α : Type} {f : α → List AV} {xs : List α} {n : Nat} (h : n = xs.length) : AV.imm n (flat f xs) = sl f xs := by subst h; rfl
theorem ReadCellS_c (m : List Cl) (hm : OkM m) (x : Pt) : PC Tryz.prog 134 [sl cCl m, aPt x] (fun r => r = .tup [sl cCl (tchM m x false), iv (rdN m x), iv (tchK m x false)]) := by
  have hml := hm.l
  have hst : 0 ≤ x.cell → x.cell < m.length → m[x.cell.toNat]!.stk.length ≤ 1000000 := fun h1 h2 => Nat.le_trans (((OkM_iff m).1 hm).2 x.cell.toNat (by omega)).l.2 (by decide)
  by_cases hk : tchK m x false = 0
  · have hpl := l6Place_c m hm x
    rw [if_pos hk, hk] at hpl
    obtain ⟨h1, h2, h3, h4, _⟩ := tchK_in hk
    have hbd := tgIx_bd m[x.cell.toNat]!.stk x.tag
    have hrd := l6Read_c m[x.cell.toNat]!.stk (tgIx m[x.cell.toNat]!.stk x.tag).toNat (by omega) (hst h1 h2)
    rw [Int.toNat_of_nonneg h4] at hrd
    (refine pc_of_aw Tryz.func134 rfl (by simp [Tryz.ntmps134]) ?_; rw [Tryz.ntmps134])
    repeat' (first|(apply id_rw;first|(apply rx_l6CopyM;rfl;exact l6CopyM_c m hm;rfl;rfl)|((with_reducible apply rx_callE (k := 171));(case ha => rfl);(case h => exact hpl);(case hp => (exact Pur.pf));(case hN => rfl))|((with_reducible apply rx_callE (k := 172));(case ha => rfl);(case h => exact hrd);(case hp => (exact Pur.pf));(case hN => rfl))|(apply rx_move;rfl;rfl)|(first|(apply rx_load1;rfl;rfl;rfl;rfl)|(apply rx_loadA;rfl;rfl;(exact (rfl:_=[_, _]));rfl;rfl;rfl))|(apply rx_fieldAddr;rfl;rfl;rfl)|(apply rx_bin;rfl;rfl;rfl;rfl)|(apply rx_assign;rfl;rfl)|(first|(apply rx_indexF;(case hx|hi => rfl);(case hm => (omega));(case hml => (rfl));(case hα | hf|hg => infer_instance);(case hN => rfl))|(apply rx_indexO;rfl;rfl;(omega);rfl))|(apply rw_nil;kernel_rfl)|(apply rx_box;rfl;rfl;rfl;rfl)|(apply rx_extract;rfl;rfl;rfl)|(apply rx_store;rfl;rfl;rfl;rfl;rfl;(rw [flat_length]; simp only [lns] <;> omega);(exact st_clS (by (omega)))))|(apply id_aw;first|apply aw_seq|apply aw_region|(apply aw_draw;kernel_rfl)|(apply aw_condF;rfl;(rfl))|apply aw_skip|apply aw_ret)|with_reducible apply tq_normal)
    (refine rq_le (Le.frzD (d := 4) (i := 1) rfl rfl) ?_; refine rq_ret rfl ?_)
    refine ⟨?_, by (exact Pur.pf)⟩
    simp only [oneOf]
    rw [sl_len (by rw [List.length_set]), hk]
    unfold tchM rdN;rw [if_pos hk, if_pos hk]; rfl
  · have hpl := l6Place_c m hm x
    rw [if_neg hk] at hpl
    (refine pc_of_aw Tryz.func134 rfl (by simp [Tryz.ntmps134]) ?_; rw [Tryz.ntmps134])
    repeat' (first|(apply id_rw;first|(apply rx_l6CopyM;rfl;exact l6CopyM_c m hm;rfl;rfl)|((with_reducible apply rx_callE (k := 171));(case ha => rfl);(case h => exact hpl);(case hp => (exact Pur.pf));(case hN => rfl))|(apply rx_move;rfl;rfl)|(apply rx_loadA;rfl;rfl;(exact (rfl:_=[_, _]));rfl;rfl;rfl)|(apply rx_bin;rfl;rfl;rfl;rfl)|(apply rx_assign;rfl;rfl)|(apply rw_nil;kernel_rfl)|(apply rx_box;rfl;rfl;rfl;rfl)|(apply rx_extract;rfl;rfl;rfl))|(apply id_aw;first|apply aw_seq|apply aw_region|(apply aw_cond;rfl;all_goals intro hc;have hq:=hc;(try simp only [bqs] at hq);try exfalso;omega)|apply aw_ret)|with_reducible apply tq_normal|with_reducible apply tq_ret)
    (refine rq_le (Le.frzD (d := 4) (i := 1) rfl rfl) ?_; refine rq_ret rfl ?_)
    refine ⟨?_, by (exact Pur.pf)⟩
    simp only [oneOf]
    unfold tchM rdN;rw [if_neg hk, if_neg hk]
theorem spl_at {cs : List AV} {i : Nat} {c : AV} : spl cs i [c] = cs.take i ++ c :: cs.drop (i + 1) := by
  have := spl_one (cs := cs) (v := i) (c := c)
  rwa [Nat.zero_add, Nat.mul_one] at this
theorem Le.frzCl {ts : List (Nat × AV)} {hs : List (Nat × Option (List AV))} {n : Nat} {z0 : Lo} {j q v m : Nat} {u : List Cl} {r : List Tg} (hj : lkH hs j = some (spl (flat cCl u) (0 + v * 4 + 3) [.own q 0 m 2])) (hq : lkH hs q = some (flat cTg r)) (hm : m = r.length) (hv : v < u.length) (hjq : j ≠ q) :
    Le ⟨ts, hs, n, z0⟩ ⟨ts, (j, some (flat cCl (u.set v { u[v]! with stk := r }))) :: (q, none) :: hs, n, z0⟩ := by
  subst hm
  have hl : (flat cCl u).length = u.length * 4 := flat_length cCl u
  have e := st_clS (s := r) hv
  rw [spl_at] at hj e
  have h := Le.frzC (ts := ts) (n := n) (z0 := z0) ((flat cCl u).take (0 + v * 4 + 3)) hj hq hjq
  rw [← e]; exact h
theorem tchM_len {m : List Cl} {x : Pt} {wr : Bool} : (tchM m x wr).length = m.length := by
  unfold tchM;split
  · rw [List.length_set]
  · rfl
theorem rx_l6WriteM {m : List Cl} {x : Pt} {N : Nat} {Q : Exit → AS → Prop} {all : Array Oper} {rest : List Oper} {tsl : List (Nat × AV)} {hsl : List (Nat × Option (List AV))} {nidl : Nat} {z0 : Lo} {md : Md} {d : Nat} {ty : TypeId} {pos : String} {af : Array Edge} {tys : Array TypeId} {x0 x1 : Operand} (ha0 : ev (lk tsl) x0 = some (sl cCl m)) (ha1 : ev (lk tsl) x1 = some (aPt x)) (hmc : MC Tryz.prog 168 [sl cCl m, aPt x] [] 0 (fun _ : Unit => True) (fun _ => .tup [.own 1 0 m.length 4, iv (tchK m x true)]) (fun _ => [(1, some (flat cCl (tchM m x true)))])) (hM : Nat.ble (nidl + 2) big = true) (hN : Nat.blt d N = true) {md' : Md} [hmd : MdA md (rOs [x0, x1] ++ []) (List.map Sum.inr (List.map Prod.fst ([((nidl + 1), some (flat cCl (tchM m x true)))] : List (Nat × Option (List AV)))) ++ [.inl d]) md'] (kk : RW Tryz.prog N all Q md' rest ⟨(d, .tup [.own (nidl + 1) 0 m.length 4, iv (tchK m x true)]) :: tsl, wrH hsl [((nidl + 1), some (flat cCl (tchM m x true)))], nidl + 2, z0⟩) : RW Tryz.prog N all Q md (⟨some d, .call ⟨.value (.func 168), #[x0, x1], tys⟩, ty, pos, af, none⟩ :: rest) ⟨tsl, hsl, nidl, z0⟩ := by
  refine rx_mcallE [] 2 [((nidl + 1), some (flat cCl (tchM m x true)))] hmc (avs := [sl cCl m, aPt x]) ?_ rfl ?_ rfl ?_ (by simpa using hM) ?_ ?_ ?_ hN (md' := md') (hmd := hmd) kk
  · show evL (lk tsl) [x0, x1] = _
    simp only [evL, ha0, ha1]
  · exact trivial
  · (repeat' (exact RnL.purI inferInstance))
  · (repeat' (first|exact RnL.purI inferInstance|exact RnV.own rfl|refine RnL.cons ?_ ?_|refine RnV.tup ?_))
  · simp [wsAll]
  · (repeat' (first|exact trivial|(refine And.intro ⟨1, _, rfl, rfl, ?_⟩ ?_)|exact RnL.purI inferInstance))
theorem l6WriteM_c (m : List Cl) (x : Pt) (hm : OkM m) : MC Tryz.prog 168 [sl cCl m, aPt x] [] 0 (fun _ : Unit => True) (fun _ => .tup [.own 1 0 m.length 4, iv (tchK m x true)]) (fun _ => [(1, some (flat cCl (tchM m x true)))]) := by
  have hml := hm.l
  have hst : 0 ≤ x.cell → x.cell < m.length → m[x.cell.toNat]!.stk.length ≤ 200 := fun h1 h2 => (((OkM_iff m).1 hm).2 x.cell.toNat (by omega)).l.2
  have hpl := l6Place_c m hm x
  by_cases hk : tchK m x false = 0
  · rw [if_pos hk, hk] at hpl
    obtain ⟨h1, h2, h3, h4, _⟩ := tchK_in hk
    have hbd := tgIx_bd m[x.cell.toNat]!.stk x.tag
    have hs2 := hst h1 h2
    obtain ⟨k, hkk⟩ := Int.eq_ofNat_of_zero_le h4
    rw [hkk] at hpl
    have hkn : k < m[x.cell.toNat]!.stk.length := by omega
    have hkt : (tgIx m[x.cell.toNat]!.stk x.tag).toNat = k := by omega
    have hwr := tchK_wr (m := m) (x := x)
    rw [if_pos hk, hkt] at hwr
    have e1 : List.take (((k : Int) + 1).toNat - 0) (List.drop 0 m[x.cell.toNat]!.stk) = m[x.cell.toNat]!.stk.take (k + 1) := by rw [List.drop_zero]; congr 1
    have e2 : (m[x.cell.toNat]!.stk.take (k + 1)).length = k + 1 := by rw [List.length_take]; omega
    (refine mc_of_aw Tryz.func168 rfl (by simp [Tryz.ntmps168]) ?_; rw [Tryz.ntmps168])
    repeat' (first|(apply id_rw;first|(apply rx_l6CopyM;rfl;exact l6CopyM_c m hm;rfl;rfl)|((with_reducible apply rx_callE (k := 171));(case ha => rfl);(case h => exact hpl);(case hp => (exact Pur.pf));(case hN => rfl))|(with_reducible apply rw_stop (d := 46))|(apply rx_move;rfl;rfl)|(first|(apply rx_load1;rfl;rfl;rfl;rfl)|(apply rx_loadA;rfl;rfl;(exact (rfl:_=[_, _]));rfl;rfl;rfl))|(apply rx_fieldAddr;rfl;rfl;rfl)|(first|(apply rx_add;rfl;rfl;omega;rfl)|(apply rx_bin;rfl;rfl;rfl;rfl))|(apply rx_assign;rfl;rfl)|(first|(apply rx_indexFN;(case hx|hi => rfl);(case hm => (assumption));(case hml => (rfl));(case hα | hf|hg => infer_instance);(case hN => rfl))|(apply rx_indexF;(case hx|hi => rfl);(case hm => (omega));(case hml => (rfl));(case hα | hf|hg => infer_instance);(case hN => rfl)))|(apply rw_nil;kernel_rfl)|(apply rx_sliceF;rfl;infer_instance;rfl;rfl;(omega);rfl)|(apply rx_not;rfl;rfl)|(apply rx_box;rfl;rfl;rfl;rfl)|(apply rx_extract;rfl;rfl;rfl)|(apply rx_buildSlice;rfl;rfl;rfl;(rfl);rfl;rfl))|(apply id_aw;first|apply aw_seq|apply aw_region|(apply aw_draw;kernel_rfl)|(apply aw_condF;rfl;(rfl))|(apply aw_cond;rfl;all_goals intro hc;have hq:=hc;(try simp only [bqs] at hq);try exfalso;omega)|apply aw_skip|apply aw_ret)|with_reducible apply tq_normal|with_reducible apply tq_ret)
    · have hu : m[x.cell.toNat]!.stk[k]!.uq = false := by assumption
      rw [if_pos hu] at hwr
      (refine rq_ret rfl ?_; refine mc_ret () trivial ?_ ⟨.inr (Eq.trans (b := some _) rfl ?_), trivial⟩)
      · rw [hwr]; rfl
      · unfold tchM;rw [if_neg (by rw [hwr]; decide)]
    · have hu : m[x.cell.toNat]!.stk[k]!.uq = true := by assumption
      rw [if_neg (by rw [hu]; decide)] at hwr
      refine rw_go ?_
      rw [e1]
      repeat' (first|(apply id_rw;first|(with_reducible apply rw_stop (d := 49))|(apply rx_fieldAddr;rfl;rfl;rfl)|(apply rx_indexO;rfl;rfl;(omega);rfl)|(apply rx_append;rfl;rfl;rfl;rfl;rfl;(case hl => (simp [flat_length]; done));(exact sC_imm (by (rfl)));omega;omega;(exact app_nilF (by (omega)));rfl;rfl)|(apply rw_nil;kernel_rfl)|(apply rx_store;rfl;rfl;rfl;rfl;rfl;(rw [flat_length]; simp only [lns] <;> omega);(rfl)))|(apply id_aw;first|apply aw_seq|apply aw_region)|with_reducible apply tq_normal)
      refine rw_go (rw_le ?_ (Le.frzCl (j := 1) (q := 3) (v := x.cell.toNat) (u := m) (r := m[x.cell.toNat]!.stk.take (k + 1)) rfl rfl (Nat.zero_add _) (by omega) (by decide)))
      repeat' (first|(apply id_rw;first|(apply rx_move;rfl;rfl)|(apply rx_assign;rfl;rfl)|(apply rw_nil;kernel_rfl))|(apply id_aw;(apply aw_ret))|with_reducible apply tq_normal)
      (refine rq_ret rfl ?_; refine mc_ret () trivial ?_ ⟨.inr (Eq.trans (b := some _) rfl ?_), trivial⟩)
      · rw [hwr]; rfl
      · unfold tchM tchC tchS;rw [if_pos hwr, hkt, if_pos rfl]
  · rw [if_neg hk] at hpl
    have hk2 : tchK m x true = tchK m x false := by rw [tchK_wr, if_neg hk]
    (refine mc_of_aw Tryz.func168 rfl (by simp [Tryz.ntmps168]) ?_; rw [Tryz.ntmps168])
    repeat' (first|(apply id_rw;first|(apply rx_l6CopyM;rfl;exact l6CopyM_c m hm;rfl;rfl)|((with_reducible apply rx_callE (k := 171));(case ha => rfl);(case h => exact hpl);(case hp => (exact Pur.pf));(case hN => rfl))|(apply rx_move;rfl;rfl)|(apply rx_loadA;rfl;rfl;(exact (rfl:_=[_, _]));rfl;rfl;rfl)|(apply rx_bin;rfl;rfl;rfl;rfl)|(apply rx_assign;rfl;rfl)|(apply rw_nil;kernel_rfl)|(apply rx_box;rfl;rfl;rfl;rfl)|(apply rx_extract;rfl;rfl;rfl))|(apply id_aw;first|apply aw_seq|apply aw_region|(apply aw_cond;rfl;all_goals intro hc;have hq:=hc;(try simp only [bqs] at hq);try exfalso;omega)|apply aw_ret)|with_reducible apply tq_normal|with_reducible apply tq_ret)
    (refine rq_ret rfl ?_; refine mc_ret () trivial ?_ ⟨.inr (Eq.trans (b := some _) rfl ?_), trivial⟩)
    · rw [hk2]; rfl
    · unfold tchM;rw [if_neg (by rw [hk2]; exact hk)]
theorem set_set {α : Type} {l : List α} {i : Nat} {a b : α} : (l.set i a).set i b = l.set i b := by simp
theorem get_set {α : Type} [Inhabited α] {l : List α} {i : Nat} {a : α} (h : i < l.length) : (l.set i a)[i]! = a := by rw [getB _ _ (by rw [List.length_set]; exact h), List.getElem_set_self]
theorem WriteCellS_c (m : List Cl) (hm : OkM m) (x : Pt) (v : Int) : PC Tryz.prog 135 [sl cCl m, aPt x, iv v] (fun r => r = .tup [sl cCl (wrM m x v), iv (wrK m x v)]) := by
  have hml := hm.l
  have hlt := tchM_len (m := m) (x := x) (wr := true)
  have hin := tchK_in (m := m) (x := x) (wr := true)
  by_cases hv : 0 ≤ v ∧ v ≤ 9
  · have hwk : wrK m x v = tchK m x true := by unfold wrK; rw [if_pos hv]
    by_cases hk : tchK m x true = 0
    · obtain ⟨h1, h2, _⟩ := hin hk
      (refine pc_of_aw Tryz.func135 rfl (by simp [Tryz.ntmps135]) ?_; rw [Tryz.ntmps135])
      repeat' (first|(apply id_rw;first|(apply rx_l6WriteM;rfl;rfl;exact l6WriteM_c m x hm;rfl;rfl)|(apply rx_move;rfl;rfl)|(first|(apply rx_load1;rfl;rfl;rfl;rfl)|(apply rx_loadA;rfl;rfl;(exact (rfl:_=[_, _]));rfl;rfl;rfl))|(apply rx_fieldAddr;rfl;rfl;rfl)|(first|(apply rx_guardY;rfl;rfl;rfl;(assumption))|(apply rx_guardS;(case hj|hb|hN => rfl);all_goals (intro hg;have hq := hg;(try simp only [bqs] at hq);(try (exfalso;omega)))))|(apply rx_bin;rfl;rfl;rfl;rfl)|(apply rx_assign;rfl;rfl)|(apply rx_pickF;rfl;(assumption);rfl;rfl)|(apply rx_indexO;rfl;rfl;(omega);rfl)|(apply rw_nil;kernel_rfl)|(apply rx_box;rfl;rfl;rfl;rfl)|(apply rx_extract;rfl;rfl;rfl)|(apply rx_store;rfl;rfl;rfl;rfl;rfl;(rw [flat_length]; simp only [lns] <;> omega);(exact st_clV (by (omega)))))|(apply id_aw;first|apply aw_seq|apply aw_region|(apply aw_cond;rfl;all_goals intro hc;have hq:=hc;(try simp only [bqs] at hq);try exfalso;omega)|apply aw_skip|apply aw_ret)|with_reducible apply tq_normal)
      (refine rq_le (Le.frzD (d := 6) (i := 2) rfl rfl) ?_; refine rq_ret rfl ?_)
      refine ⟨?_, by (exact Pur.pf)⟩
      simp only [oneOf]
      rw [sl_len (by rw [List.length_set, hlt]), hwk]
      unfold wrM tchM;rw [if_pos hk, if_pos (by rw [hwk]; exact hk), get_set (by omega), set_set]
    · (refine pc_of_aw Tryz.func135 rfl (by simp [Tryz.ntmps135]) ?_; rw [Tryz.ntmps135])
      repeat' (first|(apply id_rw;first|(apply rx_l6WriteM;rfl;rfl;exact l6WriteM_c m x hm;rfl;rfl)|(apply rx_move;rfl;rfl)|(apply rx_loadA;rfl;rfl;(exact (rfl:_=[_, _]));rfl;rfl;rfl)|(first|(apply rx_guardY;rfl;rfl;rfl;(assumption))|(apply rx_guardS;(case hj|hb|hN => rfl);all_goals (intro hg;have hq := hg;(try simp only [bqs] at hq);(try (exfalso;omega)))))|(apply rx_bin;rfl;rfl;rfl;rfl)|(apply rx_assign;rfl;rfl)|(apply rx_pickF;rfl;(assumption);rfl;rfl)|(apply rw_nil;kernel_rfl)|(apply rx_box;rfl;rfl;rfl;rfl)|(apply rx_extract;rfl;rfl;rfl))|(apply id_aw;first|apply aw_seq|apply aw_region|(apply aw_cond;rfl;all_goals intro hc;have hq:=hc;(try simp only [bqs] at hq);try exfalso;omega)|apply aw_skip|apply aw_ret)|with_reducible apply tq_normal)
      (refine rq_le (Le.frzD (d := 6) (i := 2) rfl rfl) ?_; refine rq_ret rfl ?_)
      refine ⟨?_, by (exact Pur.pf)⟩
      simp only [oneOf]
      rw [sl_len (by rw [hlt]), hwk]
      unfold wrM tchM;rw [if_neg hk, if_neg (by rw [hwk]; exact hk)]
  · have hwk : wrK m x v = 4 := by unfold wrK; rw [if_neg hv]
    have e : wrM m x v = m := by unfold wrM;rw [if_neg (by rw [hwk]; decide)]
    (refine pc_of_aw Tryz.func135 rfl (by simp [Tryz.ntmps135]) ?_; rw [Tryz.ntmps135])
    repeat' (first|(apply id_rw;first|(apply rx_l6CopyM;rfl;exact l6CopyM_c m hm;rfl;rfl)|(apply rx_move;rfl;rfl)|(first|(apply rx_guardY;rfl;rfl;rfl;(assumption))|(apply rx_guardNs;rfl;rfl;rfl;(assumption))|(apply rx_guardS;(case hj|hb|hN => rfl);all_goals (intro hg;have hq := hg;(try simp only [bqs] at hq);(try (exfalso;omega)))))|(apply rx_bin;rfl;rfl;rfl;rfl)|(apply rx_assign;rfl;rfl)|(first|(apply rx_pickT;rfl;(assumption);rfl;rfl)|(apply rx_pickF;rfl;(assumption);rfl;rfl))|(apply rw_nil;kernel_rfl)|(apply rx_box;rfl;rfl;rfl;rfl))|(apply id_aw;first|apply aw_seq|apply aw_region|(apply aw_condT;rfl;(rfl))|(apply aw_cond;rfl;all_goals intro hc;have hq:=hc;(try simp only [bqs] at hq);try exfalso;omega)|apply aw_ret)|with_reducible apply tq_normal|with_reducible apply tq_ret)
    all_goals (try (exfalso;omega))
    all_goals (
      (refine rq_le (Le.frzD (d := 6) (i := 1) rfl rfl) ?_; refine rq_ret rfl ?_)
      refine ⟨?_, by (exact Pur.pf)⟩
      simp only [oneOf]
      rw [e, hwk])
theorem FreeCellS_c (m : List Cl) (hm : OkM m) (x : Pt) : PC Tryz.prog 127 [sl cCl m, aPt x] (fun r => r = .tup [sl cCl (frM m x), iv (tchK m x true)]) := by
  have hml := hm.l
  have hlt := tchM_len (m := m) (x := x) (wr := true)
  have hin := tchK_in (m := m) (x := x) (wr := true)
  by_cases hk : tchK m x true = 0
  · obtain ⟨h1, h2, _⟩ := hin hk
    (refine pc_of_aw Tryz.func127 rfl (by simp [Tryz.ntmps127]) ?_; rw [Tryz.ntmps127])
    repeat' (first|(apply id_rw;first|(apply rx_l6WriteM;rfl;rfl;exact l6WriteM_c m x hm;rfl;rfl)|(apply rx_move;rfl;rfl)|(first|(apply rx_load1;rfl;rfl;rfl;rfl)|(apply rx_loadA;rfl;rfl;(exact (rfl:_=[_, _]));rfl;rfl;rfl))|(apply rx_fieldAddr;rfl;rfl;rfl)|(apply rx_bin;rfl;rfl;rfl;rfl)|(apply rx_assign;rfl;rfl)|(apply rx_indexO;rfl;rfl;(omega);rfl)|(apply rw_nil;kernel_rfl)|(apply rx_box;rfl;rfl;rfl;rfl)|(apply rx_extract;rfl;rfl;rfl)|(apply rx_store;rfl;rfl;rfl;rfl;rfl;(rw [flat_length]; simp only [lns] <;> omega);(exact st_clA (by (omega)))))|(apply id_aw;first|apply aw_seq|apply aw_region|(apply aw_cond;rfl;all_goals intro hc;have hq:=hc;(try simp only [bqs] at hq);try exfalso;omega)|apply aw_ret)|with_reducible apply tq_normal)
    (refine rq_le (Le.frzD (d := 4) (i := 2) rfl rfl) ?_; refine rq_ret rfl ?_)
    refine ⟨?_, by (exact Pur.pf)⟩
    simp only [oneOf]
    rw [sl_len (by rw [List.length_set, hlt])]
    unfold frM tchM;rw [if_pos hk, if_pos hk, get_set (by omega), set_set]
  · (refine pc_of_aw Tryz.func127 rfl (by simp [Tryz.ntmps127]) ?_; rw [Tryz.ntmps127])
    repeat' (first|(apply id_rw;first|(apply rx_l6WriteM;rfl;rfl;exact l6WriteM_c m x hm;rfl;rfl)|(apply rx_move;rfl;rfl)|(apply rx_loadA;rfl;rfl;(exact (rfl:_=[_, _]));rfl;rfl;rfl)|(apply rx_bin;rfl;rfl;rfl;rfl)|(apply rx_assign;rfl;rfl)|(apply rw_nil;kernel_rfl)|(apply rx_box;rfl;rfl;rfl;rfl)|(apply rx_extract;rfl;rfl;rfl))|(apply id_aw;first|apply aw_seq|apply aw_region|(apply aw_cond;rfl;all_goals intro hc;have hq:=hc;(try simp only [bqs] at hq);try exfalso;omega)|apply aw_skip|apply aw_ret)|with_reducible apply tq_normal)
    (refine rq_le (Le.frzD (d := 4) (i := 2) rfl rfl) ?_; refine rq_ret rfl ?_)
    refine ⟨?_, by (exact Pur.pf)⟩
    simp only [oneOf]
    rw [sl_len (by rw [hlt])]
    unfold frM tchM;rw [if_neg hk, if_neg hk]
theorem NewCellS_c (m : List Cl) (hm : OkM m) (v : Int) : PC Tryz.prog 131 [sl cCl m, iv v] (fun r => r = .tup (if 0 ≤ v ∧ v ≤ 9 ∧ m.length < 200 then [sl cCl (m ++ [nwC v]), .agg [iv m.length, iv 0], bv true] else [sl cCl [], .agg [iv 0, iv 0], bv false])) := by
  have hml := hm.l
  have hcv := CellsValidS_c m (by omega)
  rw [decide_eq_true hm] at hcv
  (refine pc_of_aw Tryz.func131 rfl (by simp [Tryz.ntmps131]) ?_; rw [Tryz.ntmps131])
  repeat' (first|(apply id_rw;first|(apply rx_l6CopyM;rfl;exact l6CopyM_c m hm;rfl;rfl)|((with_reducible apply rx_callE (k := 99));(case ha => rfl);(case h => exact hcv);(case hp => (exact Pur.pf));(case hN => rfl))|(apply rx_move;rfl;rfl)|(first|(apply rx_guardY;rfl;rfl;rfl;(first|rfl|assumption))|(apply rx_guardNs;rfl;rfl;rfl;(first|rfl|assumption))|(apply rx_guardS;(case hj|hb|hN => rfl);all_goals (intro hg;have hq := hg;(try simp only [bqs] at hq);(try (exfalso;omega)))))|(apply rx_bin;rfl;rfl;rfl;rfl)|(apply rx_assign;rfl;rfl)|(first|(apply rx_pickT;rfl;(first|rfl|assumption);rfl;rfl)|(apply rx_pickF;rfl;(first|rfl|assumption);rfl;rfl))|(first|(apply rx_len;rfl;rfl;rfl)|(apply rx_append;rfl;rfl;rfl;rfl;rfl;(rw [flat_length]; omega);(rfl);omega;omega;(rfl);rfl;rfl))|(apply rw_nil;kernel_rfl)|(apply rx_buildK;rfl;(first|exact (rfl:_=some [_, _])|exact (rfl:_=some [_, _, _, _]));(first|exact (rfl:_=[_, _])|exact (rfl:_=[_, _, _, _]));rfl)|(apply rx_not;rfl;rfl)|(apply rx_alloc;rfl;rfl)|((apply rx_buildSliceI (t := _));(case hze|hsm|hl => rfl);(case hfl => (first|exact (rfl:_=some [_, _])|exact (rfl:_=some [_, _, _, _])|rfl));(case hM|hN => rfl))|(apply rx_store;rfl;rfl;rfl;rfl;rfl;(case hl => (first|decide|(simp;done)));(exact (rfl:_=[_, _]))))|(apply id_aw;first|apply aw_seq|apply aw_region|(apply aw_condT;rfl;(rfl))|(apply aw_cond;rfl;all_goals intro hc;have hq:=hc;(try simp only [bqs] at hq);try exfalso;omega)|apply aw_skip|apply aw_ret)|with_reducible apply tq_normal|with_reducible apply tq_ret)
  all_goals try exact rq_ret (l := [sl cCl [], .agg [iv 0, iv 0], bv false]) rfl ⟨by rw [if_neg (by omega)]; rfl, rfl⟩
  have e : ((flat cCl m).drop 0).take (m.length * 4) ++ [iv v, bv true, iv 1, .imm 1 [iv 0, bv true]] = flat cCl (m ++ [nwC v]) := app_flat rfl rfl
  have e2 : AV.imm (m.length + 1) (((flat cCl m).drop 0).take (m.length * 4) ++ [iv v, bv true, iv 1, .imm 1 [iv 0, bv true]]) = sl cCl (m ++ [nwC v]) := by
    rw [e]; exact sl_len (by rw [List.length_append]; rfl)
  refine rq_le (Le.frzD (d := 4) (i := 4) rfl rfl) ?_
  refine rq_ret (l := [AV.imm (m.length + 1) (((flat cCl m).drop 0).take (m.length * 4) ++ [iv v, bv true, iv 1, .imm 1 [iv 0, bv true]]), .agg [iv m.length, iv 0], bv true]) rfl ?_
  rw [e2, if_pos (by omega)]
  exact ⟨rfl, by (exact Pur.pf)⟩
def pshF (m : List Cl) (j : Nat) (r : List Tg) : Prop := r.length = 200 ∨ m[j]!.next = 1000
instance (m : List Cl) (j : Nat) (r : List Tg) : Decidable (pshF m j r) := by unfold pshF; infer_instance
def pshM (m b : List Cl) (j : Nat) (u : Bool) (r : List Tg) : List Cl := if pshF m j r then b else m.set j (psh { m[j]! with stk := r } u)
def pshP (m : List Cl) (j : Nat) (r : List Tg) : Pt := if pshF m j r then ⟨0, 0⟩ else ⟨j, m[j]!.next⟩
def pshK (m : List Cl) (j : Nat) (r : List Tg) : Int := if pshF m j r then 4 else 0
theorem rx_l6Push {m b : List Cl} {j : Nat} {u : Bool} {r : List Tg} {n k : Nat} {N : Nat} {Q : Exit → AS → Prop} {all : Array Oper} {rest : List Oper} {tsl : List (Nat × AV)} {hsl : List (Nat × Option (List AV))} {nidl : Nat} {z0 : Lo} {md : Md} {d : Nat} {ty : TypeId} {pos : String} {af : Array Edge} {tys : Array TypeId} {x0 x1 x2 x3 : Operand} {i0 i1 : Nat} (ha0 : ev (lk tsl) x0 = some (.own i0 0 n 4)) (ha1 : ev (lk tsl) x1 = some (sl cCl b)) (ha2 : ev (lk tsl) x2 = some (iv (j : Int))) (ha3 : ev (lk tsl) x3 = some (bv u)) (hH0 : lkH hsl i0 = some (flat cCo (opn m j (.own i1 0 k 2)))) (hH1 : lkH hsl i1 = some (flat cTg r)) (hdd : Go.AL.distinct [i0, i1] = true) (hmc : MC Tryz.prog 203 [.own 0 0 n 4, sl cCl b, iv (j : Int), bv u] [(0, some (flat cCo (opn m j (.own 1 0 k 2)))), (1, some (flat cTg r))] 2 (fun _ : Unit => True) (fun _ => .tup [sl cCl (pshM m b j u r), aPt (pshP m j r), iv (pshK m j r)]) (fun _ => [])) (hM : Nat.ble (nidl + 0) big = true) (hN : Nat.blt d N = true) {md' : Md} [hmd : MdA md (rOs [x0, x1, x2, x3] ++ [.inr i0, .inr i1]) (List.map Sum.inr (List.map Prod.fst ([(i0, none), (i1, none)] : List (Nat × Option (List AV)))) ++ [.inl d]) md'] (kk : RW Tryz.prog N all Q md' rest ⟨(d, .tup [sl cCl (pshM m b j u r), aPt (pshP m j r), iv (pshK m j r)]) :: tsl, wrH hsl [(i0, none), (i1, none)], nidl + 0, z0⟩) : RW Tryz.prog N all Q md (⟨some d, .call ⟨.value (.func 203), #[x0, x1, x2, x3], tys⟩, ty, pos, af, none⟩ :: rest) ⟨tsl, hsl, nidl, z0⟩ := by
  refine rx_mcallE [i0, i1] 2 [(i0, none), (i1, none)] hmc (avs := [.own i0 0 n 4, sl cCl b, iv (j : Int), bv u]) ?_ hdd ?_ rfl ?_ (by simpa using hM) ?_ ?_ ?_ hN (md' := md') (hmd := hmd) kk
  · show evL (lk tsl) [x0, x1, x2, x3] = _
    simp only [evL, ha0, ha1, ha2, ha3]
  · exact ⟨⟨_, _, rfl, hH0, by (repeat' (exact rn_opn rfl))⟩, ⟨⟨_, _, rfl, hH1, by (repeat' (exact RnL.purI inferInstance))⟩, trivial⟩⟩
  · (repeat' (first|exact RnL.purI inferInstance|exact RnV.own rfl|refine RnL.cons ?_ ?_))
  · (repeat' (exact RnV.purI inferInstance))
  · simp [wsAll]
  · (repeat' (exact trivial))
theorem l6Push_c (m b : List Cl) (j : Nat) (u : Bool) (r : List Tg) (n k : Nat) (hb : OkM b) (hn : n = m.length) (hk : k = r.length) (hj : j < m.length) (hnx : 0 ≤ m[j]!.next ∧ m[j]!.next ≤ 1000) (hr : r.length ≤ 200) (hml : m.length ≤ 200) : MC Tryz.prog 203 [.own 0 0 n 4, sl cCl b, iv (j : Int), bv u] [(0, some (flat cCo (opn m j (.own 1 0 k 2)))), (1, some (flat cTg r))] 2 (fun _ : Unit => True) (fun _ => .tup [sl cCl (pshM m b j u r), aPt (pshP m j r), iv (pshK m j r)]) (fun _ => []) := by
  have hol := opn_len (m := m) (j := j) (X := .own 1 0 k 2)
  have hog := opn_get (m := m) (j := j) (X := .own 1 0 k 2) hj
  have hol2 := opn_len (m := m) (j := j) (X := .own (2 + 1 + 1 + 1) 0 (r.length + 1) 2)
  subst hn hk
  (refine mc_of_aw Tryz.func203 rfl (by simp [Tryz.ntmps203]) ?_; rw [Tryz.ntmps203])
  repeat' (first|(apply id_rw;first|(with_reducible apply rw_stop (d := 11))|(apply rx_move;rfl;rfl)|(apply rx_loadFA;(case hx|hH => rfl);(case hf|hg|hα => infer_instance);(case hk => omega);(case h0|hN => rfl))|(apply rx_assign;rfl;rfl)|(apply rx_indexON;rfl;rfl;(assumption);rfl)|(apply rw_nil;kernel_rfl)|(apply rx_alloc;rfl;rfl))|(apply id_aw;first|apply aw_seq|apply aw_region)|with_reducible apply tq_normal)
  refine rw_go ?_
  rw [hog]
  dsimp only
  repeat' (first|(apply id_rw;first|((with_reducible apply rx_callE (k := 64));(case ha => rfl);(case h => exact l6Copy_c b hb);(case hp => (exact Pur.pf));(case hN => rfl))|(apply rx_move;rfl;rfl)|(apply rx_load1;rfl;rfl;rfl;rfl)|(apply rx_fieldAddr;rfl;rfl;rfl)|(first|(apply rx_guardY;rfl;rfl;rfl;(assumption))|(apply rx_guardNs;rfl;rfl;rfl;(assumption))|(apply rx_guardS;(case hj|hb|hN => rfl);all_goals (intro hg;have hq := hg;(try simp only [bqs] at hq);(try (exfalso;omega)))))|(first|(apply rx_add;rfl;rfl;omega;rfl)|(apply rx_bin;rfl;rfl;rfl;rfl))|(apply rx_assign;rfl;rfl)|(first|(apply rx_pickT;rfl;(assumption);rfl;rfl)|(apply rx_pickF;rfl;(assumption);rfl;rfl))|(apply rx_indexON;rfl;rfl;(assumption);rfl)|(first|(apply rx_len;rfl;rfl;rfl)|(apply rx_append;rfl;rfl;rfl;rfl;rfl;(rw [flat_length]; omega);(rfl);omega;omega;(exact app_tg (by (omega)));rfl;rfl))|(apply rw_nil;kernel_rfl)|(apply rx_buildK;rfl;(exact (rfl:_=some [_, _]));(exact (rfl:_=[_, _]));rfl)|(apply rx_alloc;rfl;rfl)|((apply rx_buildSliceI (t := _));(case hze|hsm|hl => rfl);(case hfl => (exact (rfl:_=some [_, _])));(case hM|hN => rfl))|(apply rx_store;rfl;rfl;rfl;rfl;rfl;(case hl => (first|decide|(rw [flat_length]; simp only [lns] <;> omega)|(simp;done)));(first|exact st_opn (by (assumption))|exact st_opnN (by (assumption))|exact (rfl:_=[_, _])|exact (rfl:_=[_, _, _, _]))))|(apply id_aw;first|apply aw_seq|apply aw_region|(apply aw_condT;rfl;(rfl))|(apply aw_cond;rfl;all_goals intro hc;have hq:=hc;(try simp only [bqs] at hq);try exfalso;omega)|apply aw_skip|apply aw_ret)|with_reducible apply tq_normal|with_reducible apply tq_ret)
  · have hf : pshF m j r := .inr (by assumption)
    refine rq_ret (l := [sl cCl b, .agg [iv 0, iv 0], iv 4]) rfl ?_
    refine mc_ret () trivial ?_ trivial
    unfold pshM pshP pshK;rw [if_pos hf, if_pos hf, if_pos hf]; rfl
  · have hf : ¬ pshF m j r := by unfold pshF; omega
    have hm2 : (m.set j { m[j]! with next := m[j]!.next + 1 }).length = m.length := List.length_set
    refine rq_le (Le.cls (o := 0) (q := 5) (j := j) (k := r.length + 1) (m := m.set j { m[j]! with next := m[j]!.next + 1 }) (r := r ++ [⟨m[j]!.next, u⟩]) rfl rfl (by rw [List.length_append]; rfl) (by omega) (by decide)) ?_
    refine rq_le (Le.frzD (d := 8) (i := 0) rfl rfl) ?_
    have e : (m.set j { m[j]! with next := m[j]!.next + 1 }).set j { (m.set j { m[j]! with next := m[j]!.next + 1 })[j]! with stk := r ++ [⟨m[j]!.next, u⟩] } = m.set j (psh { m[j]! with stk := r } u) := by
      rw [get_set hj, set_set]; rfl
    rw [e]
    refine rq_ret (l := [.imm m.length (flat cCl (m.set j (psh { m[j]! with stk := r } u))), .agg [iv (j : Int), iv m[j]!.next], iv 0]) rfl ?_
    refine mc_ret () trivial ?_ trivial
    unfold pshM pshP pshK;rw [if_neg hf, if_neg hf, if_neg hf, sl_len (by rw [List.length_set])]; rfl
  · have hf : pshF m j r := .inl (by omega)
    refine rq_ret (l := [sl cCl b, .agg [iv 0, iv 0], iv 4]) rfl ?_
    refine mc_ret () trivial ?_ trivial
    unfold pshM pshP pshK;rw [if_pos hf, if_pos hf, if_pos hf]; rfl
theorem rx_l6ReadM {stk r : List Tg} {k : Nat} {N : Nat} {Q : Exit → AS → Prop} {all : Array Oper} {rest : List Oper} {tsl : List (Nat × AV)} {hsl : List (Nat × Option (List AV))} {nidl : Nat} {z0 : Lo} {md : Md} {d : Nat} {ty : TypeId} {pos : String} {af : Array Edge} {tys : Array TypeId} {x0 x1 : Operand} (ha0 : ev (lk tsl) x0 = some (sl cTg stk)) (ha1 : ev (lk tsl) x1 = some (iv (k : Int))) (hmc : MC Tryz.prog 172 [sl cTg stk, iv (k : Int)] [] 0 (fun _ : Unit => True) (fun _ => .own 1 0 r.length 2) (fun _ => [(1, some (flat cTg r))])) (hM : Nat.ble (nidl + 2) big = true) (hN : Nat.blt d N = true) {md' : Md} [hmd : MdA md (rOs [x0, x1] ++ []) (List.map Sum.inr (List.map Prod.fst ([((nidl + 1), some (flat cTg r))] : List (Nat × Option (List AV)))) ++ [.inl d]) md'] (kk : RW Tryz.prog N all Q md' rest ⟨(d, .own (nidl + 1) 0 r.length 2) :: tsl, wrH hsl [((nidl + 1), some (flat cTg r))], nidl + 2, z0⟩) : RW Tryz.prog N all Q md (⟨some d, .call ⟨.value (.func 172), #[x0, x1], tys⟩, ty, pos, af, none⟩ :: rest) ⟨tsl, hsl, nidl, z0⟩ := by
  refine rx_mcallE [] 2 [((nidl + 1), some (flat cTg r))] hmc (avs := [sl cTg stk, iv (k : Int)]) ?_ rfl ?_ rfl ?_ (by simpa using hM) ?_ ?_ ?_ hN (md' := md') (hmd := hmd) kk
  · show evL (lk tsl) [x0, x1] = _
    simp only [evL, ha0, ha1]
  · exact trivial
  · (repeat' (exact RnL.purI inferInstance))
  · (repeat' (exact RnV.own rfl))
  · simp [wsAll]
  · (repeat' (first|exact trivial|(refine And.intro ⟨1, _, rfl, rfl, ?_⟩ ?_)|exact RnL.purI inferInstance))
theorem l6ReadM_c (stk r : List Tg) (k : Nat) (hr : r = tchS stk k false) (hk : k < stk.length) (hl : stk.length ≤ 1000000) : MC Tryz.prog 172 [sl cTg stk, iv (k : Int)] [] 0 (fun _ : Unit => True) (fun _ => .own 1 0 r.length 2) (fun _ => [(1, some (flat cTg r))]) := by
  have e1 : List.take (((k : Int) + 1).toNat - 0) (List.drop 0 stk) = stk.take (k + 1) := by rw [List.drop_zero]; congr 1
  have e2 : (stk.take (k + 1)).length = k + 1 := by rw [List.length_take]; omega
  (refine mc_of_aw Tryz.func172 rfl (by simp [Tryz.ntmps172]) ?_; rw [Tryz.ntmps172])
  repeat' (first|(apply id_rw;first|(with_reducible apply rw_stop (d := 12))|(apply rx_move;rfl;rfl)|(apply rx_add;rfl;rfl;omega;rfl)|(apply rx_assign;rfl;rfl)|(apply rw_nil;kernel_rfl)|(apply rx_sliceF;rfl;infer_instance;rfl;rfl;(omega);rfl)|(apply rx_buildSlice;rfl;rfl;rfl;(rfl);rfl;rfl))|(apply id_aw;first|apply aw_seq|apply aw_region)|with_reducible apply tq_normal)
  refine rw_go ?_
  rw [e1]
  repeat' (first|(apply id_rw;first|(apply rx_move;rfl;rfl)|(apply rx_add;rfl;rfl;omega;rfl)|(apply rx_assign;rfl;rfl)|(apply rx_append;rfl;rfl;rfl;rfl;rfl;(case hl => (simp [flat_length]; done));(exact sC_imm (by (rfl)));omega;omega;(exact app_nilF (by (omega)));rfl;rfl)|(apply rw_nil;kernel_rfl))|(apply id_aw;first|apply aw_seq|apply aw_region|apply aw_block)|with_reducible apply tq_normal)
  refine aw_loopK (σ := Nat × List Tg × Nat) [0] [(0, _)] [] [] (fun s => [(6, iv (s.1 : Int)), (5, .own 1 0 s.2.2 2)]) (fun s => [(1, some (flat cTg s.2.1))]) (fun s => k + 1 ≤ s.1 ∧ s.1 ≤ stk.length ∧ s.2.1 = stk.take (k + 1) ++ ((stk.drop (k + 1)).take (s.1 - (k + 1))).filter (fun t => !t.uq) ∧ s.2.2 = s.2.1.length ∧ s.2.2 ≤ s.1) (fun s => stk.length - s.1) (k + 1, stk.take (k + 1), 0 + (stk.take (k + 1)).length) ⟨Nat.le_refl _, by dsimp only;omega, by simp, by dsimp only;omega, by dsimp only;omega⟩ rfl rfl (by repeat' (first|exact trivial|refine And.intro rfl ?_)) (by repeat' (first|exact trivial|refine And.intro (.inr rfl) ?_)) ?_
  rintro ⟨i, xs, n⟩ ⟨hki, hi, hxs, hn, hni⟩
  dsimp only at hki hi hxs hn hni ⊢
  repeat' (first|(apply id_rw;first|(apply rx_move;rfl;rfl)|(first|(apply rx_load1;rfl;rfl;rfl;rfl)|(apply rx_loadA;rfl;rfl;(exact (rfl:_=[_, _]));rfl;rfl;rfl))|(apply rx_fieldAddr;rfl;rfl;rfl)|(first|(apply rx_add;rfl;rfl;omega;rfl)|(apply rx_bin;rfl;rfl;rfl;rfl))|(apply rx_assign;rfl;rfl)|(apply rx_indexFN;(case hx|hi => rfl);(case hm => (omega));(case hml => (rfl));(case hα | hf|hg => infer_instance);(case hN => rfl))|(first|(apply rx_len;rfl;rfl;rfl)|(apply rx_append;rfl;rfl;rfl;rfl;rfl;(rw [flat_length]; omega);(rfl);omega;omega;(exact app_tg (by (assumption)));rfl;rfl))|(apply rw_nil;kernel_rfl)|(apply rx_not;rfl;rfl)|((apply rx_buildSliceI (t := _));(case hze|hsm|hl => rfl);(case hfl => (exact (rfl:_=some [_, _])));(case hM|hN => rfl)))|(apply id_aw;first|apply aw_seq|apply aw_region|(apply aw_cond;rfl;all_goals intro hc;have hq:=hc;(try simp only [bqs] at hq);try exfalso;omega)|apply aw_block|apply aw_skip|apply aw_exit|apply aw_ret)|with_reducible apply tq_normal|with_reducible apply tq_exit|with_reducible apply bq_normal|with_reducible apply bq_here)
  · (apply ex3 (i + 1, _, _); focus (refine Le.ren [(1, 3)] rfl (by decide) ?_ ?_ <;> repeat' (first | exact trivial | refine And.intro ⟨_, rfl, ?_⟩ ?_ | refine And.intro ⟨_, _, rfl, rfl, ?_⟩ ?_ | exact Or.inr rfl | refine Or.inl ⟨?_, (by first | rfl | exact pur_sl _ _)⟩ | rfl)))
    · refine ⟨by dsimp only; omega, by dsimp only; omega, ?_, by dsimp only; rw [List.length_append, hn]; rfl, by dsimp only; omega⟩
      dsimp only
      rw [hxs, take_succ_d stk hki (by omega), List.filter_append, List.append_assoc]
      congr 2
      have hu : stk[i]!.uq = false := by assumption
      rw [filter1_t (by rw [hu]; rfl)]
    · dsimp only;omega
  · (apply ex3 (i + 1, xs, n); focus (refine Le.ren [(1, 1)] rfl (by decide) ?_ ?_ <;> repeat' (first | exact trivial | refine And.intro ⟨_, rfl, ?_⟩ ?_ | refine And.intro ⟨_, _, rfl, rfl, ?_⟩ ?_ | exact Or.inr rfl | refine Or.inl ⟨?_, (by first | rfl | exact pur_sl _ _)⟩ | rfl)))
    · refine ⟨by dsimp only; omega, by dsimp only; omega, ?_, hn, by dsimp only; omega⟩
      dsimp only
      have hu : stk[i]!.uq = true := by assumption
      rw [hxs, take_succ_d stk hki (by omega), List.filter_append, filter1_f (by rw [hu]; rfl), List.append_nil]
    · dsimp only;omega
  · have hie : i = stk.length := by omega
    have hd : (stk.drop (k + 1)).take (stk.length - (k + 1)) = stk.drop (k + 1) := List.take_of_length_le (by rw [List.length_drop]; exact Nat.le_refl _)
    have hxr : xs = r := by rw [hxs, hie, hd, hr]; rfl
    subst hxr
    (refine rq_ret rfl ?_; refine mc_ret () trivial ?_ ⟨.inr (Eq.trans (b := some _) rfl ?_), trivial⟩)
    · rw [hn]; rfl
    · rfl
theorem rx_readO {m : List Cl} {x : Pt} {j : Nat} {r : List Tg} {v : Int} {N : Nat} {Q : Exit → AS → Prop} {all : Array Oper} {rest : List Oper} {tsl : List (Nat × AV)} {hsl : List (Nat × Option (List AV))} {nidl : Nat} {z0 : Lo} {md : Md} {d : Nat} {ty : TypeId} {pos : String} {af : Array Edge} {tys : Array TypeId} {x0 x1 : Operand} (ha0 : ev (lk tsl) x0 = some (sl cCl m)) (ha1 : ev (lk tsl) x1 = some (aPt x)) (hmc : MC Tryz.prog 134 [sl cCl m, aPt x] [] 0 (fun _ : Unit => True) (fun _ => .tup [.own 1 0 m.length 4, iv v, iv 0]) (fun _ => [(1, some (flat cCo (opn m j (.own 3 0 r.length 2)))), (3, some (flat cTg r))])) (hM : Nat.ble (nidl + 4) big = true) (hN : Nat.blt d N = true) {md' : Md} [hmd : MdA md (rOs [x0, x1] ++ []) (List.map Sum.inr (List.map Prod.fst ([((nidl + 1), some (flat cCo (opn m j (.own (nidl + 3) 0 r.length 2)))), ((nidl + 3), some (flat cTg r))] : List (Nat × Option (List AV)))) ++ [.inl d]) md'] (kk : RW Tryz.prog N all Q md' rest ⟨(d, .tup [.own (nidl + 1) 0 m.length 4, iv v, iv 0]) :: tsl, wrH hsl [((nidl + 1), some (flat cCo (opn m j (.own (nidl + 3) 0 r.length 2)))), ((nidl + 3), some (flat cTg r))], nidl + 4, z0⟩) : RW Tryz.prog N all Q md (⟨some d, .call ⟨.value (.func 134), #[x0, x1], tys⟩, ty, pos, af, none⟩ :: rest) ⟨tsl, hsl, nidl, z0⟩ := by
  refine rx_mcallE [] 4 [((nidl + 1), some (flat cCo (opn m j (.own (nidl + 3) 0 r.length 2)))), ((nidl + 3), some (flat cTg r))] hmc (avs := [sl cCl m, aPt x]) ?_ rfl ?_ rfl ?_ (by simpa using hM) ?_ ?_ ?_ hN (md' := md') (hmd := hmd) kk
  · show evL (lk tsl) [x0, x1] = _
    simp only [evL, ha0, ha1]
  · exact trivial
  · (repeat' (exact RnL.purI inferInstance))
  · (repeat' (first|exact RnL.purI inferInstance|exact RnV.own rfl|refine RnL.cons ?_ ?_|refine RnV.tup ?_))
  · simp [wsAll]
  · (repeat' (first|exact trivial|(refine And.intro ⟨1, _, rfl, rfl, ?_⟩ ?_)|(refine And.intro ⟨3, _, rfl, rfl, ?_⟩ ?_)|exact RnL.purI inferInstance|exact rn_opn rfl))
theorem readO_c (m : List Cl) (x : Pt) (j : Nat) (r : List Tg) (v : Int) (hm : OkM m) (hk : tchK m x false = 0) (hj : j = x.cell.toNat) (hr : r = tchS m[j]!.stk (tgIx m[j]!.stk x.tag).toNat false) (hv : v = m[j]!.val) : MC Tryz.prog 134 [sl cCl m, aPt x] [] 0 (fun _ : Unit => True) (fun _ => .tup [.own 1 0 m.length 4, iv v, iv 0]) (fun _ => [(1, some (flat cCo (opn m j (.own 3 0 r.length 2)))), (3, some (flat cTg r))]) := by
  subst hj
  have hml := hm.l
  have hst : 0 ≤ x.cell → x.cell < m.length → m[x.cell.toNat]!.stk.length ≤ 1000000 := fun h1 h2 => Nat.le_trans (((OkM_iff m).1 hm).2 x.cell.toNat (by omega)).l.2 (by decide)
  have hpl := l6Place_c m hm x
  rw [if_pos hk, hk] at hpl
  obtain ⟨h1, h2, h3, h4, _⟩ := tchK_in hk
  have hbd := tgIx_bd m[x.cell.toNat]!.stk x.tag
  have hrd := l6ReadM_c m[x.cell.toNat]!.stk r (tgIx m[x.cell.toNat]!.stk x.tag).toNat hr (by omega) (hst h1 h2)
  rw [Int.toNat_of_nonneg h4] at hrd
  obtain ⟨k, hkk⟩ := Int.eq_ofNat_of_zero_le h4
  rw [hkk] at hpl hrd
  (refine mc_of_aw Tryz.func134 rfl (by simp [Tryz.ntmps134]) ?_; rw [Tryz.ntmps134])
  repeat' (first|(apply id_rw;first|(apply rx_l6CopyM;rfl;exact l6CopyM_c m hm;rfl;rfl)|((with_reducible apply rx_callE (k := 171));(case ha => rfl);(case h => exact hpl);(case hp => (exact Pur.pf));(case hN => rfl))|(apply rx_l6ReadM;rfl;rfl;exact hrd;rfl;rfl)|(apply rx_move;rfl;rfl)|(first|(apply rx_load1;rfl;rfl;rfl;rfl)|(apply rx_loadA;rfl;rfl;(exact (rfl:_=[_, _]));rfl;rfl;rfl))|(apply rx_fieldAddr;rfl;rfl;rfl)|(apply rx_bin;rfl;rfl;rfl;rfl)|(apply rx_assign;rfl;rfl)|(first|(apply rx_indexF;(case hx|hi => rfl);(case hm => (omega));(case hml => (rfl));(case hα | hf|hg => infer_instance);(case hN => rfl))|(apply rx_indexO;rfl;rfl;(omega);rfl))|(apply rw_nil;kernel_rfl)|(apply rx_box;rfl;rfl;rfl;rfl)|(apply rx_extract;rfl;rfl;rfl)|(apply rx_store;rfl;rfl;rfl;rfl;rfl;(rw [flat_length]; simp only [lns] <;> omega);(exact spl_opn (by (omega)))))|(apply id_aw;first|apply aw_seq|apply aw_region|(apply aw_draw;kernel_rfl)|(apply aw_condF;rfl;(rfl))|apply aw_skip|apply aw_ret)|with_reducible apply tq_normal)
  (refine rq_ret rfl ?_; refine mc_ret () trivial ?_ ⟨.inr (Eq.trans (b := some _) rfl ?_), ⟨.inr (Eq.trans (b := some _) rfl ?_), trivial⟩⟩)
  · rw [hv]; rfl
  · rfl
  · rfl
theorem rx_writeO {m : List Cl} {x : Pt} {j : Nat} {r : List Tg} {N : Nat} {Q : Exit → AS → Prop} {all : Array Oper} {rest : List Oper} {tsl : List (Nat × AV)} {hsl : List (Nat × Option (List AV))} {nidl : Nat} {z0 : Lo} {md : Md} {d : Nat} {ty : TypeId} {pos : String} {af : Array Edge} {tys : Array TypeId} {x0 x1 : Operand} (ha0 : ev (lk tsl) x0 = some (sl cCl m)) (ha1 : ev (lk tsl) x1 = some (aPt x)) (hmc : MC Tryz.prog 168 [sl cCl m, aPt x] [] 0 (fun _ : Unit => True) (fun _ => .tup [.own 1 0 m.length 4, iv 0]) (fun _ => [(1, some (flat cCo (opn m j (.own 3 0 r.length 2)))), (3, some (flat cTg r))])) (hM : Nat.ble (nidl + 4) big = true) (hN : Nat.blt d N = true) {md' : Md} [hmd : MdA md (rOs [x0, x1] ++ []) (List.map Sum.inr (List.map Prod.fst ([((nidl + 1), some (flat cCo (opn m j (.own (nidl + 3) 0 r.length 2)))), ((nidl + 3), some (flat cTg r))] : List (Nat × Option (List AV)))) ++ [.inl d]) md'] (kk : RW Tryz.prog N all Q md' rest ⟨(d, .tup [.own (nidl + 1) 0 m.length 4, iv 0]) :: tsl, wrH hsl [((nidl + 1), some (flat cCo (opn m j (.own (nidl + 3) 0 r.length 2)))), ((nidl + 3), some (flat cTg r))], nidl + 4, z0⟩) : RW Tryz.prog N all Q md (⟨some d, .call ⟨.value (.func 168), #[x0, x1], tys⟩, ty, pos, af, none⟩ :: rest) ⟨tsl, hsl, nidl, z0⟩ := by
  refine rx_mcallE [] 4 [((nidl + 1), some (flat cCo (opn m j (.own (nidl + 3) 0 r.length 2)))), ((nidl + 3), some (flat cTg r))] hmc (avs := [sl cCl m, aPt x]) ?_ rfl ?_ rfl ?_ (by simpa using hM) ?_ ?_ ?_ hN (md' := md') (hmd := hmd) kk
  · show evL (lk tsl) [x0, x1] = _
    simp only [evL, ha0, ha1]
  · exact trivial
  · (repeat' (exact RnL.purI inferInstance))
  · (repeat' (first|exact RnL.purI inferInstance|exact RnV.own rfl|refine RnL.cons ?_ ?_|refine RnV.tup ?_))
  · simp [wsAll]
  · (repeat' (first|exact trivial|(refine And.intro ⟨1, _, rfl, rfl, ?_⟩ ?_)|(refine And.intro ⟨3, _, rfl, rfl, ?_⟩ ?_)|exact RnL.purI inferInstance|exact rn_opn rfl))
theorem writeO_c (m : List Cl) (x : Pt) (j : Nat) (r : List Tg) (hm : OkM m) (hk : tchK m x true = 0) (hj : j = x.cell.toNat) (hr : r = tchS m[j]!.stk (tgIx m[j]!.stk x.tag).toNat true) : MC Tryz.prog 168 [sl cCl m, aPt x] [] 0 (fun _ : Unit => True) (fun _ => .tup [.own 1 0 m.length 4, iv 0]) (fun _ => [(1, some (flat cCo (opn m j (.own 3 0 r.length 2)))), (3, some (flat cTg r))]) := by
  subst hj
  have hml := hm.l
  obtain ⟨h1, h2, h3, h4, hu⟩ := tchK_in hk
  have hk0 : tchK m x false = 0 := tchK_0f h1 h2 h3 h4
  have hs2 : m[x.cell.toNat]!.stk.length ≤ 200 := (((OkM_iff m).1 hm).2 x.cell.toNat (by omega)).l.2
  have hpl := l6Place_c m hm x
  rw [if_pos hk0, hk0] at hpl
  have hbd := tgIx_bd m[x.cell.toNat]!.stk x.tag
  obtain ⟨k, hkk⟩ := Int.eq_ofNat_of_zero_le h4
  have hkt : (tgIx m[x.cell.toNat]!.stk x.tag).toNat = k := by omega
  rw [hkk] at hpl
  rw [hkt] at hr hu
  have hkn : k < m[x.cell.toNat]!.stk.length := by omega
  have e1 : List.take (((k : Int) + 1).toNat - 0) (List.drop 0 m[x.cell.toNat]!.stk) = r := by rw [List.drop_zero, hr]; unfold tchS;rw [if_pos rfl]; congr 1
  have e2 : r.length = k + 1 := by rw [← e1, List.drop_zero, List.length_take]; omega
  have hut := hu rfl
  (refine mc_of_aw Tryz.func168 rfl (by simp [Tryz.ntmps168]) ?_; rw [Tryz.ntmps168])
  repeat' (first|(apply id_rw;first|(apply rx_l6CopyM;rfl;exact l6CopyM_c m hm;rfl;rfl)|((with_reducible apply rx_callE (k := 171));(case ha => rfl);(case h => exact hpl);(case hp => (exact Pur.pf));(case hN => rfl))|(with_reducible apply rw_stop (d := 46))|(apply rx_move;rfl;rfl)|(first|(apply rx_load1;rfl;rfl;rfl;rfl)|(apply rx_loadA;rfl;rfl;(exact (rfl:_=[_, _]));rfl;rfl;rfl))|(apply rx_fieldAddr;rfl;rfl;rfl)|(first|(apply rx_add;rfl;rfl;omega;rfl)|(apply rx_bin;rfl;rfl;rfl;rfl))|(apply rx_assign;rfl;rfl)|(first|(apply rx_indexFN;(case hx|hi => rfl);(case hm => (assumption));(case hml => (rfl));(case hα | hf|hg => infer_instance);(case hN => rfl))|(apply rx_indexF;(case hx|hi => rfl);(case hm => (omega));(case hml => (rfl));(case hα | hf|hg => infer_instance);(case hN => rfl)))|(apply rw_nil;kernel_rfl)|(apply rx_sliceF;rfl;infer_instance;rfl;rfl;(omega);rfl)|(apply rx_not;rfl;rfl)|(apply rx_box;rfl;rfl;rfl;rfl)|(apply rx_extract;rfl;rfl;rfl)|(apply rx_buildSlice;rfl;rfl;rfl;(rfl);rfl;rfl))|(apply id_aw;first|apply aw_seq|apply aw_region|(apply aw_draw;kernel_rfl)|(apply aw_condF;rfl;(rfl))|(apply aw_cond;rfl;all_goals intro hc;have hq:=hc;(try simp only [bqs] at hq);try exfalso;omega)|apply aw_skip|apply aw_ret)|with_reducible apply tq_normal|with_reducible apply tq_ret)
  · exfalso; have hf : m[x.cell.toNat]!.stk[k]!.uq = false := by assumption
    rw [hut] at hf;exact absurd hf (by decide)
  refine rw_go ?_
  rw [e1]
  repeat' (first|(apply id_rw;first|(apply rx_move;rfl;rfl)|(apply rx_fieldAddr;rfl;rfl;rfl)|(apply rx_assign;rfl;rfl)|(apply rx_indexO;rfl;rfl;(omega);rfl)|(apply rx_append;rfl;rfl;rfl;rfl;rfl;(case hl => (simp [flat_length]; done));(exact sC_imm (by (rfl)));omega;omega;(exact app_nilF (by (omega)));rfl;rfl)|(apply rw_nil;kernel_rfl)|(apply rx_store;rfl;rfl;rfl;rfl;rfl;(rw [flat_length]; simp only [lns] <;> omega);(exact spl_opn (by (omega)))))|(apply id_aw;first|apply aw_seq|apply aw_region|apply aw_ret)|with_reducible apply tq_normal)
  (refine rq_ret rfl ?_; refine mc_ret () trivial ?_ ⟨.inr (Eq.trans (b := some _) rfl ?_), ⟨.inr (Eq.trans (b := some _) rfl ?_), trivial⟩⟩)
  · rfl
  · rw [Nat.zero_add r.length]
  · rfl
theorem lnK_0 {m : List Cl} {x : Pt} {u : Bool} {r : List Tg} (hk : tchK m x u = 0) (hr : r = tchS m[x.cell.toNat]!.stk (tgIx m[x.cell.toNat]!.stk x.tag).toNat u) : lnK m x u = pshK m x.cell.toNat r ∧ lnM m x u = pshM m m x.cell.toNat u r ∧ lnP m x u = pshP m x.cell.toNat r := by
  obtain ⟨h1, h2, _⟩ := tchK_in hk
  subst hr
  have e : lnK m x u = pshK m x.cell.toNat (tchS m[x.cell.toNat]!.stk (tgIx m[x.cell.toNat]!.stk x.tag).toNat u) := by
    unfold lnK;rw [if_pos hk]; rfl
  refine ⟨e, ?_, ?_⟩
  · unfold lnM pshM
    rw [e]; unfold pshK
    split
    · rw [if_neg (by decide)]
    · rw [if_pos rfl]; rfl
  · unfold lnP pshP
    rw [e]; unfold pshK
    split
    · rw [if_neg (by decide)]
    · rw [if_pos rfl, Int.toNat_of_nonneg h1]
theorem lnK_n {m : List Cl} {x : Pt} {u : Bool} (hk : tchK m x u ≠ 0) : lnK m x u = tchK m x u ∧ lnM m x u = m ∧ lnP m x u = ⟨0, 0⟩ := by
  have e : lnK m x u = tchK m x u := by unfold lnK;rw [if_neg hk]
  exact ⟨e, by unfold lnM;rw [if_neg (by rw [e]; exact hk)], by unfold lnP;rw [if_neg (by rw [e]; exact hk)]⟩
theorem ShareCellS_c (m : List Cl) (hm : OkM m) (x : Pt) : PC Tryz.prog 169 [sl cCl m, aPt x] (fun r => r = .tup [sl cCl (lnM m x false), aPt (lnP m x false), iv (lnK m x false)]) := by
  have hml := hm.l
  by_cases hk : tchK m x false = 0
  · obtain ⟨c, t⟩ := x
    obtain ⟨h1, h2, _⟩ := tchK_in hk
    have h1' : 0 ≤ c := h1
    obtain ⟨j, rfl⟩ := Int.eq_ofNat_of_zero_le h1'
    have h2' : (j : Int) < m.length := h2
    have hc := ((OkM_iff m).1 hm).2 j (by omega)
    obtain ⟨r, hr⟩ : ∃ r, r = tchS m[j]!.stk (tgIx m[j]!.stk t).toNat false := ⟨_, rfl⟩
    have hrl : r.length ≤ 200 := by rw [hr]; exact Nat.le_trans tchS_sub.length_le hc.l.2
    obtain ⟨e1, e2, e3⟩ := lnK_0 hk hr
    have hpu := l6Push_c m m j false r m.length r.length hm rfl rfl (by omega) (by have := hc.n;omega) hrl hml
    rw [e1, e2, e3]
    (refine pc_of_aw Tryz.func169 rfl (by simp [Tryz.ntmps169]) ?_; rw [Tryz.ntmps169])
    repeat' (first|(apply id_rw;first|((apply rx_readO (j := j) (r := r) (v := m[j]!.val));(case ha0|ha1 => rfl);(case hmc => exact readO_c m _ _ r _ hm hk rfl hr rfl);(case hM|hN => rfl))|((apply rx_l6Push (m := m) (b := m) (j := j) (u := false) (r := r) (n := m.length) (k := r.length));(case ha0|ha1|ha2|ha3|hH0|hH1|hdd => rfl);(case hmc => exact hpu);(case hM|hN => rfl))|(apply rx_move;rfl;rfl)|(first|(apply rx_load1;rfl;rfl;rfl;rfl)|(apply rx_loadA;rfl;rfl;(exact (rfl:_=[_, _]));rfl;rfl;rfl))|(apply rx_fieldAddr;rfl;rfl;rfl)|(apply rx_bin;rfl;rfl;rfl;rfl)|(apply rx_assign;rfl;rfl)|(apply rw_nil;kernel_rfl)|(apply rx_box;rfl;rfl;rfl;rfl)|(apply rx_alloc;rfl;rfl)|(apply rx_extract;rfl;rfl;rfl)|(apply rx_store;rfl;rfl;rfl;rfl;rfl;(case hl => (simp;done));(exact (rfl:_=[_, _]))))|(apply id_aw;first|apply aw_seq|apply aw_region|(apply aw_condF;rfl;(rfl))|apply aw_skip|apply aw_ret)|with_reducible apply tq_normal)
    exact rq_ret (l := [sl cCl (pshM m m j false r), .agg [iv (pshP m j r).cell, iv (pshP m j r).tag], iv (pshK m j r)]) rfl ⟨rfl, by (exact Pur.pf)⟩
  · obtain ⟨e1, e2, e3⟩ := lnK_n hk
    have hrd := ReadCellS_c m hm x
    have e4 : tchM m x false = m := by unfold tchM;rw [if_neg hk]
    rw [e4] at hrd
    rw [e1, e2, e3]
    (refine pc_of_aw Tryz.func169 rfl (by simp [Tryz.ntmps169]) ?_; rw [Tryz.ntmps169])
    repeat' (first|(apply id_rw;first|((with_reducible apply rx_callE (k := 134));(case ha => rfl);(case h => exact hrd);(case hp => (exact Pur.pf));(case hN => rfl))|(apply rx_move;rfl;rfl)|(apply rx_loadA;rfl;rfl;(exact (rfl:_=[_, _]));rfl;rfl;rfl)|(apply rx_bin;rfl;rfl;rfl;rfl)|(apply rx_assign;rfl;rfl)|(apply rw_nil;kernel_rfl)|(apply rx_buildK;rfl;(exact (rfl:_=some [_, _]));(exact (rfl:_=[_, _]));rfl)|(apply rx_box;rfl;rfl;rfl;rfl)|(apply rx_alloc;rfl;rfl)|(apply rx_extract;rfl;rfl;rfl)|(apply rx_store;rfl;rfl;rfl;rfl;rfl;(decide);(exact (rfl:_=[_, _]))))|(apply id_aw;first|apply aw_seq|apply aw_region|(apply aw_cond;rfl;all_goals intro hc;have hq:=hc;(try simp only [bqs] at hq);try exfalso;omega)|apply aw_ret)|with_reducible apply tq_normal|with_reducible apply tq_ret)
    skip
    exact rq_ret (l := [sl cCl m, .agg [iv 0, iv 0], iv (tchK m x false)]) rfl ⟨rfl, by (exact Pur.pf)⟩
theorem BorrowCellS_c (m : List Cl) (hm : OkM m) (x : Pt) : PC Tryz.prog 170 [sl cCl m, aPt x] (fun r => r = .tup [sl cCl (lnM m x true), aPt (lnP m x true), iv (lnK m x true)]) := by
  have hml := hm.l
  by_cases hk : tchK m x true = 0
  · obtain ⟨c, t⟩ := x
    obtain ⟨h1, h2, _⟩ := tchK_in hk
    have h1' : 0 ≤ c := h1
    obtain ⟨j, rfl⟩ := Int.eq_ofNat_of_zero_le h1'
    have h2' : (j : Int) < m.length := h2
    have hc := ((OkM_iff m).1 hm).2 j (by omega)
    obtain ⟨r, hr⟩ : ∃ r, r = tchS m[j]!.stk (tgIx m[j]!.stk t).toNat true := ⟨_, rfl⟩
    have hrl : r.length ≤ 200 := by rw [hr]; exact Nat.le_trans tchS_sub.length_le hc.l.2
    obtain ⟨e1, e2, e3⟩ := lnK_0 hk hr
    have hpu := l6Push_c m m j true r m.length r.length hm rfl rfl (by omega) (by have := hc.n;omega) hrl hml
    rw [e1, e2, e3]
    (refine pc_of_aw Tryz.func170 rfl (by simp [Tryz.ntmps170]) ?_; rw [Tryz.ntmps170])
    repeat' (first|(apply id_rw;first|((apply rx_writeO (j := j) (r := r));(case ha0|ha1 => rfl);(case hmc => exact writeO_c m _ _ r hm hk rfl hr);(case hM|hN => rfl))|((apply rx_l6Push (m := m) (b := m) (j := j) (u := true) (r := r) (n := m.length) (k := r.length));(case ha0|ha1|ha2|ha3|hH0|hH1|hdd => rfl);(case hmc => exact hpu);(case hM|hN => rfl))|(apply rx_move;rfl;rfl)|(first|(apply rx_load1;rfl;rfl;rfl;rfl)|(apply rx_loadA;rfl;rfl;(exact (rfl:_=[_, _]));rfl;rfl;rfl))|(apply rx_fieldAddr;rfl;rfl;rfl)|(apply rx_bin;rfl;rfl;rfl;rfl)|(apply rx_assign;rfl;rfl)|(apply rw_nil;kernel_rfl)|(apply rx_box;rfl;rfl;rfl;rfl)|(apply rx_alloc;rfl;rfl)|(apply rx_extract;rfl;rfl;rfl)|(apply rx_store;rfl;rfl;rfl;rfl;rfl;(case hl => (simp;done));(exact (rfl:_=[_, _]))))|(apply id_aw;first|apply aw_seq|apply aw_region|(apply aw_condF;rfl;(rfl))|apply aw_skip|apply aw_ret)|with_reducible apply tq_normal)
    exact rq_ret (l := [sl cCl (pshM m m j true r), .agg [iv (pshP m j r).cell, iv (pshP m j r).tag], iv (pshK m j r)]) rfl ⟨rfl, by (exact Pur.pf)⟩
  · obtain ⟨e1, e2, e3⟩ := lnK_n hk
    have hwr := l6WriteM_c m x hm
    have e4 : tchM m x true = m := by unfold tchM;rw [if_neg hk]
    rw [e1, e2, e3]
    (refine pc_of_aw Tryz.func170 rfl (by simp [Tryz.ntmps170]) ?_; rw [Tryz.ntmps170])
    repeat' (first|(apply id_rw;first|(apply rx_l6WriteM;rfl;rfl;exact hwr;rfl;rfl)|(apply rx_move;rfl;rfl)|(apply rx_loadA;rfl;rfl;(exact (rfl:_=[_, _]));rfl;rfl;rfl)|(apply rx_bin;rfl;rfl;rfl;rfl)|(apply rx_assign;rfl;rfl)|(apply rw_nil;kernel_rfl)|(apply rx_buildK;rfl;(exact (rfl:_=some [_, _]));(exact (rfl:_=[_, _]));rfl)|(apply rx_box;rfl;rfl;rfl;rfl)|(apply rx_alloc;rfl;rfl)|(apply rx_extract;rfl;rfl;rfl)|(apply rx_store;rfl;rfl;rfl;rfl;rfl;(decide);(exact (rfl:_=[_, _]))))|(apply id_aw;first|apply aw_seq|apply aw_region|(apply aw_cond;rfl;all_goals intro hc;have hq:=hc;(try simp only [bqs] at hq);try exfalso;omega)|apply aw_ret)|with_reducible apply tq_normal|with_reducible apply tq_ret)
    refine rq_le (Le.frzD (d := 4) (i := 3) (m := m.length) (cs := flat cCl (tchM m x true)) rfl rfl) ?_
    rw [e4]
    exact rq_ret (l := [sl cCl m, .agg [iv 0, iv 0], iv (tchK m x true)]) rfl ⟨rfl, by (exact Pur.pf)⟩
abbrev aMc (s : Mc) : AV := .agg [sl cSl s.slots, sl cCl s.cells, sl cI s.read]
theorem st_sl {xs : List Sl} {k : Nat} {a : Bool} {b c d : Int} (hk : k < xs.length) : spl (flat cSl xs) (0 + k * 4) [bv a, iv b, iv c, iv d] = flat cSl (xs.set k ⟨a, b, ⟨c, d⟩⟩) := st_flat0 hk rfl
theorem l7Clear_c (s : Mc) (v : Nat) (hv : v < s.slots.length) (hl : s.slots.length ≤ 1000000) : PC Tryz.prog 129 [aMc s, iv (v : Int)] (fun r => r = aMc ⟨s.slots.set v sl0, s.cells, s.read⟩) := by
  (refine pc_of_aw Tryz.func129 rfl (by simp [Tryz.ntmps129]) ?_; rw [Tryz.ntmps129])
  repeat' (first|(apply id_rw;first|(apply rx_move;rfl;rfl)|(first|(apply rx_load1;rfl;rfl;rfl;rfl)|(apply rx_loadA;rfl;rfl;(exact (rfl:_=[_, _, _]));rfl;rfl;rfl))|(apply rx_fieldAddr;rfl;rfl;rfl)|(apply rx_indexON;rfl;rfl;(omega);rfl)|(apply rx_append;rfl;rfl;rfl;rfl;rfl;(case hl => (simp [flat_length]; done));(exact sC_imm (by (rfl)));omega;omega;(exact app_nilF (by (omega)));rfl;rfl)|(apply rw_nil;kernel_rfl)|(apply rx_buildK;rfl;(exact (rfl:_=some [_, _, _, _]));(exact (rfl:_=[_, _, _, _]));rfl)|(apply rx_box;rfl;rfl;rfl;rfl)|(apply rx_alloc;rfl;rfl)|(apply rx_buildSlice;rfl;rfl;rfl;(rfl);rfl;rfl)|(apply rx_store;rfl;rfl;rfl;rfl;rfl;(case hl => (first|(rw [flat_length]; simp only [lns] <;> omega)|(simp;done)));(first|exact st_sl (by (assumption))|exact (rfl:_=[_, _, _]))))|(apply id_aw;first|apply aw_seq|apply aw_region|apply aw_ret)|with_reducible apply tq_normal)
  refine rq_le (Le.frzC (j := 1) (i := 3) [] rfl rfl (by decide)) ?_
  have e : AV.imm (0 + s.slots.length) (flat cSl (s.slots.set v sl0)) = sl cSl (s.slots.set v sl0) := sl_len (by rw [List.length_set, Nat.zero_add])
  refine rq_ret (l := [.agg [.imm (0 + s.slots.length) (flat cSl (s.slots.set v sl0)), sl cCl s.cells, sl cI s.read]]) rfl ?_
  rw [e]
  exact ⟨rfl, by (exact Pur.pf)⟩
theorem goK_0 (k : Int) : (if goK k = -1 then (0 : Int) else goK k) = if k = 1 then 3 else if k = 0 then 0 else 4 := by
  unfold goK endK
  by_cases h : k = 0
  · subst h;rfl
  · rw [if_neg h, if_neg h]
    by_cases h1 : k = 1
    · rw [if_pos h1]; rfl
    · rw [if_neg h1]; rfl
theorem l7Put_c (ts : List Int) (s : Mc) (v : Nat) (y : Sl) (hm : OkM s.cells) (hv : v < s.slots.length) (hvt : v < ts.length) (hl : s.slots.length ≤ 1000000) : PC Tryz.prog 130 [sl cI ts, aMc s, iv (v : Int), aSl y] (fun r => r = .tup [aMc (putF ts s v y).1, iv (if (putF ts s v y).2 = -1 then 0 else (putF ts s v y).2)]) := by
  have hfc := FreeCellS_c s.cells hm s.slots[v]!.ptr
  (refine pc_of_aw Tryz.func130 rfl (by simp [Tryz.ntmps130]) ?_; rw [Tryz.ntmps130])
  repeat' (first|(apply id_rw;first|((with_reducible apply rx_callE (k := 127));(case ha => rfl);(case h => exact hfc);(case hp => (exact Pur.pf));(case hN => rfl))|(apply rx_move;rfl;rfl)|(first|(apply rx_load1;rfl;rfl;rfl;rfl)|(apply rx_loadA;rfl;rfl;(first|exact (rfl:_=[_, _])|exact (rfl:_=[_, _, _])|exact (rfl:_=[_, _, _, _]));rfl;rfl;rfl))|(apply rx_fieldAddr;rfl;rfl;rfl)|(first|(apply rx_guardY;rfl;rfl;rfl;(assumption))|(apply rx_guardNs;rfl;rfl;rfl;(assumption))|(apply rx_guardS;(case hj|hb|hN => rfl);all_goals (intro hg;have hq := hg;(try simp only [bqs] at hq);(try (exfalso;omega)))))|(apply rx_bin;rfl;rfl;rfl;rfl)|(apply rx_assign;rfl;rfl)|(first|(apply rx_pickT;rfl;(assumption);rfl;rfl)|(apply rx_pickF;rfl;(assumption);rfl;rfl))|(first|(apply rx_indexFN;(case hx|hi => rfl);(case hm => (assumption));(case hml => (rfl));(case hα | hf|hg => infer_instance);(case hN => rfl))|(apply rx_indexON;rfl;rfl;(omega);rfl))|((with_reducible apply rx_callE (k := 128));(case ha => rfl);(case h => (apply l7Code_c <;> (fail)));(case hp => (rfl));(case hN => rfl))|(apply rx_append;rfl;rfl;rfl;rfl;rfl;(case hl => (simp [flat_length]; done));(exact sC_imm (by (rfl)));omega;omega;(exact app_nilF (by (omega)));rfl;rfl)|(apply rw_nil;kernel_rfl)|(apply rx_box;rfl;rfl;rfl;rfl)|(apply rx_alloc;rfl;rfl)|(apply rx_extract;rfl;rfl;rfl)|(apply rx_buildSlice;rfl;rfl;rfl;(rfl);rfl;rfl)|(apply rx_store;rfl;rfl;rfl;rfl;rfl;(case hl => (first|(rw [flat_length]; simp only [lns] <;> omega)|(simp;done)));(first|exact st_sl (by (assumption))|exact (rfl:_=[_, _, _]))))|(apply id_aw;first|apply aw_seq|apply aw_region|(apply aw_draw;kernel_rfl)|(apply aw_condF;rfl;(rfl))|(apply aw_cond;rfl;all_goals intro hc;have hq:=hc;(try simp only [bqs] at hq);try exfalso;omega)|apply aw_skip|apply aw_ret)|with_reducible apply tq_normal)
  all_goals (
    refine rq_le (Le.frzC (j := 2) (i := 4) [] rfl rfl (by decide)) ?_
    have e : AV.imm (0 + s.slots.length) (flat cSl (s.slots.set v y)) = sl cSl (s.slots.set v y) := sl_len (by rw [List.length_set, Nat.zero_add]))
  · have hp : putF ts s v y = (⟨s.slots.set v y, frM s.cells s.slots[v]!.ptr, s.read⟩, goK (tchK s.cells s.slots[v]!.ptr true)) := if_pos ⟨by assumption, by assumption⟩
    refine rq_ret (l := [.agg [.imm (0 + s.slots.length) (flat cSl (s.slots.set v y)), sl cCl (frM s.cells s.slots[v]!.ptr), sl cI s.read], iv (if tchK s.cells s.slots[v]!.ptr true = 1 then 3 else if tchK s.cells s.slots[v]!.ptr true = 0 then 0 else 4)]) rfl ?_
    rw [e, hp]
    dsimp only
    rw [goK_0]
    exact ⟨rfl, by (exact Pur.pf)⟩
  all_goals (
    have hp : putF ts s v y = (⟨s.slots.set v y, s.cells, s.read⟩, -1) := if_neg (by
      rintro ⟨q1, q2⟩
      first|(exact (by assumption : ¬ ts[v]! = 2) q1)|(rw [(by assumption : s.slots[v]!.set = false)] at q2;exact absurd q2 (by decide)))
    refine rq_ret (l := [.agg [.imm (0 + s.slots.length) (flat cSl (s.slots.set v y)), sl cCl s.cells, sl cI s.read], iv 0]) rfl ?_
    rw [e, hp]
    exact ⟨rfl, by (exact Pur.pf)⟩)
def gk (e : Int) : Int := if e = -1 then 0 else e
theorem tkT_t {t : Int} (h : t = 2 ∨ t = 4) : tkT t = true := by
  unfold tkT;rcases h with h|h <;> subst h <;> rfl
theorem tkT_f {t : Int} (h : ¬ t = 2) (h2 : ¬ t = 4) : ¬ tkT t = true := by
  unfold tkT;rw [decide_eq_false h, decide_eq_false h2]; decide
theorem endK_n {k : Int} (h : ¬ k = 0) : (if k = 1 then (3 : Int) else if k = 0 then 0 else 4) = endK k := by
  unfold endK;rw [if_neg h]
theorem lnM_n {m : List Cl} {x : Pt} {u : Bool} (h : ¬ lnK m x u = 0) : lnM m x u = m := by unfold lnM; rw [if_neg h]
theorem l7Move_c (ts : List Int) (s : Mc) (x : Pnt) (hm : OkM s.cells) (hsl : s.slots.length = ts.length) (hx : 0 ≤ x.x ∧ x.x < ts.length) (hy : 0 ≤ x.y ∧ x.y < ts.length) (hl : ts.length ≤ 1000000) : PC Tryz.prog 132 [sl cI ts, aMc s, aPnt x] (fun r => r = .tup [aMc (putF ts (if tkT ts[x.y.toNat]! = true then ⟨s.slots.set x.y.toNat sl0, s.cells, s.read⟩ else s) x.x.toNat s.slots[x.y.toNat]!).1, iv (gk (putF ts (if tkT ts[x.y.toNat]! = true then ⟨s.slots.set x.y.toNat sl0, s.cells, s.read⟩ else s) x.x.toNat s.slots[x.y.toNat]!).2)]) := by
  have hcl := l7Clear_c s x.y.toNat (by omega) (by omega)
  have hp1 := l7Put_c ts ⟨s.slots.set x.y.toNat sl0, s.cells, s.read⟩ x.x.toNat s.slots[x.y.toNat]! hm (by show _ < (s.slots.set x.y.toNat sl0).length;rw [List.length_set]; omega) (by omega) (by show (s.slots.set x.y.toNat sl0).length ≤ _; rw [List.length_set]; omega)
  have hp2 := l7Put_c ts s x.x.toNat s.slots[x.y.toNat]! hm (by omega) (by omega) (by omega)
  rw [Int.toNat_of_nonneg hy.1] at hcl
  rw [Int.toNat_of_nonneg hx.1] at hp1 hp2
  (refine pc_of_aw Tryz.func132 rfl (by simp [Tryz.ntmps132]) ?_; rw [Tryz.ntmps132])
  repeat' (first|(apply id_rw;first|((with_reducible apply rx_callE (k := 129));(case ha => rfl);(case h => exact hcl);(case hp => (exact Pur.pf));(case hN => rfl))|((with_reducible apply rx_callE (k := 130));(case ha => rfl);(case h => first|exact hp1|exact hp2);(case hp => (exact Pur.pf));(case hN => rfl))|(apply rx_move;rfl;rfl)|(first|(apply rx_load1;rfl;rfl;rfl;rfl)|(apply rx_loadA;rfl;rfl;(first|exact (rfl:_=[_, _, _])|exact (rfl:_=[_, _, _, _]));rfl;rfl;rfl))|(apply rx_fieldAddr;rfl;rfl;rfl)|(first|(apply rx_guardY;rfl;rfl;rfl;(assumption))|(apply rx_guardNs;rfl;rfl;rfl;(assumption))|(apply rx_guardS;(case hj|hb|hN => rfl);all_goals (intro hg;have hq := hg;(try simp only [bqs] at hq);(try (exfalso;omega)))))|(apply rx_bin;rfl;rfl;rfl;rfl)|(apply rx_assign;rfl;rfl)|(first|(apply rx_pickT;rfl;(assumption);rfl;rfl)|(apply rx_pickF;rfl;(assumption);rfl;rfl))|(apply rx_indexF;(case hx|hi => rfl);(case hm => (first|assumption|omega));(case hml => (rfl));(case hα | hf|hg => infer_instance);(case hN => rfl))|(apply rw_nil;kernel_rfl)|(apply rx_box;rfl;rfl;rfl;rfl)|(apply rx_alloc;rfl;rfl)|(apply rx_extract;rfl;rfl;rfl)|(apply rx_store;rfl;rfl;rfl;rfl;rfl;(case hl => (simp;done));(first|exact (rfl:_=[_, _, _])|exact (rfl:_=[_, _, _, _]))))|(apply id_aw;first|apply aw_seq|apply aw_region|(apply aw_condT;rfl;(rfl))|(apply aw_cond;rfl;all_goals intro hc;have hq:=hc;(try simp only [bqs] at hq);try exfalso;omega)|apply aw_skip|apply aw_ret)|with_reducible apply tq_normal)
  · refine rq_ret (l := [aMc (putF ts ⟨s.slots.set x.y.toNat sl0, s.cells, s.read⟩ x.x.toNat s.slots[x.y.toNat]!).1, iv (gk (putF ts ⟨s.slots.set x.y.toNat sl0, s.cells, s.read⟩ x.x.toNat s.slots[x.y.toNat]!).2)]) rfl ⟨?_, by (exact Pur.pf)⟩
    rw [if_pos (tkT_t (.inr (by assumption)))]; rfl
  · refine rq_ret (l := [aMc (putF ts s x.x.toNat s.slots[x.y.toNat]!).1, iv (gk (putF ts s x.x.toNat s.slots[x.y.toNat]!).2)]) rfl ⟨?_, by (exact Pur.pf)⟩
    rw [if_neg (tkT_f (by assumption) (by assumption))]; rfl
  · refine rq_ret (l := [aMc (putF ts ⟨s.slots.set x.y.toNat sl0, s.cells, s.read⟩ x.x.toNat s.slots[x.y.toNat]!).1, iv (gk (putF ts ⟨s.slots.set x.y.toNat sl0, s.cells, s.read⟩ x.x.toNat s.slots[x.y.toNat]!).2)]) rfl ⟨?_, by (exact Pur.pf)⟩
    rw [if_pos (tkT_t (.inl (by assumption)))]; rfl
theorem l7Make_c (ts : List Int) (s : Mc) (x : Pnt) (u : Bool) (hu : u = decide (x.op = 5)) (hm : OkM s.cells) (hsl : s.slots.length = ts.length) (hx : 0 ≤ x.x ∧ x.x < ts.length) (hy : 0 ≤ x.y ∧ x.y < ts.length) (hl : ts.length ≤ 1000000) : PC Tryz.prog 133 [sl cI ts, aMc s, aPnt x] (fun r => r = if lnK s.cells s.slots[x.y.toNat]!.ptr u = 0 then
    .tup [aMc (putF ts ⟨s.slots, lnM s.cells s.slots[x.y.toNat]!.ptr u, s.read⟩ x.x.toNat ⟨true, 0, lnP s.cells s.slots[x.y.toNat]!.ptr u⟩).1, iv (gk (putF ts ⟨s.slots, lnM s.cells s.slots[x.y.toNat]!.ptr u, s.read⟩ x.x.toNat ⟨true, 0, lnP s.cells s.slots[x.y.toNat]!.ptr u⟩).2)]
    else .tup [aMc s, iv (endK (lnK s.cells s.slots[x.y.toNat]!.ptr u))]) := by
  have hsh := ShareCellS_c s.cells hm s.slots[x.y.toNat]!.ptr
  have hbo := BorrowCellS_c s.cells hm s.slots[x.y.toNat]!.ptr
  have hp1 := l7Put_c ts ⟨s.slots, lnM s.cells s.slots[x.y.toNat]!.ptr false, s.read⟩ x.x.toNat ⟨true, 0, lnP s.cells s.slots[x.y.toNat]!.ptr false⟩ (hm.ln _ _) (by show _ < s.slots.length;omega) (by omega) (by show s.slots.length ≤ _; omega)
  have hp2 := l7Put_c ts ⟨s.slots, lnM s.cells s.slots[x.y.toNat]!.ptr true, s.read⟩ x.x.toNat ⟨true, 0, lnP s.cells s.slots[x.y.toNat]!.ptr true⟩ (hm.ln _ _) (by show _ < s.slots.length;omega) (by omega) (by show s.slots.length ≤ _; omega)
  rw [Int.toNat_of_nonneg hx.1] at hp1 hp2
  (refine pc_of_aw Tryz.func133 rfl (by simp [Tryz.ntmps133]) ?_; rw [Tryz.ntmps133])
  repeat' (first|(apply id_rw;first|((with_reducible apply rx_callE (k := 169));(case ha => rfl);(case h => exact hsh);(case hp => (exact Pur.pf));(case hN => rfl))|((with_reducible apply rx_callE (k := 170));(case ha => rfl);(case h => exact hbo);(case hp => (exact Pur.pf));(case hN => rfl))|((with_reducible apply rx_callE (k := 130) (avs := [sl cI ts, aMc ⟨s.slots, lnM s.cells s.slots[x.y.toNat]!.ptr false, s.read⟩, iv x.x, aSl ⟨true, 0, lnP s.cells s.slots[x.y.toNat]!.ptr false⟩]));(case ha => rfl);(case h => exact hp1);(case hp => (exact Pur.pf));(case hN => rfl))|((with_reducible apply rx_callE (k := 130) (avs := [sl cI ts, aMc ⟨s.slots, lnM s.cells s.slots[x.y.toNat]!.ptr true, s.read⟩, iv x.x, aSl ⟨true, 0, lnP s.cells s.slots[x.y.toNat]!.ptr true⟩]));(case ha => rfl);(case h => exact hp2);(case hp => (exact Pur.pf));(case hN => rfl))|(apply rx_move;rfl;rfl)|(first|(apply rx_load1;rfl;rfl;rfl;rfl)|(apply rx_loadA;rfl;rfl;(first|exact (rfl:_=[_, _])|exact (rfl:_=[_, _, _]));rfl;rfl;rfl))|(apply rx_fieldAddr;rfl;rfl;rfl)|(apply rx_bin;rfl;rfl;rfl;rfl)|(apply rx_assign;rfl;rfl)|(apply rx_indexF;(case hx|hi => rfl);(case hm => (omega));(case hml => (rfl));(case hα | hf|hg => infer_instance);(case hN => rfl))|((with_reducible apply rx_callE (k := 128));(case ha => rfl);(case h => (apply l7Code_c <;> (fail)));(case hp => (rfl));(case hN => rfl))|(apply rw_nil;kernel_rfl)|(apply rx_buildK;rfl;(exact (rfl:_=some [_, _, _, _]));(exact (rfl:_=[_, _, _, _]));rfl)|(apply rx_box;rfl;rfl;rfl;rfl)|(apply rx_alloc;rfl;rfl)|(apply rx_extract;rfl;rfl;rfl)|(apply rx_store;rfl;rfl;rfl;rfl;rfl;(case hl => (simp;done));(first|exact (rfl:_=[_, _])|exact (rfl:_=[_, _, _]))))|(apply id_aw;first|apply aw_seq|apply aw_region|(apply aw_draw;kernel_rfl)|(apply aw_cond;rfl;all_goals intro hc;have hq:=hc;(try simp only [bqs] at hq);try exfalso;omega)|apply aw_skip|apply aw_ret)|with_reducible apply tq_normal|with_reducible apply tq_ret)
  · have hk : ¬ lnK s.cells s.slots[x.y.toNat]!.ptr true = 0 := by assumption
    have hu2 : u = true := by rw [hu]; exact decide_eq_true (by assumption)
    subst hu2
    refine rq_ret (l := [.agg [sl cSl s.slots, sl cCl (lnM s.cells s.slots[x.y.toNat]!.ptr true), sl cI s.read], iv (if lnK s.cells s.slots[x.y.toNat]!.ptr true = 1 then 3 else if lnK s.cells s.slots[x.y.toNat]!.ptr true = 0 then 0 else 4)]) rfl ?_
    rw [endK_n hk, if_neg hk, lnM_n hk]
    exact ⟨rfl, by (exact Pur.pf)⟩
  · have hk : lnK s.cells s.slots[x.y.toNat]!.ptr true = 0 := by assumption
    have hu2 : u = true := by rw [hu]; exact decide_eq_true (by assumption)
    subst hu2
    refine rq_ret (l := [aMc (putF ts ⟨s.slots, lnM s.cells s.slots[x.y.toNat]!.ptr true, s.read⟩ x.x.toNat ⟨true, 0, lnP s.cells s.slots[x.y.toNat]!.ptr true⟩).1, iv (gk (putF ts ⟨s.slots, lnM s.cells s.slots[x.y.toNat]!.ptr true, s.read⟩ x.x.toNat ⟨true, 0, lnP s.cells s.slots[x.y.toNat]!.ptr true⟩).2)]) rfl ⟨?_, by (exact Pur.pf)⟩
    rw [if_pos hk]; rfl
  · have hk : ¬ lnK s.cells s.slots[x.y.toNat]!.ptr false = 0 := by assumption
    have hu2 : u = false := by rw [hu]; exact decide_eq_false (by assumption)
    subst hu2
    refine rq_ret (l := [.agg [sl cSl s.slots, sl cCl (lnM s.cells s.slots[x.y.toNat]!.ptr false), sl cI s.read], iv (if lnK s.cells s.slots[x.y.toNat]!.ptr false = 1 then 3 else if lnK s.cells s.slots[x.y.toNat]!.ptr false = 0 then 0 else 4)]) rfl ?_
    rw [endK_n hk, if_neg hk, lnM_n hk]
    exact ⟨rfl, by (exact Pur.pf)⟩
  · have hk : lnK s.cells s.slots[x.y.toNat]!.ptr false = 0 := by assumption
    have hu2 : u = false := by rw [hu]; exact decide_eq_false (by assumption)
    subst hu2
    refine rq_ret (l := [aMc (putF ts ⟨s.slots, lnM s.cells s.slots[x.y.toNat]!.ptr false, s.read⟩ x.x.toNat ⟨true, 0, lnP s.cells s.slots[x.y.toNat]!.ptr false⟩).1, iv (gk (putF ts ⟨s.slots, lnM s.cells s.slots[x.y.toNat]!.ptr false, s.read⟩ x.x.toNat ⟨true, 0, lnP s.cells s.slots[x.y.toNat]!.ptr false⟩).2)]) rfl ⟨?_, by (exact Pur.pf)⟩
    rw [if_pos hk]; rfl
end Go.Proofs.YtlbbbmeadnelbaaGreat
