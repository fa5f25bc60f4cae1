/-
  A part of the proofs over this program: rules and contracts of its functions (the contracts).
-/
import Derived.Test.YtlbbbmeadnelbaaGreatB06
import Derived.Test.YtlbbbmeadnelbaaGreatRows
import Derived.WalkKit
import Derived.ProofKit
import Derived.OpenShut
import Derived.Carry
import Derived.ChangeSlices
set_option linter.unusedVariables false
set_option linter.unusedSimpArgs false
set_option maxHeartbeats 8000000
set_option maxRecDepth 4000
attribute [local irreducible] Go.AL.RW Go.AL.AW Go.AL.Stop
namespace Go.Proofs.YtlbbbmeadnelbaaGreat
open Go.AL Go.RowKit
def chF (n l : Nat) : List Int := (List.range l).map fun i => ((n / 2 ^ i % 2 : Nat) : Int)
theorem chF_len (n l : Nat) : (chF n l).length = l := by unfold chF; rw [List.length_map, List.length_range]
theorem chF_succ (n l : Nat) : chF n (l + 1) = chF n l ++ [((n / 2 ^ l % 2 : Nat) : Int)] := by
  unfold chF;rw [List.range_succ, List.map_append]; rfl
def badF (p : Prg) (l n : Nat) : Bool := decide (reE p (chF n l) 80 ≠ 0) && decide (reE p (chF n l) 80 ≠ 1)
def cwF (p : Prg) (l k : Nat) : Nat := ((List.range k).filter (badF p l)).length
theorem cwF_hit {p : Prg} {l k : Nat} (h : badF p l k = true) : cwF p l (k + 1) = cwF p l k + 1 := by
  unfold cwF;rw [List.range_succ, List.filter_append, List.length_append]; simp [h]
theorem cwF_skip {p : Prg} {l k : Nat} (h : badF p l k = false) : cwF p l (k + 1) = cwF p l k := by
  unfold cwF;rw [List.range_succ, List.filter_append, List.length_append]; simp [h]
theorem cwF_le {p : Prg} {l k : Nat} : cwF p l k ≤ k := by
  unfold cwF;exact Nat.le_trans (List.length_filter_le _ _) (by rw [List.length_range]; exact Nat.le_refl _)
theorem l8Choices_c (n l : Nat) (hl : l ≤ 100) (hn : n ≤ 1000000) : PC Tryz.prog 76 [iv (n : Int), iv (l : Int)] (fun r => r = sl cI (chF n l)) := by
  (refine pc_of_aw Tryz.func76 rfl (by simp [Tryz.ntmps76]) ?_; rw [Tryz.ntmps76])
  repeat' (first|(apply id_rw;first|(apply rx_assign;rfl;rfl)|(apply rw_nil;kernel_rfl)|(apply rx_buildSlice;rfl;rfl;rfl;(rfl);rfl;rfl))|(apply id_aw;first|apply aw_seq|apply aw_region|apply aw_block)|with_reducible apply tq_normal)
  refine aw_loopK (σ := Nat × Nat × List Int × Nat) [1] [(1, _)] [] [] (fun k => [(6, iv (k.1 : Int)), (0, iv (k.2.1 : Int)), (5, .own 0 0 k.2.2.2 1)]) (fun k => [(0, some (flat cI k.2.2.1))]) (fun k => k.1 ≤ l ∧ k.2.1 = n / 2 ^ k.1 ∧ k.2.2.1 = chF n k.1 ∧ k.2.2.2 = k.1) (fun k => l - k.1) (0, n, [], 0) ⟨Nat.zero_le _, by simp, rfl, rfl⟩ rfl rfl (by repeat' (first|exact trivial|refine And.intro rfl ?_)) (by repeat' (first|exact trivial|refine And.intro (.inr rfl) ?_)) ?_
  rintro ⟨i, n', xs, m⟩ ⟨hi, hn', hxs, hm⟩
  dsimp only at hi hn' hxs hm ⊢
  have hnl : n' ≤ 1000000 := by rw [hn']; exact Nat.le_trans (Nat.div_le_self _ _) hn
  have hxl : xs.length = m := by rw [hxs, chF_len, hm]
  repeat' (first|(apply id_rw;first|(apply rx_move;rfl;rfl)|(first|(apply rx_add;rfl;rfl;omega;rfl)|(apply rx_rem;rfl;rfl;omega;rfl)|(apply rx_quo;rfl;rfl;omega;rfl)|(apply rx_bin;rfl;rfl;rfl;rfl))|(apply rx_assign;rfl;rfl)|(apply rx_append;rfl;rfl;rfl;rfl;rfl;(rw [flat_length]; omega);(rfl);omega;omega;(exact app_int (by (omega)));rfl;rfl)|(apply rw_nil;kernel_rfl)|((apply rx_buildSliceI (t := _));(case hze|hsm|hl => rfl);(case hfl => exact (rfl:_=some [_]));(case hM|hN => rfl)))|(apply id_aw;first|apply aw_seq|apply aw_region|(apply aw_cond;rfl;all_goals intro hc;have hq:=hc;(try simp only [bqs] at hq);try exfalso;omega)|apply aw_block|apply aw_skip|apply aw_exit|apply aw_ret)|with_reducible apply tq_normal|with_reducible apply tq_exit|with_reducible apply bq_normal|with_reducible apply bq_here)
  · (apply ex3 (i + 1, n' / 2, _, m + 1); focus (refine Le.ren [(0, 2)] rfl (by decide) ?_ ?_ <;> repeat' (first | exact trivial | refine And.intro ⟨_, rfl, ?_⟩ ?_ | refine And.intro ⟨_, _, rfl, rfl, ?_⟩ ?_ | exact Or.inr rfl | refine Or.inl ⟨?_, (by first | rfl | exact pur_sl _ _)⟩ | rfl)))
    · refine ⟨by dsimp only; omega, ?_, ?_, by dsimp only; omega⟩
      · dsimp only;rw [hn', Nat.pow_succ, Nat.div_div_eq_div_mul]
      · dsimp only;rw [chF_succ, ← hxs, ← hn']; rfl
    · dsimp only;omega
  · (refine rq_le (Le.frzD (d := 4) (i := 0) rfl rfl) ?_; refine rq_ret rfl ?_)
    refine ⟨?_, (by (exact pur_sl _ _))⟩
    have hie : i = l := by omega
    simp only [oneOf, sl]
    rw [← hxl, hxs, hie]
theorem l8Runs_c (l : Nat) (hl : l ≤ 10) : PC Tryz.prog 74 [iv (l : Int)] (fun r => r = iv ((2 ^ l : Nat) : Int)) := by
  (refine pc_of_aw Tryz.func74 rfl (by simp [Tryz.ntmps74]) ?_; rw [Tryz.ntmps74])
  repeat' (first|(apply id_rw;first|(apply rx_assign;rfl;rfl)|(apply rw_nil;kernel_rfl))|(apply id_aw;first|apply aw_seq|apply aw_region|apply aw_block)|with_reducible apply tq_normal)
  refine aw_loopK (σ := Nat) [0] [(0, _)] [] [] (fun k => [(4, iv (k : Int)), (3, iv ((2 ^ k : Nat) : Int))]) (fun k => []) (fun k => k ≤ l) (fun k => l - k) (0) (Nat.zero_le _) rfl rfl (by repeat' (first|exact trivial|refine And.intro rfl ?_)) (by repeat' (exact trivial)) ?_
  rintro k hk
  have hp : 2 ^ k ≤ 2 ^ 10 := Nat.pow_le_pow_right (by decide) (by omega)
  repeat' (first|(apply id_rw;first|(apply rx_move;rfl;rfl)|(first|(apply rx_add;rfl;rfl;omega;rfl)|(apply rx_bin;rfl;rfl;rfl;rfl))|(apply rx_assign;rfl;rfl)|(apply rw_nil;kernel_rfl))|(apply id_aw;first|apply aw_seq|apply aw_region|(apply aw_cond;rfl;all_goals intro hc;have hq:=hc;(try simp only [bqs] at hq);try exfalso;omega)|apply aw_block|apply aw_skip|apply aw_exit|apply aw_ret)|with_reducible apply tq_normal|with_reducible apply tq_exit|with_reducible apply bq_normal|with_reducible apply bq_here)
  · have hw : IntKind.i64.wrap (((2 ^ k : Nat) : Int) * 2) = ((2 ^ (k + 1) : Nat) : Int) := by
      rw [show (((2 ^ k : Nat) : Int) * 2) = ((2 ^ (k + 1) : Nat) : Int) by rw [Nat.pow_succ, Int.natCast_mul]; rfl]
      exact wrap_sm (Sm.pow (by omega)).pf
    rw [hw]
    (apply ex3 (k + 1);focus (refine Le.ren [] rfl (by decide) ?_ ?_ <;> repeat' (first|exact trivial|refine And.intro ⟨_, rfl, ?_⟩ ?_|refine Or.inl ⟨?_, (by (rfl))⟩|rfl)))
    · omega
    · omega
  · refine rq_ret rfl ⟨?_, rfl⟩
    rw [show l = k by omega]; rfl
def r8F (p : Prg) (l : Int) : Bool := validF p && (decide (0 ≤ l) && decide (l ≤ 6))
theorem r8_true {p : Prg} {l : Int} : r8F p l = true ↔ validF p = true ∧ 0 ≤ l ∧ l ≤ 6 := by unfold r8F; simp only [Bool.and_eq_true, decide_eq_true_eq]
theorem l8Right_c (p : Prg) (l : Int) (hl : p.types.length ≤ 1000000) (hs : cntL p.body ≤ 1000000) : PC Tryz.prog 73 [aPrg p, iv l] (fun r => r = bv (r8F p l)) := by
  have hval := validS_c p hl (by omega)
  (refine pc_of_aw Tryz.func73 rfl (by simp [Tryz.ntmps73]) ?_; rw [Tryz.ntmps73])
  repeat' (first|(apply id_rw;first|((with_reducible apply rx_callE (k := 90));(case ha => rfl);(case h => exact hval);(case hp => (exact Pur.pf));(case hN => rfl))|(apply rx_move;rfl;rfl)|(apply rx_loadA;rfl;rfl;(exact (rfl:_=[_, _]));rfl;rfl;rfl)|(first|(apply rx_guardY;rfl;rfl;rfl;(assumption))|(apply rx_guardNs;rfl;rfl;rfl;(first|rfl|assumption))|(apply rx_guardS;(case hj|hb|hN => rfl);all_goals (intro hg;have hq := hg;(try simp only [bqs] at hq);(try (exfalso;omega)))))|(apply rx_bin;rfl;rfl;rfl;rfl)|(apply rx_assign;rfl;rfl)|(first|(apply rx_pickT;rfl;(assumption);rfl;rfl)|(apply rx_pickF;rfl;(first|rfl|assumption);rfl;rfl))|(apply rw_nil;kernel_rfl)|(apply rx_box;rfl;rfl;rfl;rfl))|(apply id_aw;first|apply aw_seq|apply aw_region|apply aw_ret)|with_reducible apply tq_normal)
  all_goals (refine rq_ret rfl ⟨?_, rfl⟩; simp only [oneOf, AV.v.injEq, Value.bool.injEq]; unfold r8F;grind)
theorem l8Most_c : PC Tryz.prog 104 [] (fun r => r = iv 80) := by
  (refine pc_of_aw Tryz.func104 rfl (by simp [Tryz.ntmps104]) ?_; rw [Tryz.ntmps104])
  repeat' (first|(apply id_rw;first|(apply rx_assign;rfl;rfl)|(apply rw_nil;kernel_rfl))|(apply id_aw;first|apply aw_seq|apply aw_region|apply aw_ret)|with_reducible apply tq_normal)
  exact rq_ret rfl ⟨rfl, rfl⟩
theorem l8Wrong_c (p : Prg) (cs : List Int) (hl : p.types.length ≤ 1000000) (hs : cntL p.body ≤ 1000000) (hcl : cs.length ≤ 1000000) : PC Tryz.prog 75 [aPrg p, sl cI cs] (fun r => r = .tup [bv (decide (reE p cs 80 ≠ 0) && decide (reE p cs 80 ≠ 1)), iv (reA p cs 80)]) := by
  have h := runS_e p cs 80 hl hs hcl
  have hm := l8Most_c
  generalize reE p cs 80 = e at *
  generalize reA p cs 80 = a at *
  (refine pc_of_aw Tryz.func75 rfl (by simp [Tryz.ntmps75]) ?_; rw [Tryz.ntmps75])
  repeat' (first|(apply id_rw;first|((with_reducible apply rx_callE (k := 19));(case ha => rfl);(case h => exact h);(case hp => (exact Pur.pf));(case hN => rfl))|((with_reducible apply rx_callE (k := 104));(case ha => rfl);(case h => exact hm);(case hp => (rfl));(case hN => rfl))|(apply rx_move;rfl;rfl)|(apply rx_loadA;rfl;rfl;(exact (rfl:_=[_, _]));rfl;rfl;rfl)|(first|(apply rx_guardY;rfl;rfl;rfl;(assumption))|(apply rx_guardNs;rfl;rfl;rfl;(assumption))|(apply rx_guardS;(case hj|hb|hN => rfl);all_goals (intro hg;have hq := hg;(try simp only [bqs] at hq);(try (exfalso;omega)))))|(apply rx_bin;rfl;rfl;rfl;rfl)|(apply rx_assign;rfl;rfl)|(first|(apply rx_pickT;rfl;(assumption);rfl;rfl)|(apply rx_pickF;rfl;(assumption);rfl;rfl))|(apply rw_nil;kernel_rfl)|(apply rx_box;rfl;rfl;rfl;rfl)|(apply rx_extract;rfl;rfl;rfl))|(apply id_aw;first|apply aw_seq|apply aw_region|(apply aw_draw;kernel_rfl)|apply aw_ret)|with_reducible apply tq_normal)
  · refine rq_ret (l := [bv _, iv a]) ?_ ⟨rfl, rfl⟩
    have hd : (decide (e ≠ 0) && decide (e ≠ 1)) = !decide (e = 1) := by simp_all
    rw [hd]; rfl
  · refine rq_ret (l := [bv _, iv a]) ?_ ⟨rfl, rfl⟩
    have hd : (decide (e ≠ 0) && decide (e ≠ 1)) = false := by simp_all
    rw [hd]; rfl
theorem CountWrongS_c (p : Prg) (l : Int) (hl : p.types.length ≤ 1000000) (hs : cntL p.body ≤ 1000000) : PC Tryz.prog 45 [aPrg p, iv l] (fun r => r = .tup (if r8F p l = true then [iv (cwF p l.toNat (2 ^ l.toNat)), iv ((2 ^ l.toNat : Nat) : Int)] else [iv 0, iv 0])) := by
  have hr := l8Right_c p l hl hs
  by_cases h : r8F p l = true
  · obtain ⟨hv, h0, h1⟩ := r8_true.1 h
    rw [h] at hr
    rw [if_pos h]
    obtain ⟨L, rfl⟩ := Int.eq_ofNat_of_zero_le h0
    rw [Int.toNat_natCast]
    have hru := l8Runs_c L (by omega)
    have hp : 2 ^ L ≤ 2 ^ 6 := Nat.pow_le_pow_right (by decide) (by omega)
    generalize hT : 2 ^ L = T at *
    (refine pc_of_aw Tryz.func45 rfl (by simp [Tryz.ntmps45]) ?_; rw [Tryz.ntmps45])
    repeat' (first|(apply id_rw;first|((with_reducible apply rx_callE (k := 73));(case ha => rfl);(case h => exact hr);(case hp => (exact Pur.pf));(case hN => rfl))|((with_reducible apply rx_callE (k := 74));(case ha => rfl);(case h => exact hru);(case hp => (rfl));(case hN => rfl))|(apply rx_move;rfl;rfl)|(apply rx_loadA;rfl;rfl;(exact (rfl:_=[_, _]));rfl;rfl;rfl)|(apply rx_assign;rfl;rfl)|(apply rw_nil;kernel_rfl)|(apply rx_not;rfl;rfl)|(apply rx_box;rfl;rfl;rfl;rfl))|(apply id_aw;first|apply aw_seq|apply aw_region|(apply aw_condF;rfl;(rfl))|apply aw_block|apply aw_skip)|with_reducible apply tq_normal)
    refine aw_loopK (σ := Nat × Nat) [1, 2, 7] [(1, _), (2, _), (7, _)] [0] [(0, some _)] (fun s => [(8, iv (s.1 : Int)), (6, iv (s.2 : Int))]) (fun s => []) (fun s => s.1 ≤ T ∧ s.2 = cwF p L s.1) (fun s => T - s.1) (0, 0) ⟨Nat.zero_le _, rfl⟩ rfl rfl (by repeat' (first|exact trivial|refine And.intro rfl ?_)) (by repeat' (exact trivial)) ?_
    rintro ⟨k, c⟩ ⟨hk, hc⟩
    dsimp only at hk hc ⊢
    have hcb := cwF_le (p := p) (l := L) (k := k)
    have hch1 := cwF_hit (p := p) (l := L) (k := k)
    have hcs1 := cwF_skip (p := p) (l := L) (k := k)
    rw [← hc] at hcb hch1 hcs1
    have hch := l8Choices_c k L (by omega) (by omega)
    have hwr := l8Wrong_c p (chF k L) hl hs (by rw [chF_len]; omega)
    change PC _ _ _ (fun r => r = .tup [bv (badF p L k), _]) at hwr
    repeat' (first|(apply id_rw;first|((with_reducible apply rx_callE (k := 76));(case ha => rfl);(case h => exact hch);(case hp => (rfl));(case hN => rfl))|((with_reducible apply rx_callE (k := 75));(case ha => rfl);(case h => exact hwr);(case hp => (exact Pur.pf));(case hN => rfl))|(apply rx_move;rfl;rfl)|(apply rx_loadA;rfl;rfl;(exact (rfl:_=[_, _]));rfl;rfl;rfl)|(first|(apply rx_add;rfl;rfl;omega;rfl)|(apply rx_bin;rfl;rfl;rfl;rfl))|(apply rx_assign;rfl;rfl)|(apply rw_nil;kernel_rfl)|(apply rx_extract;rfl;rfl;rfl))|(apply id_aw;first|apply aw_seq|apply aw_region|(apply aw_draw;kernel_rfl)|(apply aw_cond;rfl;all_goals intro hc;have hq:=hc;(try simp only [bqs] at hq);try exfalso;omega)|apply aw_block|apply aw_skip|apply aw_exit|apply aw_ret)|with_reducible apply tq_normal|with_reducible apply tq_exit|with_reducible apply bq_normal|with_reducible apply bq_here)
    · (apply ex3 (k + 1, c + 1); focus (refine Le.ren [(0, 0)] rfl (by decide) ?_ ?_ <;> repeat' (first | exact trivial | refine And.intro ⟨_, rfl, ?_⟩ ?_ | refine And.intro ⟨_, _, rfl, rfl, ?_⟩ ?_ | exact Or.inr rfl | refine Or.inl ⟨?_, (by first | rfl | exact Pur.pf)⟩ | rfl)))
      · exact ⟨by dsimp only;omega, (hch1 (by assumption)).symm⟩
      · dsimp only;omega
    · (apply ex3 (k + 1, c); focus (refine Le.ren [(0, 0)] rfl (by decide) ?_ ?_ <;> repeat' (first | exact trivial | refine And.intro ⟨_, rfl, ?_⟩ ?_ | refine And.intro ⟨_, _, rfl, rfl, ?_⟩ ?_ | exact Or.inr rfl | refine Or.inl ⟨?_, (by first | rfl | exact Pur.pf)⟩ | rfl)))
      · refine ⟨by dsimp only; omega, (hcs1 ?_).symm⟩
        assumption
      · dsimp only;omega
    · obtain rfl : k = T := by omega
      obtain rfl : c = cwF p L k := by assumption
      exact rq_ret (l := [iv _, iv _]) rfl ⟨rfl, rfl⟩
  · have h2 : r8F p l = false := by simpa using h
    rw [h2] at hr
    rw [if_neg h]
    (refine pc_of_aw Tryz.func45 rfl (by simp [Tryz.ntmps45]) ?_; rw [Tryz.ntmps45])
    repeat' (first|(apply id_rw;first|((with_reducible apply rx_callE (k := 73));(case ha => rfl);(case h => exact hr);(case hp => (exact Pur.pf));(case hN => rfl))|(apply rx_move;rfl;rfl)|(apply rx_loadA;rfl;rfl;(exact (rfl:_=[_, _]));rfl;rfl;rfl)|(apply rx_assign;rfl;rfl)|(apply rw_nil;kernel_rfl)|(apply rx_not;rfl;rfl)|(apply rx_box;rfl;rfl;rfl;rfl))|(apply id_aw;first|apply aw_seq|apply aw_region|(apply aw_condT;rfl;(rfl))|apply aw_ret)|with_reducible apply tq_normal|with_reducible apply tq_ret)
    exact rq_ret (l := [iv 0, iv 0]) rfl ⟨rfl, rfl⟩
theorem isLength_c (l : Int) : PC Tryz.prog 103 [iv l] (fun r => r = bv (decide (0 ≤ l) && decide (l ≤ 6))) := by
  have hw := within_c l 0 6
  (refine pc_of_aw Tryz.func103 rfl (by simp [Tryz.ntmps103]) ?_; rw [Tryz.ntmps103])
  repeat' (first|(apply id_rw;first|((with_reducible apply rx_callE (k := 58));(case ha => rfl);(case h => exact hw);(case hp => (rfl));(case hN => rfl))|(apply rx_move;rfl;rfl)|(apply rx_assign;rfl;rfl)|(apply rw_nil;kernel_rfl))|(apply id_aw;first|apply aw_seq|apply aw_region|apply aw_ret)|with_reducible apply tq_normal)
  exact rq_ret rfl ⟨rfl, rfl⟩
theorem choicesOf_c (n l : Nat) (hl : l ≤ 60) (hn : n ≤ 1000000) : PC Tryz.prog 80 [iv (n : Int), iv (l : Int)] (fun r => r = sl cI (chF n l)) := by
  have : Sm n := ⟨by omega⟩
  (refine pc_of_aw Tryz.func80 rfl (by simp [Tryz.ntmps80]) ?_; rw [Tryz.ntmps80])
  repeat' (first|(apply id_rw;first|(apply rx_move;rfl;rfl)|(apply rx_assign;rfl;rfl)|(apply rw_nil;kernel_rfl))|(apply id_aw;first|apply aw_seq|apply aw_region|apply aw_block)|with_reducible apply tq_normal)
  refine AW.le ?_ (Le.nilOwn (d := 5) 1 rfl (by decide))
  refine aw_loopK (σ := Nat × List Int × Nat) [0, 7] [(0, _), (7, _)] [] [] (fun k => [(8, iv (k.1 : Int)), (5, .own 0 0 k.2.2 1)]) (fun k => [(0, some (flat cI k.2.1))]) (fun k => k.1 ≤ l ∧ k.2.1 = chF n k.1 ∧ k.2.2 = k.1) (fun k => l - k.1) (0, [], 0) ⟨Nat.zero_le _, rfl, rfl⟩ rfl rfl (by repeat' (first|exact trivial|refine And.intro rfl ?_)) (by repeat' (first|exact trivial|refine And.intro (.inr rfl) ?_)) ?_
  rintro ⟨i, xs, m⟩ ⟨hi, hxs, hm⟩
  dsimp only at hi hxs hm ⊢
  have hxl : xs.length = m := by rw [hxs, chF_len, hm]
  repeat' (first|(apply id_rw;first|(apply rx_move;rfl;rfl)|(first|(apply rx_and1;rfl;rfl;infer_instance;infer_instance;rfl)|(apply rx_shrN;rfl;rfl;infer_instance;infer_instance;omega;rfl)|(apply rx_add;rfl;rfl;omega;rfl)|(apply rx_bin;rfl;rfl;rfl;rfl))|(apply rx_assign;rfl;rfl)|(apply rx_append;rfl;rfl;rfl;rfl;rfl;(rw [flat_length]; omega);(rfl);omega;omega;(exact app_int (by (omega)));rfl;rfl)|(apply rw_nil;kernel_rfl)|((apply rx_buildSliceI (t := _));(case hze|hsm|hl => rfl);(case hfl => exact (rfl:_=some [_]));(case hM|hN => rfl)))|(apply id_aw;first|apply aw_seq|apply aw_region|(apply aw_cond;rfl;all_goals intro hc;have hq:=hc;(try simp only [bqs] at hq);try exfalso;omega)|apply aw_block|apply aw_skip|apply aw_exit|apply aw_ret)|with_reducible apply tq_normal|with_reducible apply tq_exit|with_reducible apply bq_normal|with_reducible apply bq_here)
  · (apply ex3 (i + 1, _, m + 1); focus (refine Le.ren [(0, 2)] rfl (by decide) ?_ ?_ <;> repeat' (first | exact trivial | refine And.intro ⟨_, rfl, ?_⟩ ?_ | refine And.intro ⟨_, _, rfl, rfl, ?_⟩ ?_ | exact Or.inr rfl | refine Or.inl ⟨?_, (by first | rfl | exact pur_sl _ _)⟩ | rfl)))
    · refine ⟨by dsimp only; omega, ?_, by dsimp only; omega⟩
      have hz : n >>> (i : Int).toNat &&& 1 = n / 2 ^ i % 2 := by rw [Int.toNat_natCast, Nat.shiftRight_eq_div_pow]; exact Nat.and_one_is_mod _
      dsimp only;rw [chF_succ, ← hxs, ← hz]
    · dsimp only;omega
  · refine rq_le (Le.frzD (d := 4) (i := 0) rfl rfl) ?_
    refine rq_ret rfl ⟨?_, (by (exact pur_sl _ _))⟩
    have hie : i = l := by omega
    simp only [oneOf, sl]
    rw [← hxl, hxs, hie]
theorem case8_c (bs : List UInt8) (hb : bs.length ≤ 1048576) : PC Tryz.prog 70 [sl cU bs] (fun r => ∃ (q : Prg) (n : Int), r = .tup [aPrg q, iv n] ∧ cntL q.body ≤ 20000 ∧ q.types.length ≤ 1000 ∧ -1 ≤ n ∧ n ≤ 7) := by
  have hb2 : (bs.take 2000).length ≤ 2000 := by rw [List.length_take]; omega
  (refine pc_of_aw Tryz.func70 rfl (by simp [Tryz.ntmps70]) ?_; rw [Tryz.ntmps70])
  repeat' (first|(apply id_rw;first|((with_reducible apply rx_prgcall (k := 86));(case h => exact draw_c (bs.take 2000) 0 hb2 (by decide));(case ha|hpv|hH|hM|hN => rfl);(rintro ⟨q, p1⟩ ⟨hq1, hq2, hq3⟩);(dsimp only at hq1 hq2 hq3))|((with_reducible apply rx_prgcall (k := 85));(case h => exact mutate_c (bs.take 2000) p1 q hb2 (by omega) (by omega) (by omega));(case ha => rfl);(case hpv => exact Pur.pf);(case hH|hM|hN => rfl);(rintro ⟨q2, p2⟩ ⟨hr1, hr2, hr3⟩);(dsimp only at hr1 hr2 hr3);(have hn9 := num_bd (bs.take 2000) p2 [3, 2, 1, 4, 0, 7, -1] (-1) 7 (by decide) (by decide)))|(apply rx_move;rfl;rfl)|(apply rx_loadA;rfl;rfl;(exact (rfl:_=[_, _]));rfl;rfl;rfl)|(apply rx_assign;rfl;rfl)|(first|(apply rx_l17Open;rfl;(apply l17Open_c <;> (assumption));rfl;rfl)|(apply rx_numO;rfl;rfl;rfl;rfl;infer_instance;rfl;(rfl);assumption;omega;(decide);(decide);rfl;rfl))|(apply rw_nil;kernel_rfl)|(apply rx_alloc;rfl;rfl)|(apply rx_buildSlice;rfl;rfl;rfl;(exact (rfl:_=some [_, _, _, _, _, _, _]));rfl;rfl)|(apply rx_store;rfl;rfl;rfl;rfl;rfl;(case hl => (simp;done));(exact (rfl:_=[_, _]))))|(apply id_aw;first|apply aw_seq|apply aw_region|(apply aw_draw;kernel_rfl)|apply aw_ret)|with_reducible apply tq_normal)
  exact rq_ret (l := [aPrg q2, iv (numF (bs.take 2000) p2 [3, 2, 1, 4, 0, 7, -1])]) rfl ⟨⟨q2, _, rfl, by omega, by omega, hn9.1, hn9.2⟩, Pur.pf⟩
theorem drawCW_c (bs : List UInt8) (hb : bs.length ≤ 1048576) : PC Tryz.prog 43 [sl cU bs] (fun r => ∃ (q : Prg) (n : Int), r = .tup [aPrg q, iv n] ∧ cntL q.body ≤ 20000 ∧ q.types.length ≤ 1000 ∧ -1 ≤ n ∧ n ≤ 7) := by
  (refine pc_of_aw Tryz.func43 rfl (by simp [Tryz.ntmps43]) ?_; rw [Tryz.ntmps43])
  repeat' (first|(apply id_rw;first|((with_reducible apply rx_call (k := 70));(case ha => rfl);(case h => exact case8_c bs hb);(case hp => (exact Pur.pf));(case hN => rfl);(rintro _ ⟨q, n, rfl, h1, h2, h3, h4⟩ _))|(apply rx_move;rfl;rfl)|(apply rx_assign;rfl;rfl)|(apply rw_nil;kernel_rfl)|(apply rx_alloc;rfl;rfl)|(apply rx_extract;rfl;rfl;rfl)|(apply rx_store;rfl;rfl;rfl;rfl;rfl;(case hl => (simp;done));(exact (rfl:_=[_, _]))))|(apply id_aw;first|apply aw_seq|apply aw_region|apply aw_ret)|with_reducible apply tq_normal)
  exact rq_ret (l := [aPrg q, iv n]) rfl ⟨⟨q, n, rfl, h1, h2, h3, h4⟩, Pur.pf⟩
theorem told_c (a b c : Int) (h0 : 0 ≤ c) (h1 : c ≤ 100) : MC Tryz.prog 72 [iv a, iv b, .optr 0 0] [(0, some [iv c])] 1 (fun _ : Unit => True) (fun _ => .tup []) (fun _ => [(0, some [iv (c + 1)])]) := by
  (refine mc_of_aw Tryz.func72 rfl (by simp [Tryz.ntmps72]) ?_; rw [Tryz.ntmps72])
  repeat' (first|(apply id_rw;first|(apply rx_load1;rfl;rfl;rfl;rfl)|(apply rx_add;rfl;rfl;omega;rfl)|(apply rw_nil;kernel_rfl)|(apply rx_store;rfl;rfl;rfl;rfl;rfl;(case hl => (simp;done));(exact (rfl:_=[_]))))|(apply id_aw;(apply aw_region)))
  refine rq_end (l := []) rfl ?_
  exact mc_ret () trivial rfl ⟨.inr rfl, trivial⟩
theorem wrongC_c (p : Prg) (l : Int) (hl : p.types.length ≤ 1000000) (hs : cntL p.body ≤ 1000000) : MC Tryz.prog 71 [aPrg p, iv l, .clos (.func 72) [] [.optr 0 0]] [(0, some [iv 0])] 1 (fun _ : Unit => True) (fun _ => bv (r8F p l)) (fun _ => [(0, some [iv (if r8F p l = true then (cwF p l.toNat (2 ^ l.toNat) : Int) else 0)])]) := by
  have hv0 := validI_c p hl (by omega)
  have hil := isLength_c l
  by_cases h : r8F p l = true
  · obtain ⟨hv, h0, h1⟩ := r8_true.1 h
    rw [hv] at hv0
    rw [h, if_pos rfl]
    obtain ⟨L, rfl⟩ := Int.eq_ofNat_of_zero_le h0
    rw [show (decide (0 ≤ (L : Int)) && decide ((L : Int) ≤ 6)) = true by rw [decide_eq_true h0, decide_eq_true h1]; rfl] at hil
    have hp : 2 ^ L ≤ 2 ^ 6 := Nat.pow_le_pow_right (by decide) (by omega)
    rw [Int.toNat_natCast]
    (refine mc_of_aw Tryz.func71 rfl (by simp [Tryz.ntmps71]) ?_; rw [Tryz.ntmps71])
    repeat' (first|(apply id_rw;first|((with_reducible apply rx_callE (k := 61));(case ha => rfl);(case h => exact hv0);(case hp => (exact Pur.pf));(case hN => rfl))|((with_reducible apply rx_callE (k := 103));(case ha => rfl);(case h => exact hil);(case hp => (rfl));(case hN => rfl))|(apply rx_move;rfl;rfl)|(apply rx_loadA;rfl;rfl;(exact (rfl:_=[_, _]));rfl;rfl;rfl)|(apply rx_guardY;rfl;rfl;rfl;(rfl))|(apply rx_shl1;rfl;rfl;infer_instance;omega;rfl;(case' kk => intro hsm))|(apply rx_assign;rfl;rfl)|(apply rx_pickF;rfl;(rfl);rfl;rfl)|(apply rw_nil;kernel_rfl)|(apply rx_not;rfl;rfl)|(apply rx_box;rfl;rfl;rfl;rfl))|(apply id_aw;first|apply aw_seq|apply aw_region|(apply aw_condF;rfl;(rfl))|apply aw_block|apply aw_skip)|with_reducible apply tq_normal)
    rw [Int.toNat_natCast]
    generalize hT : 2 ^ L = T at *
    refine aw_loopK (σ := Nat × Nat) [1, 2, 3, 19] [(1, _), (2, _), (3, _), (19, _)] [] [] (fun s => [(20, iv (s.1 : Int))]) (fun s => [(0, some [iv (s.2 : Int)]), (1, some [sl cI p.types, sl cStmt p.body])]) (fun s => s.1 ≤ T ∧ s.2 = cwF p L s.1) (fun s => T - s.1) (0, 0) ⟨Nat.zero_le _, rfl⟩ rfl rfl (by repeat' (first|exact trivial|refine And.intro rfl ?_)) (by repeat' (first|exact trivial|refine And.intro (.inr rfl) ?_)) ?_
    rintro ⟨k, c⟩ ⟨hk, hc⟩
    dsimp only at hk hc ⊢
    have hcb := cwF_le (p := p) (l := L) (k := k)
    have hch1 := cwF_hit (p := p) (l := L) (k := k)
    have hcs1 := cwF_skip (p := p) (l := L) (k := k)
    rw [← hc] at hcb hch1 hcs1
    have hch := choicesOf_c k L (by omega) (by omega)
    have hru := runI_e p (chF k L) 80 hl hs (by rw [chF_len]; omega)
    have hbd : badF p L k = (decide (reE p (chF k L) 80 ≠ 0) && decide (reE p (chF k L) 80 ≠ 1)) := rfl
    generalize reE p (chF k L) 80 = e at hru hbd
    generalize reA p (chF k L) 80 = a at hru
    repeat' (first|(apply id_rw;first|((with_reducible apply rx_callE (k := 80));(case ha => rfl);(case h => exact hch);(case hp => (rfl));(case hN => rfl))|((with_reducible apply rx_callE (k := 18));(case ha => rfl);(case h => exact hru);(case hp => (exact Pur.pf));(case hN => rfl))|(apply rx_move;rfl;rfl)|(apply rx_loadA;rfl;rfl;(exact (rfl:_=[_, _]));rfl;rfl;rfl)|(first|(apply rx_guardY;rfl;rfl;rfl;(assumption))|(apply rx_guardNs;rfl;rfl;rfl;(assumption))|(apply rx_guardS;(case hj|hb|hN => rfl);all_goals (intro hg;have hq := hg;(try simp only [bqs] at hq);(try (exfalso;omega)))))|(first|(apply rx_add;rfl;rfl;omega;rfl)|(apply rx_bin;rfl;rfl;rfl;rfl))|(apply rx_assign;rfl;rfl)|(first|(apply rx_pickT;rfl;(assumption);rfl;rfl)|(apply rx_pickF;rfl;(assumption);rfl;rfl))|(apply rw_nil;kernel_rfl)|(apply rx_extract;rfl;rfl;rfl))|(apply id_aw;first|apply aw_seq|apply aw_region|(apply aw_draw;kernel_rfl)|(apply aw_condF;rfl;(rfl))|(apply aw_cond;rfl;all_goals intro hc;have hq:=hc;(try simp only [bqs] at hq);try exfalso;omega)|apply aw_block|apply aw_skip|apply aw_exit|apply aw_ret)|with_reducible apply tq_normal|with_reducible apply tq_exit|with_reducible apply bq_normal|with_reducible apply bq_here)
    · have hbt : badF p L k = true := by rw [hbd]; simp_all
      refine rx_mcallC (k := 72) (avs := [iv (k : Int), iv a]) (avs0 := [iv (k : Int), iv a, .optr 0 0]) (rr' := .tup []) [0] 1 [(0, some [iv ((c : Int) + 1)])] (told_c (k : Int) a (c : Int) (by omega) (by omega)) rfl rfl rfl rfl ⟨⟨_, _, rfl, rfl, RnL.purI inferInstance⟩, trivial⟩ rfl (RnL.cons (RnV.purI inferInstance) (RnL.cons (RnV.purI inferInstance) (RnL.cons (RnV.optr rfl) .nil))) rfl (RnV.purI inferInstance) rfl ⟨⟨0, _, rfl, rfl, RnL.purI inferInstance⟩, trivial⟩ rfl ?_
      repeat' (first|(apply id_rw;first|(apply rx_move;rfl;rfl)|(apply rx_add;rfl;rfl;omega;rfl)|(apply rw_nil;kernel_rfl))|(apply id_aw;(apply aw_region))|with_reducible apply tq_normal|with_reducible apply bq_normal)
      (apply ex3 (k + 1, c + 1);focus (refine Le.of (subT_ok ?_) (subH_ok ?_) (Nat.le_refl 2) rfl <;> repeat' (first|exact trivial|refine And.intro rfl ?_|refine And.intro (.inr rfl) ?_)))
      · exact ⟨by dsimp only;omega, (hch1 hbt).symm⟩
      · dsimp only;omega
    · have hbf : badF p L k = false := by rw [hbd]; simp_all
      (apply ex3 (k + 1, c);focus (refine Le.of (subT_ok ?_) (subH_ok ?_) (Nat.le_refl 2) rfl <;> repeat' (first|exact trivial|refine And.intro rfl ?_|refine And.intro (.inr rfl) ?_)))
      · exact ⟨by dsimp only;omega, (hcs1 hbf).symm⟩
      · dsimp only;omega
    · have hbf : badF p L k = false := by rw [hbd]; simp_all
      (apply ex3 (k + 1, c);focus (refine Le.of (subT_ok ?_) (subH_ok ?_) (Nat.le_refl 2) rfl <;> repeat' (first|exact trivial|refine And.intro rfl ?_|refine And.intro (.inr rfl) ?_)))
      · exact ⟨by dsimp only;omega, (hcs1 hbf).symm⟩
      · dsimp only;omega
    all_goals
      obtain rfl : k = T := by omega
      obtain rfl : c = cwF p L k := by assumption
      refine rq_ret rfl ?_
      exact mc_ret () trivial rfl ⟨.inr rfl, trivial⟩
  · have h2 : r8F p l = false := by simpa using h
    rw [h2, if_neg (by decide)]
    by_cases hv : validF p = true
    · have hil2 : (decide (0 ≤ l) && decide (l ≤ 6)) = false := by unfold r8F at h2; rw [hv] at h2; simpa using h2
      rw [hv] at hv0
      rw [hil2] at hil
      (refine mc_of_aw Tryz.func71 rfl (by simp [Tryz.ntmps71]) ?_; rw [Tryz.ntmps71])
      repeat' (first|(apply id_rw;first|((with_reducible apply rx_callE (k := 61));(case ha => rfl);(case h => exact hv0);(case hp => (exact Pur.pf));(case hN => rfl))|((with_reducible apply rx_callE (k := 103));(case ha => rfl);(case h => exact hil);(case hp => (rfl));(case hN => rfl))|(apply rx_move;rfl;rfl)|(apply rx_loadA;rfl;rfl;(exact (rfl:_=[_, _]));rfl;rfl;rfl)|(apply rx_guardY;rfl;rfl;rfl;(rfl))|(apply rx_assign;rfl;rfl)|(apply rx_pickF;rfl;(rfl);rfl;rfl)|(apply rw_nil;kernel_rfl)|(apply rx_not;rfl;rfl)|(apply rx_box;rfl;rfl;rfl;rfl))|(apply id_aw;first|apply aw_seq|apply aw_region|(apply aw_condT;rfl;(rfl))|apply aw_ret)|with_reducible apply tq_normal|with_reducible apply tq_ret)
      refine rq_ret rfl ?_
      exact mc_ret () trivial rfl ⟨.inr rfl, trivial⟩
    · have hv2 : validF p = false := by simpa using hv
      rw [hv2] at hv0
      (refine mc_of_aw Tryz.func71 rfl (by simp [Tryz.ntmps71]) ?_; rw [Tryz.ntmps71])
      repeat' (first|(apply id_rw;first|((with_reducible apply rx_callE (k := 61));(case ha => rfl);(case h => exact hv0);(case hp => (exact Pur.pf));(case hN => rfl))|(apply rx_move;rfl;rfl)|(apply rx_loadA;rfl;rfl;(exact (rfl:_=[_, _]));rfl;rfl;rfl)|(apply rx_guardNs;rfl;rfl;rfl;(rfl))|(apply rx_assign;rfl;rfl)|(apply rx_pickT;rfl;(rfl);rfl;rfl)|(apply rw_nil;kernel_rfl)|(apply rx_not;rfl;rfl)|(apply rx_box;rfl;rfl;rfl;rfl))|(apply id_aw;first|apply aw_seq|apply aw_region|(apply aw_condT;rfl;(rfl))|apply aw_ret)|with_reducible apply tq_normal|with_reducible apply tq_ret)
      refine rq_ret rfl ?_
      exact mc_ret () trivial rfl ⟨.inr rfl, trivial⟩
theorem CountWrongI_c (p : Prg) (l : Int) (hl : p.types.length ≤ 1000000) (hs : cntL p.body ≤ 1000000) : PC Tryz.prog 44 [aPrg p, iv l] (fun r => r = .tup (if r8F p l = true then [iv (cwF p l.toNat (2 ^ l.toNat)), iv ((2 ^ l.toNat : Nat) : Int)] else [iv 0, iv 0])) := by
  have hw := wrongC_c p l hl hs
  have harg : RnL (([1] : List Nat)[·]?) [aPrg p, iv l, .clos (.func 72) [] [.optr 0 0]] [aPrg p, iv l, .clos (.func 72) [] [.optr 1 0]] := RnL.cons (RnV.purI inferInstance) (RnL.cons (RnV.purI inferInstance) (RnL.cons (RnV.clos .nil (RnL.cons (RnV.optr rfl) .nil)) .nil))
  by_cases h : r8F p l = true
  · obtain ⟨hv, h0, h1⟩ := r8_true.1 h
    rw [h, if_pos rfl] at hw
    rw [h, if_pos rfl]
    obtain ⟨L, rfl⟩ := Int.eq_ofNat_of_zero_le h0
    have hp : 2 ^ L ≤ 2 ^ 6 := Nat.pow_le_pow_right (by decide) (by omega)
    rw [Int.toNat_natCast] at *
    (refine pc_of_aw Tryz.func44 rfl (by simp [Tryz.ntmps44]) ?_; rw [Tryz.ntmps44])
    repeat' (first|(apply id_rw;first|(apply rx_move;rfl;rfl)|(apply rx_loadA;rfl;rfl;(exact (rfl:_=[_, _]));rfl;rfl;rfl)|(apply rx_assign;rfl;rfl)|(apply rw_nil;kernel_rfl)|(apply rx_makeFunc;rfl;rfl;rfl)|(apply rx_box;rfl;rfl;rfl;rfl)|(apply rx_alloc;rfl;rfl)|(apply rx_store;rfl;rfl;rfl;rfl;rfl;(decide);(exact (rfl:_=[_]))))|(apply id_aw;first|apply aw_seq|apply aw_region)|with_reducible apply tq_normal)
    refine rx_mcallE (k := 71) (avs := [aPrg p, iv (L : Int), .clos (.func 72) [] [.optr 1 0]]) (rr' := bv true) [1] 1 [(1, some [iv (cwF p L (2 ^ L) : Int)])] hw rfl rfl ⟨⟨_, _, rfl, rfl, RnL.purI inferInstance⟩, trivial⟩ rfl harg rfl (RnV.purI inferInstance) rfl ⟨⟨0, _, rfl, rfl, RnL.purI inferInstance⟩, trivial⟩ rfl ?_
    repeat' (first|(apply id_rw;first|(apply rx_move;rfl;rfl)|(apply rx_load1;rfl;rfl;rfl;rfl)|(apply rx_shl1;rfl;rfl;infer_instance;omega;rfl;(case' kk => intro hsm))|(apply rx_assign;rfl;rfl)|(apply rw_nil;kernel_rfl)|(apply rx_not;rfl;rfl))|(apply id_aw;first|apply aw_seq|(apply aw_draw;kernel_rfl)|(apply aw_condF;rfl;(rfl))|apply aw_skip|apply aw_ret)|with_reducible apply tq_normal)
    exact rq_ret (l := [iv _, iv _]) rfl ⟨rfl, rfl⟩
  · have h2 : r8F p l = false := by simpa using h
    rw [h2, if_neg (by decide)] at hw
    rw [if_neg h]
    (refine pc_of_aw Tryz.func44 rfl (by simp [Tryz.ntmps44]) ?_; rw [Tryz.ntmps44])
    repeat' (first|(apply id_rw;first|(apply rx_move;rfl;rfl)|(apply rx_loadA;rfl;rfl;(exact (rfl:_=[_, _]));rfl;rfl;rfl)|(apply rx_assign;rfl;rfl)|(apply rw_nil;kernel_rfl)|(apply rx_makeFunc;rfl;rfl;rfl)|(apply rx_box;rfl;rfl;rfl;rfl)|(apply rx_alloc;rfl;rfl)|(apply rx_store;rfl;rfl;rfl;rfl;rfl;(decide);(exact (rfl:_=[_]))))|(apply id_aw;first|apply aw_seq|apply aw_region)|with_reducible apply tq_normal)
    refine rx_mcallE (k := 71) (avs := [aPrg p, iv l, .clos (.func 72) [] [.optr 1 0]]) (rr' := bv false) [1] 1 [(1, some [iv 0])] hw rfl rfl ⟨⟨_, _, rfl, rfl, RnL.purI inferInstance⟩, trivial⟩ rfl harg rfl (RnV.purI inferInstance) rfl ⟨⟨0, _, rfl, rfl, RnL.purI inferInstance⟩, trivial⟩ rfl ?_
    repeat' (first|(apply id_rw;first|(apply rx_assign;rfl;rfl)|(apply rw_nil;kernel_rfl)|(apply rx_not;rfl;rfl))|(apply id_aw;first|apply aw_seq|apply aw_region|(apply aw_condT;rfl;(rfl))|apply aw_ret)|with_reducible apply tq_normal|with_reducible apply tq_ret)
    exact rq_ret (l := [iv 0, iv 0]) rfl ⟨rfl, rfl⟩
def cwN (p : Prg) (l : Int) : Int := if r8F p l = true then (cwF p l.toNat (2 ^ l.toNat) : Int) else 0
def cwA (p : Prg) (l : Int) : Int := if r8F p l = true then ((2 ^ l.toNat : Nat) : Int) else 0
theorem cwI_c (p : Prg) (l : Int) (hl : p.types.length ≤ 1000000) (hs : cntL p.body ≤ 1000000) : PC Tryz.prog 44 [aPrg p, iv l] (fun r => r = .tup [iv (cwN p l), iv (cwA p l)]) := by
  have h := CountWrongI_c p l hl hs
  unfold cwN cwA
  split
  · rename_i h2;rw [if_pos h2] at h;exact h
  · rename_i h2;rw [if_neg h2] at h;exact h
theorem cwS_c (p : Prg) (l : Int) (hl : p.types.length ≤ 1000000) (hs : cntL p.body ≤ 1000000) : PC Tryz.prog 45 [aPrg p, iv l] (fun r => r = .tup [iv (cwN p l), iv (cwA p l)]) := by
  have h := CountWrongS_c p l hl hs
  unfold cwN cwA
  split
  · rename_i h2;rw [if_pos h2] at h;exact h
  · rename_i h2;rw [if_neg h2] at h;exact h
theorem cwA_bd (p : Prg) (l : Int) : 0 ≤ cwA p l ∧ cwA p l ≤ 64 := by
  unfold cwA
  split
  · rename_i h
    obtain ⟨_, h0, h1⟩ := r8_true.1 h
    have hp : 2 ^ l.toNat ≤ 2 ^ 6 := Nat.pow_le_pow_right (by decide) (by omega)
    have h64 : (2 ^ 6 : Nat) = 64 := rfl
    rw [h64] at hp
    exact ⟨Int.natCast_nonneg _, by exact_mod_cast hp⟩
  · omega
theorem cwA_twice {p : Prg} {l : Int} (h : cwA p l ≠ 0) (h4 : l ≤ 4) : cwA p (l + 1) = 2 * cwA p l := by
  unfold cwA at *
  by_cases h8 : r8F p l = true
  · obtain ⟨hv, h0, h1⟩ := r8_true.1 h8
    rw [if_pos h8, if_pos (r8_true.2 ⟨hv, by omega, by omega⟩)]
    rw [show (l + 1).toNat = l.toNat + 1 by omega, Nat.pow_succ, Nat.mul_comm, Int.natCast_mul]
    rfl
  · rw [if_neg h8] at h;exact absurd rfl h
theorem FnAllRuns_c (bs : List UInt8) : PC Tryz.prog 12 [sl cU bs] (fun r => r = bv true) := by
  rcases Nat.lt_or_ge 1048576 bs.length with hb|hb
  · (refine pc_of_aw Tryz.func12 rfl (by simp [Tryz.ntmps12]) ?_; rw [Tryz.ntmps12])
    repeat' (first|(apply id_rw;first|(apply rx_move;rfl;rfl)|(apply rx_bin;rfl;rfl;rfl;rfl)|(apply rx_assign;rfl;rfl)|(apply rx_len;rfl;rfl;rfl)|(apply rw_nil;kernel_rfl))|(apply id_aw;first|apply aw_seq|apply aw_region|(apply aw_cond;rfl;all_goals intro hc;have hq:=hc;(try simp only [bqs] at hq);try exfalso;omega)|apply aw_ret)|with_reducible apply tq_normal|with_reducible apply tq_ret)
    exact rq_ret rfl ⟨rfl, rfl⟩
  (refine pc_of_aw Tryz.func12 rfl (by simp [Tryz.ntmps12]) ?_; rw [Tryz.ntmps12])
  repeat' (first|(apply id_rw;first|((with_reducible apply rx_call (k := 43));(case ha => rfl);(case h => exact drawCW_c bs hb);(case hp => (exact Pur.pf));(case hN => rfl);(rintro _ ⟨q, n, rfl, hq1, hq2, hq3, hq4⟩ _))|(with_reducible apply rw_stop (d := 20))|(apply rx_move;rfl;rfl)|(apply rx_bin;rfl;rfl;rfl;rfl)|(apply rx_assign;rfl;rfl)|(apply rx_len;rfl;rfl;rfl)|(apply rw_nil;kernel_rfl)|(apply rx_alloc;rfl;rfl)|(apply rx_extract;rfl;rfl;rfl)|(apply rx_store;rfl;rfl;rfl;rfl;rfl;(case hl => (simp;done));(exact (rfl:_=[_, _]))))|(apply id_aw;first|apply aw_seq|apply aw_region|(apply aw_cond;rfl;all_goals intro hc;have hq:=hc;(try simp only [bqs] at hq);try exfalso;omega)|apply aw_skip)|with_reducible apply tq_normal)
  refine rw_go ?_
  have h1 := cwI_c q n (by omega) (by omega)
  have h2 := cwS_c q n (by omega) (by omega)
  have h3 := cwI_c q (n + 1) (by omega) (by omega)
  have hb1 := cwA_bd q n
  have hb2 := cwA_bd q (n + 1)
  have ht := cwA_twice (p := q) (l := n)
  generalize cwN q n = c at *
  generalize cwA q n = a at *
  generalize cwN q (n + 1) = c2 at *
  generalize cwA q (n + 1) = a2 at *
  repeat' (first|(apply id_rw;first|(with_reducible apply rw_stop (d := 56))|((with_reducible apply rx_callE (k := 44));(case ha => rfl);(case h => exact h1);(case hp => (exact Pur.pf));(case hN => rfl))|((with_reducible apply rx_callE (k := 45));(case ha => rfl);(case h => exact h2);(case hp => (exact Pur.pf));(case hN => rfl))|(apply rx_move;rfl;rfl)|(apply rx_loadA;rfl;rfl;(exact (rfl:_=[_, _]));rfl;rfl;rfl)|(first|(apply rx_guardY;rfl;rfl;rfl;(assumption))|(apply rx_guardNs;rfl;rfl;rfl;(first|rfl|assumption))|(apply rx_guardS;(case hj|hb|hN => rfl);all_goals (intro hg;have hq := hg;(try simp only [bqs] at hq);(try (exfalso;omega)))))|(apply rx_bin;rfl;rfl;rfl;rfl)|(apply rx_assign;rfl;rfl)|(first|(apply rx_pickT;rfl;(first|rfl|assumption);rfl;rfl)|(apply rx_pickF;rfl;(assumption);rfl;rfl))|(apply rw_nil;kernel_rfl)|(apply rx_extract;rfl;rfl;rfl))|(apply id_aw;first|apply aw_seq|apply aw_region|(apply aw_condT;rfl;(rfl))|(apply aw_cond;rfl;all_goals intro hc;have hq:=hc;(try simp only [bqs] at hq);try exfalso;omega)|apply aw_skip|apply aw_ret)|with_reducible apply tq_normal|with_reducible apply tq_ret)
  all_goals first
    | (exfalso;exact (by assumption : ¬ True) trivial)
    | (refine rq_ret rfl ⟨?_, rfl⟩; simp only [oneOf, decide_true]; done)
    | refine rw_go ?_
  have ht2 := ht (by assumption) (by omega)
  subst ht2
  repeat' (first|(apply id_rw;first|((with_reducible apply rx_callE (k := 44));(case ha => rfl);(case h => exact h3);(case hp => (exact Pur.pf));(case hN => rfl))|(apply rx_move;rfl;rfl)|(apply rx_loadA;rfl;rfl;(exact (rfl:_=[_, _]));rfl;rfl;rfl)|(first|(apply rx_add;rfl;rfl;omega;rfl)|(apply rx_mul;rfl;rfl;omega;rfl)|(apply rx_bin;rfl;rfl;rfl;rfl))|(apply rx_assign;rfl;rfl)|(apply rw_nil;kernel_rfl)|(apply rx_extract;rfl;rfl;rfl))|(apply id_aw;first|apply aw_seq|apply aw_region|apply aw_ret)|with_reducible apply tq_normal)
  refine rq_ret rfl ⟨?_, rfl⟩
  simp only [oneOf, decide_true]
def ccF (p : Prg) : Nat := (psF p).countP fun x => decide (x.next.length = 2)
theorem ps_nx (p : Prg) (k : Nat) (h : k < (psF p).length) : (psF p)[k]!.next.length ≤ 1000000 := by
  unfold psF at h ⊢
  split at h
  · rename_i hv
    rw [if_pos hv]
    have := (WG.of_valid hv).nl k h
    omega
  · simp at h
theorem CountChoices_c (p : Prg) (hl : p.types.length ≤ 1000000) (hs : cntL p.body ≤ 1000000) : PC Tryz.prog 46 [aPrg p] (fun r => r = iv (ccF p : Int)) := by
  have h4 := PointsOfI_c p hl hs
  change PC _ _ _ (fun r => r = sl cPnt (psF p)) at h4
  have hP := ps_len (p := p)
  have hd : ccF p = (psF p).countP fun x => decide (x.next.length = 2) := rfl
  have hnx := ps_nx p
  generalize psF p = ps at *
  (refine pc_of_aw Tryz.func46 rfl (by simp [Tryz.ntmps46]) ?_; rw [Tryz.ntmps46])
  repeat' (first|(apply id_rw;first|((with_reducible apply rx_callE (k := 22));(case ha => rfl);(case h => exact h4);(case hp => (exact Pur.pf));(case hN => rfl))|(apply rx_move;rfl;rfl)|(apply rx_loadA;rfl;rfl;(exact (rfl:_=[_, _]));rfl;rfl;rfl)|(apply rx_assign;rfl;rfl)|(apply rx_len;rfl;rfl;rfl)|(apply rw_nil;kernel_rfl)|(apply rx_box;rfl;rfl;rfl;rfl))|(apply id_aw;first|apply aw_seq|apply aw_region|apply aw_block)|with_reducible apply tq_normal)
  refine aw_loopK (σ := Nat × Nat) [7, 8] [(7, _), (8, _)] [0] [(0, some _)] (fun s => [(9, iv (s.1 : Int)), (3, iv (s.2 : Int))]) (fun s => []) (fun s => s.1 ≤ ps.length ∧ s.2 = (ps.take s.1).countP (fun x => decide (x.next.length = 2)) ∧ s.2 ≤ s.1) (fun s => ps.length - s.1) (0, 0) ⟨Nat.zero_le _, rfl, Nat.le_refl _⟩ rfl rfl (by repeat' (first|exact trivial|refine And.intro rfl ?_)) (by repeat' (exact trivial)) ?_
  rintro ⟨k, c⟩ ⟨hk, hc, hck⟩
  dsimp only at hk hc hck ⊢
  by_cases hkn : k < ps.length
  · have hch := isChoice_c ps[k]! (hnx k hkn)
    have hst : (ps.take (k + 1)).countP (fun x => decide (x.next.length = 2)) = c + (if ps[k]!.next.length = 2 then 1 else 0) := by
      rw [take_succB ps k hkn, List.countP_append, ← hc, List.countP_singleton]
      simp only [decide_eq_true_eq]
    repeat' (first|(apply id_rw;first|((with_reducible apply rx_callE (k := 77));(case ha => rfl);(case h => exact hch);(case hp => (exact Pur.pf));(case hN => rfl))|(apply rx_move;rfl;rfl)|(apply rx_loadA;rfl;rfl;(exact (rfl:_=[_, _, _, _, _]));rfl;rfl;rfl)|(first|(apply rx_add;rfl;rfl;omega;rfl)|(apply rx_bin;rfl;rfl;rfl;rfl))|(apply rx_assign;rfl;rfl)|(apply rx_indexFN;(case hx|hi => rfl);(case hm => (assumption));(case hml => (rfl));(case hα | hf|hg => infer_instance);(case hN => rfl))|(apply rw_nil;kernel_rfl)|(apply rx_alloc;rfl;rfl)|(apply rx_store;rfl;rfl;rfl;rfl;rfl;(case hl => (simp;done));(exact (rfl:_=[_, _, _, _, _]))))|(apply id_aw;first|apply aw_seq|apply aw_region|(apply aw_cond;rfl;all_goals intro hc;have hq:=hc;(try simp only [bqs] at hq);try exfalso;omega)|apply aw_block|apply aw_skip)|with_reducible apply tq_normal|with_reducible apply bq_normal)
    · (apply ex3 (k + 1, c + 1); focus (refine Le.ren [(0, 0)] rfl (by decide) ?_ ?_ <;> repeat' (first | exact trivial | refine And.intro ⟨_, rfl, ?_⟩ ?_ | refine And.intro ⟨_, _, rfl, rfl, ?_⟩ ?_ | refine Or.inl ⟨?_, (by first | rfl | exact pur_sl _ _ | exact Pur.pf)⟩ | rfl)))
      · refine ⟨by dsimp only; omega, ?_, by dsimp only; omega⟩
        dsimp only;rw [hst, if_pos (by assumption)]
      · dsimp only;omega
    · (apply ex3 (k + 1, c); focus (refine Le.ren [(0, 0)] rfl (by decide) ?_ ?_ <;> repeat' (first | exact trivial | refine And.intro ⟨_, rfl, ?_⟩ ?_ | refine And.intro ⟨_, _, rfl, rfl, ?_⟩ ?_ | refine Or.inl ⟨?_, (by first | rfl | exact pur_sl _ _ | exact Pur.pf)⟩ | rfl)))
      · refine ⟨by dsimp only; omega, ?_, by dsimp only; omega⟩
        dsimp only;rw [hst, if_neg (by assumption)]; rfl
      · dsimp only;omega
  · have hce : c = ccF p := by rw [hd, hc, List.take_of_length_le (by omega)]
    repeat' (first|(apply id_rw;first|(apply rx_move;rfl;rfl)|(apply rx_bin;rfl;rfl;rfl;rfl)|(apply rx_assign;rfl;rfl)|(apply rw_nil;kernel_rfl))|(apply id_aw;first|apply aw_seq|apply aw_region|(apply aw_cond;rfl;all_goals intro hc;have hq:=hc;(try simp only [bqs] at hq);try exfalso;omega)|apply aw_exit|apply aw_ret)|with_reducible apply tq_normal|with_reducible apply tq_exit|with_reducible apply bq_here)
    refine rq_ret rfl ⟨?_, rfl⟩
    simp only [oneOf, hce]
theorem cw_nc {p : Prg} {l : Int} (h : ccF p = 0) : cwN p l = 0 ∨ cwN p l = cwA p l := by
  unfold cwN cwA
  by_cases h8 : r8F p l = true
  · rw [if_pos h8, if_pos h8]
    obtain ⟨hv, _, _⟩ := r8_true.1 h8
    have hps : psF p = ptsF p := by unfold psF;rw [if_pos hv]
    have hn : ∀ a : Nat, ¬ (ptsF p)[a]!.next.length = 2 := nc_of_count (by rw [← hps]; exact h)
    have e : ∀ cs cs', reE p cs 80 = reE p cs' 80 := fun cs cs' => by unfold reE;rw [run_nc hn cs cs']
    have hb : ∀ k, badF p l.toNat k = badF p l.toNat 0 := fun k => by
      unfold badF
      rw [e (chF k l.toNat) (chF 0 l.toNat)]
    cases hq : badF p l.toNat 0 with
    | true =>
      right
      unfold cwF
      rw [List.filter_eq_self.2 (fun k _ => by rw [hb]; exact hq), List.length_range]
    | false =>
      left
      unfold cwF
      rw [List.filter_eq_nil_iff.2 (fun k _ => by rw [hb, hq]; decide)]
      rfl
  · left;rw [if_neg h8]
theorem FnNoChoices_c (bs : List UInt8) : PC Tryz.prog 13 [sl cU bs] (fun r => r = bv true) := by
  rcases Nat.lt_or_ge 1048576 bs.length with hb|hb
  · (refine pc_of_aw Tryz.func13 rfl (by simp [Tryz.ntmps13]) ?_; rw [Tryz.ntmps13])
    repeat' (first|(apply id_rw;first|(apply rx_move;rfl;rfl)|(apply rx_bin;rfl;rfl;rfl;rfl)|(apply rx_assign;rfl;rfl)|(apply rx_len;rfl;rfl;rfl)|(apply rw_nil;kernel_rfl))|(apply id_aw;first|apply aw_seq|apply aw_region|(apply aw_cond;rfl;all_goals intro hc;have hq:=hc;(try simp only [bqs] at hq);try exfalso;omega)|apply aw_ret)|with_reducible apply tq_normal|with_reducible apply tq_ret)
    exact rq_ret rfl ⟨rfl, rfl⟩
  (refine pc_of_aw Tryz.func13 rfl (by simp [Tryz.ntmps13]) ?_; rw [Tryz.ntmps13])
  repeat' (first|(apply id_rw;first|((with_reducible apply rx_call (k := 43));(case ha => rfl);(case h => exact drawCW_c bs hb);(case hp => (exact Pur.pf));(case hN => rfl);(rintro _ ⟨q, n, rfl, hq1, hq2, hq3, hq4⟩ _))|(with_reducible apply rw_stop (d := 18))|(apply rx_move;rfl;rfl)|(apply rx_bin;rfl;rfl;rfl;rfl)|(apply rx_assign;rfl;rfl)|(apply rx_len;rfl;rfl;rfl)|(apply rw_nil;kernel_rfl)|(apply rx_alloc;rfl;rfl)|(apply rx_extract;rfl;rfl;rfl)|(apply rx_store;rfl;rfl;rfl;rfl;rfl;(case hl => (simp;done));(exact (rfl:_=[_, _]))))|(apply id_aw;first|apply aw_seq|apply aw_region|(apply aw_cond;rfl;all_goals intro hc;have hq:=hc;(try simp only [bqs] at hq);try exfalso;omega)|apply aw_skip)|with_reducible apply tq_normal)
  refine rw_go ?_
  have h1 := cwI_c q n (by omega) (by omega)
  have h2 := cwS_c q n (by omega) (by omega)
  have h3 := CountChoices_c q (by omega) (by omega)
  have hb1 := cwA_bd q n
  have hnc := cw_nc (p := q) (l := n)
  generalize cwN q n = c at *
  generalize cwA q n = a at *
  generalize ccF q = m at *
  repeat' (first|(apply id_rw;first|((with_reducible apply rx_callE (k := 44));(case ha => rfl);(case h => exact h1);(case hp => (exact Pur.pf));(case hN => rfl))|((with_reducible apply rx_callE (k := 45));(case ha => rfl);(case h => exact h2);(case hp => (exact Pur.pf));(case hN => rfl))|((with_reducible apply rx_callE (k := 46));(case ha => rfl);(case h => exact h3);(case hp => (exact Pur.pf));(case hN => rfl))|(apply rx_move;rfl;rfl)|(apply rx_loadA;rfl;rfl;(exact (rfl:_=[_, _]));rfl;rfl;rfl)|(first|(apply rx_guardY;rfl;rfl;rfl;(assumption))|(apply rx_guardNs;rfl;rfl;rfl;(first|rfl|assumption))|(apply rx_guardS;(case hj|hb|hN => rfl);all_goals (intro hg;have hq := hg;(try simp only [bqs] at hq);(try (exfalso;omega)))))|(apply rx_bin;rfl;rfl;rfl;rfl)|(apply rx_assign;rfl;rfl)|(first|(apply rx_pickT;rfl;(first|rfl|assumption);rfl;rfl)|(apply rx_pickF;rfl;(assumption);rfl;rfl))|(apply rw_nil;kernel_rfl)|(apply rx_extract;rfl;rfl;rfl))|(apply id_aw;first|apply aw_seq|apply aw_region|(apply aw_condT;rfl;(rfl))|(apply aw_cond;rfl;all_goals intro hc;have hq:=hc;(try simp only [bqs] at hq);try exfalso;omega)|apply aw_skip|apply aw_ret)|with_reducible apply tq_normal|with_reducible apply tq_ret)
  all_goals first
    | (exfalso;exact (by assumption : ¬ True) trivial)
    | (refine rq_ret rfl ⟨?_, rfl⟩; simp only [oneOf, decide_true]; done)
    | (have hc2 : c = 0 ∨ c = a := hnc (by omega)
       refine rq_ret rfl ⟨?_, rfl⟩
       have hc3 : c = a := by omega
       simp only [oneOf, hc3, decide_true])
    | (refine rq_ret rfl ⟨?_, rfl⟩
       have hc3 : c = 0 := by omega
       simp only [oneOf, hc3, decide_true])
end Go.Proofs.YtlbbbmeadnelbaaGreat
namespace Go.Proofs.YtlbbbmeadnelbaaGreat
open Go.AL Go.ChangeShapes Go.WideShapes Go.ChangeAt Go.RowKit
theorem RdC_bytes {w : World} {bad : Nat → Prop} {ι : Pl} {b : Nat} : ∀ (bs : List UInt8) (o : Nat), ¬ bad b → (∀ j, j < bs.length → w.cell? ⟨b, o + j, none⟩ = some (.int .u8 ((bs[j]!).toNat : Int))) → RdC w bad ι (flat cU bs) b o
  | [], _, _, _ => by simp only [flat, List.flatMap_nil, RdC]
  | x :: bs, o, hb, h => by
    have h0 := h 0 (by simp)
    have e : flat cU (x :: bs) = .v (.int .u8 (x.toNat : Int)) :: flat cU bs := rfl
    rw [e]
    simp only [RdC]
    refine ⟨⟨.int .u8 (x.toNat : Int), by simpa using h0, rfl, by simp only [Rd]⟩, RdC_bytes bs (o + 1) hb fun j hj => ?_⟩
    have := h (j + 1) (by simpa using hj)
    rw [show o + 1 + j = o + (j + 1) from by omega]
    simpa using this
theorem calls_of_pc {P : Program} {k : FuncId} {bs : List UInt8} (h : PC P k [sl cU bs] (fun r => r = bv true)) {W : World} {v : Value} (hv : Rd W (fun _ => False) (fun _ => none) (sl cU bs) v) :
    Calls P k #[v] W fun e W' => e = .returned (.bool true) ∧ Below W.heap.size W W' := by
  let C : Ctx := { N := 0, w0 := W, W0 := fun _ => False, X := fun _ => False, ι0 := fun _ => none, xlt := fun _ h => h.elim }
  have hbad : ∀ b, ¬ badOf C.X (fun _ => none) (lkH []) b := by
    rintro b (h | ⟨id, cs, β, h1, h2⟩)
    · exact h
    · cases h2
  have g : HG C (fun _ => none) (fun j => 0 ≤ j) (lkH []) W :=
    ⟨fun id cs h => by simp [lkH] at h, fun id id' cs cs' b β β' h => by simp [lkH] at h, Fr.refl _ _, fun _ _ h => h, fun _ _ => rfl⟩
  have hcar : Carry W (fun _ => False) (fun _ => none) W (badOf C.X (fun _ => none) (lkH [])) (fun _ => none) := ⟨fun b o x _ h2 => ⟨hbad b, h2⟩, fun _ _ h => h, fun _ => Nat.le_refl _⟩
  have ha : RdV W (badOf C.X (fun _ => none) (lkH [])) (fun _ => none) [sl cU bs] [v] := by
    simp only [RdV]
    exact ⟨v, [], rfl, Rd.carry hcar _ _ hv, rfl⟩
  refine (h C _ W [v] rfl rfl g ha).mono ?_
  rintro e W' ⟨v', r, H', ι', rfl, ⟨rfl, _⟩, h4, h5⟩
  simp only [Rd] at h4
  subst h4
  have f := h5.fr
  exact ⟨rfl, f.os, f.tape, f.output, f.size, fun b hb => f.block b hb (fun h => h)⟩
theorem laid : laidOutB Tryz.prog = true := by kernel_rfl
theorem cells5 : Tryz.prog.cellsOf 5 = 1 := by kernel_rfl
theorem bytes_in {H : Type} {enc : TypeId × Value → H} {W : World} {base : Nat} {v0 : Value} {d0 : DataW H} {p : List MemPlace} (hval : Value.okWide Tryz.prog W .any base 22 v0) (h0 : DataW.Trod enc Tryz.prog W 0 (fun _ => true) true 22 v0 d0 p) :
    ∃ bs : List UInt8, Rd W (fun _ => False) (fun _ => none) (sl cU bs) v0 := by
  obtain ⟨a0, len, cap, rfl⟩ := okWide_slice Tryz.underlying22 hval
  obtain ⟨fuel, hf⟩ := h0
  rcases open_ints Tryz.underlying22 Tryz.underlying5 cells5 hf with ⟨hcs, hx⟩ | ⟨a, len', cap', zs, hcs, _, hl, hm, hz, hx, hcell, hwz⟩
  · simp [Value.cells] at hcs
    obtain ⟨rfl, rfl, rfl⟩ := hcs
    refine ⟨[], ?_⟩
    simp only [Rd]
    exact ⟨none, 0, rfl, .inl rfl⟩
  · simp [Value.cells] at hcs
    obtain ⟨rfl, rfl, rfl⟩ := hcs
    simp only [if_true] at hz
    refine ⟨(zs.take len).map fun n => UInt8.ofNat n.toNat, ?_⟩
    have hlen : ((zs.take len).map fun n => UInt8.ofNat n.toNat).length = len := by simp;omega
    simp only [Rd]
    refine ⟨some a, cap, by rw [hlen], ?_⟩
    by_cases h00 : len = 0
    · exact .inl (by rw [hlen]; exact h00)
    · obtain ⟨b, off, spot⟩ := a
      have hspot : spot = none := by simpa [Addr.add] using World.cell?_spot (hcell 0 (by omega))
      subst hspot
      refine .inr ⟨b, off, by rw [hlen]; exact hl, rfl, .inr ⟨fun h => h, RdC_bytes _ _ (fun h => h) fun j hj => ?_⟩⟩
      rw [hlen] at hj
      have hcj := hcell j (by omega)
      rw [Addr.add_lit] at hcj
      rw [hcj]
      have e : zs.getD j 0 = zs[j]'(by omega) := by simp [List.getD, List.getElem?_eq_getElem (show j < zs.length by omega)]
      have hw := hwz (zs[j]'(by omega)) (List.getElem_mem _)
      have hr : 0 ≤ zs[j]'(by omega) ∧ zs[j]'(by omega) ≤ 255 := by simpa [Lit.wf, IntKind.min, IntKind.max, IntKind.signed, IntKind.bits] using hw
      rw [e, getB _ _ (by rw [hlen]; exact hj)]
      simp only [List.getElem_map, List.getElem_take]
      congr 2
      simp only [UInt8.toNat_ofNat']
      omega
end Go.Proofs.YtlbbbmeadnelbaaGreat
