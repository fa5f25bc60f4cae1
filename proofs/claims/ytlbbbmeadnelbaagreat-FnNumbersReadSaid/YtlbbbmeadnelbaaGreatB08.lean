/-
  A part of the proofs over this program: rules and contracts of its functions (the contracts).
-/
import Derived.Test.YtlbbbmeadnelbaaGreatB07
import Derived.Test.YtlbbbmeadnelbaaGreatRows
import Derived.WalkKit
import Derived.ProofKit
import Derived.OpenShut
import Derived.Carry
import Derived.ChangeSlices
set_option linter.unusedVariables false
set_option linter.unusedSimpArgs false
set_option maxHeartbeats 8000000
set_option maxRecDepth 4000
attribute [local irreducible] Go.AL.RW Go.AL.AW Go.AL.Stop
namespace Go.Proofs.YtlbbbmeadnelbaaGreat
open Go.AL Go.RowKit
theorem re_str {p : Prg} {cs : List Int} {n : Int} (hL : (if validF p = true then lnL (ptsF p) (ptsF p).length else []) = []) : reE p cs n ≠ 3 ∧ reE p cs n ≠ 4 := by
  unfold reE
  by_cases h : rgF p n = true
  · obtain ⟨hv, h0, hn⟩ := rgF_true.1 h
    rw [if_pos hv] at hL
    rw [if_pos h]
    refine run_straight (WG.of_valid hv) (WA.of_valid hv) (fun i hi => ?_) cs n.toNat
    cases q : isLn (ptsF p)[i]! with
    | false => rfl
    | true =>
      have hm : i ∈ (List.range (ptsF p).length).filter (fun i => isLn (ptsF p)[i]!) := List.mem_filter.2 ⟨List.mem_range.2 hi, q⟩
      unfold lnL at hL
      rw [List.map_eq_nil_iff] at hL
      rw [hL] at hm;cases hm
  · rw [if_neg h]; exact ⟨by decide, by decide⟩
theorem FnStraightRun_c (bs : List UInt8) : PC Tryz.prog 11 [sl cU bs] (fun r => r = bv true) := by
  rcases Nat.lt_or_ge 1048576 bs.length with hb|hb
  · (refine pc_of_aw Tryz.func11 rfl (by simp [Tryz.ntmps11]) ?_; rw [Tryz.ntmps11])
    repeat' (first|(apply id_rw;first|(apply rx_move;rfl;rfl)|(apply rx_bin;rfl;rfl;rfl;rfl)|(apply rx_assign;rfl;rfl)|(apply rx_len;rfl;rfl;rfl)|(apply rw_nil;kernel_rfl))|(apply id_aw;first|apply aw_seq|apply aw_region|(apply aw_cond;rfl;all_goals intro hc;have hq:=hc;(try simp only [bqs] at hq);try exfalso;omega)|apply aw_ret)|with_reducible apply tq_normal|with_reducible apply tq_ret)
    exact rq_ret rfl ⟨rfl, rfl⟩
  (refine pc_of_aw Tryz.func11 rfl (by simp [Tryz.ntmps11]) ?_; rw [Tryz.ntmps11])
  repeat' (first|(apply id_rw;first|((with_reducible apply rx_call (k := 17));(case ha => rfl);(case h => exact drawRun_c bs hb);(case hp => (exact Pur.pf));(case hN => rfl);(rintro _ ⟨q, cs, n, rfl, hq1, hq2, hq3, hq4, hq5⟩ _))|(with_reducible apply rw_stop (d := 20))|(apply rx_move;rfl;rfl)|(apply rx_bin;rfl;rfl;rfl;rfl)|(apply rx_assign;rfl;rfl)|(apply rx_len;rfl;rfl;rfl)|(apply rw_nil;kernel_rfl)|(apply rx_alloc;rfl;rfl)|(apply rx_extract;rfl;rfl;rfl)|(apply rx_store;rfl;rfl;rfl;rfl;rfl;(case hl => (simp;done));(exact (rfl:_=[_, _]))))|(apply id_aw;first|apply aw_seq|apply aw_region|(apply aw_cond;rfl;all_goals intro hc;have hq:=hc;(try simp only [bqs] at hq);try exfalso;omega)|apply aw_skip)|with_reducible apply tq_normal)
  refine rw_go ?_
  have h1 := runI_e q cs n (by omega) (by omega) (by omega)
  have h2 := runS_e q cs n (by omega) (by omega) (by omega)
  have h3 := LoansOf_c q (by omega) (by omega)
  have m1 := re_str (p := q) (cs := cs) (n := n)
  have hl : (if validF q = true then lnL (ptsF q) (ptsF q).length else []).length ≤ 61 := by
    split
    · rename_i hv;have := (WG.of_valid hv).pl;exact Nat.le_trans (lnL_len _ _) (by omega)
    · simp
  generalize (if validF q = true then lnL (ptsF q) (ptsF q).length else []) = LN at *
  generalize reE q cs n = e at *
  generalize reA q cs n = a at *
  repeat' (first|(apply id_rw;first|((with_reducible apply rx_callE (k := 18));(case ha => rfl);(case h => exact h1);(case hp => (exact Pur.pf));(case hN => rfl))|((with_reducible apply rx_callE (k := 19));(case ha => rfl);(case h => exact h2);(case hp => (exact Pur.pf));(case hN => rfl))|((with_reducible apply rx_callE (k := 42));(case ha => rfl);(case h => exact h3);(case hp => (exact Pur.pf));(case hN => rfl))|(apply rx_move;rfl;rfl)|(apply rx_loadA;rfl;rfl;(exact (rfl:_=[_, _]));rfl;rfl;rfl)|(first|(apply rx_guardY;rfl;rfl;rfl;(assumption))|(apply rx_guardNs;rfl;rfl;rfl;(first|rfl|assumption))|(apply rx_guardS;(case hj|hb|hN => rfl);all_goals (intro hg;have hq := hg;(try simp only [bqs] at hq);(try (exfalso;omega)))))|(apply rx_bin;rfl;rfl;rfl;rfl)|(apply rx_assign;rfl;rfl)|(first|(apply rx_pickT;rfl;(first|rfl|assumption);rfl;rfl)|(apply rx_pickF;rfl;(assumption);rfl;rfl))|(apply rx_len;rfl;rfl;rfl)|(apply rw_nil;kernel_rfl)|(apply rx_extract;rfl;rfl;rfl))|(apply id_aw;first|apply aw_seq|apply aw_region|(apply aw_condT;rfl;(rfl))|(apply aw_cond;rfl;all_goals intro hc;have hq:=hc;(try simp only [bqs] at hq);try exfalso;omega)|apply aw_skip|apply aw_ret)|with_reducible apply tq_normal|with_reducible apply tq_ret)
  all_goals first
    | (exfalso;exact (by assumption : ¬ True) trivial)
    | (refine rq_ret rfl ⟨?_, rfl⟩; simp only [oneOf, decide_true]; done)
    | (have hLN : LN = [] := List.eq_nil_of_length_eq_zero (by omega)
       obtain ⟨m3, m4⟩ := m1 hLN
       first|(exfalso;exact m3 (by assumption))|(refine rq_ret rfl ⟨?_, rfl⟩; simp only [oneOf]; rw [decide_eq_false m4]; rfl))
theorem cm_e (p : Prg) (cs : List Int) (n : Int) (hl : p.types.length ≤ 1000000) (hs : cntL p.body ≤ 1000000) (hcl : cs.length ≤ 1000000) : ∃ N F E : Int, PC Tryz.prog 24 [aPrg p, sl cI cs, iv n] (fun r => r = .tup [iv N, iv F, iv E]) ∧ PC Tryz.prog 25 [aPrg p, sl cI cs, iv n] (fun r => r = .tup [iv N, iv F, iv E]) ∧ 0 ≤ F ∧ F ≤ N ∧ N ≤ 200 ∧
    E = reE p cs n ∧ (rgF p n = false ∧ N = 0 ∧ F = 0 ∨ rgF p n = true ∧ N = (runP p.types (ptsF p) cs n.toNat).1.cells.length ∧ F = N - (alvL (runP p.types (ptsF p) cs n.toNat).1.cells).length) := by
  have h1 := CellsMadeI_c p cs n hl hs hcl
  have h2 := CellsMadeS_c p cs n hl hs hcl
  by_cases h : rgF p n = true
  · rw [if_pos h] at h1 h2
    obtain ⟨hv, h0, hn⟩ := rgF_true.1 h
    have hok := run_ok (cs := cs) (n := n.toNat) hv
    have hml := hok.m.l
    have hal : (alvL (runP p.types (ptsF p) cs n.toNat).1.cells).length ≤ (runP p.types (ptsF p) cs n.toNat).1.cells.length := by
      unfold alvL;rw [List.length_map]; exact Nat.le_trans (List.length_filter_le _ _) (by rw [List.length_range]; exact Nat.le_refl _)
    refine ⟨_, _, _, h1, h2, by omega, by omega, by omega, by unfold reE;rw [if_pos h], .inr ⟨h, rfl, rfl⟩⟩
  · rw [if_neg h] at h1 h2
    exact ⟨_, _, _, h1, h2, by decide, by decide, by decide, by unfold reE;rw [if_neg h], .inl ⟨by simpa using h, rfl, rfl⟩⟩
theorem cm_bound {p : Prg} {cs : List Int} {n : Int} {N : Int} (h : rgF p n = true) (hN : N = (runP p.types (ptsF p) cs n.toNat).1.cells.length) : N ≤ (rpL p cs n).length := by
  obtain ⟨hv, h0, hn⟩ := rgF_true.1 h
  have h1 := run_cells p.types (ptsF p) (wayF (ptsF p) n.toNat 0 cs).1 (mc0 p.types.length) 0
  have e : (rpL p cs n).length = (wayF (ptsF p) n.toNat 0 cs).1.length := by
    unfold rpL;rw [if_pos ⟨hv, h0, by omega⟩]; unfold wm;rw [List.length_map]
  have h3 : (mc0 p.types.length).cells.length = 0 := rfl
  rw [e, hN]; unfold runP;omega
theorem FnCellsBound_c (bs : List UInt8) : PC Tryz.prog 5 [sl cU bs] (fun r => r = bv true) := by
  rcases Nat.lt_or_ge 1048576 bs.length with hb|hb
  · (refine pc_of_aw Tryz.func5 rfl (by simp [Tryz.ntmps5]) ?_; rw [Tryz.ntmps5])
    repeat' (first|(apply id_rw;first|(apply rx_move;rfl;rfl)|(apply rx_bin;rfl;rfl;rfl;rfl)|(apply rx_assign;rfl;rfl)|(apply rx_len;rfl;rfl;rfl)|(apply rw_nil;kernel_rfl))|(apply id_aw;first|apply aw_seq|apply aw_region|(apply aw_cond;rfl;all_goals intro hc;have hq:=hc;(try simp only [bqs] at hq);try exfalso;omega)|apply aw_ret)|with_reducible apply tq_normal|with_reducible apply tq_ret)
    exact rq_ret rfl ⟨rfl, rfl⟩
  (refine pc_of_aw Tryz.func5 rfl (by simp [Tryz.ntmps5]) ?_; rw [Tryz.ntmps5])
  repeat' (first|(apply id_rw;first|((with_reducible apply rx_call (k := 23));(case ha => rfl);(case h => exact drawCM_c bs hb);(case hp => (exact Pur.pf));(case hN => rfl);(rintro _ ⟨q, cs, n, rfl, hq1, hq2, hq3, hq4, hq5⟩ _))|(with_reducible apply rw_stop (d := 24))|(apply rx_move;rfl;rfl)|(apply rx_bin;rfl;rfl;rfl;rfl)|(apply rx_assign;rfl;rfl)|(apply rx_len;rfl;rfl;rfl)|(apply rw_nil;kernel_rfl)|(apply rx_alloc;rfl;rfl)|(apply rx_extract;rfl;rfl;rfl)|(apply rx_store;rfl;rfl;rfl;rfl;rfl;(case hl => (simp;done));(exact (rfl:_=[_, _]))))|(apply id_aw;first|apply aw_seq|apply aw_region|(apply aw_cond;rfl;all_goals intro hc;have hq:=hc;(try simp only [bqs] at hq);try exfalso;omega)|apply aw_skip)|with_reducible apply tq_normal)
  refine rw_go ?_
  obtain ⟨N, F, E, h1, h2, g1, g2, g3, g4, g5⟩ := cm_e q cs n (by omega) (by omega) (by omega)
  obtain ⟨b, h3⟩ := rp_c q cs n (by omega) (by omega) (by omega)
  have hL := rp_len (p := q) (cs := cs) (n := n)
  have m1 : E = 5 ∧ N = 0 ∨ N ≤ (rpL q cs n).length := by
    rcases g5 with ⟨a1, a2, a3⟩ | ⟨a1, a2, a3⟩
    · exact .inl ⟨by rw [g4]; unfold reE;rw [if_neg (by rw [a1]; decide)], a2⟩
    · exact .inr (cm_bound a1 a2)
  clear g4 g5
  generalize rpL q cs n = L at *
  repeat' (first|(apply id_rw;first|((with_reducible apply rx_callE (k := 24));(case ha => rfl);(case h => exact h1);(case hp => (exact Pur.pf));(case hN => rfl))|((with_reducible apply rx_callE (k := 25));(case ha => rfl);(case h => exact h2);(case hp => (exact Pur.pf));(case hN => rfl))|((with_reducible apply rx_callE (k := 20));(case ha => rfl);(case h => exact h3);(case hp => (exact Pur.pf));(case hN => rfl))|(apply rx_move;rfl;rfl)|(apply rx_loadA;rfl;rfl;(exact (rfl:_=[_, _]));rfl;rfl;rfl)|(first|(apply rx_guardU;rfl;rfl;rfl)|(apply rx_guardY;rfl;rfl;rfl;(first|rfl|assumption))|(apply rx_guardNs;rfl;rfl;rfl;(first|rfl|assumption))|(apply rx_guardS;(case hj|hb|hN => rfl);all_goals (intro hg;have hq := hg;(try simp only [bqs] at hq);(try (exfalso;omega)))))|(apply rx_bin;rfl;rfl;rfl;rfl)|(apply rx_assign;rfl;rfl)|(first|(apply rx_pickT;rfl;(assumption);rfl;rfl)|(apply rx_pickF;rfl;(first|rfl|assumption);rfl;rfl))|(apply rx_len;rfl;rfl;rfl)|(apply rw_nil;kernel_rfl)|(apply rx_extract;rfl;rfl;rfl))|(apply id_aw;first|apply aw_seq|apply aw_region|apply aw_ret)|with_reducible apply tq_normal)
  all_goals first
    | (exfalso;exact (by assumption : ¬ True) trivial)
    | (refine rq_ret rfl ⟨?_, rfl⟩; simp only [oneOf, decide_true]; done)
    | (refine rq_ret rfl ⟨?_, rfl⟩; simp only [oneOf]; rw [decide_eq_true (by omega)]; done)
    | (exfalso;omega)
theorem fs_e (p : Prg) (cs : List Int) (n : Int) (hl : p.types.length ≤ 1000000) (hs : cntL p.body ≤ 1000000) (hcl : cs.length ≤ 1000000) : ∃ S : List Sl, PC Tryz.prog 33 [aPrg p, sl cI cs, iv n] (fun r => r = .tup [sl cSl S, iv (reE p cs n)]) ∧
    S.length ≤ 62 ∧ (rgF p n = true → S.length = p.types.length ∧ S = (runP p.types (ptsF p) cs n.toNat).1.slots) ∧ (rgF p n = false → S = []) := by
  have h1 := FinalSlotsI_c p cs n hl hs hcl
  unfold reE
  by_cases h : rgF p n = true
  · rw [if_pos h] at h1
    rw [if_pos h]
    obtain ⟨hv, h0, hn⟩ := rgF_true.1 h
    have hok := run_ok (cs := cs) (n := n.toNat) hv
    have htl := (WG.of_valid hv).tl
    exact ⟨_, h1, by rw [hok.l]; omega, fun _ => ⟨hok.l, rfl⟩, fun h' => by rw [h] at h'; cases h'⟩
  · rw [if_neg h] at h1
    rw [if_neg h]
    exact ⟨_, h1, by simp, fun h' => absurd h' h, fun _ => rfl⟩
theorem leak_e {p : Prg} {cs : List Int} {n : Int} {N F : Int} {S : List Sl} (hE : reE p cs n = 0) (g5 : rgF p n = false ∧ N = 0 ∧ F = 0 ∨ rgF p n = true ∧ N = (runP p.types (ptsF p) cs n.toNat).1.cells.length ∧ F = N - (alvL (runP p.types (ptsF p) cs n.toNat).1.cells).length)
    (hS : rgF p n = true → S.length = p.types.length ∧ S = (runP p.types (ptsF p) cs n.toNat).1.slots) : F = N ∧ S.length = p.types.length ∧ ∀ v, v < S.length → p.types[v]! = 2 → S[v]!.set = false := by
  have h := re_rg (p := p) (cs := cs) (n := n) (by rw [hE]; decide)
  obtain ⟨hv, h0, hn⟩ := rgF_true.1 h
  unfold reE at hE;rw [if_pos h] at hE
  obtain ⟨l1, l2⟩ := run_leak (WG.of_valid hv) (WA.of_valid hv) cs n.toNat hE
  obtain ⟨s1, s2⟩ := hS h
  refine ⟨?_, s1, fun v hvl h2 => by rw [s2]; exact l2 v (by omega) h2⟩
  rcases g5 with ⟨a, _⟩ | ⟨_, a2, a3⟩
  · rw [h] at a;cases a
  · have e : alvL (runP p.types (ptsF p) cs n.toNat).1.cells = [] := by
      unfold alvL
      rw [List.map_eq_nil_iff, List.filter_eq_nil_iff]
      intro k hk
      have := l1 k (List.mem_range.1 hk)
      unfold alv at this
      rw [this]; decide
    rw [e] at a3;simp only [List.length_nil] at a3;omega
theorem FnNoLeak_c (bs : List UInt8) : PC Tryz.prog 10 [sl cU bs] (fun r => r = bv true) := by
  rcases Nat.lt_or_ge 1048576 bs.length with hb|hb
  · (refine pc_of_aw Tryz.func10 rfl (by simp [Tryz.ntmps10]) ?_; rw [Tryz.ntmps10])
    repeat' (first|(apply id_rw;first|(apply rx_move;rfl;rfl)|(apply rx_bin;rfl;rfl;rfl;rfl)|(apply rx_assign;rfl;rfl)|(apply rx_len;rfl;rfl;rfl)|(apply rw_nil;kernel_rfl))|(apply id_aw;first|apply aw_seq|apply aw_region|(apply aw_cond;rfl;all_goals intro hc;have hq:=hc;(try simp only [bqs] at hq);try exfalso;omega)|apply aw_ret)|with_reducible apply tq_normal|with_reducible apply tq_ret)
    exact rq_ret rfl ⟨rfl, rfl⟩
  (refine pc_of_aw Tryz.func10 rfl (by simp [Tryz.ntmps10]) ?_; rw [Tryz.ntmps10])
  repeat' (first|(apply id_rw;first|((with_reducible apply rx_call (k := 23));(case ha => rfl);(case h => exact drawCM_c bs hb);(case hp => (exact Pur.pf));(case hN => rfl);(rintro _ ⟨q, cs, n, rfl, hq1, hq2, hq3, hq4, hq5⟩ _))|(with_reducible apply rw_stop (d := 25))|(apply rx_move;rfl;rfl)|(apply rx_bin;rfl;rfl;rfl;rfl)|(apply rx_assign;rfl;rfl)|(apply rx_len;rfl;rfl;rfl)|(apply rw_nil;kernel_rfl)|(apply rx_alloc;rfl;rfl)|(apply rx_extract;rfl;rfl;rfl)|(apply rx_store;rfl;rfl;rfl;rfl;rfl;(case hl => (simp;done));(exact (rfl:_=[_, _]))))|(apply id_aw;first|apply aw_seq|apply aw_region|(apply aw_cond;rfl;all_goals intro hc;have hq:=hc;(try simp only [bqs] at hq);try exfalso;omega)|apply aw_skip)|with_reducible apply tq_normal)
  refine rw_go ?_
  obtain ⟨N, F, E, h1, h2, g1, g2, g3, g4, g5⟩ := cm_e q cs n (by omega) (by omega) (by omega)
  obtain ⟨S, h3, hS, hS1, hS2⟩ := fs_e q cs n (by omega) (by omega) (by omega)
  have m1 := fun h => leak_e (p := q) (cs := cs) (n := n) (N := N) (F := F) (S := S) h g5 hS1
  rw [← g4] at h3 m1
  clear g4 g5 hS1 hS2
  repeat' (first|(apply id_rw;first|((with_reducible apply rx_callE (k := 24));(case ha => rfl);(case h => exact h1);(case hp => (exact Pur.pf));(case hN => rfl))|((with_reducible apply rx_callE (k := 25));(case ha => rfl);(case h => exact h2);(case hp => (exact Pur.pf));(case hN => rfl))|(with_reducible apply rw_stop (d := 71))|(apply rx_move;rfl;rfl)|(apply rx_loadA;rfl;rfl;(exact (rfl:_=[_, _]));rfl;rfl;rfl)|(first|(apply rx_guardY;rfl;rfl;rfl;(assumption))|(apply rx_guardNs;rfl;rfl;rfl;(first|rfl|assumption))|(apply rx_guardS;(case hj|hb|hN => rfl);all_goals (intro hg;have hq := hg;(try simp only [bqs] at hq);(try (exfalso;omega)))))|(apply rx_bin;rfl;rfl;rfl;rfl)|(apply rx_assign;rfl;rfl)|(first|(apply rx_pickT;rfl;(first|rfl|assumption);rfl;rfl)|(apply rx_pickF;rfl;(first|rfl|assumption);rfl;rfl))|(apply rw_nil;kernel_rfl)|(apply rx_extract;rfl;rfl;rfl))|(apply id_aw;first|apply aw_seq|apply aw_region|(apply aw_condT;rfl;(rfl))|(apply aw_cond;rfl;all_goals intro hc;have hq:=hc;(try simp only [bqs] at hq);try exfalso;omega)|apply aw_skip|apply aw_ret)|with_reducible apply tq_normal|with_reducible apply tq_ret)
  all_goals first
    | (exfalso;exact (by assumption : ¬ True) trivial)
    | (refine rq_ret rfl ⟨?_, rfl⟩; simp only [oneOf, decide_true]; done)
    | refine rw_go ?_
  obtain ⟨e1, e2, e3⟩ := m1 (by assumption)
  repeat' (first|(apply id_rw;first|((with_reducible apply rx_callE (k := 33));(case ha => rfl);(case h => exact h3);(case hp => (exact Pur.pf));(case hN => rfl))|(apply rx_move;rfl;rfl)|(apply rx_loadA;rfl;rfl;(exact (rfl:_=[_, _]));rfl;rfl;rfl)|(apply rx_assign;rfl;rfl)|(apply rw_nil;kernel_rfl)|(apply rx_extract;rfl;rfl;rfl))|(apply id_aw;first|apply aw_seq|apply aw_region|apply aw_block)|with_reducible apply tq_normal)
  refine aw_loopK (σ := Nat) [3, 6, 7, 8, 12, 13] [(3, _), (6, _), (7, _), (8, _), (12, _), (13, _)] [0] [(0, some _)] (fun k => [(14, iv (k : Int))]) (fun k => []) (fun k => k ≤ S.length) (fun k => S.length - k) (0) (Nat.zero_le _) rfl rfl (by repeat' (first|exact trivial|refine And.intro rfl ?_)) (by repeat' (exact trivial)) ?_
  rintro k hk
  have hk3 := e3 k
  repeat' (first|(apply id_rw;first|(apply rx_move;rfl;rfl)|(apply rx_load1;rfl;rfl;rfl;rfl)|(apply rx_fieldAddr;rfl;rfl;rfl)|(first|(apply rx_guardY;rfl;rfl;rfl;(assumption))|(apply rx_guardNs;rfl;rfl;rfl;(assumption))|(apply rx_guardS;(case hj|hb|hN => rfl);all_goals (intro hg;have hq := hg;(try simp only [bqs] at hq);(try (exfalso;omega)))))|(first|(apply rx_add;rfl;rfl;omega;rfl)|(apply rx_bin;rfl;rfl;rfl;rfl))|(apply rx_assign;rfl;rfl)|(first|(apply rx_pickT;rfl;(assumption);rfl;rfl)|(apply rx_pickF;rfl;(assumption);rfl;rfl))|(apply rx_indexFN;(case hx|hi => rfl);(case hm => (omega));(case hml => (rfl));(case hα | hf|hg => infer_instance);(case hN => rfl))|(apply rx_len;rfl;rfl;rfl)|(apply rw_nil;kernel_rfl))|(apply id_aw;first|apply aw_seq|apply aw_region|(apply aw_condF;rfl;(rfl))|(apply aw_cond;rfl;all_goals intro hc;have hq:=hc;(try simp only [bqs] at hq);try exfalso;omega)|apply aw_block|apply aw_skip|apply aw_exit|apply aw_ret)|with_reducible apply tq_normal|with_reducible apply tq_ret|with_reducible apply tq_exit|with_reducible apply bq_normal|with_reducible apply bq_ret|with_reducible apply bq_here)
  all_goals first
    | (exfalso
       have hs : S[k]!.set = true := by assumption
       rw [hk3 (by omega) (by assumption)] at hs;cases hs)
    | ((apply ex3 (k + 1); focus (refine Le.ren [(0, 0)] rfl (by decide) ?_ ?_ <;> repeat' (first | exact trivial | refine And.intro ⟨_, rfl, ?_⟩ ?_ | refine And.intro ⟨_, _, rfl, rfl, ?_⟩ ?_ | exact Or.inr rfl | refine Or.inl ⟨?_, (by first | rfl | exact pur_sl _ _ | exact Pur.pf)⟩ | rfl)))
       · omega
       · omega)
    | (refine rq_ret rfl ⟨?_, rfl⟩; simp only [oneOf]; rw [decide_eq_true e1]; done)
    | (exfalso;exact (by assumption : ¬ True) trivial)
theorem nr_e (p : Prg) (cs : List Int) (n : Int) (hl : p.types.length ≤ 1000000) (hs : cntL p.body ≤ 1000000) (hcl : cs.length ≤ 1000000) : ∃ R : List Int, PC Tryz.prog 27 [aPrg p, sl cI cs, iv n] (fun r => r = .tup [sl cI R, iv (reE p cs n)]) ∧ PC Tryz.prog 28 [aPrg p, sl cI cs, iv n] (fun r => r = .tup [sl cI R, iv (reE p cs n)]) ∧ R.length ≤ 151 ∧
    (reE p cs n = 0 → (∀ k, k < R.length → 0 ≤ R[k]! ∧ R[k]! ≤ 9) ∧ R.length = (rpL p cs n).countP (fun a => decide ((psF p)[a.toNat]!.op = 6)) ∧ ∀ k, k < (rpL p cs n).length → 0 ≤ (rpL p cs n)[k]! ∧ (rpL p cs n)[k]! < (psF p).length) := by
  have h1 := NumbersReadI_c p cs n hl hs hcl
  have h2 := NumbersReadS_c p cs n hl hs hcl
  unfold reE
  by_cases h : rgF p n = true
  · rw [if_pos h] at h1 h2
    rw [if_pos h]
    obtain ⟨hv, h0, hn⟩ := rgF_true.1 h
    have w := WG.of_valid hv
    have wa := WA.of_valid hv
    refine ⟨_, h1, h2, runP_readl (by omega), fun hE => ?_⟩
    have hp : ∀ a : Nat, PtN (ptsF p)[a]! := fun a => by
      by_cases h : a < (ptsF p).length
      · exact ⟨fun e => (wa.a a h).n (.inr e)⟩
      · refine ⟨fun e => ?_⟩
        rw [getB_def, dif_neg h] at e
        exact absurd e (by decide)
    have e : rpL p cs n = (wayF (ptsF p) n.toNat 0 cs).1.map (fun a : Nat => (a : Int)) := by unfold rpL;rw [if_pos ⟨hv, h0, by omega⟩]; rfl
    have e2 : psF p = ptsF p := by unfold psF;rw [if_pos hv]
    have hr0 : ∀ z ∈ (mc0 p.types.length).read, 0 ≤ z ∧ z ≤ 9 := fun z hz => by cases hz
    have hr := run_read hp (wayF (ptsF p) n.toNat 0 cs).1 (mc0 p.types.length) 0 (OkS.mc0 _) hr0
    have hd := run_loads hp n.toNat 0 cs (mc0 p.types.length) 0 (OkS.mc0 _) hr0 hE
    refine ⟨fun k hk => hr _ (getB_mem _ _ hk), ?_, fun k hk => ?_⟩
    · rw [e, e2, List.countP_map]
      have h3 : (mc0 p.types.length).read.length = 0 := rfl
      rw [h3, Nat.zero_add] at hd
      exact hd
    · have hm : (rpL p cs n)[k]! ∈ rpL p cs n := getB_mem _ _ hk
      generalize (rpL p cs n)[k]! = z at *
      rw [e] at hm
      obtain ⟨a, ha, rfl⟩ := List.mem_map.1 hm
      have := way_lt w wa n.toNat 0 cs w.p0 a ha
      rw [e2]; omega
  · rw [if_neg h] at h1 h2
    rw [if_neg h]
    exact ⟨_, h1, h2, by simp, fun hE => by cases hE⟩
theorem FnNumbersRead_c (bs : List UInt8) : PC Tryz.prog 6 [sl cU bs] (fun r => r = bv true) := by
  rcases Nat.lt_or_ge 1048576 bs.length with hb|hb
  · (refine pc_of_aw Tryz.func6 rfl (by simp [Tryz.ntmps6]) ?_; rw [Tryz.ntmps6])
    repeat' (first|(apply id_rw;first|(apply rx_move;rfl;rfl)|(apply rx_bin;rfl;rfl;rfl;rfl)|(apply rx_assign;rfl;rfl)|(apply rx_len;rfl;rfl;rfl)|(apply rw_nil;kernel_rfl))|(apply id_aw;first|apply aw_seq|apply aw_region|(apply aw_cond;rfl;all_goals intro hc;have hq:=hc;(try simp only [bqs] at hq);try exfalso;omega)|apply aw_ret)|with_reducible apply tq_normal|with_reducible apply tq_ret)
    exact rq_ret rfl ⟨rfl, rfl⟩
  (refine pc_of_aw Tryz.func6 rfl (by simp [Tryz.ntmps6]) ?_; rw [Tryz.ntmps6])
  repeat' (first|(apply id_rw;first|((with_reducible apply rx_call (k := 26));(case ha => rfl);(case h => exact drawNR_c bs hb);(case hp => (exact Pur.pf));(case hN => rfl);(rintro _ ⟨q, cs, n, rfl, hq1, hq2, hq3, hq4, hq5⟩ _))|(with_reducible apply rw_stop (d := 26))|(apply rx_move;rfl;rfl)|(apply rx_bin;rfl;rfl;rfl;rfl)|(apply rx_assign;rfl;rfl)|(apply rx_len;rfl;rfl;rfl)|(apply rw_nil;kernel_rfl)|(apply rx_alloc;rfl;rfl)|(apply rx_extract;rfl;rfl;rfl)|(apply rx_store;rfl;rfl;rfl;rfl;rfl;(case hl => (simp;done));(exact (rfl:_=[_, _]))))|(apply id_aw;first|apply aw_seq|apply aw_region|(apply aw_cond;rfl;all_goals intro hc;have hq:=hc;(try simp only [bqs] at hq);try exfalso;omega)|apply aw_skip)|with_reducible apply tq_normal)
  refine rw_go ?_
  obtain ⟨R, h1, h2, hR, m1⟩ := nr_e q cs n (by omega) (by omega) (by omega)
  obtain ⟨b, h3⟩ := rp_c q cs n (by omega) (by omega) (by omega)
  have h4 := PointsOfI_c q (by omega) (by omega)
  change PC _ _ _ (fun r => r = sl cPnt (psF q)) at h4
  have hL := rp_len (p := q) (cs := cs) (n := n)
  have hP := ps_len (p := q)
  have h5 := bcInts_c R (by omega)
  generalize reE q cs n = e at *
  generalize rpL q cs n = L at *
  generalize psF q = ps at *
  repeat' (first|(apply id_rw;first|((with_reducible apply rx_callE (k := 27));(case ha => rfl);(case h => exact h1);(case hp => (exact Pur.pf));(case hN => rfl))|((with_reducible apply rx_callE (k := 28));(case ha => rfl);(case h => exact h2);(case hp => (exact Pur.pf));(case hN => rfl))|((with_reducible apply rx_callE (k := 29));(case ha => rfl);(case h => exact h5);(case hp => (exact Pur.pf));(case hN => rfl))|(with_reducible apply rw_stop (d := 61))|(apply rx_move;rfl;rfl)|(apply rx_loadA;rfl;rfl;(exact (rfl:_=[_, _]));rfl;rfl;rfl)|(first|(apply rx_guardY;rfl;rfl;rfl;(first|rfl|assumption))|(apply rx_guardNs;rfl;rfl;rfl;(first|rfl|assumption))|(apply rx_guardS;(case hj|hb|hN => rfl);all_goals (intro hg;have hq := hg;(try simp only [bqs] at hq);(try (exfalso;omega)))))|(apply rx_bin;rfl;rfl;rfl;rfl)|(apply rx_assign;rfl;rfl)|(first|(apply rx_pickT;rfl;(first|rfl|assumption);rfl;rfl)|(apply rx_pickF;rfl;(first|rfl|assumption);rfl;rfl))|(apply rw_nil;kernel_rfl)|(apply rx_not;rfl;rfl)|(apply rx_extract;rfl;rfl;rfl))|(apply id_aw;first|apply aw_seq|apply aw_region|(apply aw_condT;rfl;(rfl))|(apply aw_cond;rfl;all_goals intro hc;have hq:=hc;(try simp only [bqs] at hq);try exfalso;omega)|apply aw_skip|apply aw_ret)|with_reducible apply tq_normal|with_reducible apply tq_ret)
  all_goals first
    | (exfalso;exact (by assumption : ¬ True) trivial)
    | (refine rq_ret rfl ⟨?_, rfl⟩; simp only [oneOf, decide_true]; done)
    | refine rw_go ?_
  obtain ⟨g1, g2, g3⟩ := m1 (by assumption)
  repeat' (first|(apply id_rw;first|((with_reducible apply rx_callE (k := 20));(case ha => rfl);(case h => exact h3);(case hp => (exact Pur.pf));(case hN => rfl))|((with_reducible apply rx_callE (k := 22));(case ha => rfl);(case h => exact h4);(case hp => (exact Pur.pf));(case hN => rfl))|(apply rx_move;rfl;rfl)|(apply rx_loadA;rfl;rfl;(exact (rfl:_=[_, _]));rfl;rfl;rfl)|(apply rx_assign;rfl;rfl)|(apply rw_nil;kernel_rfl)|(apply rx_extract;rfl;rfl;rfl))|(apply id_aw;first|apply aw_seq|apply aw_region|apply aw_block)|with_reducible apply tq_normal)
  refine aw_loopK (σ := Nat × Nat) [6, 10, 12] [(6, _), (10, _), (12, _)] [0] [(0, some _)] (fun k => [(14, iv (k.1 : Int)), (13, iv (k.2 : Int))]) (fun k => []) (fun k => k.1 ≤ L.length ∧ k.2 = (L.take k.1).countP (fun a => decide (ps[a.toNat]!.op = 6)) ∧ k.2 ≤ k.1) (fun k => L.length - k.1) (0, 0) ⟨Nat.zero_le _, rfl, Nat.le_refl _⟩ rfl rfl (by repeat' (first|exact trivial|refine And.intro rfl ?_)) (by repeat' (exact trivial)) ?_
  rintro ⟨i, c⟩ ⟨hi, hc, hci⟩
  dsimp only at hi hc hci ⊢
  by_cases hin : i < L.length
  · have hz := g3 i hin
    have hst : (L.take (i + 1)).countP (fun a => decide (ps[a.toNat]!.op = 6)) = c + (if ps[(L[i]!).toNat]!.op = 6 then 1 else 0) := by
      rw [take_succB L i hin, List.countP_append, ← hc, List.countP_singleton]
      simp only [decide_eq_true_eq]
    repeat' (first|(apply id_rw;first|(apply rx_move;rfl;rfl)|(apply rx_load1;rfl;rfl;rfl;rfl)|(apply rx_fieldAddr;rfl;rfl;rfl)|(first|(apply rx_add;rfl;rfl;omega;rfl)|(apply rx_bin;rfl;rfl;rfl;rfl))|(apply rx_assign;rfl;rfl)|(first|(apply rx_indexFN;(case hx|hi => rfl);(case hm => (assumption));(case hml => (rfl));(case hα | hf|hg => infer_instance);(case hN => rfl))|(apply rx_indexF;(case hx|hi => rfl);(case hm => (assumption));(case hml => (rfl));(case hα | hf|hg => infer_instance);(case hN => rfl)))|(apply rx_len;rfl;rfl;rfl)|(apply rw_nil;kernel_rfl))|(apply id_aw;first|apply aw_seq|apply aw_region|(apply aw_cond;rfl;all_goals intro hc;have hq:=hc;(try simp only [bqs] at hq);try exfalso;omega)|apply aw_block|apply aw_skip)|with_reducible apply tq_normal|with_reducible apply bq_normal)
    · (apply ex3 (i + 1, c + 1); focus (refine Le.ren [(0, 0)] rfl (by decide) ?_ ?_ <;> repeat' (first | exact trivial | refine And.intro ⟨_, rfl, ?_⟩ ?_ | refine And.intro ⟨_, _, rfl, rfl, ?_⟩ ?_ | refine Or.inl ⟨?_, (by first | rfl | exact pur_sl _ _ | exact Pur.pf)⟩ | rfl)))
      · refine ⟨by dsimp only; omega, ?_, by dsimp only; omega⟩
        dsimp only;rw [hst, if_pos (by assumption)]
      · dsimp only;omega
    · (apply ex3 (i + 1, c); focus (refine Le.ren [(0, 0)] rfl (by decide) ?_ ?_ <;> repeat' (first | exact trivial | refine And.intro ⟨_, rfl, ?_⟩ ?_ | refine And.intro ⟨_, _, rfl, rfl, ?_⟩ ?_ | refine Or.inl ⟨?_, (by first | rfl | exact pur_sl _ _ | exact Pur.pf)⟩ | rfl)))
      · refine ⟨by dsimp only; omega, ?_, by dsimp only; omega⟩
        dsimp only;rw [hst, if_neg (by assumption)]; rfl
      · dsimp only;omega
  · have hce : c = R.length := by rw [g2, hc, List.take_of_length_le (by omega)]
    subst hce
    repeat' (first|(apply id_rw;first|(apply rx_move;rfl;rfl)|(apply rx_bin;rfl;rfl;rfl;rfl)|(apply rx_assign;rfl;rfl)|(apply rx_len;rfl;rfl;rfl)|(apply rw_nil;kernel_rfl))|(apply id_aw;first|apply aw_seq|apply aw_region|(apply aw_cond;rfl;all_goals intro hc;have hq:=hc;(try simp only [bqs] at hq);try exfalso;omega)|apply aw_block|apply aw_exit)|with_reducible apply tq_normal|with_reducible apply tq_exit|with_reducible apply bq_here)
    refine aw_loopK (σ := Nat) [6, 13] [(6, _), (13, _)] [0] [(0, some _)] (fun k => [(15, iv (k : Int))]) (fun k => []) (fun k => k ≤ R.length) (fun k => R.length - k) (0) (Nat.zero_le _) rfl rfl (by repeat' (first|exact trivial|refine And.intro rfl ?_)) (by repeat' (exact trivial)) ?_
    rintro k hk
    by_cases hkn : k < R.length
    · have hz := g1 k hkn
      repeat' (first|(apply id_rw;first|(apply rx_move;rfl;rfl)|(apply rx_load1;rfl;rfl;rfl;rfl)|(first|(apply rx_guardY;rfl;rfl;rfl;(assumption))|(apply rx_guardS;(case hj|hb|hN => rfl);all_goals (intro hg;have hq := hg;(try simp only [bqs] at hq);(try (exfalso;omega)))))|(first|(apply rx_add;rfl;rfl;omega;rfl)|(apply rx_bin;rfl;rfl;rfl;rfl))|(apply rx_assign;rfl;rfl)|(apply rx_pickF;rfl;(assumption);rfl;rfl)|(apply rx_indexFN;(case hx|hi => rfl);(case hm => (assumption));(case hml => (rfl));(case hα | hf|hg => infer_instance);(case hN => rfl))|(apply rx_len;rfl;rfl;rfl)|(apply rw_nil;kernel_rfl))|(apply id_aw;first|apply aw_seq|apply aw_region|(apply aw_cond;rfl;all_goals intro hc;have hq:=hc;(try simp only [bqs] at hq);try exfalso;omega)|apply aw_block|apply aw_skip)|with_reducible apply tq_normal|with_reducible apply bq_normal)
      all_goals first
        | (exfalso;omega)
        | ((apply ex3 (k + 1); focus (refine Le.ren [(0, 0)] rfl (by decide) ?_ ?_ <;> repeat' (first | exact trivial | refine And.intro ⟨_, rfl, ?_⟩ ?_ | refine And.intro ⟨_, _, rfl, rfl, ?_⟩ ?_ | refine Or.inl ⟨?_, (by first | rfl | exact pur_sl _ _ | exact Pur.pf)⟩ | rfl)))
           · omega
           · omega)
    · repeat' (first | (apply id_rw; first | (apply rx_move;rfl;rfl) | (apply rx_bin;rfl;rfl;rfl;rfl) | (apply rx_assign;rfl;rfl) | (apply rx_len;rfl;rfl;rfl) | (apply rw_nil;kernel_rfl)) | (apply id_aw; first | apply aw_seq | apply aw_region | (apply aw_cond;rfl;all_goals intro hc;have hq:=hc;(try simp only [bqs] at hq);try exfalso;omega) | apply aw_exit | apply aw_ret) | with_reducible apply tq_normal | with_reducible apply tq_exit | with_reducible apply bq_here)
      refine rq_ret rfl ⟨?_, rfl⟩
      simp only [oneOf, decide_true]
def SlV (l : List Value) : Prop := ∃ (b : Bool) (n c d : Int), l = [.bool b, .int .i64 n, .int .i64 c, .int .i64 d]
def TgV (l : List Value) : Prop := ∃ (a : Int) (b : Bool), l = [.int .i64 a, .bool b]
instance : EqS Go.Proofs.Tryz.prog 89 TgV where
  g := Go.Proofs.Tryz.eqGuardType89
  e := fun l hl w => by
    obtain ⟨a, b, rfl⟩ := hl
    have u3 := Go.Proofs.Tryz.underlying3
    have a3 := Go.Proofs.Tryz.isAgg3
    have z3 := Go.Proofs.Tryz.sizeOf3
    have u4 := Go.Proofs.Tryz.underlying4
    have a4 := Go.Proofs.Tryz.isAgg4
    have z4 := Go.Proofs.Tryz.sizeOf4
    have hS : Go.Proofs.Tryz.prog.underlying 89 = some (.struct (Go.Proofs.Tryz.prog.fieldsOf 89)) := by kernel_rfl
    have hp : Go.Proofs.Tryz.prog.stoodInHeld 89 = false := by kernel_rfl
    rw [show (10000 : Nat) = 9999 + 1 from rfl, run_equalIn_agg w 9999 89 _ _ hS hp]
    simp only [Program.fieldsOf, Go.Proofs.Tryz.underlying89]
    go_simp
instance : EqS Go.Proofs.Tryz.prog 58 SlV where
  g := Go.Proofs.Tryz.eqGuardType58
  e := fun l hl w => by
    obtain ⟨b, n, c, d, rfl⟩ := hl
    have u3 := Go.Proofs.Tryz.underlying3
    have a3 := Go.Proofs.Tryz.isAgg3
    have z3 := Go.Proofs.Tryz.sizeOf3
    have u4 := Go.Proofs.Tryz.underlying4
    have a4 := Go.Proofs.Tryz.isAgg4
    have z4 := Go.Proofs.Tryz.sizeOf4
    have a5 := Go.Proofs.Tryz.isAgg56
    have z5 := Go.Proofs.Tryz.sizeOf56
    have hS : Go.Proofs.Tryz.prog.underlying 58 = some (.struct (Go.Proofs.Tryz.prog.fieldsOf 58)) := by kernel_rfl
    have hp : Go.Proofs.Tryz.prog.stoodInHeld 58 = false := by kernel_rfl
    have hS5 : Go.Proofs.Tryz.prog.underlying 56 = some (.struct (Go.Proofs.Tryz.prog.fieldsOf 56)) := by kernel_rfl
    have hp5 : Go.Proofs.Tryz.prog.stoodInHeld 56 = false := by kernel_rfl
    have h5 : ∀ w, (Op.equalIn 9999 56 (.agg #[.int .i64 c, .int .i64 d]) (.agg #[.int .i64 c, .int .i64 d])).run Go.Proofs.Tryz.prog w = .ok true w := fun w => by
      rw [show (9999 : Nat) = 9998 + 1 from rfl, run_equalIn_agg w 9998 56 _ _ hS5 hp5]
      simp only [Program.fieldsOf, Go.Proofs.Tryz.underlying56]
      go_simp
    rw [show (10000 : Nat) = 9999 + 1 from rfl, run_equalIn_agg w 9999 58 _ _ hS hp]
    simp only [Program.fieldsOf, Go.Proofs.Tryz.underlying58]
    go_simp
instance : BoT Go.Proofs.Tryz.prog 4 := ⟨by kernel_rfl⟩
theorem bcCells_c (m : List Cl) (hm : OkM m) : PC Tryz.prog 34 [sl cCl m, sl cCl m] (fun r => r = bv true) := by
  have hml := hm.l
  (refine pc_of_aw Tryz.func34 rfl (by simp [Tryz.ntmps34]) ?_; rw [Tryz.ntmps34])
  repeat' (first|(apply id_rw;first|(apply rx_move;rfl;rfl)|(apply rx_bin;rfl;rfl;rfl;rfl)|(apply rx_assign;rfl;rfl)|(apply rx_len;rfl;rfl;rfl)|(apply rw_nil;kernel_rfl))|(apply id_aw;first|apply aw_seq|apply aw_region|(apply aw_cond;rfl;all_goals intro hc;have hq:=hc;(try simp only [bqs] at hq);try exfalso;omega)|apply aw_block|apply aw_skip|apply aw_ret)|with_reducible apply tq_normal|with_reducible apply tq_ret)
  all_goals (try (exact absurd trivial (by assumption)))
  refine aw_loopK (σ := Nat) [0, 1] [(0, _), (1, _)] [] [] (fun k => [(5, iv (k : Int))]) (fun k => []) (fun k => k ≤ m.length) (fun k => m.length - k) (0) (Nat.zero_le _) rfl rfl (by repeat' (first|exact trivial|refine And.intro rfl ?_)) (by repeat' (exact trivial)) ?_
  rintro i hi
  by_cases hin : i < m.length
  · have hc := ((OkM_iff m).1 hm).2 i hin
    have hst := hc.l
    repeat' (first|(apply id_rw;first|(apply rx_move;rfl;rfl)|(apply rx_load1;rfl;rfl;rfl;rfl)|(apply rx_fieldAddr;rfl;rfl;rfl)|(first|(apply rx_guardY;rfl;rfl;rfl;(assumption))|(apply rx_guardNs;rfl;rfl;rfl;(first|rfl|assumption))|(apply rx_guardS;(case hj|hb|hN => rfl);all_goals (intro hg;have hq := hg;(try simp only [bqs] at hq);(try (exfalso;omega)))))|(first|(apply rx_bbin;rfl;rfl;rfl;rfl)|(apply rx_bin;rfl;rfl;rfl;rfl))|(apply rx_assign;rfl;rfl)|(first|(apply rx_pickT;rfl;(first|rfl|assumption);rfl;rfl)|(apply rx_pickF;rfl;(assumption);rfl;rfl))|(apply rx_indexFN;(case hx|hi => rfl);(case hm => (assumption));(case hml => (rfl));(case hα | hf|hg => infer_instance);(case hN => rfl))|(apply rx_len;rfl;rfl;rfl)|(apply rw_nil;kernel_rfl))|(apply id_aw;first|apply aw_seq|apply aw_region|(apply aw_draw;kernel_rfl)|(apply aw_condT;rfl;(rfl))|(apply aw_cond;rfl;all_goals intro hc;have hq:=hc;(try simp only [bqs] at hq);try exfalso;omega)|apply aw_block|apply aw_skip|apply aw_ret)|with_reducible apply tq_normal|with_reducible apply tq_ret|with_reducible apply bq_ret)
    all_goals (try (exact absurd trivial (by assumption)))
    refine aw_loopK (σ := Nat) [0, 1, 5] [(0, _), (1, _), (5, _)] [] [] (fun k => [(6, iv (k : Int))]) (fun k => []) (fun k => k ≤ m[i]!.stk.length) (fun k => m[i]!.stk.length - k) (0) (Nat.zero_le _) rfl rfl (by repeat' (first|exact trivial|refine And.intro rfl ?_)) (by repeat' (exact trivial)) ?_
    rintro k hk
    by_cases hkn : k < m[i]!.stk.length
    · repeat' (first | (apply id_rw; first | ((apply rx_neqS [.int .i64 m[i]!.stk[k]!.id, .bool m[i]!.stk[k]!.uq]); (case hx | hy | hc => rfl); (case hS => exact ⟨_, _, rfl⟩); (case hN => rfl)) | (apply rx_move;rfl;rfl) | (first | (apply rx_load1;rfl;rfl;rfl;rfl) | (apply rx_loadA;rfl;rfl;(exact (rfl:_=[_, _]));rfl;rfl;rfl)) | (apply rx_fieldAddr;rfl;rfl;rfl) | (first | (apply rx_add;rfl;rfl;omega;rfl) | (apply rx_bin;rfl;rfl;rfl;rfl)) | (apply rx_assign;rfl;rfl) | (apply rx_indexFN; (case hx | hi => rfl); (case hm => (assumption)); (case hml => (rfl)); (case hα | hf | hg => infer_instance); (case hN => rfl)) | (apply rx_len;rfl;rfl;rfl) | (apply rw_nil;kernel_rfl)) | (apply id_aw; first | apply aw_seq | apply aw_region | (apply aw_draw;kernel_rfl) | (apply aw_condF;rfl;(rfl)) | (apply aw_cond;rfl;all_goals intro hc;have hq:=hc;(try simp only [bqs] at hq);try exfalso;omega) | apply aw_block | apply aw_skip) | with_reducible apply tq_normal | with_reducible apply bq_normal)
      (apply ex3 (k + 1);focus (refine Le.ren [] rfl (by decide) ?_ ?_ <;> repeat' (first|exact trivial|refine And.intro ⟨_, rfl, ?_⟩ ?_|refine Or.inl ⟨?_, (by first|rfl|exact pur_sl _ _)⟩|rfl)))
      · omega
      · omega
    · repeat' (first | (apply id_rw; first | (apply rx_move;rfl;rfl) | (apply rx_load1;rfl;rfl;rfl;rfl) | (apply rx_fieldAddr;rfl;rfl;rfl) | (first | (apply rx_add;rfl;rfl;omega;rfl) | (apply rx_bin;rfl;rfl;rfl;rfl)) | (apply rx_assign;rfl;rfl) | (apply rx_indexFN; (case hx | hi => rfl); (case hm => (assumption)); (case hml => (rfl)); (case hα | hf | hg => infer_instance); (case hN => rfl)) | (apply rx_len;rfl;rfl;rfl) | (apply rw_nil;kernel_rfl)) | (apply id_aw; first | apply aw_seq | apply aw_region | (apply aw_cond;rfl;all_goals intro hc;have hq:=hc;(try simp only [bqs] at hq);try exfalso;omega) | apply aw_exit) | with_reducible apply tq_normal | with_reducible apply tq_exit | with_reducible apply bq_normal | with_reducible apply bq_here)
      (apply ex3 (i + 1);focus (refine Le.ren [] rfl (by decide) ?_ ?_ <;> repeat' (first|exact trivial|refine And.intro ⟨_, rfl, ?_⟩ ?_|refine Or.inl ⟨?_, (by first|rfl|exact pur_sl _ _)⟩|rfl)))
      · omega
      · omega
  · repeat' (first | (apply id_rw; first | (apply rx_move;rfl;rfl) | (apply rx_bin;rfl;rfl;rfl;rfl) | (apply rx_assign;rfl;rfl) | (apply rx_len;rfl;rfl;rfl) | (apply rw_nil;kernel_rfl)) | (apply id_aw; first | apply aw_seq | apply aw_region | (apply aw_cond;rfl;all_goals intro hc;have hq:=hc;(try simp only [bqs] at hq);try exfalso;omega) | apply aw_exit | apply aw_ret) | with_reducible apply tq_normal | with_reducible apply tq_exit | with_reducible apply bq_here)
    refine rq_ret rfl ⟨rfl, rfl⟩
theorem fc_e (p : Prg) (cs : List Int) (n : Int) (hl : p.types.length ≤ 1000000) (hs : cntL p.body ≤ 1000000) (hcl : cs.length ≤ 1000000) : ∃ (M : List Cl) (S : List Sl) (R : List Int) (N F : Int), PC Tryz.prog 31 [aPrg p, sl cI cs, iv n] (fun r => r = .tup [sl cCl M, iv (reE p cs n)]) ∧ PC Tryz.prog 32 [aPrg p, sl cI cs, iv n] (fun r => r = .tup [sl cCl M, iv (reE p cs n)]) ∧
    PC Tryz.prog 33 [aPrg p, sl cI cs, iv n] (fun r => r = .tup [sl cSl S, iv (reE p cs n)]) ∧ PC Tryz.prog 27 [aPrg p, sl cI cs, iv n] (fun r => r = .tup [sl cI R, iv (reE p cs n)]) ∧ PC Tryz.prog 24 [aPrg p, sl cI cs, iv n] (fun r => r = .tup [iv N, iv F, iv (reE p cs n)]) ∧
    OkM M ∧ N = M.length ∧ F = N - (alvL M).length := by
  have h1 := FinalCellsI_c p cs n hl hs hcl
  have h2 := FinalCellsS_c p cs n hl hs hcl
  obtain ⟨S, h3, _⟩ := fs_e p cs n hl hs hcl
  obtain ⟨R, h4, _⟩ := nr_e p cs n hl hs hcl
  obtain ⟨N, F, E, h5, _, _, _, _, g4, g5⟩ := cm_e p cs n hl hs hcl
  rw [g4] at h5
  rcases g5 with ⟨a, b, c⟩ | ⟨a, b, c⟩
  · have hE : reE p cs n = 5 := by unfold reE; rw [if_neg (by rw [a]; decide)]
    rw [if_neg (by rw [a]; decide), ← hE] at h1 h2
    exact ⟨[], S, R, N, F, h1, h2, h3, h4, h5, ⟨by simp, by simp⟩, by rw [b]; rfl, by rw [c, b]; rfl⟩
  · have hE : reE p cs n = (runP p.types (ptsF p) cs n.toNat).2.1 := by unfold reE; rw [if_pos a]
    rw [if_pos a, ← hE] at h1 h2
    obtain ⟨hv, _⟩ := rgF_true.1 a
    exact ⟨_, S, R, N, F, h1, h2, h3, h4, h5, (run_ok (cs := cs) (n := n.toNat) hv).m, b, c⟩
theorem FnFinalCells_c (bs : List UInt8) : PC Tryz.prog 7 [sl cU bs] (fun r => r = bv true) := by
  rcases Nat.lt_or_ge 1048576 bs.length with hb|hb
  · (refine pc_of_aw Tryz.func7 rfl (by simp [Tryz.ntmps7]) ?_; rw [Tryz.ntmps7])
    repeat' (first|(apply id_rw;first|(apply rx_move;rfl;rfl)|(apply rx_bin;rfl;rfl;rfl;rfl)|(apply rx_assign;rfl;rfl)|(apply rx_len;rfl;rfl;rfl)|(apply rw_nil;kernel_rfl))|(apply id_aw;first|apply aw_seq|apply aw_region|(apply aw_cond;rfl;all_goals intro hc;have hq:=hc;(try simp only [bqs] at hq);try exfalso;omega)|apply aw_ret)|with_reducible apply tq_normal|with_reducible apply tq_ret)
    exact rq_ret rfl ⟨rfl, rfl⟩
  (refine pc_of_aw Tryz.func7 rfl (by simp [Tryz.ntmps7]) ?_; rw [Tryz.ntmps7])
  repeat' (first|(apply id_rw;first|((with_reducible apply rx_call (k := 30));(case ha => rfl);(case h => exact drawFC_c bs hb);(case hp => (exact Pur.pf));(case hN => rfl);(rintro _ ⟨q, cs, n, rfl, hq1, hq2, hq3, hq4, hq5⟩ _))|(with_reducible apply rw_stop (d := 29))|(apply rx_move;rfl;rfl)|(apply rx_bin;rfl;rfl;rfl;rfl)|(apply rx_assign;rfl;rfl)|(apply rx_len;rfl;rfl;rfl)|(apply rw_nil;kernel_rfl)|(apply rx_alloc;rfl;rfl)|(apply rx_extract;rfl;rfl;rfl)|(apply rx_store;rfl;rfl;rfl;rfl;rfl;(case hl => (simp;done));(exact (rfl:_=[_, _]))))|(apply id_aw;first|apply aw_seq|apply aw_region|(apply aw_cond;rfl;all_goals intro hc;have hq:=hc;(try simp only [bqs] at hq);try exfalso;omega)|apply aw_skip)|with_reducible apply tq_normal)
  refine rw_go ?_
  obtain ⟨M, S, R, N, F, h1, h2, h3, h4, h5, hM, hN, hF⟩ := fc_e q cs n (by omega) (by omega) (by omega)
  have h6 := runI_e q cs n (by omega) (by omega) (by omega)
  have h7 := bcCells_c M hM
  have h8 := CellsValidI_c M hM
  have h9 := AliveCellsI_c M hM
  have hml := hM.l
  have hal : (alvL M).length ≤ M.length := by
    unfold alvL;rw [List.length_map]; exact Nat.le_trans (List.length_filter_le _ _) (by rw [List.length_range]; exact Nat.le_refl _)
  generalize reE q cs n = e at *
  generalize reA q cs n = a at *
  generalize alvL M = AL at *
  repeat' (first|(apply id_rw;first|((with_reducible apply rx_callE (k := 31));(case ha => rfl);(case h => exact h1);(case hp => (exact Pur.pf));(case hN => rfl))|((with_reducible apply rx_callE (k := 32));(case ha => rfl);(case h => exact h2);(case hp => (exact Pur.pf));(case hN => rfl))|((with_reducible apply rx_callE (k := 18));(case ha => rfl);(case h => exact h6);(case hp => (exact Pur.pf));(case hN => rfl))|((with_reducible apply rx_callE (k := 33));(case ha => rfl);(case h => exact h3);(case hp => (exact Pur.pf));(case hN => rfl))|((with_reducible apply rx_callE (k := 27));(case ha => rfl);(case h => exact h4);(case hp => (exact Pur.pf));(case hN => rfl))|((with_reducible apply rx_callE (k := 24));(case ha => rfl);(case h => exact h5);(case hp => (exact Pur.pf));(case hN => rfl))|((with_reducible apply rx_callE (k := 34));(case ha => rfl);(case h => exact h7);(case hp => (exact Pur.pf));(case hN => rfl))|((with_reducible apply rx_callE (k := 35));(case ha => rfl);(case h => exact h8);(case hp => (exact Pur.pf));(case hN => rfl))|((with_reducible apply rx_callE (k := 36));(case ha => rfl);(case h => exact h9);(case hp => (exact Pur.pf));(case hN => rfl))|(apply rx_move;rfl;rfl)|(apply rx_loadA;rfl;rfl;(exact (rfl:_=[_, _]));rfl;rfl;rfl)|(first|(apply rx_guardY;rfl;rfl;rfl;(first|rfl|assumption))|(apply rx_guardNs;rfl;rfl;rfl;(first|rfl|assumption))|(apply rx_guardS;(case hj|hb|hN => rfl);all_goals (intro hg;have hq := hg;(try simp only [bqs] at hq);(try (exfalso;omega)))))|(first|(apply rx_sub;rfl;rfl;omega;rfl)|(apply rx_bin;rfl;rfl;rfl;rfl))|(apply rx_assign;rfl;rfl)|(first|(apply rx_pickT;rfl;(first|rfl|assumption);rfl;rfl)|(apply rx_pickF;rfl;(first|rfl|assumption);rfl;rfl))|(apply rx_len;rfl;rfl;rfl)|(apply rw_nil;kernel_rfl)|(apply rx_extract;rfl;rfl;rfl))|(apply id_aw;first|apply aw_seq|apply aw_region|apply aw_ret)|with_reducible apply tq_normal)
  all_goals first
    | (exfalso;exact (by assumption : ¬ True) trivial)
    | (refine rq_ret rfl ⟨?_, rfl⟩; simp only [oneOf, decide_true]; done)
    | (refine rq_ret rfl ⟨?_, rfl⟩; simp only [oneOf]; rw [decide_eq_true (by omega)]; done)
    | (exfalso;omega)
theorem fsS_e (p : Prg) (cs : List Int) (n : Int) (hl : p.types.length ≤ 1000000) (hs : cntL p.body ≤ 1000000) (hcl : cs.length ≤ 1000000) : ∃ S : List Sl, PC Tryz.prog 33 [aPrg p, sl cI cs, iv n] (fun r => r = .tup [sl cSl S, iv (reE p cs n)]) ∧ PC Tryz.prog 39 [aPrg p, sl cI cs, iv n] (fun r => r = .tup [sl cSl S, iv (reE p cs n)]) ∧ S.length ≤ 62 ∧
    (reE p cs n = 0 → ∃ AL ML : List Int, PC Tryz.prog 40 [aPrg p, iv (((psF p).length : Int) - 1)] (fun r => r = sl cI AL) ∧ PC Tryz.prog 41 [aPrg p, iv (((psF p).length : Int) - 1)] (fun r => r = sl cI ML) ∧ AL.length ≤ 62 ∧ ML.length ≤ 62 ∧ S.length = p.types.length ∧
      ∀ v : Nat, v < S.length → p.types[v]! ≠ 2 → (S[v]!.set = true → (v : Int) ∈ ML) ∧ (S[v]!.set = false → (v : Int) ∉ AL)) := by
  obtain ⟨S, h1, hS, hS1, hS2⟩ := fs_e p cs n hl hs hcl
  have h2 := FinalSlotsS_c p cs n hl hs hcl
  by_cases h : rgF p n = true
  · obtain ⟨s1, s2⟩ := hS1 h
    obtain ⟨hv, h0, hn⟩ := rgF_true.1 h
    have w := WG.of_valid hv
    have wa := WA.of_valid hv
    have htl := w.tl
    have hp0 := w.p0
    obtain ⟨f⟩ := Flows.ex w
    have hE : reE p cs n = (runP p.types (ptsF p) cs n.toNat).2.1 := by unfold reE;rw [if_pos h]
    rw [if_pos h, ← hE, ← s2] at h2
    refine ⟨S, h1, h2, hS, fun h00 => ?_⟩
    rw [hE] at h00
    have e2 : psF p = ptsF p := by unfold psF;rw [if_pos hv]
    have hok : OkAt p (((psF p).length : Int) - 1) := by rw [e2]; exact ⟨hv, by omega, by omega⟩
    have hz : (((psF p).length : Int) - 1).toNat = (ptsF p).length - 1 := by rw [e2]; omega
    have hA := AlwaysSetY_c p _ f hl hs hok
    have hM := MaybeSetY_c p _ f hl hs hok
    rw [hz] at hA hM
    refine ⟨_, _, hA, hM, bitsI_len _, bitsI_len _, s1, fun v hvl h2 => ?_⟩
    have hfin := run_final w wa cs n.toNat h00 v (by omega) h2
    rw [← s2] at hfin
    refine ⟨fun hs => ?_, fun hs hm => ?_⟩
    · refine mem_bitsI.2 ⟨v, by omega, ?_, rfl⟩
      exact (f.gm.2 _ (by omega) v).2 (hfin.1 hs)
    · obtain ⟨v', _, hb, e⟩ := mem_bitsI.1 hm
      have e' : v' = v := by omega
      subst e'
      exact ((f.ga.2 _ (by omega) v').1 hb).2 (hfin.2 hs)
  · have hE : reE p cs n = 5 := by unfold reE; rw [if_neg h]
    rw [if_neg h, ← hE, ← hS2 (by simpa using h)] at h2
    exact ⟨S, h1, h2, hS, fun h00 => by rw [hE] at h00;cases h00⟩
theorem FnFinalSlots_c (bs : List UInt8) : PC Tryz.prog 9 [sl cU bs] (fun r => r = bv true) := by
  rcases Nat.lt_or_ge 1048576 bs.length with hb|hb
  · (refine pc_of_aw Tryz.func9 rfl (by simp [Tryz.ntmps9]) ?_; rw [Tryz.ntmps9])
    repeat' (first|(apply id_rw;first|(apply rx_move;rfl;rfl)|(apply rx_bin;rfl;rfl;rfl;rfl)|(apply rx_assign;rfl;rfl)|(apply rx_len;rfl;rfl;rfl)|(apply rw_nil;kernel_rfl))|(apply id_aw;first|apply aw_seq|apply aw_region|(apply aw_cond;rfl;all_goals intro hc;have hq:=hc;(try simp only [bqs] at hq);try exfalso;omega)|apply aw_ret)|with_reducible apply tq_normal|with_reducible apply tq_ret)
    exact rq_ret rfl ⟨rfl, rfl⟩
  (refine pc_of_aw Tryz.func9 rfl (by simp [Tryz.ntmps9]) ?_; rw [Tryz.ntmps9])
  repeat' (first|(apply id_rw;first|((with_reducible apply rx_call (k := 38));(case ha => rfl);(case h => exact drawFS_c bs hb);(case hp => (exact Pur.pf));(case hN => rfl);(rintro _ ⟨q, cs, n, rfl, hq1, hq2, hq3, hq4, hq5⟩ _))|(with_reducible apply rw_stop (d := 24))|(apply rx_move;rfl;rfl)|(apply rx_bin;rfl;rfl;rfl;rfl)|(apply rx_assign;rfl;rfl)|(apply rx_len;rfl;rfl;rfl)|(apply rw_nil;kernel_rfl)|(apply rx_alloc;rfl;rfl)|(apply rx_extract;rfl;rfl;rfl)|(apply rx_store;rfl;rfl;rfl;rfl;rfl;(case hl => (simp;done));(exact (rfl:_=[_, _]))))|(apply id_aw;first|apply aw_seq|apply aw_region|(apply aw_cond;rfl;all_goals intro hc;have hq:=hc;(try simp only [bqs] at hq);try exfalso;omega)|apply aw_skip)|with_reducible apply tq_normal)
  refine rw_go ?_
  obtain ⟨S, h1, h2, hS, m1⟩ := fsS_e q cs n (by omega) (by omega) (by omega)
  have h4 := PointsOfI_c q (by omega) (by omega)
  change PC _ _ _ (fun r => r = sl cPnt (psF q)) at h4
  have hP := ps_len (p := q)
  generalize reE q cs n = e at *
  generalize psF q = ps at *
  repeat' (first|(apply id_rw;first|((with_reducible apply rx_callE (k := 33));(case ha => rfl);(case h => exact h1);(case hp => (exact Pur.pf));(case hN => rfl))|((with_reducible apply rx_callE (k := 39));(case ha => rfl);(case h => exact h2);(case hp => (exact Pur.pf));(case hN => rfl))|(with_reducible apply rw_stop (d := 61))|(apply rx_move;rfl;rfl)|(apply rx_loadA;rfl;rfl;(exact (rfl:_=[_, _]));rfl;rfl;rfl)|(first|(apply rx_guardY;rfl;rfl;rfl;(assumption))|(apply rx_guardNs;rfl;rfl;rfl;(first|rfl|assumption))|(apply rx_guardS;(case hj|hb|hN => rfl);all_goals (intro hg;have hq := hg;(try simp only [bqs] at hq);(try (exfalso;omega)))))|(apply rx_bin;rfl;rfl;rfl;rfl)|(apply rx_assign;rfl;rfl)|(first|(apply rx_pickT;rfl;(first|rfl|assumption);rfl;rfl)|(apply rx_pickF;rfl;(assumption);rfl;rfl))|(apply rx_len;rfl;rfl;rfl)|(apply rw_nil;kernel_rfl)|(apply rx_extract;rfl;rfl;rfl))|(apply id_aw;first|apply aw_seq|apply aw_region|(apply aw_condT;rfl;(rfl))|(apply aw_cond;rfl;all_goals intro hc;have hq:=hc;(try simp only [bqs] at hq);try exfalso;omega)|apply aw_skip|apply aw_ret)|with_reducible apply tq_normal|with_reducible apply tq_ret)
  all_goals first
    | (exfalso;exact (by assumption : ¬ True) trivial)
    | (refine rq_ret rfl ⟨?_, rfl⟩; simp only [oneOf, decide_true]; done)
    | refine rw_go ?_
  obtain ⟨AL, ML, g1, g2, g3, g4, g5, g6⟩ := m1 (by assumption)
  repeat' (first|(apply id_rw;first|((with_reducible apply rx_callE (k := 22));(case ha => rfl);(case h => exact h4);(case hp => (exact Pur.pf));(case hN => rfl))|((with_reducible apply rx_callE (k := 40));(case ha => rfl);(case h => exact g1);(case hp => (exact Pur.pf));(case hN => rfl))|((with_reducible apply rx_callE (k := 41));(case ha => rfl);(case h => exact g2);(case hp => (exact Pur.pf));(case hN => rfl))|(apply rx_move;rfl;rfl)|(apply rx_loadA;rfl;rfl;(exact (rfl:_=[_, _]));rfl;rfl;rfl)|(apply rx_sub;rfl;rfl;omega;rfl)|(apply rx_assign;rfl;rfl)|(apply rx_len;rfl;rfl;rfl)|(apply rw_nil;kernel_rfl))|(apply id_aw;first|apply aw_seq|apply aw_region|apply aw_block)|with_reducible apply tq_normal)
  refine aw_loopK (σ := Nat) [3, 6, 8, 11, 12] [(3, _), (6, _), (8, _), (11, _), (12, _)] [0] [(0, some _)] (fun k => [(13, iv (k : Int))]) (fun k => []) (fun k => k ≤ S.length) (fun k => S.length - k) (0) (Nat.zero_le _) rfl rfl (by repeat' (first|exact trivial|refine And.intro rfl ?_)) (by repeat' (exact trivial)) ?_
  rintro k hk
  by_cases hkn : k < S.length
  · have g7 := g6 k hkn
    have v1 := bcIn_c ML (k : Int) (by omega)
    have v2 := bcIn_c AL (k : Int) (by omega)
    repeat' (first|(apply id_rw;first|((apply rx_neqS [.bool S[k]!.set, .int .i64 S[k]!.num, .int .i64 S[k]!.ptr.cell, .int .i64 S[k]!.ptr.tag]);(case hx|hy|hc => rfl);(case hS => exact ⟨_, _, _, _, rfl⟩);(case hN => rfl))|((with_reducible apply rx_callE (k := 21));(case ha => rfl);(case h => first|exact v1|exact v2);(case hp => (exact Pur.pf));(case hN => rfl))|(apply rx_move;rfl;rfl)|(first|(apply rx_load1;rfl;rfl;rfl;rfl)|(apply rx_loadA;rfl;rfl;(exact (rfl:_=[_, _, _, _]));rfl;rfl;rfl))|(apply rx_fieldAddr;rfl;rfl;rfl)|(first|(apply rx_guardU;rfl;rfl;rfl)|(apply rx_guardY;rfl;rfl;rfl;(first|rfl|assumption))|(apply rx_guardNs;rfl;rfl;rfl;(assumption))|(apply rx_guardS;(case hj|hb|hN => rfl);all_goals (intro hg;have hq := hg;(try simp only [bqs] at hq);(try (exfalso;omega)))))|(first|(apply rx_add;rfl;rfl;omega;rfl)|(apply rx_bin;rfl;rfl;rfl;rfl))|(apply rx_assign;rfl;rfl)|(first|(apply rx_pickT;rfl;(assumption);rfl;rfl)|(apply rx_pickF;rfl;(first|rfl|assumption);rfl;rfl))|(apply rx_indexFN;(case hx|hi => rfl);(case hm => (first|assumption|omega));(case hml => (rfl));(case hα | hf|hg => infer_instance);(case hN => rfl))|(apply rx_len;rfl;rfl;rfl)|(apply rw_nil;kernel_rfl)|(apply rx_not;rfl;rfl))|(apply id_aw;first|apply aw_seq|apply aw_region|(apply aw_draw;kernel_rfl)|(apply aw_condT;rfl;(rfl))|(apply aw_condF;rfl;(rfl))|(apply aw_cond;rfl;all_goals intro hc;have hq:=hc;(try simp only [bqs] at hq);try exfalso;omega)|apply aw_block|apply aw_skip|apply aw_ret)|with_reducible apply tq_normal|with_reducible apply tq_ret|with_reducible apply bq_normal|with_reducible apply bq_ret)
    all_goals first
      | ((apply ex3 (k + 1); focus (refine Le.ren [(0, 0)] rfl (by decide) ?_ ?_ <;> repeat' (first | exact trivial | refine And.intro ⟨_, rfl, ?_⟩ ?_ | refine And.intro ⟨_, _, rfl, rfl, ?_⟩ ?_ | exact Or.inr rfl | refine Or.inl ⟨?_, (by first | rfl | exact pur_sl _ _ | exact Pur.pf)⟩ | rfl)))
         · omega
         · omega)
      | (exfalso;exact (g7 (by assumption)).2 (by assumption) (by assumption))
      | (exfalso;exact (by assumption : ¬ (k : Int) ∈ ML) ((g7 (by assumption)).1 (by assumption)))
      | (exfalso;exact (by assumption : ¬ True) trivial)
  · repeat' (first | (apply id_rw; first | (apply rx_move;rfl;rfl) | (apply rx_bin;rfl;rfl;rfl;rfl) | (apply rx_assign;rfl;rfl) | (apply rx_len;rfl;rfl;rfl) | (apply rw_nil;kernel_rfl)) | (apply id_aw; first | apply aw_seq | apply aw_region | (apply aw_cond;rfl;all_goals intro hc;have hq:=hc;(try simp only [bqs] at hq);try exfalso;omega) | apply aw_exit | apply aw_ret) | with_reducible apply tq_normal | with_reducible apply tq_exit | with_reducible apply bq_here)
    exact rq_ret rfl ⟨rfl, rfl⟩
end Go.Proofs.YtlbbbmeadnelbaaGreat
namespace Go.Proofs.YtlbbbmeadnelbaaGreat
open Go.AL Go.ChangeShapes Go.WideShapes Go.ChangeAt Go.RowKit
theorem RdC_bytes {w : World} {bad : Nat → Prop} {ι : Pl} {b : Nat} : ∀ (bs : List UInt8) (o : Nat), ¬ bad b → (∀ j, j < bs.length → w.cell? ⟨b, o + j, none⟩ = some (.int .u8 ((bs[j]!).toNat : Int))) → RdC w bad ι (flat cU bs) b o
  | [], _, _, _ => by simp only [flat, List.flatMap_nil, RdC]
  | x :: bs, o, hb, h => by
    have h0 := h 0 (by simp)
    have e : flat cU (x :: bs) = .v (.int .u8 (x.toNat : Int)) :: flat cU bs := rfl
    rw [e]
    simp only [RdC]
    refine ⟨⟨.int .u8 (x.toNat : Int), by simpa using h0, rfl, by simp only [Rd]⟩, RdC_bytes bs (o + 1) hb fun j hj => ?_⟩
    have := h (j + 1) (by simpa using hj)
    rw [show o + 1 + j = o + (j + 1) from by omega]
    simpa using this
theorem calls_of_pc {P : Program} {k : FuncId} {bs : List UInt8} (h : PC P k [sl cU bs] (fun r => r = bv true)) {W : World} {v : Value} (hv : Rd W (fun _ => False) (fun _ => none) (sl cU bs) v) :
    Calls P k #[v] W fun e W' => e = .returned (.bool true) ∧ Below W.heap.size W W' := by
  let C : Ctx := { N := 0, w0 := W, W0 := fun _ => False, X := fun _ => False, ι0 := fun _ => none, xlt := fun _ h => h.elim }
  have hbad : ∀ b, ¬ badOf C.X (fun _ => none) (lkH []) b := by
    rintro b (h | ⟨id, cs, β, h1, h2⟩)
    · exact h
    · cases h2
  have g : HG C (fun _ => none) (fun j => 0 ≤ j) (lkH []) W :=
    ⟨fun id cs h => by simp [lkH] at h, fun id id' cs cs' b β β' h => by simp [lkH] at h, Fr.refl _ _, fun _ _ h => h, fun _ _ => rfl⟩
  have hcar : Carry W (fun _ => False) (fun _ => none) W (badOf C.X (fun _ => none) (lkH [])) (fun _ => none) := ⟨fun b o x _ h2 => ⟨hbad b, h2⟩, fun _ _ h => h, fun _ => Nat.le_refl _⟩
  have ha : RdV W (badOf C.X (fun _ => none) (lkH [])) (fun _ => none) [sl cU bs] [v] := by
    simp only [RdV]
    exact ⟨v, [], rfl, Rd.carry hcar _ _ hv, rfl⟩
  refine (h C _ W [v] rfl rfl g ha).mono ?_
  rintro e W' ⟨v', r, H', ι', rfl, ⟨rfl, _⟩, h4, h5⟩
  simp only [Rd] at h4
  subst h4
  have f := h5.fr
  exact ⟨rfl, f.os, f.tape, f.output, f.size, fun b hb => f.block b hb (fun h => h)⟩
theorem laid : laidOutB Tryz.prog = true := by kernel_rfl
theorem cells5 : Tryz.prog.cellsOf 5 = 1 := by kernel_rfl
theorem bytes_in {H : Type} {enc : TypeId × Value → H} {W : World} {base : Nat} {v0 : Value} {d0 : DataW H} {p : List MemPlace} (hval : Value.okWide Tryz.prog W .any base 22 v0) (h0 : DataW.Trod enc Tryz.prog W 0 (fun _ => true) true 22 v0 d0 p) :
    ∃ bs : List UInt8, Rd W (fun _ => False) (fun _ => none) (sl cU bs) v0 := by
  obtain ⟨a0, len, cap, rfl⟩ := okWide_slice Tryz.underlying22 hval
  obtain ⟨fuel, hf⟩ := h0
  rcases open_ints Tryz.underlying22 Tryz.underlying5 cells5 hf with ⟨hcs, hx⟩ | ⟨a, len', cap', zs, hcs, _, hl, hm, hz, hx, hcell, hwz⟩
  · simp [Value.cells] at hcs
    obtain ⟨rfl, rfl, rfl⟩ := hcs
    refine ⟨[], ?_⟩
    simp only [Rd]
    exact ⟨none, 0, rfl, .inl rfl⟩
  · simp [Value.cells] at hcs
    obtain ⟨rfl, rfl, rfl⟩ := hcs
    simp only [if_true] at hz
    refine ⟨(zs.take len).map fun n => UInt8.ofNat n.toNat, ?_⟩
    have hlen : ((zs.take len).map fun n => UInt8.ofNat n.toNat).length = len := by simp;omega
    simp only [Rd]
    refine ⟨some a, cap, by rw [hlen], ?_⟩
    by_cases h00 : len = 0
    · exact .inl (by rw [hlen]; exact h00)
    · obtain ⟨b, off, spot⟩ := a
      have hspot : spot = none := by simpa [Addr.add] using World.cell?_spot (hcell 0 (by omega))
      subst hspot
      refine .inr ⟨b, off, by rw [hlen]; exact hl, rfl, .inr ⟨fun h => h, RdC_bytes _ _ (fun h => h) fun j hj => ?_⟩⟩
      rw [hlen] at hj
      have hcj := hcell j (by omega)
      rw [Addr.add_lit] at hcj
      rw [hcj]
      have e : zs.getD j 0 = zs[j]'(by omega) := by simp [List.getD, List.getElem?_eq_getElem (show j < zs.length by omega)]
      have hw := hwz (zs[j]'(by omega)) (List.getElem_mem _)
      have hr : 0 ≤ zs[j]'(by omega) ∧ zs[j]'(by omega) ≤ 255 := by simpa [Lit.wf, IntKind.min, IntKind.max, IntKind.signed, IntKind.bits] using hw
      rw [e, getB _ _ (by rw [hlen]; exact hj)]
      simp only [List.getElem_map, List.getElem_take]
      congr 2
      simp only [UInt8.toNat_ofNat']
      omega
end Go.Proofs.YtlbbbmeadnelbaaGreat
