/-
  A part of the proofs over this program: rules and contracts of its functions (the contracts).
-/
import Derived.Test.YtejkbiijonnefaaGreatB06
set_option linter.unusedVariables false
set_option linter.unusedSimpArgs false
set_option maxHeartbeats 8000000
set_option maxRecDepth 4000
attribute [local irreducible] Go.AL.RW Go.AL.AW Go.AL.Stop
namespace Go.Proofs.YtejkbiijonnefaaGreat
open Go.AL Go.RowKit

theorem PointsOfS_c (p : Prg) (hl : p.types.length ≤ 1000000) (hs : cntL p.body ≤ 1000000) : PC Tryz.prog 74 [aPrg p] (fun r => r = sl cPnt (if validF p = true then ptsF p else [])) := by
  have hval := validS_c p hl (by omega)
  have h2 := l2Points_c p hs
  (refine pc_of_aw Tryz.func74 rfl (by simp [Tryz.ntmps74]) ?_; rw [Tryz.ntmps74])
  repeat' (first | (apply id_rw; first | ((with_reducible apply rx_callE (k := 61)); (case ha => rfl); (case h => exact hval); (case hp => (exact Pur.pf)); (case hN => rfl)) | ((with_reducible apply rx_callE (k := 106)); (case ha => rfl); (case h => exact h2); (case hp => (exact Pur.pf)); (case hN => rfl)) | (apply rx_loadA; (case hx | hd => rfl); (case hc => (exact (rfl : _ = [_, _]))); (case hn | h0 | hN => rfl)) | (apply rx_assign;rfl;rfl) | (apply rw_nil; (case hf => kernel_rfl)) | (apply rx_not;rfl;rfl) | (apply rx_box;rfl;rfl;rfl;rfl) | ((apply rx_buildSliceI (t := _)); (case hze | hsm | hl => rfl); (case hfl => (rfl)); (case hM | hN => rfl))) | (apply id_aw; first | apply aw_seq | apply aw_region | (apply aw_cond; (case hc => rfl); all_goals (intro hc; have hq := hc; (try simp only [bqs] at hq); (try (exfalso; omega)))) | apply aw_skip | apply aw_ret) | with_reducible apply tq_normal | with_reducible apply tq_ret)
  · refine rq_ret rfl ⟨?_, (by (rfl))⟩
    rw [if_neg (by simp [hq])]; rfl
  · refine rq_ret rfl ⟨?_, (by (exact pur_sl _ _))⟩
    rw [if_pos hq]; rfl
theorem l3Numbers_c (xs : List Bool) (hl : xs.length ≤ 1000000) : PC Tryz.prog 78 [sl cB xs] (fun r => r = sl cI (ixB xs xs.length)) := by
  (refine pc_of_aw Tryz.func78 rfl (by simp [Tryz.ntmps78]) ?_; rw [Tryz.ntmps78])
  repeat' (first | (apply id_rw; first | (apply rx_assign;rfl;rfl) | (apply rw_nil; (case hf => kernel_rfl)) | (apply rx_buildSlice; (case hze | hsm | hl => rfl); (case hfl => (rfl)); (case hM | hN => rfl))) | (apply id_aw; first | apply aw_seq | apply aw_region | apply aw_block) | with_reducible apply tq_normal)
  refine aw_loopK (σ := Nat × List Int × Nat) [0] [(0, _)] [] [] (fun k => [(4, iv (k.1 : Int)), (3, .own 0 0 k.2.2 1)]) (fun k => [(0, some (flat cI k.2.1))]) (fun k => k.1 ≤ xs.length ∧ k.2.1 = ixB xs k.1 ∧ k.2.2 = k.2.1.length ∧ k.2.2 ≤ k.1) (fun k => xs.length - k.1) (0, [], 0) ⟨by omega, rfl, rfl, Nat.le_refl _⟩ rfl rfl (by repeat' (first | exact trivial | refine And.intro rfl ?_)) (by repeat' (first | exact trivial | refine And.intro (.inr rfl) ?_)) ?_
  rintro ⟨k, u, m⟩ ⟨hk, hu, hm, hmk⟩
  dsimp only at hk hu hm hmk ⊢
  repeat' (first | (apply id_rw; first | (apply rx_move;rfl;rfl) | (apply rx_load1;rfl;rfl;rfl;rfl) | (first | (apply rx_add; (case hx | hy => rfl); (case h => omega); (case hN => rfl)) | (apply rx_bin;rfl;rfl;rfl;rfl)) | (apply rx_assign;rfl;rfl) | (apply rx_indexFN; (case hx | hi => rfl); (case hm => (omega)); (case hml => (rfl)); (case hα | hf | hg => infer_instance); (case hN => rfl)) | (first | (apply rx_len;rfl;rfl;rfl) | (apply rx_append; (case hx | hy | hze | he0 | hH => rfl); (case hl => (rw [flat_length]; omega)); (case hs' => (rfl)); (case hbig => omega); (case hmx => omega); (case hcs => (exact app_int (by (assumption)))); (case hM | hN => rfl))) | (apply rw_nil; (case hf => kernel_rfl)) | ((apply rx_buildSliceI (t := _)); (case hze | hsm | hl => rfl); (case hfl => (exact (rfl : _ = some [_]))); (case hM | hN => rfl))) | (apply id_aw; first | apply aw_seq | apply aw_region | (apply aw_cond; (case hc => rfl); all_goals (intro hc; have hq := hc; (try simp only [bqs] at hq); (try (exfalso; omega)))) | apply aw_block | apply aw_skip | apply aw_exit | apply aw_ret) | with_reducible apply tq_normal | with_reducible apply tq_exit | with_reducible apply bq_normal | with_reducible apply bq_here)
  · (apply Exists.intro (k + 1, u ++ [(k : Int)], m + 1); refine And.intro ?_ (And.intro ?_ ?_); rotate_left 2; focus (refine Le.ren [(0, 2)] rfl (by decide) ?_ ?_ <;> repeat' (first | exact trivial | refine And.intro ⟨_, rfl, ?_⟩ ?_ | refine And.intro ⟨_, _, rfl, rfl, ?_⟩ ?_ | exact Or.inr rfl | refine Or.inl ⟨?_, (by first | rfl | exact pur_sl _ _)⟩ | rfl)))
    · exact ⟨by dsimp only; omega, by dsimp only; rw [hu]; exact (ixB_hit (by assumption)).symm, by simp; omega, by dsimp only; omega⟩
    · dsimp only; omega
  · (apply Exists.intro (k + 1, u, m); refine And.intro ?_ (And.intro ?_ ?_); rotate_left 2; focus (refine Le.ren [(0, 0)] rfl (by decide) ?_ ?_ <;> repeat' (first | exact trivial | refine And.intro ⟨_, rfl, ?_⟩ ?_ | refine And.intro ⟨_, _, rfl, rfl, ?_⟩ ?_ | exact Or.inr rfl | refine Or.inl ⟨?_, (by first | rfl | exact pur_sl _ _)⟩ | rfl)))
    · exact ⟨by dsimp only; omega, by dsimp only; rw [hu]; exact (ixB_skip (by assumption)).symm, hm, by dsimp only; omega⟩
    · dsimp only; omega
  · (refine rq_le (Le.frzD (d := 2) (i := 0) rfl rfl) ?_; refine rq_ret rfl ?_)
    refine ⟨?_, (by (exact pur_sl _ _))⟩
    simp only [oneOf, sl]
    rw [hm, hu, show k = xs.length by omega]
theorem bcInts_c (L : List Int) (hl : L.length ≤ 1000000) : PC Tryz.prog 25 [sl cI L, sl cI L] (fun r => r = bv true) := by
  (refine pc_of_aw Tryz.func25 rfl (by simp [Tryz.ntmps25]) ?_; rw [Tryz.ntmps25])
  repeat' (first | (apply id_rw; first | (apply rx_move;rfl;rfl) | (apply rx_bin;rfl;rfl;rfl;rfl) | (apply rx_assign;rfl;rfl) | (apply rx_len;rfl;rfl;rfl) | (apply rw_nil; (case hf => kernel_rfl))) | (apply id_aw; first | apply aw_seq | apply aw_region | (apply aw_cond; (case hc => rfl); all_goals (intro hc; have hq := hc; (try simp only [bqs] at hq); (try (exfalso; omega)))) | apply aw_block | apply aw_skip | apply aw_ret) | with_reducible apply tq_normal | with_reducible apply tq_ret)
  · exact (hq trivial).elim
  refine aw_loopK (σ := Nat) [0, 1] [(0, _), (1, _)] [] [] (fun k => [(5, iv (k : Int))]) (fun k => []) (fun k => k ≤ L.length) (fun k => L.length - k) (0) (by omega) rfl rfl (by repeat' (first | exact trivial | refine And.intro rfl ?_)) (by repeat' (exact trivial)) ?_
  rintro k hk
  repeat' (first | (apply id_rw; first | (apply rx_move;rfl;rfl) | (apply rx_load1;rfl;rfl;rfl;rfl) | (first | (apply rx_add; (case hx | hy => rfl); (case h => omega); (case hN => rfl)) | (apply rx_bin;rfl;rfl;rfl;rfl)) | (apply rx_assign;rfl;rfl) | (apply rx_indexFN; (case hx | hi => rfl); (case hm => (omega)); (case hml => (rfl)); (case hα | hf | hg => infer_instance); (case hN => rfl)) | (apply rx_len;rfl;rfl;rfl) | (apply rw_nil; (case hf => kernel_rfl))) | (apply id_aw; first | apply aw_seq | apply aw_region | (apply aw_draw; (case hm => kernel_rfl)) | (apply aw_cond; (case hc => rfl); all_goals (intro hc; have hq := hc; (try simp only [bqs] at hq); (try (exfalso; omega)))) | apply aw_block | apply aw_skip | apply aw_exit | apply aw_ret) | with_reducible apply tq_normal | with_reducible apply tq_ret | with_reducible apply tq_exit | with_reducible apply bq_normal | with_reducible apply bq_ret | with_reducible apply bq_here)
  · exfalso
    simp at hq
  · (apply Exists.intro (k + 1); refine And.intro ?_ (And.intro ?_ ?_); rotate_left 2; focus (refine Le.ren [] rfl (by decide) ?_ ?_ <;> repeat' (first | exact trivial | refine And.intro ⟨_, rfl, ?_⟩ ?_ | refine Or.inl ⟨?_, (by first | rfl | exact pur_sl _ _)⟩ | rfl)))
    · omega
    · omega
  · exact rq_ret rfl ⟨rfl, rfl⟩
theorem bcIn_c (L : List Int) (n : Int) (hl : L.length ≤ 1000000) : PC Tryz.prog 30 [sl cI L, iv n] (fun r => r = bv (decide (n ∈ L))) := by
  (refine pc_of_aw Tryz.func30 rfl (by simp [Tryz.ntmps30]) ?_; rw [Tryz.ntmps30])
  repeat' (first | (apply id_rw; first | (apply rx_assign;rfl;rfl) | (apply rw_nil; (case hf => kernel_rfl))) | (apply id_aw; first | apply aw_seq | apply aw_region | apply aw_block) | with_reducible apply tq_normal)
  refine aw_loopK (σ := Nat) [0, 1] [(0, _), (1, _)] [] [] (fun k => [(5, iv (k : Int))]) (fun k => []) (fun k => k ≤ L.length ∧ ∀ j, j < k → L[j]! ≠ n) (fun k => L.length - k) (0) ⟨by omega, by omega⟩ rfl rfl (by repeat' (first | exact trivial | refine And.intro rfl ?_)) (by repeat' (exact trivial)) ?_
  rintro k ⟨hk, hall⟩
  repeat' (first | (apply id_rw; first | (apply rx_move;rfl;rfl) | (apply rx_load1;rfl;rfl;rfl;rfl) | (first | (apply rx_add; (case hx | hy => rfl); (case h => omega); (case hN => rfl)) | (apply rx_bin;rfl;rfl;rfl;rfl)) | (apply rx_assign;rfl;rfl) | (apply rx_indexFN; (case hx | hi => rfl); (case hm => (omega)); (case hml => (rfl)); (case hα | hf | hg => infer_instance); (case hN => rfl)) | (apply rx_len;rfl;rfl;rfl) | (apply rw_nil; (case hf => kernel_rfl))) | (apply id_aw; first | apply aw_seq | apply aw_region | (apply aw_cond; (case hc => rfl); all_goals (intro hc; have hq := hc; (try simp only [bqs] at hq); (try (exfalso; omega)))) | apply aw_block | apply aw_skip | apply aw_exit | apply aw_ret) | with_reducible apply tq_normal | with_reducible apply tq_ret | with_reducible apply tq_exit | with_reducible apply bq_normal | with_reducible apply bq_ret | with_reducible apply bq_here)
  · refine rq_ret rfl ⟨?_, rfl⟩
    simp only [oneOf]
    rw [decide_eq_true (by have h := getB_mem L k (by omega); rw [hq] at h; exact h)]
  · (apply Exists.intro (k + 1); refine And.intro ?_ (And.intro ?_ ?_); rotate_left 2; focus (refine Le.ren [] rfl (by decide) ?_ ?_ <;> repeat' (first | exact trivial | refine And.intro ⟨_, rfl, ?_⟩ ?_ | refine Or.inl ⟨?_, (by first | rfl | exact pur_sl _ _)⟩ | rfl)))
    · exact ⟨by omega, fun j hj => by
        by_cases e : j = k
        · subst e; exact hq
        · exact hall j (by omega)⟩
    · omega
  · refine rq_ret rfl ⟨?_, rfl⟩
    simp only [oneOf]
    rw [decide_eq_false (fun h => by
      obtain ⟨j, hj, e⟩ := List.getElem_of_mem h
      exact hall j (by omega) (by rw [getB _ _ hj]; exact e))]
theorem l4Place_c (bs : List UInt8) (hb : bs.length ≤ 1048576) : PC Tryz.prog 65 [sl cU bs] (fun r => ∃ (q : Prg) (a : Int), r = .tup [aPrg q, iv a] ∧ cntL q.body ≤ 20000 ∧ q.types.length ≤ 1000 ∧ -1 ≤ a ∧ a ≤ 1000000) := by
  have hb2 : (bs.take 2000).length ≤ 2000 := by rw [List.length_take]; omega
  (refine pc_of_aw Tryz.func65 rfl (by simp [Tryz.ntmps65]) ?_; rw [Tryz.ntmps65])
  repeat' (first | (apply id_rw; first | ((with_reducible apply rx_prgcall (k := 85)); (case h => exact draw_c (bs.take 2000) 0 hb2 (by decide)); (case ha | hpv | hH | hM | hN => rfl); (rintro ⟨q, p1⟩ ⟨hq1, hq2, hq3⟩); (dsimp only at hq1 hq2 hq3)) | ((with_reducible apply rx_prgcall (k := 84)); (case h => exact mutate_c (bs.take 2000) p1 q hb2 (by omega) (by omega) (by omega)); (case ha => rfl); (case hpv => exact Pur.pf); (case hH | hM | hN => rfl); (rintro ⟨q2, p2⟩ ⟨hr1, hr2, hr3⟩); (dsimp only at hr1 hr2 hr3)) | (with_reducible apply rw_stop (d := 14)) | (apply rx_move;rfl;rfl) | (apply rx_loadA; (case hx | hd => rfl); (case hc => (exact (rfl : _ = [_, _]))); (case hn | h0 | hN => rfl)) | (apply rx_assign;rfl;rfl) | (apply rx_l17Open; (case ha0 => rfl); (case hmc => (apply l17Open_c <;> (assumption))); (case hM | hN => rfl)) | (apply rw_nil; (case hf => kernel_rfl)) | (apply rx_alloc;rfl;rfl) | (apply rx_store; (case hx | hy | hc | hn | hH => rfl); (case hl => (simp;done)); (case hcs => (exact (rfl : _ = [_, _]))))) | (apply id_aw; first | apply aw_seq | apply aw_region) | with_reducible apply tq_normal)
  refine rw_go ?_
  have hP := PointsOfS_c q2 (by omega) (by omega)
  have hn : (if validF q2 = true then ptsF q2 else []).length ≤ 61 := by
    split
    · rename_i h; exact (WG.of_valid h).pl
    · simp
  generalize (if validF q2 = true then ptsF q2 else []) = pts at *
  have h0 := pickF_bd (bs.take 2000) (p2 + 1) pts.length
  have hn1 := num_bd (bs.take 2000) (p2 + 1) [-1, 60, 0] (-1) 60 (by decide) (by decide)
  have hn0 := num_bd (bs.take 2000) p2 [-1, 60, 0] (-1) 60 (by decide) (by decide)
  repeat' (first | (apply id_rw; first | ((with_reducible apply rx_callE (k := 74)); (case ha => rfl); (case h => exact hP); (case hp => (exact Pur.pf)); (case hN => rfl)) | (apply rx_move;rfl;rfl) | (apply rx_loadA; (case hx | hd => rfl); (case hc => (exact (rfl : _ = [_, _]))); (case hn | h0 | hN => rfl)) | (first | (apply rx_guardY; (case hj | hb | hN => rfl); (case hw => (assumption))) | (apply rx_guardNs; (case hj | hb | hN => rfl); (case hw => (assumption))) | (apply rx_guardS; (case hj | hb | hN => rfl); all_goals (intro hg; have hq := hg; (try simp only [bqs] at hq); (try (exfalso; omega))))) | (apply rx_bin;rfl;rfl;rfl;rfl) | (apply rx_assign;rfl;rfl) | (first | (apply rx_pickT; (case hc => rfl); (case hb => (assumption)); (case hx | hN => rfl)) | (apply rx_pickF; (case hc => rfl); (case hb => (assumption)); (case hx | hN => rfl))) | (first | (apply rx_pick; (case ha0 | ha1 => rfl); (case hH0 => (rfl)); (case hmc => (apply pick_c <;> (first | assumption | omega))); (case hM | hN => rfl)) | (apply rx_numO; (case ha0 | ha1 | hH0 | hH1 => rfl); (case hcs => infer_instance); (case hdd => rfl); (case hm => (rfl)); (case hb => assumption); (case hp => omega); (case h0 => (decide)); (case hn => (decide)); (case hM | hN => rfl))) | (apply rx_len;rfl;rfl;rfl) | (apply rw_nil; (case hf => kernel_rfl)) | (apply rx_buildSlice; (case hze | hsm | hl => rfl); (case hfl => (exact (rfl : _ = some [_, _, _]))); (case hM | hN => rfl)) | (apply rx_store; (case hx | hy | hc | hn | hH => rfl); (case hl => (simp;done)); (case hcs => (exact (rfl : _ = [_, _]))))) | (apply id_aw; first | apply aw_seq | apply aw_region | (apply aw_draw; (case hm => kernel_rfl)) | (apply aw_condT; (case hc => rfl); (case hb => (rfl))) | (apply aw_cond; (case hc => rfl); all_goals (intro hc; have hq := hc; (try simp only [bqs] at hq); (try (exfalso; omega)))) | apply aw_skip | apply aw_ret) | with_reducible apply tq_normal | with_reducible apply tq_ret)
  all_goals exact rq_ret (l := [aPrg q2, iv _]) rfl ⟨⟨q2, _, rfl, by omega, by omega, by dsimp only; omega, by dsimp only; omega⟩, Pur.pf⟩
theorem drawConf_c (bs : List UInt8) (hb : bs.length ≤ 1048576) : PC Tryz.prog 23 [sl cU bs] (fun r => ∃ (q : Prg) (a : Int), r = .tup [aPrg q, iv a] ∧ cntL q.body ≤ 20000 ∧ q.types.length ≤ 1000 ∧ -1 ≤ a ∧ a ≤ 1000000) := by
  (refine pc_of_aw Tryz.func23 rfl (by simp [Tryz.ntmps23]) ?_; rw [Tryz.ntmps23])
  repeat' (first | (apply id_rw; first | ((with_reducible apply rx_call (k := 65)); (case ha => rfl); (case h => exact l4Place_c bs hb); (case hp => (exact Pur.pf)); (case hN => rfl); (rintro _ ⟨q, a, rfl, hq1, hq2, hq3, hq4⟩ _)) | (apply rx_move;rfl;rfl) | (apply rx_assign;rfl;rfl) | (apply rw_nil; (case hf => kernel_rfl)) | (apply rx_alloc;rfl;rfl) | (apply rx_extract;rfl;rfl;rfl) | (apply rx_store; (case hx | hy | hc | hn | hH => rfl); (case hl => (simp;done)); (case hcs => (exact (rfl : _ = [_, _]))))) | (apply id_aw; first | apply aw_seq | apply aw_region | apply aw_ret) | with_reducible apply tq_normal)
  exact rq_ret (l := [aPrg q, iv a]) rfl ⟨⟨q, a, rfl, hq1, hq2, hq3, hq4⟩, Pur.pf⟩
theorem drawFirst_c (bs : List UInt8) (hb : bs.length ≤ 1048576) : PC Tryz.prog 14 [sl cU bs] (fun r => ∃ q : Prg, r = aPrg q ∧ cntL q.body ≤ 20000 ∧ q.types.length ≤ 1000) := by
  (refine pc_of_aw Tryz.func14 rfl (by simp [Tryz.ntmps14]) ?_; rw [Tryz.ntmps14])
  repeat' (first | (apply id_rw; first | ((with_reducible apply rx_call (k := 31)); (case ha => rfl); (case h => exact drawCheck_c bs hb); (case hp => (exact Pur.pf)); (case hN => rfl); (rintro _ ⟨q, rfl, hq1, hq2⟩ _)) | (apply rx_move;rfl;rfl) | (apply rw_nil; (case hf => kernel_rfl)) | (apply rx_alloc;rfl;rfl) | (apply rx_store; (case hx | hy | hc | hn | hH => rfl); (case hl => (simp;done)); (case hcs => (exact (rfl : _ = [_, _]))))) | (apply id_aw; first | apply aw_seq | apply aw_region | apply aw_ret) | with_reducible apply tq_normal)
  exact rq_ret (l := [aPrg q]) rfl ⟨⟨q, rfl, hq1, hq2⟩, Pur.pf⟩
end Go.Proofs.YtejkbiijonnefaaGreat

namespace Go.Proofs.YtejkbiijonnefaaGreat
open Go.AL Go.RowKit

theorem ConflictsS_c (p : Prg) (a : Int) (f : Flows p.types (ptsF p)) (hl : p.types.length ≤ 1000000) (hs : cntL p.body ≤ 1000000) (h : OkAt p a) : PC Tryz.prog 26 [aPrg p, iv a] (fun r => r = sl cI (bitsI (cfN p.types (ptsF p) f.Am f.Al f.Af f.Ap a.toNat))) := by
  have w := WG.of_valid h.1
  have hr := Rch.of p
  have hpl := w.pl
  have htl := w.tl
  have hai : 0 ≤ a ∧ a < (ptsF p).length := h.2
  have hPP := PointsOfS_c p hl hs
  rw [if_pos h.1] at hPP
  have hfm := l3Forward_c p false f.Am hs w hr (by unfold GoodF2; exact f.gm)
  have hfl := l4Flow_c p f.Af f.Ap hs w f.gf f.gp
  have hLv := l3Live_c p f.Al hs w f.gl
  have hrm := rowsB_len p.types.length (ptsF p).length f.Am
  have hrl := rowsB_len p.types.length (ptsF p).length f.Al
  have hfll : ((List.range (ptsF p).length).map (flB p.types.length (ptsF p).length f.Af f.Ap)).length = (ptsF p).length := by simp
  have hin : a.toNat < (ptsF p).length := by omega
  have hset := w.set a.toNat hin
  have hy := w.y a.toNat hin
  have hfi : ((List.range (ptsF p).length).map (flB p.types.length (ptsF p).length f.Af f.Ap))[a.toNat]! = flB p.types.length (ptsF p).length f.Af f.Ap a.toNat := mapR_get _ _ _ hin
  have hgm : (rowsB p.types.length (ptsF p).length f.Am)[a.toNat]!.length = p.types.length := by rw [rowsB_row _ _ _ _ hin]; simp
  have hgl : (rowsB p.types.length (ptsF p).length f.Al)[a.toNat]!.length = p.types.length := by rw [rowsB_row _ _ _ _ hin]; simp
  have hf2 : (flB p.types.length (ptsF p).length f.Af f.Ap a.toNat).2.length = (ptsF p).length := by simp [flB]
  have hf1 : (flB p.types.length (ptsF p).length f.Af f.Ap a.toNat).1.length = p.types.length := by simp [flB]
  have hf3 : ∀ v, v < p.types.length → (flB p.types.length (ptsF p).length f.Af f.Ap a.toNat).1[v]!.length = (flB p.types.length (ptsF p).length f.Af f.Ap a.toNat).2.length := fun v hv => by
    rw [hf2]; unfold flB; dsimp only; rw [mapR_get _ _ _ hv]; simp
  have hix := ixB_spC w f hin
  have hcl := spC_len p.types (ptsF p) f.Am f.Al f.Af f.Ap a.toNat
  have hS : spC p.types (ptsF p) f.Am f.Al f.Af f.Ap a.toNat = cfB (ptsF p) (accF p.types (ptsF p)[a.toNat]! (rowsB p.types.length (ptsF p).length f.Am)[a.toNat]![(setAt (ptsF p)[a.toNat]!).toNat]!) (flB p.types.length (ptsF p).length f.Af f.Ap a.toNat).2 (lvB p.types (ptsF p)[a.toNat]! (flB p.types.length (ptsF p).length f.Af f.Ap a.toNat).1 (rowsB p.types.length (ptsF p).length f.Al)[a.toNat]! (flB p.types.length (ptsF p).length f.Af f.Ap a.toNat).2.length) := by rw [hf2]; rfl
  rw [← hfi] at hf1 hf2 hf3 hS
  generalize (List.range (ptsF p).length).map (flB p.types.length (ptsF p).length f.Af f.Ap) = FL at hfl hfll hf1 hf2 hf3 hS
  have hacc := l4Accesses_c p.types (ptsF p)[a.toNat]! (rowsB p.types.length (ptsF p).length f.Am)[a.toNat]! htl hgm hset.1 hy
  have hlv := l4Live_c p.types (ptsF p)[a.toNat]! FL[a.toNat]!.1 FL[a.toNat]!.2 (rowsB p.types.length (ptsF p).length f.Al)[a.toNat]! htl (by omega) hgl hf1 hf3
  have hcn := l4Conflicts_c (ptsF p) (accF p.types (ptsF p)[a.toNat]! (rowsB p.types.length (ptsF p).length f.Am)[a.toNat]![(setAt (ptsF p)[a.toNat]!).toNat]!) FL[a.toNat]!.1 FL[a.toNat]!.2 (lvB p.types (ptsF p)[a.toNat]! FL[a.toNat]!.1 (rowsB p.types.length (ptsF p).length f.Al)[a.toNat]! FL[a.toNat]!.2.length) hpl (by have := accF_len p.types (ptsF p)[a.toNat]! (rowsB p.types.length (ptsF p).length f.Am)[a.toNat]![(setAt (ptsF p)[a.toNat]!).toNat]!; omega) hf2 (by unfold lvB; rw [List.length_map, List.length_range, hf2])
  rw [← hS] at hcn
  have hnu := l3Numbers_c (spC p.types (ptsF p) f.Am f.Al f.Af f.Ap a.toNat) (by omega)
  rw [hix] at hnu
  (refine pc_of_aw Tryz.func26 rfl (by simp [Tryz.ntmps26]) ?_; rw [Tryz.ntmps26])
  repeat' (first | (apply id_rw; first | ((with_reducible apply rx_callE (k := 74)); (case ha => rfl); (case h => exact hPP); (case hp => (exact Pur.pf)); (case hN => rfl)) | ((with_reducible apply rx_callE (k := 81)); (case ha => rfl); (case h => exact hfm); (case hp => (exact Pur.pf)); (case hN => rfl)) | ((with_reducible apply rx_callE (k := 75)); (case ha => rfl); (case h => exact hfl); (case hp => (exact Pur.pf)); (case hN => rfl)) | ((with_reducible apply rx_callE (k := 77)); (case ha => rfl); (case h => exact hLv); (case hp => (exact Pur.pf)); (case hN => rfl)) | ((with_reducible apply rx_callE (k := 80)); (case ha => rfl); (case h => exact hacc); (case hp => (exact Pur.pf)); (case hN => rfl)) | ((with_reducible apply rx_callE (k := 76)); (case ha => rfl); (case h => exact hlv); (case hp => (exact Pur.pf)); (case hN => rfl)) | ((with_reducible apply rx_callE (k := 79)); (case ha => rfl); (case h => exact hcn); (case hp => (exact Pur.pf)); (case hN => rfl)) | ((with_reducible apply rx_callE (k := 78)); (case ha => rfl); (case h => exact hnu); (case hp => (exact Pur.pf)); (case hN => rfl)) | (apply rx_move;rfl;rfl) | (first | (apply rx_load1;rfl;rfl;rfl;rfl) | (apply rx_loadA; (case hx | hd => rfl); (case hc => (first | exact (rfl : _ = [_, _]) | exact (rfl : _ = [_, _, _, _, _]))); (case hn | h0 | hN => rfl))) | (apply rx_fieldAddr;rfl;rfl;rfl) | (first | (apply rx_guardY; (case hj | hb | hN => rfl); (case hw => (assumption))) | (apply rx_guardS; (case hj | hb | hN => rfl); all_goals (intro hg; have hq := hg; (try simp only [bqs] at hq); (try (exfalso; omega))))) | (apply rx_bin;rfl;rfl;rfl;rfl) | (apply rx_assign;rfl;rfl) | (apply rx_pickF; (case hc => rfl); (case hb => (assumption)); (case hx | hN => rfl)) | (apply rx_indexF; (case hx | hi => rfl); (case hm => (first | assumption | omega)); (case hml => (rfl)); (case hα | hf | hg => infer_instance); (case hN => rfl)) | (apply rx_len;rfl;rfl;rfl) | (apply rw_nil; (case hf => kernel_rfl)) | (apply rx_box;rfl;rfl;rfl;rfl) | (apply rx_alloc;rfl;rfl) | (apply rx_store; (case hx | hy | hc | hn | hH => rfl); (case hl => (simp;done)); (case hcs => (exact (rfl : _ = [_, _]))))) | (apply id_aw; first | apply aw_seq | apply aw_region | (apply aw_draw; (case hm => kernel_rfl)) | (apply aw_cond; (case hc => rfl); all_goals (intro hc; have hq := hc; (try simp only [bqs] at hq); (try (exfalso; omega)))) | apply aw_skip | apply aw_ret) | with_reducible apply tq_normal)
  exact rq_ret rfl ⟨rfl, (by (exact pur_sl _ _))⟩
theorem ConflictsSNo_c (p : Prg) (a : Int) (hl : p.types.length ≤ 1000000) (hs : cntL p.body ≤ 1000000) (h : ¬ OkAt p a) : PC Tryz.prog 26 [aPrg p, iv a] (fun r => r = sl cI []) := by
  have hPP := PointsOfS_c p hl hs
  have hn : ¬ (0 ≤ a ∧ a < (if validF p = true then ptsF p else []).length) := by
    intro q
    cases hv : validF p
    · rw [if_neg (by simp [hv])] at q; simp at q; omega
    · rw [if_pos hv] at q; exact h ⟨hv, q⟩
  generalize (if validF p = true then ptsF p else []) = pts at *
  (refine pc_of_aw Tryz.func26 rfl (by simp [Tryz.ntmps26]) ?_; rw [Tryz.ntmps26])
  repeat' (first | (apply id_rw; first | ((with_reducible apply rx_callE (k := 74)); (case ha => rfl); (case h => exact hPP); (case hp => (exact Pur.pf)); (case hN => rfl)) | (apply rx_move;rfl;rfl) | (apply rx_loadA; (case hx | hd => rfl); (case hc => (exact (rfl : _ = [_, _]))); (case hn | h0 | hN => rfl)) | (first | (apply rx_guardY; (case hj | hb | hN => rfl); (case hw => (assumption))) | (apply rx_guardNs; (case hj | hb | hN => rfl); (case hw => (assumption))) | (apply rx_guardS; (case hj | hb | hN => rfl); all_goals (intro hg; have hq := hg; (try simp only [bqs] at hq); (try (exfalso; omega))))) | (apply rx_bin;rfl;rfl;rfl;rfl) | (apply rx_assign;rfl;rfl) | (first | (apply rx_pickT; (case hc => rfl); (case hb => (assumption)); (case hx | hN => rfl)) | (apply rx_pickF; (case hc => rfl); (case hb => (assumption)); (case hx | hN => rfl))) | (apply rx_len;rfl;rfl;rfl) | (apply rw_nil; (case hf => kernel_rfl)) | (apply rx_box;rfl;rfl;rfl;rfl) | ((apply rx_buildSliceI (t := _)); (case hze | hsm | hl => rfl); (case hfl => (rfl)); (case hM | hN => rfl))) | (apply id_aw; first | apply aw_seq | apply aw_region | (apply aw_condT; (case hc => rfl); (case hb => (rfl))) | (apply aw_cond; (case hc => rfl); all_goals (intro hc; have hq := hc; (try simp only [bqs] at hq); (try (exfalso; omega)))) | apply aw_ret) | with_reducible apply tq_normal | with_reducible apply tq_ret)
  all_goals exact rq_ret rfl ⟨rfl, (by (rfl))⟩
end Go.Proofs.YtejkbiijonnefaaGreat

namespace Go.Proofs.YtejkbiijonnefaaGreat
open Go.AL Go.RowKit

def nearL (x : Lon) (c : Acc) : Bool := decide (c.var = x.var) && (c.write || x.unique)
theorem conf_all (p : Prg) (a : Int) (hl : p.types.length ≤ 1000000) (hs : cntL p.body ≤ 1000000) : ∃ (C LV PL : List Int) (AC : List Acc) (LN : List Lon),
    PC Tryz.prog 24 [aPrg p, iv a] (fun r => r = sl cI C) ∧ PC Tryz.prog 26 [aPrg p, iv a] (fun r => r = sl cI C) ∧ PC Tryz.prog 27 [aPrg p, iv a] (fun r => r = sl cI LV) ∧
    PC Tryz.prog 28 [aPrg p, iv a] (fun r => r = sl cI PL) ∧ PC Tryz.prog 29 [aPrg p, iv a] (fun r => r = sl cAcc AC) ∧ PC Tryz.prog 17 [aPrg p] (fun r => r = sl cLon LN) ∧
    (∀ k, k < LN.length → decide (LN[k]!.point ∈ C) = (AC.any (nearL LN[k]!) && (decide (LN[k]!.point ∈ LV) && decide (LN[k]!.point ∈ PL)))) ∧ C.length ≤ LN.length ∧ C.length ≤ 62 ∧ LV.length ≤ 62 ∧ PL.length ≤ 62 ∧ AC.length ≤ 62 ∧ LN.length ≤ 62 := by
  by_cases h : OkAt p a
  · have w := WG.of_valid h.1
    obtain ⟨f⟩ := Flows.ex w
    have hpl := w.pl
    have hin : a.toNat < (ptsF p).length := by have := h.2; omega
    have hL := LoansOf_c p hl hs
    rw [if_pos h.1] at hL
    refine ⟨_, _, _, _, _, ConflictsAtY_c p a f hl hs h, ConflictsS_c p a f hl hs h, LiveLoansY_c p a f hl hs h, PlacedLoansY_c p a f hl hs h, AccessesOfY_c p a f hl hs h, hL, fun k hk => ?_, cf_len w f hin, bitsI_len _, bitsI_len _, bitsI_len _, ?_, Nat.le_trans (lnL_len _ _) (by omega)⟩
    · obtain ⟨l, hl1, hl2, e⟩ := lnL_of hk
      rw [e, show (lnOf (ptsF p) l).point = (l : Int) from rfl]
      rw [decide_bitsI (by omega), decide_bitsI (by omega), decide_bitsI (by omega), conf_law w f hin hl1 hl2]
      rfl
    · have := accF_len p.types (ptsF p)[a.toNat]! (f.Am[a.toNat]!.testBit (setAt (ptsF p)[a.toNat]!).toNat); omega
  · refine ⟨[], [], [], [], _, ConflictsAtNo_c p a hl hs h, ConflictsSNo_c p a hl hs h, LiveLoansNo_c p a hl hs h, PlacedLoansNo_c p a hl hs h, AccessesOfNo_c p a hl hs h, LoansOf_c p hl hs, fun k hk => by simp, by simp, by simp, by simp, by simp, by simp, ?_⟩
    split
    · rename_i hv; have := (WG.of_valid hv).pl; exact Nat.le_trans (lnL_len _ _) (by omega)
    · simp
theorem FnConflictsAt_c (bs : List UInt8) : PC Tryz.prog 5 [sl cU bs] (fun r => r = bv true) := by
  rcases Nat.lt_or_ge 1048576 bs.length with hb | hb
  · (refine pc_of_aw Tryz.func5 rfl (by simp [Tryz.ntmps5]) ?_; rw [Tryz.ntmps5])
    repeat' (first | (apply id_rw; first | (apply rx_move;rfl;rfl) | (apply rx_bin;rfl;rfl;rfl;rfl) | (apply rx_assign;rfl;rfl) | (apply rx_len;rfl;rfl;rfl) | (apply rw_nil; (case hf => kernel_rfl))) | (apply id_aw; first | apply aw_seq | apply aw_region | (apply aw_cond; (case hc => rfl); all_goals (intro hc; have hq := hc; (try simp only [bqs] at hq); (try (exfalso; omega)))) | apply aw_ret) | with_reducible apply tq_normal | with_reducible apply tq_ret)
    exact rq_ret rfl ⟨rfl, rfl⟩
  (refine pc_of_aw Tryz.func5 rfl (by simp [Tryz.ntmps5]) ?_; rw [Tryz.ntmps5])
  repeat' (first | (apply id_rw; first | ((with_reducible apply rx_call (k := 23)); (case ha => rfl); (case h => exact drawConf_c bs hb); (case hp => (exact Pur.pf)); (case hN => rfl); (rintro _ ⟨q, a, rfl, hq1, hq2, hq3, hq4⟩ _)) | (with_reducible apply rw_stop (d := 23)) | (apply rx_move;rfl;rfl) | (apply rx_loadA; (case hx | hd => rfl); (case hc => (exact (rfl : _ = [_, _]))); (case hn | h0 | hN => rfl)) | (apply rx_bin;rfl;rfl;rfl;rfl) | (apply rx_assign;rfl;rfl) | (apply rx_len;rfl;rfl;rfl) | (apply rw_nil; (case hf => kernel_rfl)) | (apply rx_alloc;rfl;rfl) | (apply rx_extract;rfl;rfl;rfl) | (apply rx_store; (case hx | hy | hc | hn | hH => rfl); (case hl => (simp;done)); (case hcs => (exact (rfl : _ = [_, _]))))) | (apply id_aw; first | apply aw_seq | apply aw_region | (apply aw_cond; (case hc => rfl); all_goals (intro hc; have hq := hc; (try simp only [bqs] at hq); (try (exfalso; omega)))) | apply aw_skip) | with_reducible apply tq_normal)
  refine rw_go ?_
  obtain ⟨C, LV, PL, AC, LN, h1, h2, h3, h4, h5, h6, law, hlen, b1, b2, b3, b4, b5⟩ := conf_all q a (by omega) (by omega)
  have v1 := bcInts_c C (by omega)
  have v2 := fun n => bcIn_c C n (by omega)
  have v3 := fun n => bcIn_c LV n (by omega)
  have v4 := fun n => bcIn_c PL n (by omega)
  repeat' (first | (apply id_rw; first | ((with_reducible apply rx_callE (k := 24)); (case ha => rfl); (case h => exact h1); (case hp => (exact Pur.pf)); (case hN => rfl)) | ((with_reducible apply rx_callE (k := 26)); (case ha => rfl); (case h => exact h2); (case hp => (exact Pur.pf)); (case hN => rfl)) | ((with_reducible apply rx_callE (k := 27)); (case ha => rfl); (case h => exact h3); (case hp => (exact Pur.pf)); (case hN => rfl)) | ((with_reducible apply rx_callE (k := 28)); (case ha => rfl); (case h => exact h4); (case hp => (exact Pur.pf)); (case hN => rfl)) | ((with_reducible apply rx_callE (k := 29)); (case ha => rfl); (case h => exact h5); (case hp => (exact Pur.pf)); (case hN => rfl)) | ((with_reducible apply rx_callE (k := 17)); (case ha => rfl); (case h => exact h6); (case hp => (exact Pur.pf)); (case hN => rfl)) | ((with_reducible apply rx_callE (k := 25)); (case ha => rfl); (case h => exact v1); (case hp => (exact Pur.pf)); (case hN => rfl)) | (apply rx_move;rfl;rfl) | (apply rx_loadA; (case hx | hd => rfl); (case hc => (exact (rfl : _ = [_, _]))); (case hn | h0 | hN => rfl)) | (apply rx_assign;rfl;rfl) | (apply rw_nil; (case hf => kernel_rfl)) | (apply rx_not;rfl;rfl)) | (apply id_aw; first | apply aw_seq | apply aw_region | (apply aw_condF; (case hc => rfl); (case hb => (rfl))) | apply aw_block | apply aw_skip) | with_reducible apply tq_normal)
  refine aw_loopK (σ := Nat) [5, 6, 7, 8, 9] [(5, _), (6, _), (7, _), (8, _), (9, _)] [0] [(0, some _)] (fun k => [(10, iv (k : Int))]) (fun k => []) (fun k => k ≤ LN.length) (fun k => LN.length - k) (0) (by omega) rfl rfl (by repeat' (first | exact trivial | refine And.intro rfl ?_)) (by repeat' (exact trivial)) ?_
  rintro k hk
  by_cases hkn : k < LN.length
  · have hlaw := law k hkn
    repeat' (first | (apply id_rw; first | (apply rx_move;rfl;rfl) | (apply rx_bin;rfl;rfl;rfl;rfl) | (apply rx_assign;rfl;rfl) | (apply rx_len;rfl;rfl;rfl) | (apply rw_nil; (case hf => kernel_rfl))) | (apply id_aw; first | apply aw_seq | apply aw_region | (apply aw_cond; (case hc => rfl); all_goals (intro hc; have hq := hc; (try simp only [bqs] at hq); (try (exfalso; omega)))) | apply aw_block | apply aw_skip) | with_reducible apply tq_normal)
    refine aw_loopK (σ := Nat × Bool) [5, 6, 7, 8, 9, 10] [(5, _), (6, _), (7, _), (8, _), (9, _), (10, _)] [0] [(0, some _)] (fun s => [(12, iv (s.1 : Int)), (11, bv s.2)]) (fun s => []) (fun s => s.1 ≤ AC.length ∧ s.2 = (AC.take s.1).any (nearL LN[k]!)) (fun s => AC.length - s.1) (0, false) ⟨by omega, rfl⟩ rfl rfl (by repeat' (first | exact trivial | refine And.intro rfl ?_)) (by repeat' (exact trivial)) ?_
    rintro ⟨j, c⟩ ⟨hj, hc⟩
    dsimp only at hj hc ⊢
    by_cases hjn : j < AC.length
    · have hst : (AC.take (j + 1)).any (nearL LN[k]!) = (c || (decide (AC[j]!.var = LN[k]!.var) && (AC[j]!.write || LN[k]!.unique))) := by rw [any_take _ _ _ hjn, hc]; rfl
      clear hc
      repeat' (first | (apply id_rw; first | (apply rx_move;rfl;rfl) | (apply rx_load1;rfl;rfl;rfl;rfl) | (apply rx_fieldAddr;rfl;rfl;rfl) | (first | (apply rx_guardU;rfl;rfl;rfl) | (apply rx_guardY; (case hj | hb | hN => rfl); (case hw => (assumption))) | (apply rx_guardNs; (case hj | hb | hN => rfl); (case hw => (assumption))) | (apply rx_guardS; (case hj | hb | hN => rfl); all_goals (intro hg; have hq := hg; (try simp only [bqs] at hq); (try (exfalso; omega))))) | (first | (apply rx_add; (case hx | hy => rfl); (case h => omega); (case hN => rfl)) | (apply rx_bin;rfl;rfl;rfl;rfl)) | (apply rx_assign;rfl;rfl) | (first | (apply rx_pickT; (case hc => rfl); (case hb => (assumption)); (case hx | hN => rfl)) | (apply rx_pickF; (case hc => rfl); (case hb => (assumption)); (case hx | hN => rfl))) | (apply rx_indexFN; (case hx | hi => rfl); (case hm => (assumption)); (case hml => (rfl)); (case hα | hf | hg => infer_instance); (case hN => rfl)) | (apply rx_len;rfl;rfl;rfl) | (apply rw_nil; (case hf => kernel_rfl))) | (apply id_aw; first | apply aw_seq | apply aw_region | (apply aw_draw; (case hm => kernel_rfl)) | (apply aw_cond; (case hc => rfl); all_goals (intro hc; have hq := hc; (try simp only [bqs] at hq); (try (exfalso; omega)))) | apply aw_block | apply aw_skip) | with_reducible apply tq_normal | with_reducible apply bq_normal)
      all_goals
        (apply Exists.intro (j + 1, _); refine And.intro ?_ (And.intro ?_ ?_); rotate_left 2; focus (refine Le.ren [(0, 0)] rfl (by decide) ?_ ?_ <;> repeat' (first | exact trivial | refine And.intro ⟨_, rfl, ?_⟩ ?_ | refine And.intro ⟨_, _, rfl, rfl, ?_⟩ ?_ | refine Or.inl ⟨?_, (by first | rfl | exact pur_sl _ _ | exact Pur.pf)⟩ | rfl)))
        · refine ⟨by dsimp only; omega, ?_⟩
          dsimp only
          rw [hst]
          simp_all
        · dsimp only; omega
    · have hce : c = AC.any (nearL LN[k]!) := by rw [hc, List.take_of_length_le (by omega)]
      rw [← hce] at hlaw
      repeat' (first | (apply id_rw; first | ((with_reducible apply rx_callE (k := 30)); (case ha => rfl); (case h => exact v2 _); (case hp => (exact Pur.pf)); (case hN => rfl)) | ((with_reducible apply rx_callE (k := 30)); (case ha => rfl); (case h => exact v3 _); (case hp => (exact Pur.pf)); (case hN => rfl)) | ((with_reducible apply rx_callE (k := 30)); (case ha => rfl); (case h => exact v4 _); (case hp => (exact Pur.pf)); (case hN => rfl)) | (apply rx_move;rfl;rfl) | (apply rx_load1;rfl;rfl;rfl;rfl) | (apply rx_fieldAddr;rfl;rfl;rfl) | (first | (apply rx_guardY; (case hj | hb | hN => rfl); (case hw => (assumption))) | (apply rx_guardNs; (case hj | hb | hN => rfl); (case hw => first | rfl | assumption)) | (apply rx_guardS; (case hj | hb | hN => rfl); all_goals (intro hg; have hq := hg; (try simp only [bqs] at hq); (try (exfalso; omega))))) | (first | (apply rx_bbin;rfl;rfl;rfl;rfl) | (apply rx_add; (case hx | hy => rfl); (case h => omega); (case hN => rfl)) | (apply rx_bin;rfl;rfl;rfl;rfl)) | (apply rx_assign;rfl;rfl) | (first | (apply rx_pickT; (case hc => rfl); (case hb => (assumption)); (case hx | hN => rfl)) | (apply rx_pickF; (case hc => rfl); (case hb => first | rfl | assumption); (case hx | hN => rfl))) | (apply rx_indexFN; (case hx | hi => rfl); (case hm => (assumption)); (case hml => (rfl)); (case hα | hf | hg => infer_instance); (case hN => rfl)) | (apply rx_len;rfl;rfl;rfl) | (apply rw_nil; (case hf => kernel_rfl))) | (apply id_aw; first | apply aw_seq | apply aw_region | (apply aw_cond; (case hc => rfl); all_goals (intro hc; have hq := hc; (try simp only [bqs] at hq); (try (exfalso; omega)))) | apply aw_skip | apply aw_exit | apply aw_ret) | with_reducible apply tq_normal | with_reducible apply tq_ret | with_reducible apply tq_exit | with_reducible apply bq_normal | with_reducible apply bq_ret | with_reducible apply bq_here)
      all_goals first
        | ((apply Exists.intro (k + 1); refine And.intro ?_ (And.intro ?_ ?_); rotate_left 2; focus (refine Le.ren [(0, 0)] rfl (by decide) ?_ ?_ <;> repeat' (first | exact trivial | refine And.intro ⟨_, rfl, ?_⟩ ?_ | refine And.intro ⟨_, _, rfl, rfl, ?_⟩ ?_ | refine Or.inl ⟨?_, (by first | rfl | exact pur_sl _ _ | exact Pur.pf)⟩ | rfl)))
           · omega
           · omega)
        | (exfalso; simp_all; done)
  · repeat' (first | (apply id_rw; first | (apply rx_move;rfl;rfl) | (apply rx_bin;rfl;rfl;rfl;rfl) | (apply rx_assign;rfl;rfl) | (apply rx_len;rfl;rfl;rfl) | (apply rw_nil; (case hf => kernel_rfl))) | (apply id_aw; first | apply aw_seq | apply aw_region | (apply aw_cond; (case hc => rfl); all_goals (intro hc; have hq := hc; (try simp only [bqs] at hq); (try (exfalso; omega)))) | apply aw_exit | apply aw_ret) | with_reducible apply tq_normal | with_reducible apply tq_exit | with_reducible apply bq_here)
    refine rq_ret rfl ⟨?_, rfl⟩
    simp only [oneOf]
    rw [decide_eq_true (by omega)]
end Go.Proofs.YtejkbiijonnefaaGreat

namespace Go.Proofs.YtejkbiijonnefaaGreat
open Go.AL Go.RowKit

theorem check_all (p : Prg) (hl : p.types.length ≤ 1000000) (hs : cntL p.body ≤ 1000000) : ∃ (L : List Iss) (LN : List Lon) (UN : List Int) (pts : List Pnt) (us : Nat → Nat → Int) (AA CC : Nat → List Int),
    PC Tryz.prog 21 [aPrg p] (fun r => r = sl cIss L) ∧ PC Tryz.prog 33 [aPrg p] (fun r => r = sl cIss L) ∧ PC Tryz.prog 17 [aPrg p] (fun r => r = sl cLon LN) ∧ PC Tryz.prog 22 [aPrg p] (fun r => r = sl cI UN) ∧
    PC Tryz.prog 34 [aPrg p] (fun r => r = sl cPnt pts) ∧ (∀ i : Nat, i < pts.length → PC Tryz.prog 35 [aPrg p, iv (i : Int)] (fun r => r = sl cI (AA i)) ∧ PC Tryz.prog 24 [aPrg p, iv (i : Int)] (fun r => r = sl cI (CC i)) ∧
      (∀ v : Nat, v < p.types.length → PC Tryz.prog 36 [aPrg p, iv (i : Int), iv (v : Int)] (fun r => r = iv (us i v))) ∧ (AA i).length ≤ 62 ∧ (CC i).length ≤ 62) ∧
    (∀ k, k < L.length → KdL LN L[k]!) ∧ (validF p = true → L = [] → UN = []) ∧ L.length = ttF us AA CC p.types.length pts.length ∧ L.length ≤ 1000000 ∧ LN.length ≤ 62 ∧ pts.length ≤ 62 ∧ (pts = [] ∨ p.types.length ≤ 6) := by
  cases hv : validF p
  · refine ⟨[], [], [], [], fun _ _ => 0, fun _ => [], fun _ => [], CheckI0_c p hv hl hs, CheckS0_c p hv hl hs, ?_, UnsetNo_c p hv hl hs, ?_, fun i h => by simp at h, fun k h => by simp at h, fun h => Bool.noConfusion h, rfl, by simp, by simp, by simp, .inl rfl⟩
    · have := LoansOf_c p hl hs
      rw [if_neg (by simp [hv])] at this; exact this
    · have := PointsOfI_c p hl hs
      rw [if_neg (by simp [hv])] at this; exact this
  · have w := WG.of_valid hv
    obtain ⟨f⟩ := Flows.ex w
    have hpl := w.pl
    have e : chkF p f = f.iss := if_pos hv
    refine ⟨f.iss, lnL (ptsF p) (ptsF p).length, unL p.types (ptsF p) f.Aa (ptsF p).length, ptsF p, fun i v => useAt p.types (ptsF p)[i]! v, fun i => bitsI f.Aa[i]!, fun i => bitsI (cfN p.types (ptsF p) f.Am f.Al f.Af f.Ap i),
      by rw [← e]; exact CheckI_c p f hl hs, by rw [← e]; exact CheckS_c p f hl hs, ?_, UnsetY_c p f hv hl hs, ?_, fun i hi => ?_, fun k hk => iss_ln w f _ (getB_mem _ k hk), fun _ h => un_nil w f h, iss_tt w f _ (Nat.le_refl _), Nat.le_trans (iss_len' w f) (by decide), Nat.le_trans (lnL_len _ _) (by omega), by omega, .inr w.tl⟩
    · have := LoansOf_c p hl hs
      rw [if_pos hv] at this; exact this
    · have := PointsOfI_c p hl hs
      rw [if_pos hv] at this; exact this
    · have h : OkAt p (i : Int) := ⟨hv, by omega, by omega⟩
      exact ⟨AlwaysSetY_c p i f hl hs h, ConflictsAtY_c p i f hl hs h, fun v hv2 => UseOf_c p i v hl hs h (by omega), bitsI_len _, bitsI_len _⟩
end Go.Proofs.YtejkbiijonnefaaGreat

namespace Go.Proofs.YtejkbiijonnefaaGreat
open Go.AL Go.RowKit

theorem FnIssueKinds_c (bs : List UInt8) : PC Tryz.prog 3 [sl cU bs] (fun r => r = bv true) := by
  rcases Nat.lt_or_ge 1048576 bs.length with hb | hb
  · (refine pc_of_aw Tryz.func3 rfl (by simp [Tryz.ntmps3]) ?_; rw [Tryz.ntmps3])
    repeat' (first | (apply id_rw; first | (apply rx_move;rfl;rfl) | (apply rx_bin;rfl;rfl;rfl;rfl) | (apply rx_assign;rfl;rfl) | (apply rx_len;rfl;rfl;rfl) | (apply rw_nil; (case hf => kernel_rfl))) | (apply id_aw; first | apply aw_seq | apply aw_region | (apply aw_cond; (case hc => rfl); all_goals (intro hc; have hq := hc; (try simp only [bqs] at hq); (try (exfalso; omega)))) | apply aw_ret) | with_reducible apply tq_normal | with_reducible apply tq_ret)
    exact rq_ret rfl ⟨rfl, rfl⟩
  (refine pc_of_aw Tryz.func3 rfl (by simp [Tryz.ntmps3]) ?_; rw [Tryz.ntmps3])
  repeat' (first | (apply id_rw; first | ((with_reducible apply rx_call (k := 14)); (case ha => rfl); (case h => exact drawFirst_c bs hb); (case hp => (exact Pur.pf)); (case hN => rfl); (rintro _ ⟨q, rfl, hq1, hq2⟩ _)) | (with_reducible apply rw_stop (d := 16)) | (apply rx_move;rfl;rfl) | (apply rx_bin;rfl;rfl;rfl;rfl) | (apply rx_assign;rfl;rfl) | (apply rx_len;rfl;rfl;rfl) | (apply rw_nil; (case hf => kernel_rfl)) | (apply rx_alloc;rfl;rfl) | (apply rx_store; (case hx | hy | hc | hn | hH => rfl); (case hl => (simp;done)); (case hcs => (exact (rfl : _ = [_, _]))))) | (apply id_aw; first | apply aw_seq | apply aw_region | (apply aw_cond; (case hc => rfl); all_goals (intro hc; have hq := hc; (try simp only [bqs] at hq); (try (exfalso; omega)))) | apply aw_skip) | with_reducible apply tq_normal)
  refine rw_go ?_
  obtain ⟨L, LN, UN, pts, us, AA, CC, h1, h2, h3, h4, h5, h6, law, lawU, lawC, b1, b2, b3, b4⟩ := check_all q (by omega) (by omega)
  have v1 := FirstI2_c q L h1
  have v2 := FirstS2_c q L h2
  repeat' (first | (apply id_rw; first | ((with_reducible apply rx_callE (k := 15)); (case ha => rfl); (case h => exact v1); (case hp => (exact Pur.pf)); (case hN => rfl)) | ((with_reducible apply rx_callE (k := 16)); (case ha => rfl); (case h => exact v2); (case hp => (exact Pur.pf)); (case hN => rfl)) | ((with_reducible apply rx_callE (k := 17)); (case ha => rfl); (case h => exact h3); (case hp => (exact Pur.pf)); (case hN => rfl)) | (apply rx_store; (case hx | hy | hc | hn | hH => rfl); (case hl => (simp; done)); (case hcs => exact (rfl : _ = [_, _, _]))) | (apply rx_eq3;rfl;rfl;rfl;rfl) | (apply rx_move;rfl;rfl) | (first | (apply rx_load1;rfl;rfl;rfl;rfl) | (apply rx_loadA; (case hx | hd => rfl); (case hc => (first | exact (rfl : _ = [_, _]) | exact (rfl : _ = [_, _, _]))); (case hn | h0 | hN => rfl))) | (apply rx_fieldAddr;rfl;rfl;rfl) | (first | (apply rx_guardY; (case hj | hb | hN => rfl); (case hw => (assumption))) | (apply rx_guardNs; (case hj | hb | hN => rfl); (case hw => first | rfl | assumption)) | (apply rx_guardS; (case hj | hb | hN => rfl); all_goals (intro hg; have hq := hg; (try simp only [bqs] at hq); (try (exfalso; omega))))) | (first | (apply rx_bbin;rfl;rfl;rfl;rfl) | (apply rx_bin;rfl;rfl;rfl;rfl)) | (apply rx_assign;rfl;rfl) | (first | (apply rx_pickT; (case hc => rfl); (case hb => first | rfl | assumption); (case hx | hN => rfl)) | (apply rx_pickF; (case hc => rfl); (case hb => (assumption)); (case hx | hN => rfl))) | (apply rw_nil; (case hf => kernel_rfl)) | (apply rx_not;rfl;rfl) | (apply rx_alloc;rfl;rfl) | (apply rx_extract;rfl;rfl;rfl)) | (apply id_aw; first | apply aw_seq | apply aw_region | (apply aw_condT; (case hc => rfl); (case hb => (rfl))) | (apply aw_cond; (case hc => rfl); all_goals (intro hc; have hq := hc; (try simp only [bqs] at hq); (try (exfalso; omega)))) | apply aw_block | apply aw_skip | apply aw_ret) | with_reducible apply tq_normal | with_reducible apply tq_ret)
  all_goals try (refine rq_ret rfl ⟨?_, rfl⟩; simp only [oneOf]; simp; done)
  all_goals try (exfalso; simp at *; done)
  have hx : KdL LN (fstF L).1 := by
    cases L with
    | nil => exact Bool.noConfusion (by assumption : (fstF []).snd = true)
    | cons x l => exact law 0 (by simp)
  have hne : ¬ (fstF L).1.kind = 1 := by assumption
  generalize (fstF L).1 = x at *
  rcases hx with hx | ⟨⟨k0, hk0, hk1⟩, hx⟩
  · exact absurd hx hne
  refine aw_loopK (σ := Nat) [4, 8] [(4, _), (8, _)] [0, 1] [(0, some _), (1, some _)] (fun k => [(9, iv (k : Int))]) (fun k => []) (fun k => k ≤ LN.length ∧ ∀ j, j < k → LN[j]!.point ≠ x.with_) (fun k => LN.length - k) (0) ⟨by omega, by omega⟩ rfl rfl (by repeat' (first | exact trivial | refine And.intro rfl ?_)) (by repeat' (exact trivial)) ?_
  rintro k ⟨hk, hall⟩
  repeat' (first | (apply id_rw; first | (apply rx_move;rfl;rfl) | (apply rx_load1;rfl;rfl;rfl;rfl) | (apply rx_fieldAddr;rfl;rfl;rfl) | (first | (apply rx_bbin;rfl;rfl;rfl;rfl) | (apply rx_add; (case hx | hy => rfl); (case h => omega); (case hN => rfl)) | (apply rx_bin;rfl;rfl;rfl;rfl)) | (apply rx_assign;rfl;rfl) | (apply rx_indexFN; (case hx | hi => rfl); (case hm => (omega)); (case hml => (rfl)); (case hα | hf | hg => infer_instance); (case hN => rfl)) | (apply rx_len;rfl;rfl;rfl) | (apply rw_nil; (case hf => kernel_rfl))) | (apply id_aw; first | apply aw_seq | apply aw_region | (apply aw_draw; (case hm => kernel_rfl)) | (apply aw_cond; (case hc => rfl); all_goals (intro hc; have hq := hc; (try simp only [bqs] at hq); (try (exfalso; omega)))) | apply aw_block | apply aw_skip | apply aw_exit | apply aw_ret) | with_reducible apply tq_normal | with_reducible apply tq_ret | with_reducible apply tq_exit | with_reducible apply bq_normal | with_reducible apply bq_ret | with_reducible apply bq_here)
  · refine rq_ret rfl ⟨?_, rfl⟩
    simp only [oneOf]
    rw [decide_eq_true (hx k (by omega) (by assumption))]
  · (apply Exists.intro (k + 1); refine And.intro ?_ (And.intro ?_ ?_); rotate_left 2; focus (refine Le.ren [(0, 0), (1, 1)] rfl (by decide) ?_ ?_ <;> repeat' (first | exact trivial | refine And.intro ⟨_, rfl, ?_⟩ ?_ | refine And.intro ⟨_, _, rfl, rfl, ?_⟩ ?_ | exact Or.inr rfl | refine Or.inl ⟨?_, (by first | rfl | exact pur_sl _ _ | exact Pur.pf)⟩ | rfl)))
    · exact ⟨by omega, fun j hj => by
        by_cases e : j = k
        · subst e; assumption
        · exact hall j (by omega)⟩
    · omega
  · exact absurd hk1 (hall k0 (by omega))
end Go.Proofs.YtejkbiijonnefaaGreat

namespace Go.Proofs.YtejkbiijonnefaaGreat
open Go.AL Go.RowKit

theorem FnNoReferences_c (bs : List UInt8) : PC Tryz.prog 4 [sl cU bs] (fun r => r = bv true) := by
  rcases Nat.lt_or_ge 1048576 bs.length with hb | hb
  · (refine pc_of_aw Tryz.func4 rfl (by simp [Tryz.ntmps4]) ?_; rw [Tryz.ntmps4])
    repeat' (first | (apply id_rw; first | (apply rx_move;rfl;rfl) | (apply rx_bin;rfl;rfl;rfl;rfl) | (apply rx_assign;rfl;rfl) | (apply rx_len;rfl;rfl;rfl) | (apply rw_nil; (case hf => kernel_rfl))) | (apply id_aw; first | apply aw_seq | apply aw_region | (apply aw_cond; (case hc => rfl); all_goals (intro hc; have hq := hc; (try simp only [bqs] at hq); (try (exfalso; omega)))) | apply aw_ret) | with_reducible apply tq_normal | with_reducible apply tq_ret)
    exact rq_ret rfl ⟨rfl, rfl⟩
  (refine pc_of_aw Tryz.func4 rfl (by simp [Tryz.ntmps4]) ?_; rw [Tryz.ntmps4])
  repeat' (first | (apply id_rw; first | ((with_reducible apply rx_call (k := 18)); (case ha => rfl); (case h => exact drawAcc_c bs hb); (case hp => (exact Pur.pf)); (case hN => rfl); (rintro _ ⟨q, rfl, hq1, hq2⟩ _)) | (with_reducible apply rw_stop (d := 13)) | (apply rx_move;rfl;rfl) | (apply rx_bin;rfl;rfl;rfl;rfl) | (apply rx_assign;rfl;rfl) | (apply rx_len;rfl;rfl;rfl) | (apply rw_nil; (case hf => kernel_rfl)) | (apply rx_alloc;rfl;rfl) | (apply rx_store; (case hx | hy | hc | hn | hH => rfl); (case hl => (simp;done)); (case hcs => (exact (rfl : _ = [_, _]))))) | (apply id_aw; first | apply aw_seq | apply aw_region | (apply aw_cond; (case hc => rfl); all_goals (intro hc; have hq := hc; (try simp only [bqs] at hq); (try (exfalso; omega)))) | apply aw_skip) | with_reducible apply tq_normal)
  refine rw_go ?_
  obtain ⟨L, LN, UN, pts, us, AA, CC, h1, h2, h3, h4, h5, h6, law, lawU, lawC, b1, b2, b3, b4⟩ := check_all q (by omega) (by omega)
  have v1 := AcceptsI2_c q L (by omega) (by omega) h1
  have v2 := AcceptsS2_c q L (by omega) (by omega) h2
  repeat' (first | (apply id_rw; first | ((with_reducible apply rx_callE (k := 19)); (case ha => rfl); (case h => exact v1); (case hp => (exact Pur.pf)); (case hN => rfl)) | ((with_reducible apply rx_callE (k := 20)); (case ha => rfl); (case h => exact v2); (case hp => (exact Pur.pf)); (case hN => rfl)) | ((with_reducible apply rx_callE (k := 21)); (case ha => rfl); (case h => exact h1); (case hp => (exact Pur.pf)); (case hN => rfl)) | ((with_reducible apply rx_callE (k := 17)); (case ha => rfl); (case h => exact h3); (case hp => (exact Pur.pf)); (case hN => rfl)) | (apply rx_move;rfl;rfl) | (apply rx_loadA; (case hx | hd => rfl); (case hc => (exact (rfl : _ = [_, _]))); (case hn | h0 | hN => rfl)) | (apply rx_bbin;rfl;rfl;rfl;rfl) | (apply rx_assign;rfl;rfl) | (apply rx_len;rfl;rfl;rfl) | (apply rw_nil; (case hf => kernel_rfl))) | (apply id_aw; first | apply aw_seq | apply aw_region | (apply aw_cond; (case hc => rfl); all_goals (intro hc; have hq := hc; (try simp only [bqs] at hq); (try (exfalso; omega)))) | apply aw_block | apply aw_skip | apply aw_ret) | with_reducible apply tq_normal | with_reducible apply tq_ret)
  · exfalso; simp_all
  refine aw_loopK (σ := Nat) [3, 4, 5, 6] [(3, _), (4, _), (5, _), (6, _)] [0] [(0, some _)] (fun k => [(7, iv (k : Int))]) (fun k => []) (fun k => k ≤ L.length) (fun k => L.length - k) (0) (by omega) rfl rfl (by repeat' (first | exact trivial | refine And.intro rfl ?_)) (by repeat' (exact trivial)) ?_
  rintro k hk
  have hlaw := law k
  repeat' (first | (apply id_rw; first | ((with_reducible apply rx_callE (k := 22)); (case ha => rfl); (case h => exact h4); (case hp => (exact Pur.pf)); (case hN => rfl)) | (apply rx_move;rfl;rfl) | (first | (apply rx_load1;rfl;rfl;rfl;rfl) | (apply rx_loadA; (case hx | hd => rfl); (case hc => (exact (rfl : _ = [_, _]))); (case hn | h0 | hN => rfl))) | (apply rx_fieldAddr;rfl;rfl;rfl) | (first | (apply rx_guardY; (case hj | hb | hN => rfl); (case hw => (assumption))) | (apply rx_guardNs; (case hj | hb | hN => rfl); (case hw => (assumption))) | (apply rx_guardS; (case hj | hb | hN => rfl); all_goals (intro hg; have hq := hg; (try simp only [bqs] at hq); (try (exfalso; omega))))) | (first | (apply rx_add; (case hx | hy => rfl); (case h => omega); (case hN => rfl)) | (apply rx_bin;rfl;rfl;rfl;rfl)) | (apply rx_assign;rfl;rfl) | (first | (apply rx_pickT; (case hc => rfl); (case hb => (assumption)); (case hx | hN => rfl)) | (apply rx_pickF; (case hc => rfl); (case hb => (assumption)); (case hx | hN => rfl))) | (apply rx_indexFN; (case hx | hi => rfl); (case hm => (omega)); (case hml => (rfl)); (case hα | hf | hg => infer_instance); (case hN => rfl)) | (apply rx_len;rfl;rfl;rfl) | (apply rw_nil; (case hf => kernel_rfl)) | (apply rx_not;rfl;rfl)) | (apply id_aw; first | apply aw_seq | apply aw_region | (apply aw_condF; (case hc => rfl); (case hb => (rfl))) | (apply aw_cond; (case hc => rfl); all_goals (intro hc; have hq := hc; (try simp only [bqs] at hq); (try (exfalso; omega)))) | apply aw_block | apply aw_skip | apply aw_exit | apply aw_ret) | with_reducible apply tq_normal | with_reducible apply tq_ret | with_reducible apply tq_exit | with_reducible apply bq_normal | with_reducible apply bq_ret | with_reducible apply bq_here)
  · exfalso
    rcases hlaw (by omega) with h | ⟨⟨j, hj, _⟩, _⟩
    · exact (by assumption : ¬ L[k]!.kind = 1) h
    · omega
  · (apply Exists.intro (k + 1); refine And.intro ?_ (And.intro ?_ ?_); rotate_left 2; focus (refine Le.ren [(0, 0)] rfl (by decide) ?_ ?_ <;> repeat' (first | exact trivial | refine And.intro ⟨_, rfl, ?_⟩ ?_ | refine And.intro ⟨_, _, rfl, rfl, ?_⟩ ?_ | exact Or.inr rfl | refine Or.inl ⟨?_, (by first | rfl | exact pur_sl _ _ | exact Pur.pf)⟩ | rfl)))
    · omega
    · omega
  all_goals first
    | (refine rq_ret rfl ⟨?_, rfl⟩
       simp only [oneOf]
       have hh : validF q = true ∧ L.isEmpty = true := by assumption
       rw [lawU hh.1 (by simpa using hh.2)]; rfl)
    | exact rq_ret rfl ⟨rfl, rfl⟩
end Go.Proofs.YtejkbiijonnefaaGreat

namespace Go.Proofs.YtejkbiijonnefaaGreat
open Go.AL Go.RowKit

theorem FnCheckProgram_c (bs : List UInt8) : PC Tryz.prog 6 [sl cU bs] (fun r => r = bv true) := by
  rcases Nat.lt_or_ge 1048576 bs.length with hb | hb
  · (refine pc_of_aw Tryz.func6 rfl (by simp [Tryz.ntmps6]) ?_; rw [Tryz.ntmps6])
    repeat' (first | (apply id_rw; first | (apply rx_move;rfl;rfl) | (apply rx_bin;rfl;rfl;rfl;rfl) | (apply rx_assign;rfl;rfl) | (apply rx_len;rfl;rfl;rfl) | (apply rw_nil; (case hf => kernel_rfl))) | (apply id_aw; first | apply aw_seq | apply aw_region | (apply aw_cond; (case hc => rfl); all_goals (intro hc; have hq := hc; (try simp only [bqs] at hq); (try (exfalso; omega)))) | apply aw_ret) | with_reducible apply tq_normal | with_reducible apply tq_ret)
    exact rq_ret rfl ⟨rfl, rfl⟩
  (refine pc_of_aw Tryz.func6 rfl (by simp [Tryz.ntmps6]) ?_; rw [Tryz.ntmps6])
  repeat' (first | (apply id_rw; first | ((with_reducible apply rx_call (k := 31)); (case ha => rfl); (case h => exact drawCheck_c bs hb); (case hp => (exact Pur.pf)); (case hN => rfl); (rintro _ ⟨q, rfl, hq1, hq2⟩ _)) | (with_reducible apply rw_stop (d := 15)) | (apply rx_move;rfl;rfl) | (apply rx_bin;rfl;rfl;rfl;rfl) | (apply rx_assign;rfl;rfl) | (apply rx_len;rfl;rfl;rfl) | (apply rw_nil; (case hf => kernel_rfl)) | (apply rx_alloc;rfl;rfl) | (apply rx_store; (case hx | hy | hc | hn | hH => rfl); (case hl => (simp;done)); (case hcs => (exact (rfl : _ = [_, _]))))) | (apply id_aw; first | apply aw_seq | apply aw_region | (apply aw_cond; (case hc => rfl); all_goals (intro hc; have hq := hc; (try simp only [bqs] at hq); (try (exfalso; omega)))) | apply aw_skip) | with_reducible apply tq_normal)
  refine rw_go ?_
  obtain ⟨L, LN, UN, pts, us, AA, CC, h1, h2, h3, h4, h5, h6, law, lawU, lawC, b1, b2, b3, b4⟩ := check_all q (by omega) (by omega)
  have v1 := bcIssues_c L b1
  clear h3 h4 law lawU b1 b2
  have htt : ∀ i, ttF us AA CC q.types.length (i + 1) = ttF us AA CC q.types.length i + cnF (us i) (AA i) q.types.length + (CC i).length := fun _ => rfl
  repeat' (first | (apply id_rw; first | ((with_reducible apply rx_callE (k := 21)); (case ha => rfl); (case h => exact h1); (case hp => (exact Pur.pf)); (case hN => rfl)) | ((with_reducible apply rx_callE (k := 33)); (case ha => rfl); (case h => exact h2); (case hp => (exact Pur.pf)); (case hN => rfl)) | ((with_reducible apply rx_callE (k := 32)); (case ha => rfl); (case h => exact v1); (case hp => (exact Pur.pf)); (case hN => rfl)) | ((with_reducible apply rx_callE (k := 34)); (case ha => rfl); (case h => exact h5); (case hp => (exact Pur.pf)); (case hN => rfl)) | (apply rx_move;rfl;rfl) | (apply rx_loadA; (case hx | hd => rfl); (case hc => (exact (rfl : _ = [_, _]))); (case hn | h0 | hN => rfl)) | (apply rx_assign;rfl;rfl) | (apply rw_nil; (case hf => kernel_rfl)) | (apply rx_not;rfl;rfl)) | (apply id_aw; first | apply aw_seq | apply aw_region | (apply aw_condF; (case hc => rfl); (case hb => (rfl))) | apply aw_block | apply aw_skip) | with_reducible apply tq_normal)
  refine aw_loopK (σ := Nat × Nat) [3, 4, 6] [(3, _), (4, _), (6, _)] [0] [(0, some _)] (fun s => [(7, iv (s.1 : Int)), (5, iv (s.2 : Int))]) (fun s => []) (fun s => s.1 ≤ pts.length ∧ s.2 = ttF us AA CC q.types.length s.1 ∧ s.2 ≤ s.1 * 1000000) (fun s => pts.length - s.1) (0, 0) ⟨by omega, rfl, by omega⟩ rfl rfl (by repeat' (first | exact trivial | refine And.intro rfl ?_)) (by repeat' (exact trivial)) ?_
  rintro ⟨i, m⟩ ⟨hi, hm, hmb⟩
  dsimp only at hi hm hmb ⊢
  by_cases hin : i < pts.length
  · obtain ⟨c1, c2, c3, c4, c5⟩ := h6 i hin
    have v2 := fun n => bcIn_c (AA i) n (by omega)
    repeat' (first | (apply id_rw; first | ((with_reducible apply rx_callE (k := 35)); (case ha => rfl); (case h => exact c1); (case hp => (exact Pur.pf)); (case hN => rfl)) | (apply rx_move;rfl;rfl) | (apply rx_loadA; (case hx | hd => rfl); (case hc => (exact (rfl : _ = [_, _]))); (case hn | h0 | hN => rfl)) | (apply rx_bin;rfl;rfl;rfl;rfl) | (apply rx_assign;rfl;rfl) | (apply rx_len;rfl;rfl;rfl) | (apply rw_nil; (case hf => kernel_rfl))) | (apply id_aw; first | apply aw_seq | apply aw_region | (apply aw_cond; (case hc => rfl); all_goals (intro hc; have hq := hc; (try simp only [bqs] at hq); (try (exfalso; omega)))) | apply aw_block | apply aw_skip) | with_reducible apply tq_normal)
    refine aw_loopK (σ := Nat × Nat) [3, 4, 6, 7, 8] [(3, _), (4, _), (6, _), (7, _), (8, _)] [0] [(0, some _)] (fun s => [(9, iv (s.1 : Int)), (5, iv (s.2 : Int))]) (fun s => []) (fun s => s.1 ≤ q.types.length ∧ s.2 = m + cnF (us i) (AA i) s.1) (fun s => q.types.length - s.1) (0, m) ⟨by omega, rfl⟩ rfl rfl (by repeat' (first | exact trivial | refine And.intro rfl ?_)) (by repeat' (exact trivial)) ?_
    rintro ⟨v, m2⟩ ⟨hv, hm2⟩
    dsimp only at hv hm2 ⊢
    have hcl := cnF_le (us i) (AA i) v
    by_cases hvn : v < q.types.length
    · have hst := cnF_succ (us i) (AA i) v
      have v3 := c3 v hvn
      repeat' (first | (apply id_rw; first | ((with_reducible apply rx_callE (k := 36)); (case ha => rfl); (case h => exact v3); (case hp => (exact Pur.pf)); (case hN => rfl)) | ((with_reducible apply rx_callE (k := 30)); (case ha => rfl); (case h => exact v2 _); (case hp => (exact Pur.pf)); (case hN => rfl)) | (apply rx_move;rfl;rfl) | (first | (apply rx_load1;rfl;rfl;rfl;rfl) | (apply rx_loadA; (case hx | hd => rfl); (case hc => (exact (rfl : _ = [_, _]))); (case hn | h0 | hN => rfl))) | (apply rx_fieldAddr;rfl;rfl;rfl) | (first | (apply rx_guardY; (case hj | hb | hN => rfl); (case hw => (assumption))) | (apply rx_guardNs; (case hj | hb | hN => rfl); (case hw => (assumption))) | (apply rx_guardS; (case hj | hb | hN => rfl); all_goals (intro hg; have hq := hg; (try simp only [bqs] at hq); (try (exfalso; omega))))) | (first | (apply rx_add; (case hx | hy => rfl); (case h => omega); (case hN => rfl)) | (apply rx_bin;rfl;rfl;rfl;rfl)) | (apply rx_assign;rfl;rfl) | (first | (apply rx_pickT; (case hc => rfl); (case hb => (assumption)); (case hx | hN => rfl)) | (apply rx_pickF; (case hc => rfl); (case hb => (assumption)); (case hx | hN => rfl))) | (apply rx_len;rfl;rfl;rfl) | (apply rw_nil; (case hf => kernel_rfl)) | (apply rx_not;rfl;rfl)) | (apply id_aw; first | apply aw_seq | apply aw_region | (apply aw_condF; (case hc => rfl); (case hb => (rfl))) | (apply aw_cond; (case hc => rfl); all_goals (intro hc; have hq := hc; (try simp only [bqs] at hq); (try (exfalso; omega)))) | apply aw_block | apply aw_skip) | with_reducible apply tq_normal | with_reducible apply bq_normal)
      · (apply Exists.intro (v + 1, m2 + 1); refine And.intro ?_ (And.intro ?_ ?_); rotate_left 2; focus (refine Le.ren [(0, 0)] rfl (by decide) ?_ ?_ <;> repeat' (first | exact trivial | refine And.intro ⟨_, rfl, ?_⟩ ?_ | refine And.intro ⟨_, _, rfl, rfl, ?_⟩ ?_ | exact Or.inr rfl | refine Or.inl ⟨?_, (by first | rfl | exact pur_sl _ _ | exact Pur.pf)⟩ | rfl)))
        · refine ⟨by dsimp only; omega, ?_⟩
          dsimp only
          rw [hst, if_pos (by rw [decide_eq_true (by assumption), decide_eq_false (by assumption)]; rfl), hm2]; rfl
        · dsimp only; omega
      · (apply Exists.intro (v + 1, m2); refine And.intro ?_ (And.intro ?_ ?_); rotate_left 2; focus (refine Le.ren [(0, 0)] rfl (by decide) ?_ ?_ <;> repeat' (first | exact trivial | refine And.intro ⟨_, rfl, ?_⟩ ?_ | refine And.intro ⟨_, _, rfl, rfl, ?_⟩ ?_ | exact Or.inr rfl | refine Or.inl ⟨?_, (by first | rfl | exact pur_sl _ _ | exact Pur.pf)⟩ | rfl)))
        · refine ⟨by dsimp only; omega, ?_⟩
          dsimp only
          rw [hst, if_neg (by rw [decide_eq_true (by assumption : (v : Int) ∈ AA i)]; simp), hm2]; rfl
        · dsimp only; omega
      · (apply Exists.intro (v + 1, m2); refine And.intro ?_ (And.intro ?_ ?_); rotate_left 2; focus (refine Le.ren [(0, 0)] rfl (by decide) ?_ ?_ <;> repeat' (first | exact trivial | refine And.intro ⟨_, rfl, ?_⟩ ?_ | refine And.intro ⟨_, _, rfl, rfl, ?_⟩ ?_ | exact Or.inr rfl | refine Or.inl ⟨?_, (by first | rfl | exact pur_sl _ _ | exact Pur.pf)⟩ | rfl)))
        · refine ⟨by dsimp only; omega, ?_⟩
          dsimp only
          rw [hst, if_neg (by rw [decide_eq_false (fun h => h (by assumption) : ¬ (us i v ≠ 0))]; simp), hm2]; rfl
        · dsimp only; omega
    · obtain rfl : v = q.types.length := by omega
      repeat' (first | (apply id_rw; first | ((with_reducible apply rx_callE (k := 24)); (case ha => rfl); (case h => exact c2); (case hp => (exact Pur.pf)); (case hN => rfl)) | (apply rx_move;rfl;rfl) | (first | (apply rx_load1;rfl;rfl;rfl;rfl) | (apply rx_loadA; (case hx | hd => rfl); (case hc => (exact (rfl : _ = [_, _]))); (case hn | h0 | hN => rfl))) | (apply rx_fieldAddr;rfl;rfl;rfl) | (first | (apply rx_add; (case hx | hy => rfl); (case h => omega); (case hN => rfl)) | (apply rx_bin;rfl;rfl;rfl;rfl)) | (apply rx_assign;rfl;rfl) | (apply rx_len;rfl;rfl;rfl) | (apply rw_nil; (case hf => kernel_rfl))) | (apply id_aw; first | apply aw_seq | apply aw_region | (apply aw_cond; (case hc => rfl); all_goals (intro hc; have hq := hc; (try simp only [bqs] at hq); (try (exfalso; omega)))) | apply aw_exit) | with_reducible apply tq_normal | with_reducible apply tq_exit | with_reducible apply bq_normal | with_reducible apply bq_here)
      (apply Exists.intro (i + 1, m2 + (CC i).length); refine And.intro ?_ (And.intro ?_ ?_); rotate_left 2; focus (refine Le.ren [(0, 0)] rfl (by decide) ?_ ?_ <;> repeat' (first | exact trivial | refine And.intro ⟨_, rfl, ?_⟩ ?_ | refine And.intro ⟨_, _, rfl, rfl, ?_⟩ ?_ | exact Or.inr rfl | refine Or.inl ⟨?_, (by first | rfl | exact pur_sl _ _ | exact Pur.pf)⟩ | rfl)))
      · refine ⟨by dsimp only; omega, ?_, by dsimp only; omega⟩
        dsimp only
        rw [htt, hm2, hm]
      · dsimp only; omega
  · repeat' (first | (apply id_rw; first | (apply rx_move;rfl;rfl) | (apply rx_bin;rfl;rfl;rfl;rfl) | (apply rx_assign;rfl;rfl) | (apply rx_len;rfl;rfl;rfl) | (apply rw_nil; (case hf => kernel_rfl))) | (apply id_aw; first | apply aw_seq | apply aw_region | (apply aw_cond; (case hc => rfl); all_goals (intro hc; have hq := hc; (try simp only [bqs] at hq); (try (exfalso; omega)))) | apply aw_exit | apply aw_ret) | with_reducible apply tq_normal | with_reducible apply tq_exit | with_reducible apply bq_here)
    refine rq_ret rfl ⟨?_, rfl⟩
    simp only [oneOf]
    rw [decide_eq_true (by rw [lawC, hm, show i = pts.length by omega])]
end Go.Proofs.YtejkbiijonnefaaGreat
