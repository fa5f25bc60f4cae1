/-
  A part of the proofs over this program: rules and contracts of its functions (the contracts).
-/
import Derived.Test.YtejkbiijonnefaaGreatB04
set_option linter.unusedVariables false
set_option linter.unusedSimpArgs false
set_option maxHeartbeats 8000000
set_option maxRecDepth 4000
attribute [local irreducible] Go.AL.RW Go.AL.AW Go.AL.Stop
namespace Go.Proofs.YtejkbiijonnefaaGreat
open Go.AL Go.RowKit

instance (s : List (List Bool) × List Bool) : Pur (cFl s) := ⟨by show ((sl cBB s.1).pur && ((sl cB s.2).pur && true)) = true; rw [pur_sl, pur_sl]; rfl⟩
def spV (ts : List Int) (pts : List Pnt) (Aa : List Nat) (i k : Nat) : List Iss := ((List.range k).filter (spU ts pts Aa i)).map (fun (v : Nat) => ⟨i, 1, v⟩)
def spL (pts : List Pnt) (cf : List Bool) (i k : Nat) : List Iss := ((List.range k).filter (fun (l : Nat) => cf[l]!)).map (fun (l : Nat) => ⟨i, spK pts l, l⟩)
theorem spV_hit {ts : List Int} {pts : List Pnt} {Aa : List Nat} {i k : Nat} (h : spU ts pts Aa i k = true) : spV ts pts Aa i (k + 1) = spV ts pts Aa i k ++ [⟨i, 1, k⟩] := by
  unfold spV; rw [filt_succ, if_pos h, List.map_append]; rfl
theorem spV_skip {ts : List Int} {pts : List Pnt} {Aa : List Nat} {i k : Nat} (h : spU ts pts Aa i k = false) : spV ts pts Aa i (k + 1) = spV ts pts Aa i k := by
  unfold spV; rw [filt_succ, if_neg (by rw [h]; decide), List.append_nil]
theorem spL_hit {pts : List Pnt} {cf : List Bool} {i k : Nat} (h : cf[k]! = true) : spL pts cf i (k + 1) = spL pts cf i k ++ [⟨i, spK pts k, k⟩] := by
  unfold spL; rw [filt_succ, if_pos h, List.map_append]; rfl
theorem spL_skip {pts : List Pnt} {cf : List Bool} {i k : Nat} (h : cf[k]! = false) : spL pts cf i (k + 1) = spL pts cf i k := by
  unfold spL; rw [filt_succ, if_neg (by rw [h]; decide), List.append_nil]
theorem l5Check_c (p : Prg) (f : Flows p.types (ptsF p)) (hs : cntL p.body ≤ 1000000) (w : WG p.types (ptsF p)) (hr : Rch (ptsF p)) : PC Tryz.prog 86 [aPrg p, sl cBB (rowsB p.types.length (ptsF p).length f.Al)] (fun r => r = sl cIss f.iss) := by
  have hpl := w.pl
  have hp0 := w.p0
  have htl := w.tl
  have hfa := l3Forward_c p true f.Aa hs w hr (by unfold GoodF2; exact f.ga)
  have hfm := l3Forward_c p false f.Am hs w hr (by unfold GoodF2; exact f.gm)
  have hfl := l4Flow_c p f.Af f.Ap hs w f.gf f.gp
  have hra := rowsB_len p.types.length (ptsF p).length f.Aa
  have hrm := rowsB_len p.types.length (ptsF p).length f.Am
  have hrl := rowsB_len p.types.length (ptsF p).length f.Al
  have hfll : ((List.range (ptsF p).length).map (flB p.types.length (ptsF p).length f.Af f.Ap)).length = (ptsF p).length := by simp
  (refine pc_of_aw Tryz.func86 rfl (by simp [Tryz.ntmps86]) ?_; rw [Tryz.ntmps86])
  repeat' (first | (apply id_rw; first | ((with_reducible apply rx_callE (k := 106)); (case ha => rfl); (case h => exact l2Points_c p hs); (case hp => (exact Pur.pf)); (case hN => rfl)) | ((with_reducible apply rx_callE (k := 81) (d := 20)); (case ha => rfl); (case h => exact hfa); (case hp => (exact Pur.pf)); (case hN => rfl)) | ((with_reducible apply rx_callE (k := 81) (d := 22)); (case ha => rfl); (case h => exact hfm); (case hp => (exact Pur.pf)); (case hN => rfl)) | ((with_reducible apply rx_callE (k := 75)); (case ha => rfl); (case h => exact hfl); (case hp => (exact Pur.pf)); (case hN => rfl)) | (apply rx_loadA; (case hx | hd => rfl); (case hc => (exact (rfl : _ = [_, _]))); (case hn | h0 | hN => rfl)) | (apply rx_assign;rfl;rfl) | (apply rw_nil; (case hf => kernel_rfl)) | (apply rx_box;rfl;rfl;rfl;rfl) | (apply rx_buildSlice; (case hze | hsm | hl => rfl); (case hfl => (rfl)); (case hM | hN => rfl))) | (apply id_aw; first | apply aw_seq | apply aw_region | apply aw_block) | with_reducible apply tq_normal)
  refine aw_loopK (σ := Nat × List Iss × Nat) [1, 2, 6, 7, 8, 9] [(1, _), (2, _), (6, _), (7, _), (8, _), (9, _)] [0] [(0, some _)] (fun s => [(10, iv (s.1 : Int)), (5, .own 1 0 s.2.2 3)]) (fun s => [(1, some (flat cIss s.2.1))]) (fun s => s.1 ≤ (ptsF p).length ∧ s.2.1 = issF p.types (ptsF p) f.Aa f.Am f.Al f.Af f.Ap s.1 ∧ s.2.2 = s.2.1.length ∧ s.2.2 ≤ 67 * s.1) (fun s => (ptsF p).length - s.1) (0, [], 0) ⟨Nat.zero_le _, rfl, rfl, Nat.le_refl _⟩ rfl rfl (by repeat' (first | exact trivial | refine And.intro rfl ?_)) (by repeat' (first | exact trivial | refine And.intro (.inr rfl) ?_)) ?_
  rintro ⟨i, L, m⟩ ⟨hi, hL, hm, hmb⟩
  dsimp only at hi hL hm hmb
  try dsimp only
  by_cases hin : i < (ptsF p).length
  · repeat' (first | (apply id_rw; first | (apply rx_move;rfl;rfl) | (apply rx_bin;rfl;rfl;rfl;rfl) | (apply rx_assign;rfl;rfl) | (apply rx_len;rfl;rfl;rfl) | (apply rw_nil; (case hf => kernel_rfl))) | (apply id_aw; first | apply aw_seq | apply aw_region | (apply aw_cond; (case hc => rfl); all_goals (intro hc; have hq := hc; (try simp only [bqs] at hq); (try (exfalso; omega)))) | apply aw_block | apply aw_skip) | with_reducible apply tq_normal)
    refine aw_loopK (σ := Nat × List Iss × Nat) [1, 2, 6, 7, 8, 9, 10] [(1, _), (2, _), (6, _), (7, _), (8, _), (9, _), (10, _)] [0] [(0, some _)] (fun s => [(11, iv (s.1 : Int)), (5, .own 1 0 s.2.2 3)]) (fun s => [(1, some (flat cIss s.2.1))]) (fun s => s.1 ≤ p.types.length ∧ s.2.1 = L ++ spV p.types (ptsF p) f.Aa i s.1 ∧ s.2.2 = s.2.1.length ∧ s.2.2 ≤ 67 * i + s.1) (fun s => p.types.length - s.1) (0, L, m) ⟨Nat.zero_le _, (List.append_nil L).symm, hm, hmb⟩ rfl rfl (by repeat' (first | exact trivial | refine And.intro rfl ?_)) (by repeat' (first | exact trivial | refine And.intro (.inr rfl) ?_)) ?_
    rintro ⟨v, L2, m2⟩ ⟨hv, hL2, hm2, hmb2⟩
    dsimp only at hv hL2 hm2 hmb2
    try dsimp only
    by_cases hvn : v < p.types.length
    · have hga := rowsB_get p.types.length (ptsF p).length f.Aa i v hin hvn
      have hgl : (rowsB p.types.length (ptsF p).length f.Aa)[i]!.length = p.types.length := by rw [rowsB_row _ _ _ _ hin]; simp
      repeat' (first | (apply id_rw; first | (apply rx_move;rfl;rfl) | (first | (apply rx_load1;rfl;rfl;rfl;rfl) | (apply rx_loadA; (case hx | hd => rfl); (case hc => (exact (rfl : _ = [_, _, _, _, _]))); (case hn | h0 | hN => rfl))) | (apply rx_fieldAddr;rfl;rfl;rfl) | (first | (apply rx_guardY; (case hj | hb | hN => rfl); (case hw => (assumption))) | (apply rx_guardNs; (case hj | hb | hN => rfl); (case hw => (assumption))) | (apply rx_guardS; (case hj | hb | hN => rfl); all_goals (intro hg; have hq := hg; (try simp only [bqs] at hq); (try (exfalso; omega))))) | (first | (apply rx_add; (case hx | hy => rfl); (case h => omega); (case hN => rfl)) | (apply rx_bin;rfl;rfl;rfl;rfl)) | (apply rx_assign;rfl;rfl) | (first | (apply rx_pickT; (case hc => rfl); (case hb => (assumption)); (case hx | hN => rfl)) | (apply rx_pickF; (case hc => rfl); (case hb => (assumption)); (case hx | hN => rfl))) | (apply rx_indexFN; (case hx | hi => rfl); (case hm => (first | assumption | omega)); (case hml => (rfl)); (case hα | hf | hg => infer_instance); (case hN => rfl)) | ((with_reducible apply rx_callE (k := 132)); (case ha => rfl); (case h => (apply l3Use_c <;> (omega))); (case hp => (exact Pur.pf)); (case hN => rfl)) | (first | (apply rx_len;rfl;rfl;rfl) | (apply rx_append; (case hx | hy | hze | he0 | hH => rfl); (case hl => (rw [flat_length]; omega)); (case hs' => (rfl)); (case hbig => omega); (case hmx => omega); (case hcs => (exact app_iss (by (assumption)))); (case hM | hN => rfl))) | (apply rw_nil; (case hf => kernel_rfl)) | (apply rx_buildK; (case hl => rfl); (case hf => (exact (rfl : _ = some [_, _, _]))); (case hk => (exact (rfl : _ = [_, _, _]))); (case hN => rfl)) | (apply rx_not;rfl;rfl) | (apply rx_buildSlice; (case hze | hsm | hl => rfl); (case hfl => (exact (rfl : _ = some [_, _, _]))); (case hM | hN => rfl))) | (apply id_aw; first | apply aw_seq | apply aw_region | (apply aw_draw; (case hm => kernel_rfl)) | (apply aw_condF; (case hc => rfl); (case hb => (rfl))) | (apply aw_cond; (case hc => rfl); all_goals (intro hc; have hq := hc; (try simp only [bqs] at hq); (try (exfalso; omega)))) | apply aw_block | apply aw_skip) | with_reducible apply tq_normal | with_reducible apply bq_normal)
      · (apply Exists.intro (v + 1, L2 ++ [⟨i, 1, v⟩], m2 + 1); refine And.intro ?_ (And.intro ?_ ?_); rotate_left 2; focus (refine Le.ren [(0, 0), (1, 3)] rfl (by decide) ?_ ?_ <;> repeat' (first | exact trivial | refine And.intro ⟨_, rfl, ?_⟩ ?_ | refine And.intro ⟨_, _, rfl, rfl, ?_⟩ ?_ | exact Or.inr rfl | refine Or.inl ⟨?_, (by first | rfl | exact pur_sl _ _ | exact Pur.pf)⟩ | rfl)))
        · have hu : spU p.types (ptsF p) f.Aa i v = true := by
            unfold spU; rw [← hga, decide_eq_false (by assumption), (by assumption : (rowsB p.types.length (ptsF p).length f.Aa)[i]![v]! = false)]; rfl
          exact ⟨(by show v + 1 ≤ p.types.length; omega), (by show L2 ++ [⟨i, 1, v⟩] = _; rw [hL2, List.append_assoc, ← spV_hit hu]), (by show m2 + 1 = (L2 ++ [_]).length; rw [List.length_append, List.length_singleton, hm2]), (by show m2 + 1 ≤ 67 * i + (v + 1); omega)⟩
        · show p.types.length - (v + 1) < p.types.length - v; omega
      · (apply Exists.intro (v + 1, L2, m2); refine And.intro ?_ (And.intro ?_ ?_); rotate_left 2; focus (refine Le.ren [(0, 0), (1, 1)] rfl (by decide) ?_ ?_ <;> repeat' (first | exact trivial | refine And.intro ⟨_, rfl, ?_⟩ ?_ | refine And.intro ⟨_, _, rfl, rfl, ?_⟩ ?_ | exact Or.inr rfl | refine Or.inl ⟨?_, (by first | rfl | exact pur_sl _ _ | exact Pur.pf)⟩ | rfl)))
        · have hu : spU p.types (ptsF p) f.Aa i v = false := by
            unfold spU; rw [← hga, (by assumption : (rowsB p.types.length (ptsF p).length f.Aa)[i]![v]! = true)]; simp
          exact ⟨(by show v + 1 ≤ p.types.length; omega), (by show L2 = _; rw [spV_skip hu]; exact hL2), hm2, (by show m2 ≤ 67 * i + (v + 1); omega)⟩
        · show p.types.length - (v + 1) < p.types.length - v; omega
      · (apply Exists.intro (v + 1, L2, m2); refine And.intro ?_ (And.intro ?_ ?_); rotate_left 2; focus (refine Le.ren [(0, 0), (1, 1)] rfl (by decide) ?_ ?_ <;> repeat' (first | exact trivial | refine And.intro ⟨_, rfl, ?_⟩ ?_ | refine And.intro ⟨_, _, rfl, rfl, ?_⟩ ?_ | exact Or.inr rfl | refine Or.inl ⟨?_, (by first | rfl | exact pur_sl _ _ | exact Pur.pf)⟩ | rfl)))
        · have hu : spU p.types (ptsF p) f.Aa i v = false := by
            unfold spU; rw [decide_eq_true (by assumption)]; rfl
          exact ⟨(by show v + 1 ≤ p.types.length; omega), (by show L2 = _; rw [spV_skip hu]; exact hL2), hm2, (by show m2 ≤ 67 * i + (v + 1); omega)⟩
        · show p.types.length - (v + 1) < p.types.length - v; omega
    · have hvN : v = p.types.length := by omega
      have hset := w.set i hin
      have hy := w.y i hin
      have hfi : ((List.range (ptsF p).length).map (flB p.types.length (ptsF p).length f.Af f.Ap))[i]! = flB p.types.length (ptsF p).length f.Af f.Ap i := mapR_get _ _ _ hin
      have hgm : (rowsB p.types.length (ptsF p).length f.Am)[i]!.length = p.types.length := by rw [rowsB_row _ _ _ _ hin]; simp
      have hgl : (rowsB p.types.length (ptsF p).length f.Al)[i]!.length = p.types.length := by rw [rowsB_row _ _ _ _ hin]; simp
      have hf2 : (flB p.types.length (ptsF p).length f.Af f.Ap i).2.length = (ptsF p).length := by simp [flB]
      have hf1 : (flB p.types.length (ptsF p).length f.Af f.Ap i).1.length = p.types.length := by simp [flB]
      have hf3 : ∀ v, v < p.types.length → (flB p.types.length (ptsF p).length f.Af f.Ap i).1[v]!.length = (flB p.types.length (ptsF p).length f.Af f.Ap i).2.length := fun v hv => by
        rw [hf2]; unfold flB; dsimp only; rw [mapR_get _ _ _ hv]; simp
      have hacc := l4Accesses_c p.types (ptsF p)[i]! (rowsB p.types.length (ptsF p).length f.Am)[i]! htl hgm hset.1 hy
      have hlv := l4Live_c p.types (ptsF p)[i]! ((List.range (ptsF p).length).map (flB p.types.length (ptsF p).length f.Af f.Ap))[i]!.1 ((List.range (ptsF p).length).map (flB p.types.length (ptsF p).length f.Af f.Ap))[i]!.2 (rowsB p.types.length (ptsF p).length f.Al)[i]! htl (by rw [hfi, hf2]; exact hpl) hgl (by rw [hfi]; exact hf1) (by rw [hfi]; exact hf3)
      have hlvl : (lvB p.types (ptsF p)[i]! ((List.range (ptsF p).length).map (flB p.types.length (ptsF p).length f.Af f.Ap))[i]!.1 (rowsB p.types.length (ptsF p).length f.Al)[i]! ((List.range (ptsF p).length).map (flB p.types.length (ptsF p).length f.Af f.Ap))[i]!.2.length).length = (ptsF p).length := by unfold lvB; rw [List.length_map, List.length_range, hfi, hf2]
      have hcn := l4Conflicts_c (ptsF p) (accF p.types (ptsF p)[i]! (rowsB p.types.length (ptsF p).length f.Am)[i]![(setAt (ptsF p)[i]!).toNat]!) ((List.range (ptsF p).length).map (flB p.types.length (ptsF p).length f.Af f.Ap))[i]!.1 ((List.range (ptsF p).length).map (flB p.types.length (ptsF p).length f.Af f.Ap))[i]!.2 (lvB p.types (ptsF p)[i]! ((List.range (ptsF p).length).map (flB p.types.length (ptsF p).length f.Af f.Ap))[i]!.1 (rowsB p.types.length (ptsF p).length f.Al)[i]! ((List.range (ptsF p).length).map (flB p.types.length (ptsF p).length f.Af f.Ap))[i]!.2.length) hpl (by have := accF_len p.types (ptsF p)[i]! (rowsB p.types.length (ptsF p).length f.Am)[i]![(setAt (ptsF p)[i]!).toNat]!; omega) (by rw [hfi]; exact hf2) hlvl
      have hcf : cfB (ptsF p) (accF p.types (ptsF p)[i]! (rowsB p.types.length (ptsF p).length f.Am)[i]![(setAt (ptsF p)[i]!).toNat]!) ((List.range (ptsF p).length).map (flB p.types.length (ptsF p).length f.Af f.Ap))[i]!.2 (lvB p.types (ptsF p)[i]! ((List.range (ptsF p).length).map (flB p.types.length (ptsF p).length f.Af f.Ap))[i]!.1 (rowsB p.types.length (ptsF p).length f.Al)[i]! ((List.range (ptsF p).length).map (flB p.types.length (ptsF p).length f.Af f.Ap))[i]!.2.length) = spC p.types (ptsF p) f.Am f.Al f.Af f.Ap i := by
        rw [hfi, hf2]; rfl
      have hcl : (spC p.types (ptsF p) f.Am f.Al f.Af f.Ap i).length = (ptsF p).length := by unfold spC; rw [cfB_len]
      repeat' (first | (apply id_rw; first | ((with_reducible apply rx_callE (k := 80)); (case ha => rfl); (case h => exact hacc); (case hp => (exact Pur.pf)); (case hN => rfl)) | ((with_reducible apply rx_callE (k := 76)); (case ha => rfl); (case h => exact hlv); (case hp => (exact Pur.pf)); (case hN => rfl)) | ((with_reducible apply rx_callE (k := 79)); (case ha => rfl); (case h => exact hcn); (case hp => (exact Pur.pf)); (case hN => rfl)) | (with_reducible apply rw_stop (d := 14)) | (apply rx_move;rfl;rfl) | (first | (apply rx_load1;rfl;rfl;rfl;rfl) | (apply rx_loadA; (case hx | hd => rfl); (case hc => (first | exact (rfl : _ = [_, _]) | exact (rfl : _ = [_, _, _, _, _]))); (case hn | h0 | hN => rfl))) | (apply rx_fieldAddr;rfl;rfl;rfl) | (apply rx_bin;rfl;rfl;rfl;rfl) | (apply rx_assign;rfl;rfl) | (apply rx_indexFN; (case hx | hi => rfl); (case hm => (first | assumption | omega)); (case hml => (rfl)); (case hα | hf | hg => infer_instance); (case hN => rfl)) | (apply rx_len;rfl;rfl;rfl) | (apply rw_nil; (case hf => kernel_rfl))) | (apply id_aw; first | apply aw_seq | apply aw_region | (apply aw_draw; (case hm => kernel_rfl)) | (apply aw_cond; (case hc => rfl); all_goals (intro hc; have hq := hc; (try simp only [bqs] at hq); (try (exfalso; omega)))) | apply aw_exit) | with_reducible apply tq_normal | with_reducible apply tq_exit | with_reducible apply bq_here)
      refine rw_go ?_
      rw [hcf]
      repeat' (first | (apply id_rw; first | (apply rx_assign;rfl;rfl) | (apply rw_nil; (case hf => kernel_rfl))) | (apply id_aw; (apply aw_block)) | with_reducible apply tq_normal)
      refine aw_loopK (σ := Nat × List Iss × Nat) [1, 2, 6, 7, 8, 9, 10, 13] [(1, _), (2, _), (6, _), (7, _), (8, _), (9, _), (10, _), (13, _)] [0] [(0, some _)] (fun s => [(14, iv (s.1 : Int)), (5, .own 1 0 s.2.2 3)]) (fun s => [(1, some (flat cIss s.2.1))]) (fun s => s.1 ≤ (ptsF p).length ∧ s.2.1 = L2 ++ spL (ptsF p) (spC p.types (ptsF p) f.Am f.Al f.Af f.Ap i) i s.1 ∧ s.2.2 = s.2.1.length ∧ s.2.2 ≤ 67 * i + 6 + s.1) (fun s => (ptsF p).length - s.1) (0, L2, m2) ⟨Nat.zero_le _, (List.append_nil L2).symm, hm2, by show m2 ≤ 67 * i + 6 + 0; omega⟩ rfl rfl (by repeat' (first | exact trivial | refine And.intro rfl ?_)) (by repeat' (first | exact trivial | refine And.intro (.inr rfl) ?_)) ?_
      rintro ⟨l, L3, m3⟩ ⟨hl, hL3, hm3, hmb3⟩
      dsimp only at hl hL3 hm3 hmb3
      try dsimp only
      by_cases hln : l < (ptsF p).length
      · repeat' (first | (apply id_rw; first | (apply rx_move;rfl;rfl) | (apply rx_load1;rfl;rfl;rfl;rfl) | (apply rx_fieldAddr;rfl;rfl;rfl) | (first | (apply rx_add; (case hx | hy => rfl); (case h => omega); (case hN => rfl)) | (apply rx_bin;rfl;rfl;rfl;rfl)) | (apply rx_assign;rfl;rfl) | (apply rx_indexFN; (case hx | hi => rfl); (case hm => (first | assumption | omega)); (case hml => (rfl)); (case hα | hf | hg => infer_instance); (case hN => rfl)) | (first | (apply rx_len;rfl;rfl;rfl) | (apply rx_append; (case hx | hy | hze | he0 | hH => rfl); (case hl => (rw [flat_length]; omega)); (case hs' => (rfl)); (case hbig => omega); (case hmx => omega); (case hcs => (exact app_iss (by (assumption)))); (case hM | hN => rfl))) | (apply rw_nil; (case hf => kernel_rfl)) | (apply rx_buildK; (case hl => rfl); (case hf => (exact (rfl : _ = some [_, _, _]))); (case hk => (exact (rfl : _ = [_, _, _]))); (case hN => rfl)) | (apply rx_not;rfl;rfl) | (apply rx_buildSlice; (case hze | hsm | hl => rfl); (case hfl => (exact (rfl : _ = some [_, _, _]))); (case hM | hN => rfl))) | (apply id_aw; first | apply aw_seq | apply aw_region | (apply aw_cond; (case hc => rfl); all_goals (intro hc; have hq := hc; (try simp only [bqs] at hq); (try (exfalso; omega)))) | apply aw_block | apply aw_skip | apply aw_exit) | with_reducible apply tq_normal | with_reducible apply tq_exit | with_reducible apply bq_normal | with_reducible apply bq_here)
        · (apply Exists.intro (l + 1, L3, m3); refine And.intro ?_ (And.intro ?_ ?_); rotate_left 2; focus (refine Le.ren [(0, 0), (1, 1)] rfl (by decide) ?_ ?_ <;> repeat' (first | exact trivial | refine And.intro ⟨_, rfl, ?_⟩ ?_ | refine And.intro ⟨_, _, rfl, rfl, ?_⟩ ?_ | exact Or.inr rfl | refine Or.inl ⟨?_, (by first | rfl | exact pur_sl _ _ | exact Pur.pf)⟩ | rfl)))
          · exact ⟨(by show l + 1 ≤ (ptsF p).length; omega), (by show L3 = _; rw [spL_skip (by assumption)]; exact hL3), hm3, (by show m3 ≤ 67 * i + 6 + (l + 1); omega)⟩
          · show (ptsF p).length - (l + 1) < (ptsF p).length - l; omega
        · (apply Exists.intro (l + 1, L3 ++ [⟨i, 3, l⟩], m3 + 1); refine And.intro ?_ (And.intro ?_ ?_); rotate_left 2; focus (refine Le.ren [(0, 0), (1, 3)] rfl (by decide) ?_ ?_ <;> repeat' (first | exact trivial | refine And.intro ⟨_, rfl, ?_⟩ ?_ | refine And.intro ⟨_, _, rfl, rfl, ?_⟩ ?_ | exact Or.inr rfl | refine Or.inl ⟨?_, (by first | rfl | exact pur_sl _ _ | exact Pur.pf)⟩ | rfl)))
          · have hk : spK (ptsF p) l = 3 := by unfold spK; rw [if_pos (by assumption)]
            exact ⟨(by show l + 1 ≤ (ptsF p).length; omega), (by show L3 ++ [⟨i, 3, l⟩] = _; rw [hL3, List.append_assoc, ← hk, ← spL_hit (by assumption)]), (by show m3 + 1 = (L3 ++ [_]).length; rw [List.length_append, List.length_singleton, hm3]), (by show m3 + 1 ≤ 67 * i + 6 + (l + 1); omega)⟩
          · show (ptsF p).length - (l + 1) < (ptsF p).length - l; omega
        · (apply Exists.intro (l + 1, L3 ++ [⟨i, 2, l⟩], m3 + 1); refine And.intro ?_ (And.intro ?_ ?_); rotate_left 2; focus (refine Le.ren [(0, 0), (1, 3)] rfl (by decide) ?_ ?_ <;> repeat' (first | exact trivial | refine And.intro ⟨_, rfl, ?_⟩ ?_ | refine And.intro ⟨_, _, rfl, rfl, ?_⟩ ?_ | exact Or.inr rfl | refine Or.inl ⟨?_, (by first | rfl | exact pur_sl _ _ | exact Pur.pf)⟩ | rfl)))
          · have hk : spK (ptsF p) l = 2 := by unfold spK; rw [if_neg (by assumption)]
            exact ⟨(by show l + 1 ≤ (ptsF p).length; omega), (by show L3 ++ [⟨i, 2, l⟩] = _; rw [hL3, List.append_assoc, ← hk, ← spL_hit (by assumption)]), (by show m3 + 1 = (L3 ++ [_]).length; rw [List.length_append, List.length_singleton, hm3]), (by show m3 + 1 ≤ 67 * i + 6 + (l + 1); omega)⟩
          · show (ptsF p).length - (l + 1) < (ptsF p).length - l; omega
      · repeat' (first | (apply id_rw; first | (apply rx_move;rfl;rfl) | (first | (apply rx_add; (case hx | hy => rfl); (case h => omega); (case hN => rfl)) | (apply rx_bin;rfl;rfl;rfl;rfl)) | (apply rx_assign;rfl;rfl) | (apply rx_len;rfl;rfl;rfl) | (apply rw_nil; (case hf => kernel_rfl))) | (apply id_aw; first | apply aw_seq | apply aw_region | (apply aw_cond; (case hc => rfl); all_goals (intro hc; have hq := hc; (try simp only [bqs] at hq); (try (exfalso; omega)))) | apply aw_exit) | with_reducible apply tq_normal | with_reducible apply tq_exit | with_reducible apply bq_normal | with_reducible apply bq_here)
        (apply Exists.intro (i + 1, L3, m3); refine And.intro ?_ (And.intro ?_ ?_); rotate_left 2; focus (refine Le.ren [(0, 0), (1, 1)] rfl (by decide) ?_ ?_ <;> repeat' (first | exact trivial | refine And.intro ⟨_, rfl, ?_⟩ ?_ | refine And.intro ⟨_, _, rfl, rfl, ?_⟩ ?_ | exact Or.inr rfl | refine Or.inl ⟨?_, (by first | rfl | exact pur_sl _ _ | exact Pur.pf)⟩ | rfl)))
        · refine ⟨(by show i + 1 ≤ (ptsF p).length; omega), ?_, hm3, (by show m3 ≤ 67 * (i + 1); omega)⟩
          show L3 = issF p.types (ptsF p) f.Aa f.Am f.Al f.Af f.Ap (i + 1)
          rw [issF_succ, ← spP_eq w f hin, hL3, hL2, hL, hvN, show l = (ptsF p).length by omega, List.append_assoc]
          rfl
        · show (ptsF p).length - (i + 1) < (ptsF p).length - i; omega
  · repeat' (first | (apply id_rw; first | (apply rx_move;rfl;rfl) | (apply rx_bin;rfl;rfl;rfl;rfl) | (apply rx_assign;rfl;rfl) | (apply rx_len;rfl;rfl;rfl) | (apply rw_nil; (case hf => kernel_rfl))) | (apply id_aw; first | apply aw_seq | apply aw_region | (apply aw_cond; (case hc => rfl); all_goals (intro hc; have hq := hc; (try simp only [bqs] at hq); (try (exfalso; omega)))) | apply aw_exit | apply aw_ret) | with_reducible apply tq_normal | with_reducible apply tq_exit | with_reducible apply bq_here)
    have hiN : i = (ptsF p).length := by omega
    refine rq_le (Le.frzD (d := 4) (i := 1) rfl rfl) ?_
    refine rq_ret rfl ⟨?_, (by (exact pur_sl _ _))⟩
    simp only [oneOf]
    rw [hm, hL, hiN]; rfl
theorem CheckS_c (p : Prg) (f : Flows p.types (ptsF p)) (hl : p.types.length ≤ 1000000) (hs : cntL p.body ≤ 1000000) : PC Tryz.prog 33 [aPrg p] (fun r => r = sl cIss (chkF p f)) := by
  unfold chkF
  cases hv : validF p
  · have hval := validS_c p hl (by omega)
    rw [hv] at hval
    (refine pc_of_aw Tryz.func33 rfl (by simp [Tryz.ntmps33]) ?_; rw [Tryz.ntmps33])
    repeat' (first | (apply id_rw; first | ((with_reducible apply rx_callE (k := 61)); (case ha => rfl); (case h => exact hval); (case hp => (exact Pur.pf)); (case hN => rfl)) | (apply rx_loadA; (case hx | hd => rfl); (case hc => (exact (rfl : _ = [_, _]))); (case hn | h0 | hN => rfl)) | (apply rx_assign;rfl;rfl) | (apply rw_nil; (case hf => kernel_rfl)) | (apply rx_not;rfl;rfl) | (apply rx_box;rfl;rfl;rfl;rfl) | ((apply rx_buildSliceI (t := _)); (case hze | hsm | hl => rfl); (case hfl => (rfl)); (case hM | hN => rfl))) | (apply id_aw; first | apply aw_seq | apply aw_region | (apply aw_condT; (case hc => rfl); (case hb => (rfl))) | apply aw_ret) | with_reducible apply tq_normal | with_reducible apply tq_ret)
    exact rq_ret rfl ⟨rfl, rfl⟩
  · have w := WG.of_valid hv
    have hr := Rch.of p
    have hval := validS_c p hl (by omega)
    rw [hv] at hval
    have hlv := l3Live_c p f.Al hs w f.gl
    have hck := l5Check_c p f hs w hr
    (refine pc_of_aw Tryz.func33 rfl (by simp [Tryz.ntmps33]) ?_; rw [Tryz.ntmps33])
    repeat' (first | (apply id_rw; first | ((with_reducible apply rx_callE (k := 61)); (case ha => rfl); (case h => exact hval); (case hp => (exact Pur.pf)); (case hN => rfl)) | ((with_reducible apply rx_callE (k := 77)); (case ha => rfl); (case h => exact hlv); (case hp => (exact Pur.pf)); (case hN => rfl)) | ((with_reducible apply rx_callE (k := 86)); (case ha => rfl); (case h => exact hck); (case hp => (exact Pur.pf)); (case hN => rfl)) | (apply rx_loadA; (case hx | hd => rfl); (case hc => (exact (rfl : _ = [_, _]))); (case hn | h0 | hN => rfl)) | (apply rx_assign;rfl;rfl) | (apply rw_nil; (case hf => kernel_rfl)) | (apply rx_not;rfl;rfl) | (apply rx_box;rfl;rfl;rfl;rfl)) | (apply id_aw; first | apply aw_seq | apply aw_region | (apply aw_draw; (case hm => kernel_rfl)) | (apply aw_condF; (case hc => rfl); (case hb => (rfl))) | apply aw_skip | apply aw_ret) | with_reducible apply tq_normal)
    exact rq_ret rfl ⟨rfl, (by (exact pur_sl _ _))⟩
end Go.Proofs.YtejkbiijonnefaaGreat

namespace Go.Proofs.YtejkbiijonnefaaGreat
open Go.AL Go.RowKit

abbrev cRd (bs : List UInt8) (p : Nat) : List AV := [sl cU bs, iv (p : Int)]
def pickX (bs : List UInt8) (q : Int) : Int := ((bs[(q % (bs.length : Int)).toNat]!).toNat : Int) * 131 + ((bs[((q * 7 + 3) % (bs.length : Int)).toNat]!).toNat : Int) * 1117 + q * 29 + q / (bs.length : Int) * 53
def pickF (bs : List UInt8) (p : Nat) (n : Int) : Int :=
  if n < 1 then 0 else if (bs.length : Int) = 0 then 0 else
  if (p : Int) + 1 - 1 < (bs.length : Int) then ((bs[((p : Int) + 1 - 1).toNat]!).toNat : Int) % n
  else (((pickX bs ((p : Int) + 1 - 1)).toNat ^^^ (pickX bs ((p : Int) + 1 - 1) / 64).toNat : Nat) : Int) % n
theorem pickF_bd (bs : List UInt8) (p : Nat) (n : Int) : 0 ≤ pickF bs p n ∧ (pickF bs p n < n ∨ n < 1 ∧ pickF bs p n = 0) := by
  unfold pickF
  split
  · omega
  · split
    · omega
    · split
      · exact ⟨Int.emod_nonneg _ (by omega), .inl (Int.emod_lt_of_pos _ (by omega))⟩
      · exact ⟨Int.emod_nonneg _ (by omega), .inl (Int.emod_lt_of_pos _ (by omega))⟩
def numF (bs : List UInt8) (p : Nat) (xs : List Int) : Int := xs[(pickF bs p (xs.length : Int)).toNat]!
class NumL (cs : List AV) (xs : outParam (List Int)) : Prop where h : cs = flat cI xs
instance NumL.nil : NumL [] [] := ⟨rfl⟩
instance NumL.cons {n : Int} {cs : List AV} {xs : List Int} [h : NumL cs xs] : NumL (.v (.int .i64 n) :: cs) (n :: xs) := ⟨by rw [h.h]; rfl⟩
theorem rx_pick {bs : List UInt8} {p : Nat} {n : Int} {N : Nat} {Q : Exit → AS → Prop} {all : Array Oper} {rest : List Oper} {tsl : List (Nat × AV)} {hsl : List (Nat × Option (List AV))} {nidl : Nat} {z0 : Lo} {md : Md} {d : Nat} {ty : TypeId} {pos : String} {af : Array Edge} {tys : Array TypeId} {x0 x1 : Operand} {i0 : Nat} (ha0 : ev (lk tsl) x0 = some (.optr i0 0)) (ha1 : ev (lk tsl) x1 = some (iv n)) (hH0 : lkH hsl i0 = some (cRd bs p)) (hmc : MC Tryz.prog 93 [.optr 0 0, iv n] [(0, some (cRd bs p))] 1 (fun _ : Unit => True) (fun _ => iv (pickF bs p n)) (fun _ => [(0, some (cRd bs (p + 1)))])) (hM : Nat.ble (nidl + 0) big = true) (hN : Nat.blt d N = true) {md' : Md} [hmd : MdA md (rOs [x0, x1] ++ [.inr i0]) (List.map Sum.inr (List.map Prod.fst ([(i0, some (cRd bs (p + 1)))] : List (Nat × Option (List AV)))) ++ [.inl d]) md'] (kk : RW Tryz.prog N all Q md' rest ⟨(d, iv (pickF bs p n)) :: tsl, wrH hsl [(i0, some (cRd bs (p + 1)))], nidl + 0, z0⟩) : RW Tryz.prog N all Q md (⟨some d, .call ⟨.value (.func 93), #[x0, x1], tys⟩, ty, pos, af, none⟩ :: rest) ⟨tsl, hsl, nidl, z0⟩ := by
  refine rx_mcallE [i0] 1 [(i0, some (cRd bs (p + 1)))] hmc (avs := [.optr i0 0, iv n]) ?_ rfl ?_ rfl ?_ (by simpa using hM) ?_ ?_ ?_ hN (md' := md') (hmd := hmd) kk
  · show evL (lk tsl) [x0, x1] = _
    simp only [evL, ha0, ha1]
  · exact ⟨⟨_, _, rfl, hH0, by (repeat' (exact RnL.purI inferInstance))⟩, trivial⟩
  · (repeat' (first | exact RnL.purI inferInstance | exact RnV.optr rfl | refine RnL.cons ?_ ?_))
  · (repeat' (exact RnV.purI inferInstance))
  · simp [wsAll]
  · (repeat' (first | exact trivial | (refine And.intro ⟨0, _, rfl, rfl, ?_⟩ ?_) | exact RnL.purI inferInstance))

theorem rx_num0 {bs : List UInt8} {p : Nat} {xs : List Int} {N : Nat} {Q : Exit → AS → Prop} {all : Array Oper} {rest : List Oper} {tsl : List (Nat × AV)} {hsl : List (Nat × Option (List AV))} {nidl : Nat} {z0 : Lo} {md : Md} {d : Nat} {ty : TypeId} {pos : String} {af : Array Edge} {tys : Array TypeId} {x0 x1 : Operand} {i0 : Nat} (ha0 : ev (lk tsl) x0 = some (.optr i0 0)) (ha1 : ev (lk tsl) x1 = some (sl cI xs)) (hH0 : lkH hsl i0 = some (cRd bs p)) (hmc : MC Tryz.prog 94 [.optr 0 0, sl cI xs] [(0, some (cRd bs p))] 1 (fun _ : Unit => True) (fun _ => iv (numF bs p xs)) (fun _ => [(0, some (cRd bs (p + 1)))])) (hM : Nat.ble (nidl + 0) big = true) (hN : Nat.blt d N = true) {md' : Md} [hmd : MdA md (rOs [x0, x1] ++ [.inr i0]) (List.map Sum.inr (List.map Prod.fst ([(i0, some (cRd bs (p + 1)))] : List (Nat × Option (List AV)))) ++ [.inl d]) md'] (kk : RW Tryz.prog N all Q md' rest ⟨(d, iv (numF bs p xs)) :: tsl, wrH hsl [(i0, some (cRd bs (p + 1)))], nidl + 0, z0⟩) : RW Tryz.prog N all Q md (⟨some d, .call ⟨.value (.func 94), #[x0, x1], tys⟩, ty, pos, af, none⟩ :: rest) ⟨tsl, hsl, nidl, z0⟩ := by
  refine rx_mcallE [i0] 1 [(i0, some (cRd bs (p + 1)))] hmc (avs := [.optr i0 0, sl cI xs]) ?_ rfl ?_ rfl ?_ (by simpa using hM) ?_ ?_ ?_ hN (md' := md') (hmd := hmd) kk
  · show evL (lk tsl) [x0, x1] = _
    simp only [evL, ha0, ha1]
  · exact ⟨⟨_, _, rfl, hH0, by (repeat' (exact RnL.purI inferInstance))⟩, trivial⟩
  · (repeat' (first | exact RnL.purI inferInstance | exact RnV.optr rfl | refine RnL.cons ?_ ?_))
  · (repeat' (exact RnV.purI inferInstance))
  · simp [wsAll]
  · (repeat' (first | exact trivial | (refine And.intro ⟨0, _, rfl, rfl, ?_⟩ ?_) | exact RnL.purI inferInstance))

theorem rx_num0O {bs : List UInt8} {p : Nat} {xs : List Int} {N : Nat} {Q : Exit → AS → Prop} {all : Array Oper} {rest : List Oper} {tsl : List (Nat × AV)} {hsl : List (Nat × Option (List AV))} {nidl : Nat} {z0 : Lo} {md : Md} {d : Nat} {ty : TypeId} {pos : String} {af : Array Edge} {tys : Array TypeId} {x0 x1 : Operand} {i0 i1 : Nat} (ha0 : ev (lk tsl) x0 = some (.optr i0 0)) (ha1 : ev (lk tsl) x1 = some (.own i1 0 xs.length 1)) (hH0 : lkH hsl i0 = some (cRd bs p)) (hH1 : lkH hsl i1 = some (flat cI xs)) (hdd : Go.AL.distinct [i0, i1] = true) (hmc : MC Tryz.prog 94 [.optr 0 0, .own 1 0 xs.length 1] [(0, some (cRd bs p)), (1, some (flat cI xs))] 2 (fun _ : Unit => True) (fun _ => iv (numF bs p xs)) (fun _ => [(0, some (cRd bs (p + 1)))])) (hM : Nat.ble (nidl + 0) big = true) (hN : Nat.blt d N = true) {md' : Md} [hmd : MdA md (rOs [x0, x1] ++ [.inr i0, .inr i1]) (List.map Sum.inr (List.map Prod.fst ([(i0, some (cRd bs (p + 1))), (i1, none)] : List (Nat × Option (List AV)))) ++ [.inl d]) md'] (kk : RW Tryz.prog N all Q md' rest ⟨(d, iv (numF bs p xs)) :: tsl, wrH hsl [(i0, some (cRd bs (p + 1))), (i1, none)], nidl + 0, z0⟩) : RW Tryz.prog N all Q md (⟨some d, .call ⟨.value (.func 94), #[x0, x1], tys⟩, ty, pos, af, none⟩ :: rest) ⟨tsl, hsl, nidl, z0⟩ := by
  refine rx_mcallE [i0, i1] 2 [(i0, some (cRd bs (p + 1))), (i1, none)] hmc (avs := [.optr i0 0, .own i1 0 xs.length 1]) ?_ hdd ?_ rfl ?_ (by simpa using hM) ?_ ?_ ?_ hN (md' := md') (hmd := hmd) kk
  · show evL (lk tsl) [x0, x1] = _
    simp only [evL, ha0, ha1]
  · exact ⟨⟨_, _, rfl, hH0, by (repeat' (exact RnL.purI inferInstance))⟩, ⟨⟨_, _, rfl, hH1, by (repeat' (exact RnL.purI inferInstance))⟩, trivial⟩⟩
  · (repeat' (first | exact RnL.purI inferInstance | exact RnV.own rfl | exact RnV.optr rfl | refine RnL.cons ?_ ?_))
  · (repeat' (exact RnV.purI inferInstance))
  · simp [wsAll]
  · (repeat' (first | exact trivial | (refine And.intro ⟨0, _, rfl, rfl, ?_⟩ ?_) | exact RnL.purI inferInstance))

theorem pick_c (bs : List UInt8) (p : Nat) (n : Int) (hb : bs.length ≤ 2000) (hp : p ≤ 1000000) (hn0 : 0 ≤ n) (hn : n ≤ 1000000) : MC Tryz.prog 93 [.optr 0 0, iv n] [(0, some (cRd bs p))] 1 (fun _ : Unit => True) (fun _ => iv (pickF bs p n)) (fun _ => [(0, some (cRd bs (p + 1)))]) := by
  have hdiv : 0 ≤ ((p : Int) + 1 - 1) / (bs.length : Int) ∧ ((p : Int) + 1 - 1) / (bs.length : Int) ≤ p + 1 - 1 := ⟨Int.ediv_nonneg (by omega) (by omega), Int.ediv_le_self _ (by omega)⟩
  (refine mc_of_aw Tryz.func93 rfl (by simp [Tryz.ntmps93]) ?_; rw [Tryz.ntmps93])
  repeat' (first | (apply id_rw; first | (apply rx_move;rfl;rfl) | (apply rx_load1;rfl;rfl;rfl;rfl) | (apply rx_fieldAddr;rfl;rfl;rfl) | (first | (apply rx_guardY; (case hj | hb | hN => rfl); (case hw => (assumption))) | (apply rx_guardNs; (case hj | hb | hN => rfl); (case hw => (assumption))) | (apply rx_guardS; (case hj | hb | hN => rfl); all_goals (intro hg; have hq := hg; (try simp only [bqs] at hq); (try (exfalso; omega))))) | (first | (apply rx_add; (case hx | hy => rfl); (case h => omega); (case hN => rfl)) | (apply rx_sub; (case hx | hy => rfl); (case h => omega); (case hN => rfl)) | (apply rx_xor; (case hx | hy => rfl); (case h => omega); (case h' => omega); (case hN => rfl)) | (apply rx_mul; (case hx | hy => rfl); (case h => omega); (case hN => rfl)) | (apply rx_rem; (case hx | hy => rfl); (case h => omega); (case hN => rfl)) | (apply rx_quo; (case hx | hy => rfl); (case h => omega); (case hN => rfl)) | (apply rx_bin;rfl;rfl;rfl;rfl)) | (apply rx_assign;rfl;rfl) | (first | (apply rx_pickT; (case hc => rfl); (case hb => (assumption)); (case hx | hN => rfl)) | (apply rx_pickF; (case hc => rfl); (case hb => (assumption)); (case hx | hN => rfl))) | (apply rx_indexF; (case hx | hi => rfl); (case hm => (first | omega | exact ⟨Int.emod_nonneg _ (by omega), Int.emod_lt_of_pos _ (by omega)⟩)); (case hml => (rfl)); (case hα | hf | hg => infer_instance); (case hN => rfl)) | (apply rx_len;rfl;rfl;rfl) | (apply rw_nil; (case hf => kernel_rfl)) | (apply rx_convB; (case hx | hN => rfl); (case' kk => intro hbd)) | (apply rx_nil;rfl;rfl;rfl) | (apply rx_store; (case hx | hy | hc | hn | hH => rfl); (case hl => (simp;done)); (case hcs => (exact (rfl : _ = [_, _]))))) | (apply id_aw; first | apply aw_seq | apply aw_region | (apply aw_draw; (case hm => kernel_rfl)) | (apply aw_condT; (case hc => rfl); (case hb => (rfl))) | (apply aw_cond; (case hc => rfl); all_goals (intro hc; have hq := hc; (try simp only [bqs] at hq); (try (exfalso; omega)))) | apply aw_skip | apply aw_ret) | with_reducible apply tq_normal | with_reducible apply tq_ret)
  all_goals (refine rq_ret rfl ?_; refine mc_ret () trivial ?_ ⟨.inr (Eq.trans (b := some _) rfl ?_), trivial⟩)
  all_goals first | rfl | skip
  all_goals simp only [oneOf, AV.v.injEq, Value.int.injEq, true_and, pickF]
  · rw [if_neg (by omega), if_pos (by omega)]
  · rw [if_neg (by omega), if_neg (by omega), if_pos (by omega)]
  · rw [if_neg (by omega), if_neg (by omega), if_neg (by omega)]; rfl
  · rw [if_pos (by omega)]
theorem num0_c (bs : List UInt8) (p : Nat) (xs : List Int) (hb : bs.length ≤ 2000) (hp : p ≤ 1000000) (h0 : 0 < xs.length) (hn : xs.length ≤ 1000000) : MC Tryz.prog 94 [.optr 0 0, sl cI xs] [(0, some (cRd bs p))] 1 (fun _ : Unit => True) (fun _ => iv (numF bs p xs)) (fun _ => [(0, some (cRd bs (p + 1)))]) := by
  have hpf := pickF_bd bs p xs.length
  (refine mc_of_aw Tryz.func94 rfl (by simp [Tryz.ntmps94]) ?_; rw [Tryz.ntmps94])
  repeat' (first | (apply id_rw; first | (apply rx_move;rfl;rfl) | (apply rx_load1;rfl;rfl;rfl;rfl) | (apply rx_assign;rfl;rfl) | (apply rx_indexF; (case hx | hi => rfl); (case hm => (omega)); (case hml => (rfl)); (case hα | hf | hg => infer_instance); (case hN => rfl)) | (apply rx_pick; (case ha0 | ha1 => rfl); (case hH0 => (rfl)); (case hmc => (apply pick_c <;> (first | assumption | omega))); (case hM | hN => rfl)) | (apply rx_len;rfl;rfl;rfl) | (apply rw_nil; (case hf => kernel_rfl))) | (apply id_aw; first | apply aw_seq | apply aw_region | apply aw_ret) | with_reducible apply tq_normal)
  (refine rq_ret rfl ?_; refine mc_ret () trivial ?_ ⟨.inr (Eq.trans (b := some _) rfl ?_), trivial⟩)
  · rfl
  · rfl
theorem rx_num {Q : Exit → AS → Prop} {all : Array Oper} {rest : List Oper} {N : Nat} {tsl : List (Nat × AV)} {hsl : List (Nat × Option (List AV))} {nidl : Nat} {z0 : Lo} {md : Md} {d : Nat} {ty : TypeId} {pos : String} {af : Array Edge} {tys : Array TypeId}
    {bs : List UInt8} {p m : Nat} {cs : List AV} {xs : List Int} {x0 x1 : Operand} {i0 : Nat} (ha0 : ev (lk tsl) x0 = some (.optr i0 0)) (ha1 : ev (lk tsl) x1 = some (.imm m cs)) (hcs : NumL cs xs) (hH0 : lkH hsl i0 = some (cRd bs p))
    (hm : m = xs.length) (hb : bs.length ≤ 2000) (hp : p ≤ 1000000) (h0 : 0 < xs.length) (hn : xs.length ≤ 1000000) (hM : Nat.ble (nidl + 0) big = true) (hN : Nat.blt d N = true) {md' : Md}
    [hmd : MdA md (rOs [x0, x1] ++ [.inr i0]) [.inr i0, .inl d] md']
    (kk : RW Tryz.prog N all Q md' rest ⟨(d, iv (numF bs p xs)) :: tsl, (i0, some (cRd bs (p + 1))) :: hsl, nidl + 0, z0⟩) : RW Tryz.prog N all Q md (⟨some d, .call ⟨.value (.func 94), #[x0, x1], tys⟩, ty, pos, af, none⟩ :: rest) ⟨tsl, hsl, nidl, z0⟩ := by
  have h := hcs.h
  subst hm h
  exact rx_num0 ha0 ha1 hH0 (num0_c bs p xs hb hp h0 hn) hM hN (hmd := hmd) kk

theorem num0O_c (bs : List UInt8) (p : Nat) (xs : List Int) (hb : bs.length ≤ 2000) (hp : p ≤ 1000000) (h0 : 0 < xs.length) (hn : xs.length ≤ 1000000) : MC Tryz.prog 94 [.optr 0 0, .own 1 0 xs.length 1] [(0, some (cRd bs p)), (1, some (flat cI xs))] 2 (fun _ : Unit => True) (fun _ => iv (numF bs p xs)) (fun _ => [(0, some (cRd bs (p + 1)))]) := by
  have hpf := pickF_bd bs p xs.length
  (refine mc_of_aw Tryz.func94 rfl (by simp [Tryz.ntmps94]) ?_; rw [Tryz.ntmps94])
  repeat' (first | (apply id_rw; first | (apply rx_move;rfl;rfl) | (apply rx_loadF0; (case hx | hH => rfl); (case hf | hg | hα => infer_instance); (case hk => omega); (case hc | hN => rfl)) | (apply rx_assign;rfl;rfl) | (apply rx_indexO; (case hx | hi => rfl); (case hm => (omega)); (case hN => rfl)) | (apply rx_pick; (case ha0 | ha1 => rfl); (case hH0 => (rfl)); (case hmc => (apply pick_c <;> (first | assumption | omega))); (case hM | hN => rfl)) | (apply rx_len;rfl;rfl;rfl) | (apply rw_nil; (case hf => kernel_rfl))) | (apply id_aw; first | apply aw_seq | apply aw_region | apply aw_ret) | with_reducible apply tq_normal)
  (refine rq_ret rfl ?_; refine mc_ret () trivial ?_ ⟨.inr (Eq.trans (b := some _) rfl ?_), trivial⟩)
  · rfl
  · rfl
theorem rx_numO {Q : Exit → AS → Prop} {all : Array Oper} {rest : List Oper} {N : Nat} {tsl : List (Nat × AV)} {hsl : List (Nat × Option (List AV))} {nidl : Nat} {z0 : Lo} {md : Md} {d : Nat} {ty : TypeId} {pos : String} {af : Array Edge} {tys : Array TypeId}
    {bs : List UInt8} {p m : Nat} {cs : List AV} {xs : List Int} {x0 x1 : Operand} {i0 i1 : Nat} (ha0 : ev (lk tsl) x0 = some (.optr i0 0)) (ha1 : ev (lk tsl) x1 = some (.own i1 0 m 1)) (hH0 : lkH hsl i0 = some (cRd bs p)) (hH1 : lkH hsl i1 = some cs) (hcs : NumL cs xs)
    (hdd : Go.AL.distinct [i0, i1] = true) (hm : m = xs.length) (hb : bs.length ≤ 2000) (hp : p ≤ 1000000) (h0 : 0 < xs.length) (hn : xs.length ≤ 1000000) (hM : Nat.ble (nidl + 0) big = true) (hN : Nat.blt d N = true) {md' : Md}
    [hmd : MdA md (rOs [x0, x1] ++ [.inr i0, .inr i1]) [.inr i0, .inr i1, .inl d] md']
    (kk : RW Tryz.prog N all Q md' rest ⟨(d, iv (numF bs p xs)) :: tsl, wrH hsl [(i0, some (cRd bs (p + 1))), (i1, none)], nidl + 0, z0⟩) : RW Tryz.prog N all Q md (⟨some d, .call ⟨.value (.func 94), #[x0, x1], tys⟩, ty, pos, af, none⟩ :: rest) ⟨tsl, hsl, nidl, z0⟩ := by
  have h := hcs.h
  subst hm h
  exact rx_num0O ha0 ha1 hH0 hH1 hdd (num0O_c bs p xs hb hp h0 hn) hM hN (hmd := hmd) kk

theorem open_c (bs : List UInt8) (hb : bs.length ≤ 1048576) : MC Tryz.prog 83 [sl cU bs] [] 0 (fun _ : Unit => True) (fun _ => .optr 0 0) (fun _ => [(0, some (cRd (bs.take 2000) 0))]) := by
  (refine mc_of_aw Tryz.func83 rfl (by simp [Tryz.ntmps83]) ?_; rw [Tryz.ntmps83])
  repeat' (first | (apply id_rw; first | (apply rx_move;rfl;rfl) | (apply rx_bin;rfl;rfl;rfl;rfl) | (apply rx_assign;rfl;rfl) | (apply rx_len;rfl;rfl;rfl) | (apply rw_nil; (case hf => kernel_rfl)) | (apply rx_buildK; (case hl => rfl); (case hf => (exact (rfl : _ = some [_, _]))); (case hk => (exact (rfl : _ = [_, _]))); (case hN => rfl)) | (apply rx_sliceF; (case hx => rfl); (case hf => infer_instance); (case hl | hh => rfl); (case hb => (omega)); (case hN => rfl)) | (apply rx_box;rfl;rfl;rfl;rfl)) | (apply id_aw; first | apply aw_seq | apply aw_region | (apply aw_cond; (case hc => rfl); all_goals (intro hc; have hq := hc; (try simp only [bqs] at hq); (try (exfalso; omega)))) | apply aw_skip | apply aw_ret) | with_reducible apply tq_normal)
  · (refine rq_ret rfl ?_; refine mc_ret () trivial ?_ ⟨.inr (Eq.trans (b := some _) rfl ?_), trivial⟩)
    · rfl
    · rfl
  · (refine rq_ret rfl ?_; refine mc_ret () trivial ?_ ⟨.inr (Eq.trans (b := some _) rfl ?_), trivial⟩)
    · rfl
    · rw [List.take_of_length_le (by omega)]; rfl
end Go.Proofs.YtejkbiijonnefaaGreat

namespace Go.Proofs.YtejkbiijonnefaaGreat
open Go.AL Go.RowKit

def st (op x y n : Int) : AL.Stmt := .mk op x y n [] []
def one0F (bs : List UInt8) (p : Nat) : AL.Stmt × Nat :=
  let box := 1 + pickF bs p 2
  let owner := numF bs (p + 1) [1, 2, 1, 4, 5]
  let c := pickF bs (p + 1 + 1) 11
  if c = 0 then (st 1 0 0 (pickF bs (p + 1 + 1 + 1) 10), p + 4)
  else if c = 1 then (st 2 box 0 (pickF bs (p + 1 + 1 + 1) 10), p + 4)
  else if c = 2 then (st 3 box (3 - box) 0, p + 3)
  else if c = 3 then (st 4 3 owner 0, p + 3)
  else if c = 4 ∨ c = 5 then (st 5 4 (numF bs (p + 1 + 1 + 1) [1, 2, 1, 5]) 0, p + 4)
  else if c = 6 then (st 6 0 (numF bs (p + 1 + 1 + 1) [3, 4, 1, 2, 5]) 0, p + 4)
  else if c = 7 then (st 7 (numF bs (p + 1 + 1 + 1) [4, 1, 2, 5]) 0 0, p + 4)
  else if c = 8 then (st 8 box 0 0, p + 3)
  else (st 5 5 (numF bs (p + 1 + 1 + 1) [4, 1, 2]) 0, p + 4)
def someL (one : Nat → AL.Stmt × Nat) (s : AL.Stmt) (p : Nat) : Nat → List AL.Stmt × Nat
  | 0 => ([s], p)
  | k + 1 => ((someL one s p k).1 ++ [(one (someL one s p k).2).1], (one (someL one s p k).2).2)
def oneN (bs : List UInt8) : Nat → Nat → AL.Stmt × Nat
  | 0, p => one0F bs p
  | d + 1, p =>
    let c := pickF bs (p + 1 + 1) 11
    if c = 9 then
      let r := someL (oneN bs d) (st 2 1 0 (pickF bs (p + 1 + 1 + 1 + 1) 10)) (p + 1 + 1 + 1 + 1 + 1) (pickF bs (p + 1 + 1 + 1) 3).toNat
      let e := one0F bs r.2
      (.mk 9 0 0 0 r.1 [e.1], e.2)
    else if c = 10 then
      let a := one0F bs (p + 1 + 1 + 1)
      let b := one0F bs a.2
      (.mk 10 0 0 0 [a.1, b.1] [], b.2)
    else one0F bs p
def oneF (bs : List UInt8) (d : Int) (p : Nat) : AL.Stmt × Nat := oneN bs d.toNat p
def someF (bs : List UInt8) (d n : Int) (p : Nat) : List AL.Stmt × Nat := someL (oneF bs d) (st 2 1 0 (pickF bs p 10)) (p + 1) n.toNat
theorem one0_p (bs : List UInt8) (p : Nat) : (one0F bs p).2 ≤ p + 4 := by
  unfold one0F; dsimp only; repeat' split
  all_goals omega
theorem one0_n (bs : List UInt8) (p : Nat) : cntS (one0F bs p).1 = 1 := by
  unfold one0F st; dsimp only; repeat' split
  all_goals simp [cntS, cntL]
theorem someL_p {one : Nat → AL.Stmt × Nat} {c : Nat} (h : ∀ p, (one p).2 ≤ p + c) (s : AL.Stmt) (p : Nat) : ∀ k, (someL one s p k).2 ≤ p + k * c
  | 0 => by simp [someL]
  | k + 1 => by
    have := someL_p h s p k
    have := h (someL one s p k).2
    simp only [someL, Nat.succ_mul]; omega
theorem someL_n {one : Nat → AL.Stmt × Nat} {c : Nat} (h : ∀ p, cntS (one p).1 ≤ c) (s : AL.Stmt) (p : Nat) : ∀ k, cntL (someL one s p k).1 ≤ cntS s + k * c
  | 0 => by simp [someL, cntL]
  | k + 1 => by
    have := someL_n h s p k
    have := h (someL one s p k).2
    simp only [someL, Nat.succ_mul, cntL_append, cntL]; omega
def cstP : Nat → Nat
  | 0 => 4
  | d + 1 => 9 + 2 * cstP d
def cstN : Nat → Nat
  | 0 => 1
  | d + 1 => 3 + 2 * cstN d
theorem k3 (bs : List UInt8) (p : Nat) : (pickF bs p 3).toNat ≤ 2 := by have := pickF_bd bs p 3; omega
theorem oneN_p (bs : List UInt8) : ∀ d p, (oneN bs d p).2 ≤ p + cstP d
  | 0, p => one0_p bs p
  | d + 1, p => by
    have h0 := one0_p bs p
    have h1 := someL_p (oneN_p bs d) (st 2 1 0 (pickF bs (p + 1 + 1 + 1 + 1) 10)) (p + 1 + 1 + 1 + 1 + 1) (pickF bs (p + 1 + 1 + 1) 3).toNat
    have h2 := k3 bs (p + 1 + 1 + 1)
    have h3 : (pickF bs (p + 1 + 1 + 1) 3).toNat * cstP d ≤ 2 * cstP d := Nat.mul_le_mul_right _ h2
    have h4 := one0_p bs (someL (oneN bs d) (st 2 1 0 (pickF bs (p + 1 + 1 + 1 + 1) 10)) (p + 1 + 1 + 1 + 1 + 1) (pickF bs (p + 1 + 1 + 1) 3).toNat).2
    have h5 := one0_p bs (p + 1 + 1 + 1)
    have h6 := one0_p bs (one0F bs (p + 1 + 1 + 1)).2
    have h7 : 1 ≤ cstP d := by cases d <;> simp only [cstP] <;> omega
    simp only [oneN, cstP]
    split
    · dsimp only; omega
    · split
      · dsimp only; omega
      · omega
theorem oneN_n (bs : List UInt8) : ∀ d p, cntS (oneN bs d p).1 ≤ cstN d
  | 0, p => by rw [oneN, one0_n]; decide
  | d + 1, p => by
    have h0 := one0_n bs p
    have h1 := someL_n (oneN_n bs d) (st 2 1 0 (pickF bs (p + 1 + 1 + 1 + 1) 10)) (p + 1 + 1 + 1 + 1 + 1) (pickF bs (p + 1 + 1 + 1) 3).toNat
    have h2 := k3 bs (p + 1 + 1 + 1)
    have h3 : (pickF bs (p + 1 + 1 + 1) 3).toNat * cstN d ≤ 2 * cstN d := Nat.mul_le_mul_right _ h2
    have h4 := one0_n bs (someL (oneN bs d) (st 2 1 0 (pickF bs (p + 1 + 1 + 1 + 1) 10)) (p + 1 + 1 + 1 + 1 + 1) (pickF bs (p + 1 + 1 + 1) 3).toNat).2
    have h5 := one0_n bs (p + 1 + 1 + 1)
    have h6 := one0_n bs (one0F bs (p + 1 + 1 + 1)).2
    have h7 : cntS (st 2 1 0 (pickF bs (p + 1 + 1 + 1 + 1) 10)) = 1 := by simp [st, cntS, cntL]
    simp only [oneN, cstN]
    split
    · simp only [cntS, cntL]; omega
    · split
      · simp only [cntS, cntL]; omega
      · omega
theorem oneF_p (bs : List UInt8) {d : Int} (h : d ≤ 2) (p : Nat) : (oneF bs d p).2 ≤ p + 43 := by
  have h1 := oneN_p bs d.toNat p
  have h2 : cstP d.toNat ≤ 43 := by
    have : d.toNat = 0 ∨ d.toNat = 1 ∨ d.toNat = 2 := by omega
    rcases this with h | h | h <;> rw [h] <;> decide
  exact Nat.le_trans h1 (by omega)
theorem oneF_n (bs : List UInt8) {d : Int} (h : d ≤ 2) (p : Nat) : cntS (oneF bs d p).1 ≤ 13 := by
  have h1 := oneN_n bs d.toNat p
  have h2 : cstN d.toNat ≤ 13 := by
    have : d.toNat = 0 ∨ d.toNat = 1 ∨ d.toNat = 2 := by omega
    rcases this with h | h | h <;> rw [h] <;> decide
  exact Nat.le_trans h1 h2
theorem someL_len {one : Nat → AL.Stmt × Nat} (s : AL.Stmt) (p : Nat) : ∀ k, (someL one s p k).1.length = k + 1
  | 0 => rfl
  | k + 1 => by simp only [someL, List.length_append, someL_len s p k, List.length_cons, List.length_nil]
theorem someF_len (bs : List UInt8) (d : Int) (n p : Nat) : (someF bs d (n : Int) p).1.length = n + 1 := someL_len _ _ _
theorem someF_S (bs : List UInt8) (d : Int) (k p : Nat) : someF bs d ((k + 1 : Nat) : Int) p = ((someF bs d (k : Int) p).1 ++ [(oneF bs d (someF bs d (k : Int) p).2).1], (oneF bs d (someF bs d (k : Int) p).2).2) := rfl
theorem app_stmt {xs : List AL.Stmt} {m : Nat} {s : AL.Stmt} (hm : m = xs.length) : ((flat cStmt xs).drop 0).take (m * 6) ++ [iv s.op, iv s.x, iv s.y, iv s.n, sl cStmt s.th, sl cStmt s.el] = flat cStmt (xs ++ [s]) := app_flat hm (cStmt_def s).symm
def uOp (s : AL.Stmt) (a : Int) : AL.Stmt := .mk a s.x s.y s.n s.th s.el
def uX (s : AL.Stmt) (a : Int) : AL.Stmt := .mk s.op a s.y s.n s.th s.el
def uY (s : AL.Stmt) (a : Int) : AL.Stmt := .mk s.op s.x a s.n s.th s.el
def uN (s : AL.Stmt) (a : Int) : AL.Stmt := .mk s.op s.x s.y a s.th s.el
theorem st_sop {xs : List AL.Stmt} {k : Nat} {a : Int} (hk : k < xs.length) : spl (flat cStmt xs) (0 + k * 6 + 0) [iv a] = flat cStmt (xs.set k (uOp xs[k]! a)) := st_flat hk (by simp) (by rw [cStmt_def, cStmt_def]; rfl)
theorem st_sx {xs : List AL.Stmt} {k : Nat} {a : Int} (hk : k < xs.length) : spl (flat cStmt xs) (0 + k * 6 + 1) [iv a] = flat cStmt (xs.set k (uX xs[k]! a)) := st_flat hk (by simp) (by rw [cStmt_def, cStmt_def]; rfl)
theorem st_sy {xs : List AL.Stmt} {k : Nat} {a : Int} (hk : k < xs.length) : spl (flat cStmt xs) (0 + k * 6 + 2) [iv a] = flat cStmt (xs.set k (uY xs[k]! a)) := st_flat hk (by simp) (by rw [cStmt_def, cStmt_def]; rfl)
theorem st_sn {xs : List AL.Stmt} {k : Nat} {a : Int} (hk : k < xs.length) : spl (flat cStmt xs) (0 + k * 6 + 3) [iv a] = flat cStmt (xs.set k (uN xs[k]! a)) := st_flat hk (by simp) (by rw [cStmt_def, cStmt_def]; rfl)
theorem someF_p (bs : List UInt8) {d : Int} (h : d ≤ 2) (n : Int) (p : Nat) : (someF bs d n p).2 ≤ p + 1 + n.toNat * 43 := someL_p (oneF_p bs h) _ _ _
theorem someF_n (bs : List UInt8) {d : Int} (h : d ≤ 2) (n : Int) (p : Nat) : cntL (someF bs d n p).1 ≤ 1 + n.toNat * 13 := by
  have h7 : cntS (st 2 1 0 (pickF bs p 10)) = 1 := by simp [st, cntS, cntL]
  have := someL_n (oneF_n bs h) (st 2 1 0 (pickF bs p 10)) (p + 1) n.toNat
  rw [h7] at this
  exact this
theorem oneF_S (bs : List UInt8) {d : Int} (h : 0 < d) (p : Nat) : oneF bs d p = 
    let c := pickF bs (p + 1 + 1) 11
    if c = 9 then
      let r := someF bs (d - 1) (pickF bs (p + 1 + 1 + 1) 3) (p + 1 + 1 + 1 + 1)
      let e := oneF bs 0 r.2
      (.mk 9 0 0 0 r.1 [e.1], e.2)
    else if c = 10 then
      let a := oneF bs 0 (p + 1 + 1 + 1)
      let b := oneF bs 0 a.2
      (.mk 10 0 0 0 [a.1, b.1] [], b.2)
    else one0F bs p := by
  have : d.toNat = (d - 1).toNat + 1 := by omega
  simp only [oneF, this, oneN, someF]
  rfl
theorem flat1 (s : AL.Stmt) : flat cStmt [s] = [iv s.op, iv s.x, iv s.y, iv s.n, sl cStmt s.th, sl cStmt s.el] := by simp [flat, cStmt_def]
theorem flat2 (s t : AL.Stmt) : flat cStmt [s, t] = [iv s.op, iv s.x, iv s.y, iv s.n, sl cStmt s.th, sl cStmt s.el, iv t.op, iv t.x, iv t.y, iv t.n, sl cStmt t.th, sl cStmt t.el] := by simp [flat, cStmt_def]
theorem oneF_b (bs : List UInt8) {d : Int} (h0 : 0 ≤ d) (p : Nat) (h : ¬ 0 < d ∨ (pickF bs (p + 1 + 1) 11 ≠ 9 ∧ pickF bs (p + 1 + 1) 11 ≠ 10)) : oneF bs d p = one0F bs p := by
  by_cases hd : 0 < d
  · rw [oneF_S bs hd p]
    dsimp only
    rw [if_neg (by omega), if_neg (by omega)]
  · have : d = 0 := by omega
    subst this; rfl
theorem oneF_9 (bs : List UInt8) {d : Int} (hd : 0 < d) (p : Nat) (h : pickF bs (p + 1 + 1) 11 = 9) : oneF bs d p = (.mk 9 0 0 0 (someF bs (d - 1) (pickF bs (p + 1 + 1 + 1) 3) (p + 1 + 1 + 1 + 1)).1 [(oneF bs 0 (someF bs (d - 1) (pickF bs (p + 1 + 1 + 1) 3) (p + 1 + 1 + 1 + 1)).2).1], (oneF bs 0 (someF bs (d - 1) (pickF bs (p + 1 + 1 + 1) 3) (p + 1 + 1 + 1 + 1)).2).2) := by
  rw [oneF_S bs hd p]
  dsimp only
  rw [if_pos h]
theorem oneF_10 (bs : List UInt8) {d : Int} (hd : 0 < d) (p : Nat) (h : pickF bs (p + 1 + 1) 11 = 10) : oneF bs d p = (.mk 10 0 0 0 [(oneF bs 0 (p + 1 + 1 + 1)).1, (oneF bs 0 (oneF bs 0 (p + 1 + 1 + 1)).2).1] [], (oneF bs 0 (oneF bs 0 (p + 1 + 1 + 1)).2).2) := by
  rw [oneF_S bs hd p]
  dsimp only
  rw [if_neg (by omega), if_pos h]
theorem rx_l1One {bs : List UInt8} {p : Nat} {ts : List Int} {dp : Int} {N : Nat} {Q : Exit → AS → Prop} {all : Array Oper} {rest : List Oper} {tsl : List (Nat × AV)} {hsl : List (Nat × Option (List AV))} {nidl : Nat} {z0 : Lo} {md : Md} {d : Nat} {ty : TypeId} {pos : String} {af : Array Edge} {tys : Array TypeId} {x0 x1 x2 : Operand} {i0 : Nat} (ha0 : ev (lk tsl) x0 = some (.optr i0 0)) (ha1 : ev (lk tsl) x1 = some (sl cI ts)) (ha2 : ev (lk tsl) x2 = some (iv dp)) (hH0 : lkH hsl i0 = some (cRd bs p)) (hmc : MC Tryz.prog 188 [.optr 0 0, sl cI ts, iv dp] [(0, some (cRd bs p))] 1 (fun _ : Unit => True) (fun _ => aStmt (oneF bs dp p).1) (fun _ => [(0, some (cRd bs (oneF bs dp p).2))])) (hM : Nat.ble (nidl + 0) big = true) (hN : Nat.blt d N = true) {md' : Md} [hmd : MdA md (rOs [x0, x1, x2] ++ [.inr i0]) (List.map Sum.inr (List.map Prod.fst ([(i0, some (cRd bs (oneF bs dp p).2))] : List (Nat × Option (List AV)))) ++ [.inl d]) md'] (kk : RW Tryz.prog N all Q md' rest ⟨(d, aStmt (oneF bs dp p).1) :: tsl, wrH hsl [(i0, some (cRd bs (oneF bs dp p).2))], nidl + 0, z0⟩) : RW Tryz.prog N all Q md (⟨some d, .call ⟨.value (.func 188), #[x0, x1, x2], tys⟩, ty, pos, af, none⟩ :: rest) ⟨tsl, hsl, nidl, z0⟩ := by
  refine rx_mcallE [i0] 1 [(i0, some (cRd bs (oneF bs dp p).2))] hmc (avs := [.optr i0 0, sl cI ts, iv dp]) ?_ rfl ?_ rfl ?_ (by simpa using hM) ?_ ?_ ?_ hN (md' := md') (hmd := hmd) kk
  · show evL (lk tsl) [x0, x1, x2] = _
    simp only [evL, ha0, ha1, ha2]
  · exact ⟨⟨_, _, rfl, hH0, by (repeat' (exact RnL.purI inferInstance))⟩, trivial⟩
  · (repeat' (first | exact RnL.purI inferInstance | exact RnV.optr rfl | refine RnL.cons ?_ ?_))
  · (repeat' (exact RnV.purI inferInstance))
  · simp [wsAll]
  · (repeat' (first | exact trivial | (refine And.intro ⟨0, _, rfl, rfl, ?_⟩ ?_) | exact RnL.purI inferInstance))

theorem rx_l1Some {bs : List UInt8} {p : Nat} {ts : List Int} {dp cn : Int} {N : Nat} {Q : Exit → AS → Prop} {all : Array Oper} {rest : List Oper} {tsl : List (Nat × AV)} {hsl : List (Nat × Option (List AV))} {nidl : Nat} {z0 : Lo} {md : Md} {d : Nat} {ty : TypeId} {pos : String} {af : Array Edge} {tys : Array TypeId} {x0 x1 x2 x3 : Operand} {i0 : Nat} (ha0 : ev (lk tsl) x0 = some (.optr i0 0)) (ha1 : ev (lk tsl) x1 = some (sl cI ts)) (ha2 : ev (lk tsl) x2 = some (iv dp)) (ha3 : ev (lk tsl) x3 = some (iv cn)) (hH0 : lkH hsl i0 = some (cRd bs p)) (hmc : MC Tryz.prog 157 [.optr 0 0, sl cI ts, iv dp, iv cn] [(0, some (cRd bs p))] 1 (fun _ : Unit => True) (fun _ => sl cStmt (someF bs dp cn p).1) (fun _ => [(0, some (cRd bs (someF bs dp cn p).2))])) (hM : Nat.ble (nidl + 0) big = true) (hN : Nat.blt d N = true) {md' : Md} [hmd : MdA md (rOs [x0, x1, x2, x3] ++ [.inr i0]) (List.map Sum.inr (List.map Prod.fst ([(i0, some (cRd bs (someF bs dp cn p).2))] : List (Nat × Option (List AV)))) ++ [.inl d]) md'] (kk : RW Tryz.prog N all Q md' rest ⟨(d, sl cStmt (someF bs dp cn p).1) :: tsl, wrH hsl [(i0, some (cRd bs (someF bs dp cn p).2))], nidl + 0, z0⟩) : RW Tryz.prog N all Q md (⟨some d, .call ⟨.value (.func 157), #[x0, x1, x2, x3], tys⟩, ty, pos, af, none⟩ :: rest) ⟨tsl, hsl, nidl, z0⟩ := by
  refine rx_mcallE [i0] 1 [(i0, some (cRd bs (someF bs dp cn p).2))] hmc (avs := [.optr i0 0, sl cI ts, iv dp, iv cn]) ?_ rfl ?_ rfl ?_ (by simpa using hM) ?_ ?_ ?_ hN (md' := md') (hmd := hmd) kk
  · show evL (lk tsl) [x0, x1, x2, x3] = _
    simp only [evL, ha0, ha1, ha2, ha3]
  · exact ⟨⟨_, _, rfl, hH0, by (repeat' (exact RnL.purI inferInstance))⟩, trivial⟩
  · (repeat' (first | exact RnL.purI inferInstance | exact RnV.optr rfl | refine RnL.cons ?_ ?_))
  · (repeat' (exact RnV.purI inferInstance))
  · simp [wsAll]
  · (repeat' (first | exact trivial | (refine And.intro ⟨0, _, rfl, rfl, ?_⟩ ?_) | exact RnL.purI inferInstance))

attribute [local irreducible] pickF
theorem l1One_c0 (D : Int) (hD0 : 0 ≤ D) (hD : D ≤ 2) (l1One_ih : ∀ bs p ts, 0 < D → bs.length ≤ 2000 → p ≤ 900000 → ∀ dp : Int, dp = 0 → MC Tryz.prog 188 [.optr 0 0, sl cI ts, iv dp] [(0, some (cRd bs p))] 1 (fun _ : Unit => True) (fun _ => aStmt (oneF bs dp p).1) (fun _ => [(0, some (cRd bs (oneF bs dp p).2))])) (l1Some_ih : ∀ bs (p : Nat) ts cn, 0 < D → bs.length ≤ 2000 → (p : Int) ≤ 850000 - 100000 * (D - 1) → 0 ≤ cn → cn ≤ 2 → ∀ dp : Int, dp = D - 1 → MC Tryz.prog 157 [.optr 0 0, sl cI ts, iv dp, iv cn] [(0, some (cRd bs p))] 1 (fun _ : Unit => True) (fun _ => sl cStmt (someF bs dp cn p).1) (fun _ => [(0, some (cRd bs (someF bs dp cn p).2))])) (bs : List UInt8) (p : Nat) (ts : List Int) (dp : Int) (hd : dp = D) (hb : bs.length ≤ 2000) (hp : (p : Int) ≤ 900000 - 100000 * D) : MC Tryz.prog 188 [.optr 0 0, sl cI ts, iv dp] [(0, some (cRd bs p))] 1 (fun _ : Unit => True) (fun _ => aStmt (oneF bs dp p).1) (fun _ => [(0, some (cRd bs (oneF bs dp p).2))]) := by
  subst hd
  have h0 := pickF_bd bs p 2
  have h2 := pickF_bd bs (p + 1 + 1) 11
  have h3 := pickF_bd bs (p + 1 + 1 + 1) 3
  have h3' := k3 bs (p + 1 + 1 + 1)
  have h4 := oneF_p bs (d := 0) (by omega) (p + 1 + 1 + 1)
  have h5 := someF_p bs (d := dp - 1) (by omega) (pickF bs (p + 1 + 1 + 1) 3) (p + 1 + 1 + 1 + 1)
  have h6 : (pickF bs (p + 1 + 1 + 1) 3).toNat * 43 ≤ 2 * 43 := Nat.mul_le_mul_right _ h3'
  (refine mc_of_aw Tryz.func188 rfl (by simp [Tryz.ntmps188]) ?_; rw [Tryz.ntmps188])
  repeat' (first | (apply id_rw; first | (apply rx_move;rfl;rfl) | (first | (apply rx_add; (case hx | hy => rfl); (case h => omega); (case hN => rfl)) | (apply rx_sub; (case hx | hy => rfl); (case h => omega); (case hN => rfl)) | (apply rx_bin;rfl;rfl;rfl;rfl)) | (apply rx_assign;rfl;rfl) | (first | (apply rx_pick; (case ha0 | ha1 => rfl); (case hH0 => (rfl)); (case hmc => (apply pick_c <;> (first | assumption | omega))); (case hM | hN => rfl)) | (apply rx_num; (case ha0 | ha1 => rfl); (case hcs => infer_instance); (case hH0 => rfl); (case hm => (rfl)); (case hb => assumption); (case hp => omega); (case h0 => (decide)); (case hn => (decide)); (case hM | hN => rfl)) | (apply rx_l1Some; (case ha0 | ha1 | ha2 | ha3 => rfl); (case hH0 => (rfl)); (case hmc => (apply l1Some_ih <;> (first | assumption | omega))); (case hM | hN => rfl)) | (apply rx_l1One; (case ha0 | ha1 | ha2 => rfl); (case hH0 => (rfl)); (case hmc => (apply l1One_ih <;> (first | assumption | omega))); (case hM | hN => rfl))) | (apply rw_nil; (case hf => kernel_rfl)) | (apply rx_buildK; (case hl => rfl); (case hf => (exact (rfl : _ = some [_, _, _, _, _, _]))); (case hk => (exact (rfl : _ = [_, _, _, _, _, _]))); (case hN => rfl)) | (apply rx_alloc;rfl;rfl) | ((apply rx_buildSliceI (t := _)); (case hze | hsm | hl => rfl); (case hfl => (first | exact (rfl : _ = some [_, _, _]) | exact (rfl : _ = some [_, _, _, _]) | exact (rfl : _ = some [_, _, _, _, _]) | exact (rfl : _ = some [_, _, _, _, _, _]) | rfl)); (case hM | hN => rfl)) | (apply rx_store; (case hx | hy | hc | hn | hH => rfl); (case hl => (simp;done)); (case hcs => (exact (rfl : _ = [_, _, _, _, _, _]))))) | (apply id_aw; first | apply aw_seq | apply aw_region | (apply aw_condT; (case hc => rfl); (case hb => (assumption))) | (apply aw_cond; (case hc => rfl); all_goals (intro hc; have hq := hc; (try simp only [bqs] at hq); (try (exfalso; omega)))) | apply aw_block | apply aw_skip | apply aw_ret) | with_reducible apply tq_normal | with_reducible apply tq_ret | with_reducible apply bq_normal | with_reducible apply bq_ret)
  all_goals try (refine rq_ret rfl ?_; refine mc_ret () trivial ?_ ⟨.inr (Eq.trans (b := some _) rfl ?_), trivial⟩)
  all_goals try (rw [oneF_b bs hD0 p (by omega)]; unfold one0F; dsimp only; repeat' split
                 all_goals (first | rfl | (exfalso; omega)); done)
  iterate 2
    rewrite [oneF_9 bs (d := dp) (by assumption) p (by assumption)]
    first | rfl | (refine Eq.trans (b := AV.agg [_, _, _, _, _, AV.imm 1 (flat cStmt [_])]) ?_ rfl; rw [flat1]; rfl)
  iterate 2
    rewrite [oneF_10 bs (d := dp) (by omega) p (by omega)]
    first | rfl | (refine Eq.trans (b := AV.agg [_, _, _, _, AV.imm 2 (flat cStmt [_, _]), _]) ?_ rfl; rw [flat2]; rfl)
theorem l1Some_c0 (D : Int) (hD0 : 0 ≤ D) (hD : D ≤ 2) (l1One_ih : ∀ bs (p : Nat) ts, bs.length ≤ 2000 → (p : Int) ≤ 900000 - 100000 * D → ∀ dp : Int, dp = D → MC Tryz.prog 188 [.optr 0 0, sl cI ts, iv dp] [(0, some (cRd bs p))] 1 (fun _ : Unit => True) (fun _ => aStmt (oneF bs dp p).1) (fun _ => [(0, some (cRd bs (oneF bs dp p).2))])) (bs : List UInt8) (p : Nat) (ts : List Int) (dp : Int) (hd : dp = D) (cn : Int) (hb : bs.length ≤ 2000) (hp : (p : Int) ≤ 850000 - 100000 * D) (hc0 : 0 ≤ cn) (hc : cn ≤ 8) : MC Tryz.prog 157 [.optr 0 0, sl cI ts, iv dp, iv cn] [(0, some (cRd bs p))] 1 (fun _ : Unit => True) (fun _ => sl cStmt (someF bs dp cn p).1) (fun _ => [(0, some (cRd bs (someF bs dp cn p).2))]) := by
  subst hd
  (refine mc_of_aw Tryz.func157 rfl (by simp [Tryz.ntmps157]) ?_; rw [Tryz.ntmps157])
  repeat' (first | (apply id_rw; first | (apply rx_move;rfl;rfl) | (apply rx_assign;rfl;rfl) | (apply rx_pick; (case ha0 | ha1 => rfl); (case hH0 => (rfl)); (case hmc => (apply pick_c <;> (first | assumption | omega))); (case hM | hN => rfl)) | (apply rw_nil; (case hf => kernel_rfl)) | (apply rx_buildK; (case hl => rfl); (case hf => (exact (rfl : _ = some [_, _, _, _, _, _]))); (case hk => (exact (rfl : _ = [_, _, _, _, _, _]))); (case hN => rfl)) | (apply rx_buildSlice; (case hze | hsm | hl => rfl); (case hfl => (exact (rfl : _ = some [_, _, _, _, _, _]))); (case hM | hN => rfl))) | (apply id_aw; first | apply aw_seq | apply aw_region | apply aw_block) | with_reducible apply tq_normal)
  refine aw_loopK (σ := Nat × List AL.Stmt × Nat) [0, 1, 2, 3] [(0, _), (1, _), (2, _), (3, _)] [] [] (fun k => [(10, iv (k.1 : Int)), (9, .own 1 0 (k.1 + 1) 6)]) (fun k => [(0, some (cRd bs k.2.2)), (1, some (flat cStmt k.2.1))]) (fun k => (k.1 : Int) ≤ cn ∧ k.2 = someF bs dp (k.1 : Int) p) (fun k => cn.toNat - k.1) (0, [st 2 1 0 (pickF bs p 10)], p + 1) ⟨by omega, rfl⟩ rfl rfl (by repeat' (first | exact trivial | refine And.intro rfl ?_)) (by repeat' (first | exact trivial | refine And.intro (.inr rfl) ?_)) ?_
  rintro ⟨k, xs, q⟩ ⟨hk, hse⟩
  dsimp only at hk hse ⊢
  have hp2 := someF_p bs (d := dp) (by omega) (k : Int) p
  have hkk : (k : Int).toNat * 43 ≤ 8 * 43 := Nat.mul_le_mul_right _ (by omega)
  have hln := someF_len bs dp k p
  rw [← hse] at hp2 hln
  dsimp only at hp2 hln
  repeat' (first | (apply id_rw; first | (apply rx_move;rfl;rfl) | (first | (apply rx_add; (case hx | hy => rfl); (case h => omega); (case hN => rfl)) | (apply rx_bin;rfl;rfl;rfl;rfl)) | (apply rx_assign;rfl;rfl) | (apply rx_l1One; (case ha0 | ha1 | ha2 => rfl); (case hH0 => (rfl)); (case hmc => (apply l1One_ih <;> (first | assumption | omega))); (case hM | hN => rfl)) | (apply rx_append; (case hx | hy | hze | he0 | hH => rfl); (case hl => (rw [flat_length]; omega)); (case hs' => (rfl)); (case hbig => omega); (case hmx => omega); (case hcs => (exact app_stmt (by (omega)))); (case hM | hN => rfl)) | (apply rw_nil; (case hf => kernel_rfl)) | ((apply rx_buildSliceI (t := _)); (case hze | hsm | hl => rfl); (case hfl => (exact (rfl : _ = some [_, _, _, _, _, _]))); (case hM | hN => rfl))) | (apply id_aw; first | apply aw_seq | apply aw_region | (apply aw_cond; (case hc => rfl); all_goals (intro hc; have hq := hc; (try simp only [bqs] at hq); (try (exfalso; omega)))) | apply aw_block | apply aw_skip | apply aw_exit | apply aw_ret) | with_reducible apply tq_normal | with_reducible apply tq_exit | with_reducible apply bq_normal | with_reducible apply bq_here)
  · (apply Exists.intro (k + 1, _, _); refine And.intro ?_ (And.intro ?_ ?_); rotate_left 2; focus (refine Le.ren [(1, 3)] rfl (by decide) ?_ ?_ <;> repeat' (first | exact trivial | refine And.intro ⟨_, rfl, ?_⟩ ?_ | refine And.intro ⟨_, _, rfl, rfl, ?_⟩ ?_ | exact Or.inr rfl | refine Or.inl ⟨?_, (by first | rfl | exact pur_sl _ _ | exact Pur.pf)⟩ | rfl)))
    · dsimp only
      refine ⟨by omega, ?_⟩
      rw [someF_S, ← hse]
    · dsimp only; omega
  · have hke : (k : Int) = cn := by omega
    rw [hke] at hse
    (refine rq_le (Le.frzD (d := 8) (i := 1) rfl rfl) ?_; refine rq_ret rfl ?_)
    refine mc_ret () trivial ?_ ⟨.inr (Eq.trans (b := some _) rfl ?_), trivial⟩
    · rw [← hse]; show AV.imm (k + 1) (flat cStmt xs) = AV.imm xs.length (flat cStmt xs)
      rw [hln]
    · rw [← hse]
theorem l1One_both : ∀ D : Nat, D ≤ 2 → (∀ bs (p : Nat) ts, bs.length ≤ 2000 → (p : Int) ≤ 900000 - 100000 * (D : Int) → ∀ dp : Int, dp = (D : Int) → MC Tryz.prog 188 [.optr 0 0, sl cI ts, iv dp] [(0, some (cRd bs p))] 1 (fun _ : Unit => True) (fun _ => aStmt (oneF bs dp p).1) (fun _ => [(0, some (cRd bs (oneF bs dp p).2))])) ∧ (∀ bs (p : Nat) ts (cn : Int), bs.length ≤ 2000 → (p : Int) ≤ 850000 - 100000 * (D : Int) → 0 ≤ cn → cn ≤ 8 → ∀ dp : Int, dp = (D : Int) → MC Tryz.prog 157 [.optr 0 0, sl cI ts, iv dp, iv cn] [(0, some (cRd bs p))] 1 (fun _ : Unit => True) (fun _ => sl cStmt (someF bs dp cn p).1) (fun _ => [(0, some (cRd bs (someF bs dp cn p).2))]))
  | 0, _ => by
    have h1 : ∀ bs (p : Nat) ts, bs.length ≤ 2000 → (p : Int) ≤ 900000 - 100000 * ((0 : Nat) : Int) → ∀ dp : Int, dp = ((0 : Nat) : Int) → MC Tryz.prog 188 [.optr 0 0, sl cI ts, iv dp] [(0, some (cRd bs p))] 1 (fun _ : Unit => True) (fun _ => aStmt (oneF bs dp p).1) (fun _ => [(0, some (cRd bs (oneF bs dp p).2))]) :=
      fun bs p ts hb hp dp hd => l1One_c0 ((0 : Nat) : Int) (by omega) (by omega) (fun _ _ _ h => by omega) (fun _ _ _ _ h => by omega) bs p ts dp hd hb hp
    exact ⟨h1, fun bs p ts cn hb hp h0 h8 dp hd => l1Some_c0 ((0 : Nat) : Int) (by omega) (by omega) h1 bs p ts dp hd cn hb hp h0 h8⟩
  | D + 1, hD => by
    have ih := l1One_both D (by omega)
    have i0 := l1One_both 0 (by omega)
    have h1 : ∀ bs (p : Nat) ts, bs.length ≤ 2000 → (p : Int) ≤ 900000 - 100000 * ((D + 1 : Nat) : Int) → ∀ dp : Int, dp = ((D + 1 : Nat) : Int) → MC Tryz.prog 188 [.optr 0 0, sl cI ts, iv dp] [(0, some (cRd bs p))] 1 (fun _ : Unit => True) (fun _ => aStmt (oneF bs dp p).1) (fun _ => [(0, some (cRd bs (oneF bs dp p).2))]) :=
      fun bs p ts hb hp dp hd => l1One_c0 ((D + 1 : Nat) : Int) (by omega) (by omega) (fun bs p ts _ hb hp dp hd => i0.1 bs p ts hb (by omega) dp (by omega)) (fun bs p ts cn _ hb hp h0 h2 dp hd => ih.2 bs p ts cn hb (by omega) h0 (by omega) dp (by omega)) bs p ts dp hd hb hp
    exact ⟨h1, fun bs p ts cn hb hp h0 h8 dp hd => l1Some_c0 ((D + 1 : Nat) : Int) (by omega) (by omega) h1 bs p ts dp hd cn hb hp h0 h8⟩
theorem l1Some_c (bs : List UInt8) (p : Nat) (ts : List Int) (dp cn : Int) (hb : bs.length ≤ 2000) (hp : p ≤ 600000) (h0 : 0 ≤ cn) (h8 : cn ≤ 8) (hd0 : 0 ≤ dp) (hd : dp ≤ 2) : MC Tryz.prog 157 [.optr 0 0, sl cI ts, iv dp, iv cn] [(0, some (cRd bs p))] 1 (fun _ : Unit => True) (fun _ => sl cStmt (someF bs dp cn p).1) (fun _ => [(0, some (cRd bs (someF bs dp cn p).2))]) :=
  (l1One_both dp.toNat (by omega)).2 bs p ts cn hb (by omega) h0 h8 dp (by omega)
end Go.Proofs.YtejkbiijonnefaaGreat

namespace Go.Proofs.YtejkbiijonnefaaGreat
open Go.AL Go.RowKit

theorem RdC_kav {w : World} {bad : Nat → Prop} {ι : Pl} : ∀ {cs cs' : List AV}, All2 (fun c c' => c' = c ∨ c' = kAV c) cs cs' → ∀ {b β : Nat}, RdC w bad ι cs b β → RdC w bad ι cs' b β
  | _, _, .nil, _, _, h => h
  | _, _, .cons h1 h2, b, β, h => by
    simp only [RdC] at h ⊢
    obtain ⟨⟨x, q1, q2, q3⟩, q4⟩ := h
    refine ⟨⟨x, q1, q2, ?_⟩, RdC_kav h2 q4⟩
    rcases h1 with rfl | rfl
    · exact q3
    · exact Rd_kAV q3
theorem kav_app : ∀ (l : List AV) {a b : List AV}, All2 (fun c c' => c' = c ∨ c' = kAV c) a b → All2 (fun c c' => c' = c ∨ c' = kAV c) (l ++ a) (l ++ b)
  | [], _, _, h => h
  | _ :: l, _, _, h => .cons (.inl rfl) (kav_app l h)
theorem end_le {α : Type} {p q : α → Prop} {F : α → AS} {s s' : AS} (L : Le s s') (h : ∃ j, p j ∧ q j ∧ Le s' (F j)) : ∃ j, p j ∧ q j ∧ Le s (F j) := by
  obtain ⟨j, h1, h2, h3⟩ := h
  exact ⟨j, h1, h2, L.trans h3⟩
theorem Le.stmtN {ts : List (Nat × AV)} {hs : List (Nat × Option (List AV))} {n i : Nat} {z0 : Lo} {xs : List AL.Stmt} (s : AL.Stmt) {m : Nat} {a b : AV} (hm : m = xs.length)
    (ha : a = sl cStmt s.th ∨ (a = .v (.slice none 0 0) ∧ s.th = [])) (hb : b = sl cStmt s.el ∨ (b = .v (.slice none 0 0) ∧ s.el = []))
    (hi : lkH hs i = some (((flat cStmt xs).drop 0).take (m * 6) ++ List.take (1 * 6) [iv s.op, iv s.x, iv s.y, iv s.n, a, b])) : Le ⟨ts, hs, n, z0⟩ ⟨ts, (i, some (flat cStmt (xs ++ [s]))) :: hs, n, z0⟩ := by
  have e : flat cStmt (xs ++ [s]) = ((flat cStmt xs).drop 0).take (m * 6) ++ [iv s.op, iv s.x, iv s.y, iv s.n, sl cStmt s.th, sl cStmt s.el] := (app_stmt hm).symm
  have k : All2 (fun c c' => c' = c ∨ c' = kAV c) (((flat cStmt xs).drop 0).take (m * 6) ++ List.take (1 * 6) [iv s.op, iv s.x, iv s.y, iv s.n, a, b]) (flat cStmt (xs ++ [s])) := by
    rw [e]
    refine kav_app _ (.cons (.inl rfl) (.cons (.inl rfl) (.cons (.inl rfl) (.cons (.inl rfl) (.cons ?_ (.cons ?_ .nil))))))
    · rcases ha with h | ⟨h, h2⟩
      · exact .inl h.symm
      · refine .inr ?_; rw [h2, h]; rfl
    · rcases hb with h | ⟨h, h2⟩
      · exact .inl h.symm
      · refine .inr ?_; rw [h2, h]; rfl
  refine Le.cells hi ?_ fun w bad ι b β h => RdC_kav k h
  rw [e]; simp

theorem copy_c0 (mm : Nat) (hmm : mm ≤ 1000000) (copy_ih : ∀ l, cntL l < mm → PC Tryz.prog 167 [sl cStmt l] (fun r => r = sl cStmt l)) (l : List AL.Stmt) (hs : cntL l ≤ mm) : PC Tryz.prog 167 [sl cStmt l] (fun r => r = sl cStmt l) := by
  have hlen := cntL_len l
  (refine pc_of_aw Tryz.func167 rfl (by simp [Tryz.ntmps167]) ?_; rw [Tryz.ntmps167])
  repeat' (first | (apply id_rw; first | (apply rx_assign;rfl;rfl) | (apply rw_nil; (case hf => kernel_rfl)) | (apply rx_buildSlice; (case hze | hsm | hl => rfl); (case hfl => (rfl)); (case hM | hN => rfl))) | (apply id_aw; first | apply aw_seq | apply aw_region | apply aw_block) | with_reducible apply tq_normal)
  refine aw_loopK (σ := Nat × List AL.Stmt) [0] [(0, _)] [] [] (fun k => [(4, iv (k.1 : Int)), (3, .own 0 0 k.1 6)]) (fun k => [(0, some (flat cStmt k.2))]) (fun k => k.1 ≤ l.length ∧ k.2 = l.take k.1) (fun k => l.length - k.1) (0, []) ⟨by omega, rfl⟩ rfl rfl (by repeat' (first | exact trivial | refine And.intro rfl ?_)) (by repeat' (first | exact trivial | refine And.intro (.inr rfl) ?_)) ?_
  rintro ⟨k, xs⟩ ⟨hk, hxs⟩
  dsimp only at hk hxs ⊢
  have hck := cntL_at l k
  have hct := cnt_th l[k]!
  have hln : xs.length = k := by rw [hxs, List.length_take]; omega
  repeat' (first | (apply id_rw; first | (apply rx_move;rfl;rfl) | (first | (apply rx_load1;rfl;rfl;rfl;rfl) | (apply rx_loadA; (case hx | hd => rfl); (case hc => (exact (rfl : _ = [_, _, _, _, _, _]))); (case hn | h0 | hN => rfl))) | (apply rx_fieldAddr;rfl;rfl;rfl) | (first | (apply rx_add; (case hx | hy => rfl); (case h => omega); (case hN => rfl)) | (apply rx_bin;rfl;rfl;rfl;rfl)) | (apply rx_assign;rfl;rfl) | (apply rx_indexFN; (case hx | hi => rfl); (case hm => (omega)); (case hml => (rfl)); (case hα | hf | hg => infer_instance); (case hN => rfl)) | ((with_reducible apply rx_callE (k := 167)); (case ha => rfl); (case h => (apply copy_ih <;> (omega))); (case hp => (exact Pur.pf)); (case hN => rfl)) | (first | (apply rx_len;rfl;rfl;rfl) | (apply rx_append; (case hx | hy | hze | he0 | hH => rfl); (case hl => (rw [flat_length]; omega)); (case hs' => (rfl)); (case hbig => omega); (case hmx => omega); (case hcs => first | exact app_stmt (by (omega)) | rfl); (case hM | hN => rfl))) | (apply rw_nil; (case hf => kernel_rfl)) | (apply rx_alloc;rfl;rfl) | ((apply rx_buildSliceI (t := _)); (case hze | hsm | hl => rfl); (case hfl => (exact (rfl : _ = some [_, _, _, _, _, _]))); (case hM | hN => rfl)) | (apply rx_store; (case hx | hy | hc | hn | hH => rfl); (case hl => (simp;done)); (case hcs => (exact (rfl : _ = [_, _, _, _, _, _]))))) | (apply id_aw; first | apply aw_seq | apply aw_region | (apply aw_cond; (case hc => rfl); all_goals (intro hc; have hq := hc; (try simp only [bqs] at hq); (try (exfalso; omega)))) | apply aw_block | apply aw_skip | apply aw_exit | apply aw_ret) | with_reducible apply tq_normal | with_reducible apply tq_exit | with_reducible apply bq_normal | with_reducible apply bq_here)
  · (apply Exists.intro (k + 1, _); refine And.intro ?_ (And.intro ?_ ?_); rotate_left 2; focus (refine Le.ren [(0, 3)] rfl (by decide) ?_ ?_ <;> repeat' (first | exact trivial | refine And.intro ⟨_, rfl, ?_⟩ ?_ | refine And.intro ⟨_, _, rfl, rfl, ?_⟩ ?_ | exact Or.inr rfl | refine Or.inl ⟨?_, (by first | rfl | exact pur_sl _ _)⟩ | rfl)))
    · exact ⟨by dsimp only; omega, by dsimp only; rw [hxs, take_succB l k (by omega)]⟩
    · dsimp only; omega
  · have hel : l[k]!.el = [] := List.eq_nil_of_length_eq_zero (by omega)
    refine end_le (Le.stmtN (i := 3) l[k]! hln.symm (.inl rfl) (.inr ⟨rfl, hel⟩) rfl) ?_
    (apply Exists.intro (k + 1, _); refine And.intro ?_ (And.intro ?_ ?_); rotate_left 2; focus (refine Le.ren [(0, 3)] rfl (by decide) ?_ ?_ <;> repeat' (first | exact trivial | refine And.intro ⟨_, rfl, ?_⟩ ?_ | refine And.intro ⟨_, _, rfl, rfl, ?_⟩ ?_ | exact Or.inr rfl | refine Or.inl ⟨?_, (by first | rfl | exact pur_sl _ _)⟩ | rfl)))
    · exact ⟨by dsimp only; omega, by dsimp only; rw [hxs, take_succB l k (by omega)]⟩
    · dsimp only; omega
  · have hth : l[k]!.th = [] := List.eq_nil_of_length_eq_zero (by omega)
    refine end_le (Le.stmtN (i := 3) l[k]! hln.symm (.inr ⟨rfl, hth⟩) (.inl rfl) rfl) ?_
    (apply Exists.intro (k + 1, _); refine And.intro ?_ (And.intro ?_ ?_); rotate_left 2; focus (refine Le.ren [(0, 3)] rfl (by decide) ?_ ?_ <;> repeat' (first | exact trivial | refine And.intro ⟨_, rfl, ?_⟩ ?_ | refine And.intro ⟨_, _, rfl, rfl, ?_⟩ ?_ | exact Or.inr rfl | refine Or.inl ⟨?_, (by first | rfl | exact pur_sl _ _)⟩ | rfl)))
    · exact ⟨by dsimp only; omega, by dsimp only; rw [hxs, take_succB l k (by omega)]⟩
    · dsimp only; omega
  · have hth : l[k]!.th = [] := List.eq_nil_of_length_eq_zero (by omega)
    have hel : l[k]!.el = [] := List.eq_nil_of_length_eq_zero (by omega)
    refine end_le (Le.stmtN (i := 3) l[k]! hln.symm (.inr ⟨rfl, hth⟩) (.inr ⟨rfl, hel⟩) rfl) ?_
    (apply Exists.intro (k + 1, _); refine And.intro ?_ (And.intro ?_ ?_); rotate_left 2; focus (refine Le.ren [(0, 3)] rfl (by decide) ?_ ?_ <;> repeat' (first | exact trivial | refine And.intro ⟨_, rfl, ?_⟩ ?_ | refine And.intro ⟨_, _, rfl, rfl, ?_⟩ ?_ | exact Or.inr rfl | refine Or.inl ⟨?_, (by first | rfl | exact pur_sl _ _)⟩ | rfl)))
    · exact ⟨by dsimp only; omega, by dsimp only; rw [hxs, take_succB l k (by omega)]⟩
    · dsimp only; omega
  · have hke : k = l.length := by omega
    (refine rq_le (Le.frzD (d := 2) (i := 0) rfl rfl) ?_; refine rq_ret rfl ?_)
    refine ⟨?_, Pur.pf⟩
    rw [hxs, hke, List.take_length]; rfl
theorem copy_c (l : List AL.Stmt) (hb : cntL l ≤ 1000000) : PC Tryz.prog 167 [sl cStmt l] (fun r => r = sl cStmt l) := by
  have key : ∀ m, m ≤ 1000000 → ∀ l, cntL l ≤ m → PC Tryz.prog 167 [sl cStmt l] (fun r => r = sl cStmt l) := by
    intro m
    induction m with
    | zero => intro hm l hl; exact copy_c0 0 hm (fun l h => by omega) l hl
    | succ m ih => intro hm l hl; exact copy_c0 (m + 1) hm (fun l h => ih (by omega) l (by omega)) l hl
  exact key (cntL l) hb l (Nat.le_refl _)
end Go.Proofs.YtejkbiijonnefaaGreat

namespace Go.Proofs.YtejkbiijonnefaaGreat
open Go.AL Go.RowKit

theorem copyM_c (l : List AL.Stmt) (hs : cntL l ≤ 1000000) : MC Tryz.prog 167 [sl cStmt l] [] 0 (fun _ : Unit => True) (fun _ => .own 0 0 l.length 6) (fun _ => [(0, some (flat cStmt l))]) := by
  have hlen := cntL_len l
  (refine mc_of_aw Tryz.func167 rfl (by simp [Tryz.ntmps167]) ?_; rw [Tryz.ntmps167])
  repeat' (first | (apply id_rw; first | (apply rx_assign;rfl;rfl) | (apply rw_nil; (case hf => kernel_rfl)) | (apply rx_buildSlice; (case hze | hsm | hl => rfl); (case hfl => (rfl)); (case hM | hN => rfl))) | (apply id_aw; first | apply aw_seq | apply aw_region | apply aw_block) | with_reducible apply tq_normal)
  refine aw_loopK (σ := Nat × List AL.Stmt) [0] [(0, _)] [] [] (fun k => [(4, iv (k.1 : Int)), (3, .own 0 0 k.1 6)]) (fun k => [(0, some (flat cStmt k.2))]) (fun k => k.1 ≤ l.length ∧ k.2 = l.take k.1) (fun k => l.length - k.1) (0, []) ⟨by omega, rfl⟩ rfl rfl (by repeat' (first | exact trivial | refine And.intro rfl ?_)) (by repeat' (first | exact trivial | refine And.intro (.inr rfl) ?_)) ?_
  rintro ⟨k, xs⟩ ⟨hk, hxs⟩
  dsimp only at hk hxs ⊢
  have hck := cntL_at l k
  have hct := cnt_th l[k]!
  have hln : xs.length = k := by rw [hxs, List.length_take]; omega
  repeat' (first | (apply id_rw; first | (apply rx_move;rfl;rfl) | (first | (apply rx_load1;rfl;rfl;rfl;rfl) | (apply rx_loadA; (case hx | hd => rfl); (case hc => (exact (rfl : _ = [_, _, _, _, _, _]))); (case hn | h0 | hN => rfl))) | (apply rx_fieldAddr;rfl;rfl;rfl) | (first | (apply rx_add; (case hx | hy => rfl); (case h => omega); (case hN => rfl)) | (apply rx_bin;rfl;rfl;rfl;rfl)) | (apply rx_assign;rfl;rfl) | (apply rx_indexFN; (case hx | hi => rfl); (case hm => (omega)); (case hml => (rfl)); (case hα | hf | hg => infer_instance); (case hN => rfl)) | ((with_reducible apply rx_callE (k := 167)); (case ha => rfl); (case h => (apply copy_c <;> (omega))); (case hp => (exact Pur.pf)); (case hN => rfl)) | (first | (apply rx_len;rfl;rfl;rfl) | (apply rx_append; (case hx | hy | hze | he0 | hH => rfl); (case hl => (rw [flat_length]; omega)); (case hs' => (rfl)); (case hbig => omega); (case hmx => omega); (case hcs => first | exact app_stmt (by (omega)) | rfl); (case hM | hN => rfl))) | (apply rw_nil; (case hf => kernel_rfl)) | (apply rx_alloc;rfl;rfl) | ((apply rx_buildSliceI (t := _)); (case hze | hsm | hl => rfl); (case hfl => (exact (rfl : _ = some [_, _, _, _, _, _]))); (case hM | hN => rfl)) | (apply rx_store; (case hx | hy | hc | hn | hH => rfl); (case hl => (simp;done)); (case hcs => (exact (rfl : _ = [_, _, _, _, _, _]))))) | (apply id_aw; first | apply aw_seq | apply aw_region | (apply aw_cond; (case hc => rfl); all_goals (intro hc; have hq := hc; (try simp only [bqs] at hq); (try (exfalso; omega)))) | apply aw_block | apply aw_skip | apply aw_exit | apply aw_ret) | with_reducible apply tq_normal | with_reducible apply tq_exit | with_reducible apply bq_normal | with_reducible apply bq_here)
  · (apply Exists.intro (k + 1, _); refine And.intro ?_ (And.intro ?_ ?_); rotate_left 2; focus (refine Le.ren [(0, 3)] rfl (by decide) ?_ ?_ <;> repeat' (first | exact trivial | refine And.intro ⟨_, rfl, ?_⟩ ?_ | refine And.intro ⟨_, _, rfl, rfl, ?_⟩ ?_ | exact Or.inr rfl | refine Or.inl ⟨?_, (by first | rfl | exact pur_sl _ _)⟩ | rfl)))
    · exact ⟨by dsimp only; omega, by dsimp only; rw [hxs, take_succB l k (by omega)]⟩
    · dsimp only; omega
  · have hel : l[k]!.el = [] := List.eq_nil_of_length_eq_zero (by omega)
    refine end_le (Le.stmtN (i := 3) l[k]! hln.symm (.inl rfl) (.inr ⟨rfl, hel⟩) rfl) ?_
    (apply Exists.intro (k + 1, _); refine And.intro ?_ (And.intro ?_ ?_); rotate_left 2; focus (refine Le.ren [(0, 3)] rfl (by decide) ?_ ?_ <;> repeat' (first | exact trivial | refine And.intro ⟨_, rfl, ?_⟩ ?_ | refine And.intro ⟨_, _, rfl, rfl, ?_⟩ ?_ | exact Or.inr rfl | refine Or.inl ⟨?_, (by first | rfl | exact pur_sl _ _)⟩ | rfl)))
    · exact ⟨by dsimp only; omega, by dsimp only; rw [hxs, take_succB l k (by omega)]⟩
    · dsimp only; omega
  · have hth : l[k]!.th = [] := List.eq_nil_of_length_eq_zero (by omega)
    refine end_le (Le.stmtN (i := 3) l[k]! hln.symm (.inr ⟨rfl, hth⟩) (.inl rfl) rfl) ?_
    (apply Exists.intro (k + 1, _); refine And.intro ?_ (And.intro ?_ ?_); rotate_left 2; focus (refine Le.ren [(0, 3)] rfl (by decide) ?_ ?_ <;> repeat' (first | exact trivial | refine And.intro ⟨_, rfl, ?_⟩ ?_ | refine And.intro ⟨_, _, rfl, rfl, ?_⟩ ?_ | exact Or.inr rfl | refine Or.inl ⟨?_, (by first | rfl | exact pur_sl _ _)⟩ | rfl)))
    · exact ⟨by dsimp only; omega, by dsimp only; rw [hxs, take_succB l k (by omega)]⟩
    · dsimp only; omega
  · have hth : l[k]!.th = [] := List.eq_nil_of_length_eq_zero (by omega)
    have hel : l[k]!.el = [] := List.eq_nil_of_length_eq_zero (by omega)
    refine end_le (Le.stmtN (i := 3) l[k]! hln.symm (.inr ⟨rfl, hth⟩) (.inr ⟨rfl, hel⟩) rfl) ?_
    (apply Exists.intro (k + 1, _); refine And.intro ?_ (And.intro ?_ ?_); rotate_left 2; focus (refine Le.ren [(0, 3)] rfl (by decide) ?_ ?_ <;> repeat' (first | exact trivial | refine And.intro ⟨_, rfl, ?_⟩ ?_ | refine And.intro ⟨_, _, rfl, rfl, ?_⟩ ?_ | exact Or.inr rfl | refine Or.inl ⟨?_, (by first | rfl | exact pur_sl _ _)⟩ | rfl)))
    · exact ⟨by dsimp only; omega, by dsimp only; rw [hxs, take_succB l k (by omega)]⟩
    · dsimp only; omega
  · have hke : k = l.length := by omega
    have hxl : xs = l := by rw [hxs, hke, List.take_length]
    subst hke
    refine rq_ret rfl ?_
    refine mc_ret () trivial ?_ ⟨.inr (Eq.trans (b := some _) rfl ?_), trivial⟩
    · rfl
    · rw [hxl]

theorem rx_copyM {l : List AL.Stmt} {N : Nat} {Q : Exit → AS → Prop} {all : Array Oper} {rest : List Oper} {tsl : List (Nat × AV)} {hsl : List (Nat × Option (List AV))} {nidl : Nat} {z0 : Lo} {md : Md} {d : Nat} {ty : TypeId} {pos : String} {af : Array Edge} {tys : Array TypeId} {x0 : Operand} (ha0 : ev (lk tsl) x0 = some (sl cStmt l)) (hmc : MC Tryz.prog 167 [sl cStmt l] [] 0 (fun _ : Unit => True) (fun _ => .own 0 0 l.length 6) (fun _ => [(0, some (flat cStmt l))])) (hM : Nat.ble (nidl + 1) big = true) (hN : Nat.blt d N = true) {md' : Md} [hmd : MdA md (rOs [x0] ++ []) (List.map Sum.inr (List.map Prod.fst ([(nidl, some (flat cStmt l))] : List (Nat × Option (List AV)))) ++ [.inl d]) md'] (kk : RW Tryz.prog N all Q md' rest ⟨(d, .own nidl 0 l.length 6) :: tsl, wrH hsl [(nidl, some (flat cStmt l))], nidl + 1, z0⟩) : RW Tryz.prog N all Q md (⟨some d, .call ⟨.value (.func 167), #[x0], tys⟩, ty, pos, af, none⟩ :: rest) ⟨tsl, hsl, nidl, z0⟩ := by
  refine rx_mcallE [] 1 [(nidl, some (flat cStmt l))] hmc (avs := [sl cStmt l]) ?_ rfl ?_ rfl ?_ (by simpa using hM) ?_ ?_ ?_ hN (md' := md') (hmd := hmd) kk
  · show evL (lk tsl) [x0] = _
    simp only [evL, ha0]
  · exact trivial
  · (repeat' (exact RnL.purI inferInstance))
  · (repeat' (exact RnV.own rfl))
  · simp [wsAll]
  · (repeat' (first | exact trivial | (refine And.intro ⟨0, _, rfl, rfl, ?_⟩ ?_) | exact RnL.purI inferInstance))

theorem rx_copyOf {q : Prg} {N : Nat} {Q : Exit → AS → Prop} {all : Array Oper} {rest : List Oper} {tsl : List (Nat × AV)} {hsl : List (Nat × Option (List AV))} {nidl : Nat} {z0 : Lo} {md : Md} {d : Nat} {ty : TypeId} {pos : String} {af : Array Edge} {tys : Array TypeId} {x0 : Operand} (ha0 : ev (lk tsl) x0 = some (aPrg q)) (hmc : MC Tryz.prog 111 [aPrg q] [] 0 (fun _ : Unit => True) (fun _ => .agg [.own 3 0 q.types.length 1, .own 4 0 q.body.length 6]) (fun _ => [(3, some (flat cI q.types)), (4, some (flat cStmt q.body))])) (hM : Nat.ble (nidl + 5) big = true) (hN : Nat.blt d N = true) {md' : Md} [hmd : MdA md (rOs [x0] ++ []) (List.map Sum.inr (List.map Prod.fst ([((nidl + 3), some (flat cI q.types)), ((nidl + 4), some (flat cStmt q.body))] : List (Nat × Option (List AV)))) ++ [.inl d]) md'] (kk : RW Tryz.prog N all Q md' rest ⟨(d, .agg [.own (nidl + 3) 0 q.types.length 1, .own (nidl + 4) 0 q.body.length 6]) :: tsl, wrH hsl [((nidl + 3), some (flat cI q.types)), ((nidl + 4), some (flat cStmt q.body))], nidl + 5, z0⟩) : RW Tryz.prog N all Q md (⟨some d, .call ⟨.value (.func 111), #[x0], tys⟩, ty, pos, af, none⟩ :: rest) ⟨tsl, hsl, nidl, z0⟩ := by
  refine rx_mcallE [] 5 [((nidl + 3), some (flat cI q.types)), ((nidl + 4), some (flat cStmt q.body))] hmc (avs := [aPrg q]) ?_ rfl ?_ rfl ?_ (by simpa using hM) ?_ ?_ ?_ hN (md' := md') (hmd := hmd) kk
  · show evL (lk tsl) [x0] = _
    simp only [evL, ha0]
  · exact trivial
  · (repeat' (exact RnL.purI inferInstance))
  · (repeat' (first | exact RnL.purI inferInstance | exact RnV.own rfl | refine RnL.cons ?_ ?_ | refine RnV.agg ?_))
  · simp [wsAll]
  · (repeat' (first | exact trivial | (refine And.intro ⟨3, _, rfl, rfl, ?_⟩ ?_) | (refine And.intro ⟨4, _, rfl, rfl, ?_⟩ ?_) | exact RnL.purI inferInstance))

theorem copyOf_c (q : Prg) (hs : cntL q.body ≤ 1000000) (ht : q.types.length ≤ 1000000) : MC Tryz.prog 111 [aPrg q] [] 0 (fun _ : Unit => True) (fun _ => .agg [.own 3 0 q.types.length 1, .own 4 0 q.body.length 6]) (fun _ => [(3, some (flat cI q.types)), (4, some (flat cStmt q.body))]) := by
  (refine mc_of_aw Tryz.func111 rfl (by simp [Tryz.ntmps111]) ?_; rw [Tryz.ntmps111])
  repeat' (first | (apply id_rw; first | (apply rx_copyM; (case ha0 => rfl); (case hmc => (apply copyM_c; assumption)); (case hM | hN => rfl)) | (apply rx_load1;rfl;rfl;rfl;rfl) | (apply rx_fieldAddr;rfl;rfl;rfl) | (apply rx_append; (case hx | hy | hze | he0 | hH => rfl); (case hl => (simp [flat_length]; done)); (case hs' => (exact sC_imm (by (rfl)))); (case hbig => omega); (case hmx => omega); (case hcs => (exact app_nilF (by (omega)))); (case hM | hN => rfl)) | (apply rw_nil; (case hf => kernel_rfl)) | (apply rx_buildK; (case hl => rfl); (case hf => (exact (rfl : _ = some [_, _]))); (case hk => (exact (rfl : _ = [_, _]))); (case hN => rfl)) | (apply rx_box;rfl;rfl;rfl;rfl) | (apply rx_alloc;rfl;rfl) | (apply rx_buildSlice; (case hze | hsm | hl => rfl); (case hfl => (rfl)); (case hM | hN => rfl)) | (apply rx_store; (case hx | hy | hc | hn | hH => rfl); (case hl => (simp;done)); (case hcs => (exact (rfl : _ = [_, _]))))) | (apply id_aw; first | apply aw_seq | apply aw_region | (apply aw_draw; (case hm => kernel_rfl)) | apply aw_ret) | with_reducible apply tq_normal)
  refine rq_ret rfl ?_
  refine mc_ret () trivial ?_ ⟨.inr (Eq.trans (b := some _) rfl ?_), .inr (Eq.trans (b := some _) rfl ?_), trivial⟩
  · show AV.agg [AV.own 3 0 (0 + q.types.length) 1, AV.own 4 0 q.body.length 6] = _
    rw [Nat.zero_add]
  · rfl
  · rfl
end Go.Proofs.YtejkbiijonnefaaGreat

namespace Go.Proofs.YtejkbiijonnefaaGreat
open Go.AL Go.RowKit

theorem cntS_uOp (s : AL.Stmt) (a : Int) : cntS (uOp s a) = cntS s := by simp [cntS_def, uOp, AL.Stmt.th, AL.Stmt.el]
theorem cntS_uX (s : AL.Stmt) (a : Int) : cntS (uX s a) = cntS s := by simp [cntS_def, uX, AL.Stmt.th, AL.Stmt.el]
theorem cntS_uY (s : AL.Stmt) (a : Int) : cntS (uY s a) = cntS s := by simp [cntS_def, uY, AL.Stmt.th, AL.Stmt.el]
theorem cntS_uN (s : AL.Stmt) (a : Int) : cntS (uN s a) = cntS s := by simp [cntS_def, uN, AL.Stmt.th, AL.Stmt.el]
theorem cntL_set : ∀ (xs : List AL.Stmt) (k : Nat) (y : AL.Stmt), k < xs.length → cntS y = cntS xs[k]! → cntL (xs.set k y) = cntL xs
  | [], k, y, h, _ => by simp at h
  | x :: xs, 0, y, _, h => by simp only [List.set_cons_zero, cntL]; simp only [List.getElem!_cons_zero] at h; omega
  | x :: xs, k + 1, y, h, h2 => by
    simp only [List.set_cons_succ, cntL]
    rw [cntL_set xs k y (by simpa using h) (by rw [h2]; simp only [List.getElem!_cons_succ])]
theorem cntL_rep (s : AL.Stmt) : ∀ k, cntL (List.replicate k s) = k * cntS s
  | 0 => by simp [cntL]
  | k + 1 => by simp only [List.replicate_succ, cntL, cntL_rep s k, Nat.succ_mul]; omega
theorem cntL_del : ∀ (xs : List AL.Stmt) (k : Nat), cntL (xs.take k ++ xs.drop (k + 1)) ≤ cntL xs
  | [], k => by simp [cntL]
  | x :: xs, 0 => by simp [cntL]
  | x :: xs, k + 1 => by have := cntL_del xs k; simp only [List.take_succ_cons, List.drop_succ_cons, List.cons_append, cntL]; omega
theorem bnd_pos {T : Nat → Option AV} {x : Operand} {dd : Nat} {k : IntKind} {m : Int} (hx : ev T x = some (.v (.int k m))) (h : 0 ≤ m) : bndA T (some x) dd = some m.toNat := by
  simp only [bndA, hx]; rw [if_pos h]
section
variable {P : Program} {N : Nat} {Q : Exit → AS → Prop} {all : Array Oper} {rest : List Oper} {ts : List (Nat × AV)} {hs : List (Nat × Option (List AV))} {n : Nat} {z0 : Lo} {md : Md}
variable {d : Nat} {ty : TypeId} {pos : String} {af : Array Edge}
theorem rx_sliceOh {t el : TypeId} {x : Operand} {hi : Option Operand} {i o m e h : Nat} [ht : SlT P t el] [he : SzT P el e] (hx : ev (lk ts) x = some (.own i o m e))
    (hh : bndA (lk ts) hi m = some h) (hb : h ≤ m) (hN : Nat.blt d N = true) {md' : Md} [hmd : MdA md (rO x ++ (rB none ++ rB hi)) [.inl d] md'] (kk : RW P N all Q md' rest ⟨(d, .own i o h e) :: ts, hs, n, z0⟩) :
    RW P N all Q md (⟨some d, .slice t x none hi none, ty, pos, af, none⟩ :: rest) ⟨ts, hs, n, z0⟩ :=
  rx_slice (m := m) (l := 0) (h := h) hx rfl rfl hh (by simp [sSl, hb]) hN (md' := md') (hmd := hmd) kk
end
theorem sC_ownD {hs : List (Nat × Option (List AV))} {xs : List AL.Stmt} {i k n : Nat} (hH : lkH hs i = some (flat cStmt xs)) (hn : n = xs.length - k) : sCells (lkH hs) 6 (kAV (.own i (0 + k * 6) n 6)) = some (n, flat cStmt (xs.drop k)) := by
  show ((lkH hs i).bind fun cs => if n * 6 ≤ (cs.drop (0 + k * 6)).length then some (n, (cs.drop (0 + k * 6)).take (n * 6)) else none) = _
  rw [hH, Option.bind_some, Nat.zero_add]
  have h1 : (flat cStmt xs).length = xs.length * 6 := flat_length cStmt xs
  have h3 : (flat cStmt xs).drop (k * 6) = flat cStmt (xs.drop k) := by
    have h4 : flat cStmt xs = flat cStmt (xs.take k) ++ flat cStmt (xs.drop k) := by rw [flat_append, List.take_append_drop]
    have h5 : (flat cStmt (xs.take k)).length = (xs.take k).length * 6 := flat_length cStmt _
    by_cases hk : k ≤ xs.length
    · rw [h4, ← show (flat cStmt (xs.take k)).length = k * 6 from by rw [h5, List.length_take]; congr 1; omega, List.drop_left]
    · rw [List.drop_of_length_le (by omega), List.drop_of_length_le (by omega)]; rfl
  rw [h3]
  have h2 : (flat cStmt (xs.drop k)).length = (xs.length - k) * 6 := by rw [flat_length cStmt (e := 6), List.length_drop]
  rw [if_pos (by omega), List.take_of_length_le (by omega)]
theorem app_del {xs ys : List AL.Stmt} {k : Nat} (hk : k ≤ xs.length) : ((flat cStmt xs).drop 0).take (k * 6) ++ flat cStmt ys = flat cStmt (xs.take k ++ ys) := by
  rw [List.drop_zero, flat_take cStmt (e := 6), flat_append]
theorem mutate_c (bs : List UInt8) (p : Nat) (q : Prg) (hb : bs.length ≤ 2000) (hp : p ≤ 900000) (hs : cntL q.body ≤ 10000) (ht : q.types.length ≤ 10000) : MC Tryz.prog 84 [.optr 0 0, aPrg q] [(0, some (cRd bs p))] 1 (fun x : Prg × Nat => cntL x.1.body ≤ 32 * cntL q.body ∧ x.1.types.length ≤ q.types.length + 1 ∧ x.2 ≤ p + 3) (fun x => aPrg x.1) (fun x => [(0, some (cRd bs x.2))]) := by
  have hlen := cntL_len q.body
  have h0 := pickF_bd bs p (q.body.length : Int)
  (refine mc_of_aw Tryz.func84 rfl (by simp [Tryz.ntmps84]) ?_; rw [Tryz.ntmps84])
  repeat' (first | (apply id_rw; first | (apply rx_move;rfl;rfl) | (first | (apply rx_load1;rfl;rfl;rfl;rfl) | (apply rx_loadA; (case hx | hd => rfl); (case hc => (exact (rfl : _ = [_, _]))); (case hn | h0 | hN => rfl))) | (apply rx_fieldAddr;rfl;rfl;rfl) | (apply rx_bin;rfl;rfl;rfl;rfl) | (apply rx_assign;rfl;rfl) | (apply rx_indexO; (case hx | hi => rfl); (case hm => (omega)); (case hN => rfl)) | (first | (apply rx_pick; (case ha0 | ha1 => rfl); (case hH0 => (rfl)); (case hmc => (apply pick_c <;> (first | assumption | omega))); (case hM | hN => rfl)) | (apply rx_numO; (case ha0 | ha1 | hH0 | hH1 => rfl); (case hcs => infer_instance); (case hdd => rfl); (case hm => (rfl)); (case hb => assumption); (case hp => omega); (case h0 => (decide)); (case hn => (decide)); (case hM | hN => rfl)) | (apply rx_copyOf; (case ha0 => rfl); (case hmc => (apply copyOf_c <;> (omega))); (case hM | hN => rfl))) | (first | (apply rx_len;rfl;rfl;rfl) | (apply rx_append; (case hx | hy | hze | he0 | hH => rfl); (case hl => (rw [flat_length]; omega)); (case hs' => (rfl)); (case hbig => omega); (case hmx => omega); (case hcs => (exact app_int (by (omega)))); (case hM | hN => rfl))) | (apply rw_nil; (case hf => kernel_rfl)) | (apply rx_box;rfl;rfl;rfl;rfl) | (apply rx_alloc;rfl;rfl) | (apply rx_buildSlice; (case hze | hsm | hl => rfl); (case hfl => (first | exact (rfl : _ = some [_]) | exact (rfl : _ = some [_, _, _]) | exact (rfl : _ = some [_, _, _, _]) | exact (rfl : _ = some [_, _, _, _, _]))); (case hM | hN => rfl)) | (apply rx_store; (case hx | hy | hc | hn | hH => rfl); (case hl => (first | (rw [flat_length]; simp only [lns] <;> omega) | (simp;done))); (case hcs => first | exact st_sop (by (omega)) | exact st_sx (by (omega)) | exact st_sy (by (omega)) | exact st_sn (by (omega)) | exact (rfl : _ = [_, _])))) | (apply id_aw; first | apply aw_seq | apply aw_region | (apply aw_draw; (case hm => kernel_rfl)) | (apply aw_cond; (case hc => rfl); all_goals (intro hc; have hq := hc; (try simp only [bqs] at hq); (try (exfalso; omega)))) | apply aw_block | apply aw_skip | apply aw_ret) | with_reducible apply tq_normal | with_reducible apply tq_ret | with_reducible apply bq_normal)
  · refine rq_le (Le.frzC (j := 2) (i := 6) [] rfl rfl (by decide)) ?_
    refine rq_le (Le.frzC (j := 2) (i := 7) [.imm _ _] rfl rfl (by decide)) ?_
    refine rq_ret rfl ?_
    refine mc_ret ((⟨q.types, q.body⟩ : Prg), p) ?_ ?_ ⟨.inr (Eq.trans (b := some _) rfl ?_), trivial⟩
    · exact ⟨by dsimp only; omega, by dsimp only; omega, by dsimp only; omega⟩
    · rfl
    · rfl
  · refine rq_le (Le.frzC (j := 2) (i := 6) [] rfl rfl (by decide)) ?_
    refine rq_le (Le.frzC (j := 2) (i := 7) [.imm _ _] rfl rfl (by decide)) ?_
    refine rq_ret rfl ?_
    refine mc_ret ((⟨q.types, q.body.set (pickF bs p (q.body.length : Int)).toNat (uOp q.body[(pickF bs p (q.body.length : Int)).toNat]! (numF bs (p + 1 + 1) [0, 11, 1, 3, 8]))⟩ : Prg), p + 1 + 1 + 1) ?_ ?_ ⟨.inr (Eq.trans (b := some _) rfl ?_), trivial⟩
    · refine ⟨?_, by dsimp only; omega, by dsimp only; omega⟩; dsimp only; rw [cntL_set q.body (pickF bs p (q.body.length : Int)).toNat _ (by omega) (by rw [cntS_uOp])]; omega
    · show _ = AV.agg [_, AV.imm (List.length (q.body.set _ _)) _]; rw [List.length_set]; rfl
    · rfl
  · refine rq_le (Le.frzC (j := 2) (i := 6) [] rfl rfl (by decide)) ?_
    refine rq_le (Le.frzC (j := 2) (i := 7) [.imm _ _] rfl rfl (by decide)) ?_
    refine rq_ret rfl ?_
    refine mc_ret ((⟨q.types, q.body.set (pickF bs p (q.body.length : Int)).toNat (uX q.body[(pickF bs p (q.body.length : Int)).toNat]! (numF bs (p + 1 + 1) [6, -1, 0, 1]))⟩ : Prg), p + 1 + 1 + 1) ?_ ?_ ⟨.inr (Eq.trans (b := some _) rfl ?_), trivial⟩
    · refine ⟨?_, by dsimp only; omega, by dsimp only; omega⟩; dsimp only; rw [cntL_set q.body (pickF bs p (q.body.length : Int)).toNat _ (by omega) (by rw [cntS_uX])]; omega
    · show _ = AV.agg [_, AV.imm (List.length (q.body.set _ _)) _]; rw [List.length_set]; rfl
    · rfl
  · refine rq_le (Le.frzC (j := 2) (i := 6) [] rfl rfl (by decide)) ?_
    refine rq_le (Le.frzC (j := 2) (i := 7) [.imm _ _] rfl rfl (by decide)) ?_
    refine rq_ret rfl ?_
    refine mc_ret ((⟨q.types, q.body.set (pickF bs p (q.body.length : Int)).toNat (uY q.body[(pickF bs p (q.body.length : Int)).toNat]! (numF bs (p + 1 + 1) [6, -1, 0, 1]))⟩ : Prg), p + 1 + 1 + 1) ?_ ?_ ⟨.inr (Eq.trans (b := some _) rfl ?_), trivial⟩
    · refine ⟨?_, by dsimp only; omega, by dsimp only; omega⟩; dsimp only; rw [cntL_set q.body (pickF bs p (q.body.length : Int)).toNat _ (by omega) (by rw [cntS_uY])]; omega
    · show _ = AV.agg [_, AV.imm (List.length (q.body.set _ _)) _]; rw [List.length_set]; rfl
    · rfl
  · refine rq_le (Le.frzC (j := 2) (i := 6) [] rfl rfl (by decide)) ?_
    refine rq_le (Le.frzC (j := 2) (i := 7) [.imm _ _] rfl rfl (by decide)) ?_
    refine rq_ret rfl ?_
    refine mc_ret ((⟨q.types, q.body.set (pickF bs p (q.body.length : Int)).toNat (uN q.body[(pickF bs p (q.body.length : Int)).toNat]! (numF bs (p + 1 + 1) [10, -1, 5]))⟩ : Prg), p + 1 + 1 + 1) ?_ ?_ ⟨.inr (Eq.trans (b := some _) rfl ?_), trivial⟩
    · refine ⟨?_, by dsimp only; omega, by dsimp only; omega⟩; dsimp only; rw [cntL_set q.body (pickF bs p (q.body.length : Int)).toNat _ (by omega) (by rw [cntS_uN])]; omega
    · show _ = AV.agg [_, AV.imm (List.length (q.body.set _ _)) _]; rw [List.length_set]; rfl
    · rfl
  · refine rq_le (Le.frzC (j := 2) (i := 11) [] rfl rfl (by decide)) ?_
    refine rq_le (Le.frzC (j := 2) (i := 7) [.imm _ _] rfl rfl (by decide)) ?_
    refine rq_ret rfl ?_
    refine mc_ret ((⟨q.types ++ [numF bs (p + 1 + 1) [1, 5, 0, 4]], q.body⟩ : Prg), p + 1 + 1 + 1) ?_ ?_ ⟨.inr (Eq.trans (b := some _) rfl ?_), trivial⟩
    · exact ⟨by dsimp only; omega, by simp, by dsimp only; omega⟩
    · show _ = AV.agg [AV.imm (List.length (q.types ++ [_])) _, _]; rw [List.length_append]; rfl
    · rfl
  · refine aw_loopK (σ := Nat × List AL.Stmt × Nat) [4, 5] [(4, _), (5, _)] [6, 2, 0] [(6, some _), (2, some _), (0, some _)] (fun k => [(7, iv (k.1 : Int))]) (fun k => [(7, some (flat cStmt k.2.1)), (8, some [.own 6 0 q.types.length 1, .own 7 0 k.2.2 6])]) (fun k => k.1 ≤ 31 ∧ k.2.1 = q.body ++ List.replicate k.1 q.body[0]! ∧ k.2.2 = k.2.1.length) (fun k => 31 - k.1) (0, q.body, q.body.length) ⟨by omega, by simp, rfl⟩ rfl rfl (by repeat' (first | exact trivial | refine And.intro rfl ?_)) (by repeat' (first | exact trivial | refine And.intro (.inr rfl) ?_)) ?_
    rintro ⟨k, xs, m⟩ ⟨hk, hxs, hm⟩
    dsimp only at hk hxs hm ⊢
    have hln : 0 < xs.length := by rw [hxs, List.length_append]; omega
    have hl2 : xs.length = q.body.length + k := by rw [hxs, List.length_append, List.length_replicate]
    repeat' (first | (apply id_rw; first | (apply rx_move;rfl;rfl) | (first | (apply rx_loadFA; (case hx | hH => rfl); (case hf | hg | hα => infer_instance); (case hk => omega); (case h0 | hN => rfl)) | (apply rx_load1;rfl;rfl;rfl;rfl) | (apply rx_loadA; (case hx | hd => rfl); (case hc => (exact (rfl : _ = [_, _]))); (case hn | h0 | hN => rfl))) | (apply rx_fieldAddr;rfl;rfl;rfl) | (first | (apply rx_add; (case hx | hy => rfl); (case h => omega); (case hN => rfl)) | (apply rx_bin;rfl;rfl;rfl;rfl)) | (apply rx_assign;rfl;rfl) | (apply rx_indexO; (case hx | hi => rfl); (case hm => (omega)); (case hN => rfl)) | (apply rx_append; (case hx | hy | hze | he0 | hH => rfl); (case hl => (rw [flat_length]; omega)); (case hs' => (rfl)); (case hbig => omega); (case hmx => omega); (case hcs => (exact app_stmt (by (assumption)))); (case hM | hN => rfl)) | (apply rw_nil; (case hf => kernel_rfl)) | (apply rx_buildSlice; (case hze | hsm | hl => rfl); (case hfl => (exact (rfl : _ = some [_, _, _, _, _, _]))); (case hM | hN => rfl)) | (apply rx_store; (case hx | hy | hc | hn | hH => rfl); (case hl => (simp;done)); (case hcs => (exact (rfl : _ = [_, _]))))) | (apply id_aw; first | apply aw_seq | apply aw_region | (apply aw_draw; (case hm => kernel_rfl)) | (apply aw_cond; (case hc => rfl); all_goals (intro hc; have hq := hc; (try simp only [bqs] at hq); (try (exfalso; omega)))) | apply aw_block | apply aw_skip | apply aw_exit | apply aw_ret) | with_reducible apply tq_normal | with_reducible apply tq_exit | with_reducible apply bq_normal | with_reducible apply bq_here)
    · (apply Exists.intro (k + 1, _, _); refine And.intro ?_ (And.intro ?_ ?_); rotate_left 2; focus (refine Le.ren [(7, 10), (8, 8), (6, 6), (2, 2)] rfl (by decide) ?_ ?_ <;> repeat' (first | exact trivial | refine And.intro ⟨_, rfl, ?_⟩ ?_ | refine And.intro ⟨_, _, rfl, rfl, ?_⟩ ?_ | exact Or.inr rfl | refine Or.inl ⟨?_, (by first | rfl | exact pur_sl _ _ | exact Pur.pf)⟩ | refine Or.inr (All2.cons ?_ ?_) | refine All2.cons ?_ ?_ | exact All2.nil | rfl)))
      · dsimp only
        refine ⟨by omega, ?_, by simp [hm]⟩
        have e0 : xs[Int.toNat 0]! = q.body[0]! := by
          show xs[0]! = _
          rw [hxs, getElem!_pos _ _ (by rw [List.length_append]; omega), List.getElem_append_left (by omega), getElem!_pos _ _ (by omega)]
        rw [e0, hxs, List.replicate_succ', List.append_assoc]
      · dsimp only; omega
    · have hc0 : cntS q.body[0]! ≤ cntL q.body := cntL_at q.body 0 (by omega)
      have hc1 : cntL xs = cntL q.body + k * cntS q.body[0]! := by rw [hxs, cntL_append, cntL_rep]
      have hc2 : k * cntS q.body[0]! ≤ 31 * cntL q.body := Nat.mul_le_mul hk hc0
      subst hm
      refine rq_le (Le.frzC (j := 2) (i := 6) [] rfl rfl (by decide)) ?_
      refine rq_le (Le.frzC (j := 2) (i := 7) [.imm _ _] rfl rfl (by decide)) ?_
      refine rq_ret rfl ?_
      refine mc_ret ((⟨q.types, xs⟩ : Prg), p + 1 + 1) ?_ ?_ ⟨.inr (Eq.trans (b := some _) rfl ?_), trivial⟩
      · exact ⟨by dsimp only; omega, by dsimp only; omega, by dsimp only; omega⟩
      · rfl
      · rfl
  · have hK : (pickF bs p (q.body.length : Int) + 1).toNat = (pickF bs p (q.body.length : Int)).toNat + 1 := by omega
    repeat' (first | (apply id_rw; first | (apply rx_sliceOh; (case hx => rfl); (case hh => exact bnd_pos rfl (by omega)); (case hb => omega); (case hN => rfl)) | (apply rx_sliceOw; (case hx => rfl); (case hl => exact bnd_pos rfl (by omega)); (case hb => omega); (case hN => rfl)) | (apply rx_append; (case hx | hy | hze | he0 | hH => rfl); (case hl => (rw [flat_length]; omega)); (case hs' => exact sC_ownD rfl (by omega)); (case hbig => omega); (case hmx => omega); (case hcs => exact app_del (by omega)); (case hM | hN => rfl)) | (apply rx_move;rfl;rfl) | (first | (apply rx_load1;rfl;rfl;rfl;rfl) | (apply rx_loadA; (case hx | hd => rfl); (case hc => (exact (rfl : _ = [_, _]))); (case hn | h0 | hN => rfl))) | (apply rx_fieldAddr;rfl;rfl;rfl) | (apply rx_add; (case hx | hy => rfl); (case h => omega); (case hN => rfl)) | (apply rw_nil; (case hf => kernel_rfl)) | (apply rx_store; (case hx | hy | hc | hn | hH => rfl); (case hl => (simp;done)); (case hcs => (exact (rfl : _ = [_, _]))))) | (apply id_aw; first | apply aw_seq | apply aw_region | apply aw_ret) | with_reducible apply tq_normal | with_reducible apply bq_normal)
    refine rq_le (Le.frzC (j := 2) (i := 6) [] rfl rfl (by decide)) ?_
    refine rq_le (Le.frzC (j := 2) (i := 9) [.imm _ _] rfl rfl (by decide)) ?_
    refine rq_ret rfl ?_
    refine mc_ret ((⟨q.types, q.body.take (pickF bs p (q.body.length : Int)).toNat ++ q.body.drop (pickF bs p (q.body.length : Int) + 1).toNat⟩ : Prg), p + 1 + 1) ?_ ?_ ⟨.inr (Eq.trans (b := some _) rfl ?_), trivial⟩
    · refine ⟨?_, by dsimp only; omega, by dsimp only; omega⟩
      dsimp only
      rw [hK]
      have := cntL_del q.body (pickF bs p (q.body.length : Int)).toNat
      omega
    · show AV.agg [_, AV.imm _ _] = AV.agg [_, AV.imm (List.length (_ ++ _)) _]
      rw [List.length_append, List.length_take, List.length_drop, Nat.min_eq_left (by omega)]
    · rfl
  · refine rq_le (Le.frzC (j := 2) (i := 6) [] rfl rfl (by decide)) ?_
    refine rq_le (Le.frzC (j := 2) (i := 7) [.imm _ _] rfl rfl (by decide)) ?_
    refine rq_ret rfl ?_
    refine mc_ret (q, p + 1 + 1) ⟨by dsimp only; omega, by dsimp only; omega, by dsimp only; omega⟩ rfl ⟨.inr (Eq.trans (b := some _) rfl ?_), trivial⟩
    · rfl
end Go.Proofs.YtejkbiijonnefaaGreat

namespace Go.Proofs.YtejkbiijonnefaaGreat
open Go.AL Go.RowKit

def atF (s : ByteArray) (i : Int) (w : ByteArray) : Bool := decide (0 ≤ i) && (decide (i + w.size ≤ s.size) && ((s.extract i.toNat (i + w.size).toNat).toList == w.toList))
def chrF (lo hi : Int) (s : ByteArray) (i : Int) : Int := if i < 0 then -1 else if (s.size : Int) ≤ i then -1 else if ((s[i.toNat]!).toNat : Int) < lo then -1 else if hi < ((s[i.toNat]!).toNat : Int) then -1 else ((s[i.toNat]!).toNat : Int) - lo
theorem l1At_c (s : ByteArray) (i : Int) (w : ByteArray) (hs : s.size ≤ 1000000) (hw : w.size ≤ 1000000) (hi : i ≤ 1000000) : PC Tryz.prog 194 [sv s, iv i, sv w] (fun r => r = bv (atF s i w)) := by
  (refine pc_of_aw Tryz.func194 rfl (by simp [Tryz.ntmps194]) ?_; rw [Tryz.ntmps194])
  repeat' (first | (apply id_rw; first | (apply rx_sbin; (case hx | hy => rfl); (case h => (rfl)); (case hN => rfl)) | (apply rx_sliceS; (case hx => rfl); (case hl => exact bnd_pos rfl (by omega)); (case hh => exact bnd_pos rfl (by omega)); (case hc => omega); (case hN => rfl)) | (apply rx_move;rfl;rfl) | (first | (apply rx_guardY; (case hj | hb | hN => rfl); (case hw => (assumption))) | (apply rx_guardNs; (case hj | hb | hN => rfl); (case hw => first | rfl | assumption)) | (apply rx_guardS; (case hj | hb | hN => rfl); all_goals (intro hg; have hq := hg; (try simp only [bqs] at hq); (try (exfalso; omega))))) | (first | (apply rx_add; (case hx | hy => rfl); (case h => omega); (case hN => rfl)) | (apply rx_bin;rfl;rfl;rfl;rfl)) | (apply rx_assign;rfl;rfl) | (first | (apply rx_pickT; (case hc => rfl); (case hb => (assumption)); (case hx | hN => rfl)) | (apply rx_pickF; (case hc => rfl); (case hb => first | rfl | assumption); (case hx | hN => rfl))) | (apply rx_lenS;rfl;rfl) | (apply rw_nil; (case hf => kernel_rfl))) | (apply id_aw; first | apply aw_seq | apply aw_region | apply aw_ret) | with_reducible apply tq_normal | ((with_reducible apply rq_ret); case hr => rfl))
  all_goals (refine ⟨?_, rfl⟩; simp only [oneOf, AV.v.injEq, Value.bool.injEq, Value.int.injEq, true_and])
  · unfold atF
    rw [decide_eq_true (by omega), decide_eq_true (by omega)]; rfl
  · unfold atF
    rw [decide_eq_true (p := 0 ≤ i) (by omega), decide_eq_false (by omega)]; rfl
  · unfold atF
    rw [decide_eq_false (by omega)]; rfl
theorem l1Var_c (s : ByteArray) (i : Int) (hs : s.size ≤ 1000000) : PC Tryz.prog 201 [sv s, iv i] (fun r => r = iv (chrF 97 122 s i)) := by
  have hb0 : ((s[i.toNat]!).toNat : Int) ≤ 255 := by have := (s[i.toNat]!).toNat_lt; omega
  (refine pc_of_aw Tryz.func201 rfl (by simp [Tryz.ntmps201]) ?_; rw [Tryz.ntmps201])
  repeat' (first | (apply id_rw; first | (apply rx_indexS; (case hx | hi => rfl); (case hm => omega); (case hN => rfl)) | (apply rx_subU; (case hx | hy => rfl); (case h => omega); (case hN => rfl)) | (apply rx_move;rfl;rfl) | (first | (apply rx_guardY; (case hj | hb | hN => rfl); (case hw => (assumption))) | (apply rx_guardNs; (case hj | hb | hN => rfl); (case hw => first | rfl | assumption)) | (apply rx_guardS; (case hj | hb | hN => rfl); all_goals (intro hg; have hq := hg; (try simp only [bqs] at hq); (try (exfalso; omega))))) | (apply rx_bin;rfl;rfl;rfl;rfl) | (apply rx_assign;rfl;rfl) | (first | (apply rx_pickT; (case hc => rfl); (case hb => first | rfl | assumption); (case hx | hN => rfl)) | (apply rx_pickF; (case hc => rfl); (case hb => (assumption)); (case hx | hN => rfl))) | (apply rx_lenS;rfl;rfl) | (apply rw_nil; (case hf => kernel_rfl)) | (apply rx_conv64; (case hx => rfl); (case h => (omega)); (case hN => rfl))) | (apply id_aw; first | apply aw_seq | apply aw_region | (apply aw_condT; (case hc => rfl); (case hb => (rfl))) | (apply aw_cond; (case hc => rfl); all_goals (intro hc; have hq := hc; (try simp only [bqs] at hq); (try (exfalso; omega)))) | apply aw_skip | apply aw_ret) | with_reducible apply tq_normal | with_reducible apply tq_ret | ((with_reducible apply rq_ret); case hr => rfl))
  all_goals (refine ⟨?_, rfl⟩; simp only [oneOf, AV.v.injEq, Value.bool.injEq, Value.int.injEq, true_and])
  all_goals (unfold chrF; repeat' split)
  all_goals (first | rfl | omega)
theorem l1Digit_c (s : ByteArray) (i : Int) (hs : s.size ≤ 1000000) : PC Tryz.prog 203 [sv s, iv i] (fun r => r = iv (chrF 48 57 s i)) := by
  have hb0 : ((s[i.toNat]!).toNat : Int) ≤ 255 := by have := (s[i.toNat]!).toNat_lt; omega
  (refine pc_of_aw Tryz.func203 rfl (by simp [Tryz.ntmps203]) ?_; rw [Tryz.ntmps203])
  repeat' (first | (apply id_rw; first | (apply rx_indexS; (case hx | hi => rfl); (case hm => omega); (case hN => rfl)) | (apply rx_subU; (case hx | hy => rfl); (case h => omega); (case hN => rfl)) | (apply rx_move;rfl;rfl) | (first | (apply rx_guardY; (case hj | hb | hN => rfl); (case hw => (assumption))) | (apply rx_guardNs; (case hj | hb | hN => rfl); (case hw => first | rfl | assumption)) | (apply rx_guardS; (case hj | hb | hN => rfl); all_goals (intro hg; have hq := hg; (try simp only [bqs] at hq); (try (exfalso; omega))))) | (apply rx_bin;rfl;rfl;rfl;rfl) | (apply rx_assign;rfl;rfl) | (first | (apply rx_pickT; (case hc => rfl); (case hb => first | rfl | assumption); (case hx | hN => rfl)) | (apply rx_pickF; (case hc => rfl); (case hb => (assumption)); (case hx | hN => rfl))) | (apply rx_lenS;rfl;rfl) | (apply rw_nil; (case hf => kernel_rfl)) | (apply rx_conv64; (case hx => rfl); (case h => (omega)); (case hN => rfl))) | (apply id_aw; first | apply aw_seq | apply aw_region | (apply aw_condT; (case hc => rfl); (case hb => (rfl))) | (apply aw_cond; (case hc => rfl); all_goals (intro hc; have hq := hc; (try simp only [bqs] at hq); (try (exfalso; omega)))) | apply aw_skip | apply aw_ret) | with_reducible apply tq_normal | with_reducible apply tq_ret | ((with_reducible apply rq_ret); case hr => rfl))
  all_goals (refine ⟨?_, rfl⟩; simp only [oneOf, AV.v.injEq, Value.bool.injEq, Value.int.injEq, true_and])
  all_goals (unfold chrF; repeat' split)
  all_goals (first | rfl | omega)
end Go.Proofs.YtejkbiijonnefaaGreat
