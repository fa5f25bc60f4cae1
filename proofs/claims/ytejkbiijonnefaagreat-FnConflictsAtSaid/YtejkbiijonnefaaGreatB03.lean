/-
  A part of the proofs over this program: rules and contracts of its functions (the contracts).
-/
import Derived.Test.YtejkbiijonnefaaGreatB02
set_option linter.unusedVariables false
set_option linter.unusedSimpArgs false
set_option maxHeartbeats 8000000
set_option maxRecDepth 4000
attribute [local irreducible] Go.AL.RW Go.AL.AW Go.AL.Stop
namespace Go.Proofs.YtejkbiijonnefaaGreat
open Go.AL Go.RowKit

theorem issues1_c (n : Nat) (A : List Nat) (i : Int) (hA : A.length = n * 6) (hi : 0 ≤ i ∧ i < n) : PC Tryz.prog 137 [iv i, .iptr [.imm n (flat cW A)]] (fun r => r = .agg (flat cW (row6 A i.toNat))) := by
  have h6 : ((A.drop (i.toNat * 6)).take 6).length = 6 := row6_len hA (by omega)
  (refine pc_of_aw Tryz.func137 rfl (by simp [Tryz.ntmps137]) ?_; rw [Tryz.ntmps137])
  repeat' (first | (apply id_rw; first | (apply rx_move;rfl;rfl) | (first | (apply rx_load1;rfl;rfl;rfl;rfl) | (apply rx_loadIArr; (case hx => rfl); (case hl => (simp only [lns, List.length_drop] <;> omega)); (case h0 | hN => rfl))) | (apply rx_indexW6; (case hx | hi => rfl); (case hm => (omega)); (case hN => rfl)) | (apply rw_nil; (case hf => kernel_rfl)) | (apply rx_alloc;rfl;rfl) | (apply rx_storeArr; (case hx | hy | hH => rfl); (case hl => (assumption)); (case hc => (rfl)))) | (apply id_aw; first | apply aw_seq | apply aw_region | apply aw_ret) | with_reducible apply tq_normal)
  refine rq_ret (resL_cellW (z := 6) rfl rfl h6 (by decide)) ⟨rfl, (by (exact pur_sl _ _))⟩
theorem check_c (ts : List Int) (bd : List AL.Stmt) (pts : List Pnt) (Aa Am Al Af Ap : List Nat) (n : Nat) (w : WG ts pts) (ga : GoodA ts pts Aa) (gm : GoodM ts pts Am) (gl : GoodL ts pts Al) (gf : GoodF ts pts Af) (gp : GoodP ts pts Ap) (hn : n = pts.length) :
    PC Tryz.prog 128 [aG ts bd pts, .imm n (flat cN Al), .clos (.func 137) [] [.iptr [.imm n (flat cW Af)]]] (fun r => r = sl cIss (issF ts pts Aa Am Al Af Ap pts.length)) := by
  subst hn
  have hpl := w.pl
  have htl := w.tl
  have hla := ga.1
  have hlm := gm.1
  have hll := gl.1
  have hlf := gf.1
  have hlp := gp.1
  (refine pc_of_aw Tryz.func128 rfl (by simp [Tryz.ntmps128]) ?_; rw [Tryz.ntmps128])
  repeat' (first | (apply id_rw; first | ((apply rx_assignNil (d := 10) (e := 3)); (case hM | hN => rfl)) | (apply rx_move;rfl;rfl) | (apply rx_load1;rfl;rfl;rfl;rfl) | (apply rx_fieldAddr;rfl;rfl;rfl) | (apply rx_assign;rfl;rfl) | (first | ((with_reducible apply rx_callE (k := 70)); (case ha => rfl); (case h => (apply placed_c <;> (assumption))); (case hp => (exact Pur.pf)); (case hN => rfl)) | ((with_reducible apply rx_callE (k := 73)); (case ha => rfl); (case h => (apply maybe_c <;> (assumption))); (case hp => (exact Pur.pf)); (case hN => rfl)) | ((with_reducible apply rx_callE (k := 89)); (case ha => rfl); (case h => (apply always_c <;> (assumption))); (case hp => (exact Pur.pf)); (case hN => rfl))) | (apply rx_len;rfl;rfl;rfl) | (apply rw_nil; (case hf => kernel_rfl)) | (apply rx_nil;rfl;rfl;rfl)) | (apply id_aw; first | apply aw_seq | apply aw_region | apply aw_block) | with_reducible apply tq_normal)
  refine aw_loopK (σ := Nat × List Iss × Nat) [0, 1, 2, 7, 8, 9, 27, 28] [(0, _), (1, _), (2, _), (7, _), (8, _), (9, _), (27, _), (28, _)] [] [] (fun k => [(29, iv (k.1 : Int)), (10, .own 0 0 k.2.2 3)]) (fun k => [(0, some (flat cIss k.2.1))]) (fun k => k.1 ≤ pts.length ∧ k.2.1 = issF ts pts Aa Am Al Af Ap k.1 ∧ k.2.2 = k.2.1.length ∧ k.2.2 ≤ k.1 * 124) (fun k => pts.length - k.1) (0, [], 0) ⟨by omega, rfl, rfl, Nat.le_refl _⟩ rfl rfl (by repeat' (first | exact trivial | refine And.intro rfl ?_)) (by repeat' (first | exact trivial | refine And.intro (.inr rfl) ?_)) ?_
  rintro ⟨i, u, m⟩ ⟨hk, hu, hm, hmk⟩
  dsimp only at hk hu hm hmk ⊢
  by_cases hin : i < pts.length
  · have hst := w.set i hin
    have hsU : Sm (wS ts pts[i]! [1, 2, 3]) := mkBits_sm (by omega)
    have bl : ∀ {A : Nat} {n : Nat}, n ≤ 62 → (∀ v, A.testBit v = true → v < n) → A < 2 ^ n := fun _ hv => Nat.lt_pow_two_of_testBit _ fun v h => by
      cases hq : Nat.testBit _ v with
      | false => rfl
      | true => have := hv v hq; omega
    have hAa : Sm Aa[i]! := ⟨bl (n := 62) (by omega) fun v hv => by have := ((ga.2 i hin v).1 hv).1; omega⟩
    have hAm : Sm Am[i]! := ⟨bl (n := 62) (by omega) fun v hv => by have := Mb_lt w ((gm.2 i hin v).1 hv); dsimp only at this; omega⟩
    have hAl : Al[i]! < 2 ^ ts.length := bl (by omega) fun v hv => by obtain ⟨k, _, h⟩ := (gl.2 i hin v).1 hv; exact Nd_lt w h
    have hAl2 : Sm Al[i]! := ⟨Nat.lt_of_lt_of_le hAl (Nat.pow_le_pow_right (by decide) (by omega))⟩
    have hAp : Ap[i]! < 2 ^ pts.length := bl (by omega) fun v hv => (Pl_ln ((gp.2 i hin v).1 hv)).1
    have hAp2 : Sm Ap[i]! := ⟨Nat.lt_of_lt_of_le hAp (Nat.pow_le_pow_right (by decide) (by omega))⟩
    have hrl := row6_len hlf hin
    have hrs : ∀ z : Nat, Sm (row6 Af i)[z]! := by
      intro z
      by_cases hz : z < 6
      · rw [row6_at hlf hin hz]
        exact ⟨bl (n := 62) (by omega) fun v hv => by have := (Fr_lt w ((gf.2 i z hin hz v).1 hv)).2.2; dsimp only at this; omega⟩
      · rw [getElem!_neg _ z (by rw [hrl]; exact hz)]; exact ⟨by decide⟩
    have hkp : kpF ts pts[(i : Int).toNat]! Al[i]! (row6 Af (i : Int).toNat) < 2 ^ pts.length := by
      refine bl (by omega) fun v hv => ?_
      unfold kpF at hv
      rw [testBit_orL] at hv
      rcases hv with hv | ⟨z, hz, hv⟩
      · simp at hv
      · obtain ⟨q, h1, h2, rfl⟩ := mem_bitsI.1 hz
        rw [testBit_anl, Bool.and_eq_true] at h2
        have h3 := lt_of_bits hAl h2.1
        have h4 : q < 6 := by omega
        have h5 : (row6 Af i)[q]!.testBit v = true := hv
        rw [row6_at hlf hin h4] at h5
        exact (Fr_lt w ((gf.2 i q hin h4 v).1 h5)).2.2
    have hkp2 : Sm (kpF ts pts[(i : Int).toNat]! Al[i]! (row6 Af (i : Int).toNat)) := ⟨Nat.lt_of_lt_of_le hkp (Nat.pow_le_pow_right (by decide) (by omega))⟩
    have hlo : kpF ts pts[(i : Int).toNat]! Al[i]! (row6 Af (i : Int).toNat) &&& Ap[i]! < 2 ^ pts.length := Nat.and_lt_two_pow _ hAp
    have hcf := cfN_lt w (Am := Am) (Al := Al) (Af := Af) (i := i) hAp
    have hcf2 : Sm (cfN ts pts Am Al Af Ap i) := ⟨Nat.lt_of_lt_of_le hcf (Nat.pow_le_pow_right (by decide) (by omega))⟩
    have hcf3 : Sm (agF pts (kpF ts pts[(i : Int).toNat]! Al[i]! (row6 Af (i : Int).toNat) &&& Ap[i]!) (accF ts pts[(i : Int).toNat]! (Am[i]!.testBit (setAt pts[(i : Int).toNat]!).toNat)) 0) := hcf2
    have hb1 := bitsI_len (anl (wS ts pts[i]! [1, 2, 3]) Aa[i]!)
    have hb2 := bitsI_len (cfN ts pts Am Al Af Ap i)
    repeat' (first | (apply id_rw; first | (apply rx_move;rfl;rfl) | (first | (apply rx_load1;rfl;rfl;rfl;rfl) | (apply rx_loadA; (case hx | hd => rfl); (case hc => (exact (rfl : _ = [_, _, _, _, _]))); (case hn | h0 | hN => rfl))) | (first | (apply rx_anlN; (case hx | hy => rfl); (case hk | ha | hb => infer_instance); (case hN => rfl)) | (apply rx_bin;rfl;rfl;rfl;rfl)) | (apply rx_assign;rfl;rfl) | (apply rx_indexFN; (case hx | hi => rfl); (case hm => (assumption)); (case hml => (first | rfl | omega)); (case hα | hf | hg => infer_instance); (case hN => rfl)) | (first | ((with_reducible apply rx_callE (k := 88)); (case ha => rfl); (case h => (apply bits_c <;> (infer_instance))); (case hp => (rfl)); (case hN => rfl)) | ((with_reducible apply rx_callE (k := 138)); (case ha => rfl); (case h => (apply used_c <;> (assumption))); (case hp => (exact Pur.pf)); (case hN => rfl))) | (apply rx_len;rfl;rfl;rfl) | (apply rw_nil; (case hf => kernel_rfl)) | (apply rx_alloc;rfl;rfl) | (apply rx_store; (case hx | hy | hc | hn | hH => rfl); (case hl => (simp;done)); (case hcs => (exact (rfl : _ = [_, _, _, _, _]))))) | (apply id_aw; first | apply aw_seq | apply aw_region | (apply aw_draw; (case hm => kernel_rfl)) | (apply aw_cond; (case hc => rfl); all_goals (intro hc; have hq := hc; (try simp only [bqs] at hq); (try (exfalso; omega)))) | apply aw_block | apply aw_skip) | with_reducible apply tq_normal)
    have hb1b : ∀ j, j < (bitsI (anl (wS ts pts[i]! [1, 2, 3]) Aa[i]!)).length → 0 ≤ (bitsI (anl (wS ts pts[i]! [1, 2, 3]) Aa[i]!))[j]! := fun j h => (bitsI_bd (inferInstance : Sm (anl (wS ts pts[i]! [1, 2, 3]) Aa[i]!)).pf h).1
    refine aw_loopK (σ := Nat × List Iss × Nat) [0, 1, 2, 7, 8, 9, 11, 27, 28, 29, 42, 43] [(0, _), (1, _), (2, _), (7, _), (8, _), (9, _), (11, _), (27, _), (28, _), (29, _), (42, _), (43, _)] [] [] (fun j => [(44, iv (j.1 : Int)), (10, .own 0 0 j.2.2 3)]) (fun j => [(0, some (flat cIss j.2.1))]) (fun j => j.1 ≤ (bitsI (anl (wS ts pts[i]! [1, 2, 3]) Aa[i]!)).length ∧ j.2.1 = u ++ issU i ((bitsI (anl (wS ts pts[i]! [1, 2, 3]) Aa[i]!)).take j.1) ∧ j.2.2 = j.2.1.length ∧ j.2.2 ≤ i * 124 + j.1) (fun j => (bitsI (anl (wS ts pts[i]! [1, 2, 3]) Aa[i]!)).length - j.1) (0, u, m) ⟨by omega, by simp [issU], hm, by omega⟩ rfl rfl (by repeat' (first | exact trivial | refine And.intro rfl ?_)) (by repeat' (first | exact trivial | refine And.intro (.inr rfl) ?_)) ?_
    rintro ⟨j, u2, m2⟩ ⟨hj, hu2, hm2, hmk2⟩
    dsimp only at hj hu2 hm2 hmk2 ⊢
    by_cases hjn : j < (bitsI (anl (wS ts pts[i]! [1, 2, 3]) Aa[i]!)).length
    · repeat' (first | (apply id_rw; first | (apply rx_move;rfl;rfl) | (apply rx_load1;rfl;rfl;rfl;rfl) | (first | (apply rx_add; (case hx | hy => rfl); (case h => omega); (case hN => rfl)) | (apply rx_bin;rfl;rfl;rfl;rfl)) | (apply rx_assign;rfl;rfl) | (apply rx_indexFN; (case hx | hi => rfl); (case hm => (assumption)); (case hml => (rfl)); (case hα | hf | hg => infer_instance); (case hN => rfl)) | (apply rx_append; (case hx | hy | hze | he0 | hH => rfl); (case hl => (rw [flat_length]; omega)); (case hs' => (rfl)); (case hbig => omega); (case hmx => omega); (case hcs => (exact app_iss (by (assumption)))); (case hM | hN => rfl)) | (apply rw_nil; (case hf => kernel_rfl)) | (apply rx_buildK; (case hl => rfl); (case hf => (exact (rfl : _ = some [_, _, _]))); (case hk => (exact (rfl : _ = [_, _, _]))); (case hN => rfl)) | ((apply rx_buildSliceI (t := _)); (case hze | hsm | hl => rfl); (case hfl => (exact (rfl : _ = some [_, _, _]))); (case hM | hN => rfl))) | (apply id_aw; first | apply aw_seq | apply aw_region | (apply aw_cond; (case hc => rfl); all_goals (intro hc; have hq := hc; (try simp only [bqs] at hq); (try (exfalso; omega)))) | apply aw_block | apply aw_skip) | with_reducible apply tq_normal | with_reducible apply bq_normal)
      (apply Exists.intro (j + 1, _, _); refine And.intro ?_ (And.intro ?_ ?_); rotate_left 2; focus (refine Le.ren [(0, 3)] rfl (by decide) ?_ ?_ <;> repeat' (first | exact trivial | refine And.intro ⟨_, rfl, ?_⟩ ?_ | refine And.intro ⟨_, _, rfl, rfl, ?_⟩ ?_ | exact Or.inr rfl | refine Or.inl ⟨?_, (by first | rfl | exact pur_sl _ _ | exact Pur.pf)⟩ | rfl)))
      · dsimp only
        refine ⟨by omega, ?_, by simp; omega, by omega⟩
        rw [hu2]; unfold issU; rw [map_take_succ _ _ _ hjn, List.append_assoc]
      · dsimp only; omega
    · have hu3 : u2 = u ++ issU i (bitsI (anl (wS ts pts[i]! [1, 2, 3]) Aa[i]!)) := by rw [hu2, List.take_of_length_le (by omega)]
      repeat' (first | (apply id_rw; first | (apply rx_move;rfl;rfl) | (apply rx_load1;rfl;rfl;rfl;rfl) | (first | (apply rx_andN; (case hx | hy => rfl); (case hk | ha | hb => infer_instance); (case hN => rfl)) | (apply rx_bin;rfl;rfl;rfl;rfl)) | (apply rx_indexFN; (case hx | hi => rfl); (case hm => (assumption)); (case hml => (omega)); (case hα | hf | hg => infer_instance); (case hN => rfl)) | (first | ((with_reducible apply rx_callE (k := 66)); (case ha => rfl); (case h => (apply kept_c <;> (first | assumption | omega))); (case hp => (exact Pur.pf)); (case hN => rfl)) | ((with_reducible apply rx_callE (k := 71)); (case ha => rfl); (case h => (apply loanBits_c <;> (assumption))); (case hp => (rfl)); (case hN => rfl)) | ((with_reducible apply rx_callE (k := 72)); (case ha => rfl); (case h => (apply against_c <;> (first | assumption | omega))); (case hp => (exact Pur.pf)); (case hN => rfl))) | (apply rx_len;rfl;rfl;rfl) | ((with_reducible apply rx_callC); (case hx | hcl => rfl); (case hc => infer_instance); (case ha => rfl); (case h => (apply issues1_c <;> (first | assumption | omega))); (case hp => (exact Pur.pf)); (case hN => rfl)) | (apply rw_nil; (case hf => kernel_rfl))) | (apply id_aw; first | apply aw_seq | apply aw_region | (apply aw_draw; (case hm => kernel_rfl)) | (apply aw_cond; (case hc => rfl); all_goals (intro hc; have hq := hc; (try simp only [bqs] at hq); (try (exfalso; omega)))) | apply aw_block | apply aw_exit) | with_reducible apply tq_normal | with_reducible apply tq_exit | with_reducible apply bq_here)
      generalize hL : bitsI (agF pts (kpF ts pts[(i : Int).toNat]! Al[i]! (row6 Af (i : Int).toNat) &&& Ap[i]!) (accF ts pts[(i : Int).toNat]! (Am[i]!.testBit (setAt pts[(i : Int).toNat]!).toNat)) 0) = L2
      have hL2 : bitsI (cfN ts pts Am Al Af Ap i) = L2 := hL
      have hbd : ∀ j, j < L2.length → 0 ≤ L2[j]! ∧ L2[j]! < pts.length := fun j h => by rw [← hL2] at h ⊢; exact bitsI_bd hcf h
      rw [hL2] at hb2
      refine aw_loopK (σ := Nat × List Iss × Nat) [0, 1, 2, 7, 8, 9, 11, 27, 28, 29, 77, 78] [(0, _), (1, _), (2, _), (7, _), (8, _), (9, _), (11, _), (27, _), (28, _), (29, _), (77, _), (78, _)] [] [] (fun l => [(79, iv (l.1 : Int)), (10, .own 0 0 l.2.2 3)]) (fun l => [(0, some (flat cIss l.2.1))]) (fun l => l.1 ≤ L2.length ∧ l.2.1 = u2 ++ issC pts i (L2.take l.1) ∧ l.2.2 = l.2.1.length ∧ l.2.2 ≤ i * 124 + 62 + l.1) (fun l => L2.length - l.1) (0, u2, m2) ⟨by omega, by simp [issC], hm2, Nat.le_trans hmk2 (by omega)⟩ rfl rfl (by repeat' (first | exact trivial | refine And.intro rfl ?_)) (by repeat' (first | exact trivial | refine And.intro (.inr rfl) ?_)) ?_
      rintro ⟨l, u4, m4⟩ ⟨hl, hu4, hm4, hmk4⟩
      dsimp only at hl hu4 hm4 hmk4 ⊢
      by_cases hln : l < L2.length
      · have hbl := hbd l hln
        repeat' (first | (apply id_rw; first | (apply rx_move;rfl;rfl) | (apply rx_load1;rfl;rfl;rfl;rfl) | (apply rx_fieldAddr;rfl;rfl;rfl) | (first | (apply rx_add; (case hx | hy => rfl); (case h => omega); (case hN => rfl)) | (apply rx_bin;rfl;rfl;rfl;rfl)) | (apply rx_assign;rfl;rfl) | (first | (apply rx_indexFN; (case hx | hi => rfl); (case hm => (assumption)); (case hml => (rfl)); (case hα | hf | hg => infer_instance); (case hN => rfl)) | (apply rx_indexF; (case hx | hi => rfl); (case hm => (assumption)); (case hml => (rfl)); (case hα | hf | hg => infer_instance); (case hN => rfl))) | (apply rx_append; (case hx | hy | hze | he0 | hH => rfl); (case hl => (rw [flat_length]; omega)); (case hs' => (rfl)); (case hbig => omega); (case hmx => omega); (case hcs => (exact app_iss (by (assumption)))); (case hM | hN => rfl)) | (apply rw_nil; (case hf => kernel_rfl)) | (apply rx_buildK; (case hl => rfl); (case hf => (exact (rfl : _ = some [_, _, _]))); (case hk => (exact (rfl : _ = [_, _, _]))); (case hN => rfl)) | (apply rx_nil;rfl;rfl;rfl) | ((apply rx_buildSliceI (t := _)); (case hze | hsm | hl => rfl); (case hfl => (exact (rfl : _ = some [_, _, _]))); (case hM | hN => rfl))) | (apply id_aw; first | apply aw_seq | apply aw_region | (apply aw_cond; (case hc => rfl); all_goals (intro hc; have hq := hc; (try simp only [bqs] at hq); (try (exfalso; omega)))) | apply aw_block | apply aw_skip) | with_reducible apply tq_normal | with_reducible apply bq_normal)
        · (apply Exists.intro (l + 1, _, _); refine And.intro ?_ (And.intro ?_ ?_); rotate_left 2; focus (refine Le.ren [(0, 3)] rfl (by decide) ?_ ?_ <;> repeat' (first | exact trivial | refine And.intro ⟨_, rfl, ?_⟩ ?_ | refine And.intro ⟨_, _, rfl, rfl, ?_⟩ ?_ | exact Or.inr rfl | refine Or.inl ⟨?_, (by first | rfl | exact pur_sl _ _ | exact Pur.pf)⟩ | rfl)))
          · dsimp only
            refine ⟨by omega, ?_, by simp; omega, by omega⟩
            rw [hu4]; unfold issC; rw [map_take_succ _ _ _ hln, List.append_assoc, if_pos hq]
          · dsimp only; omega
        · (apply Exists.intro (l + 1, _, _); refine And.intro ?_ (And.intro ?_ ?_); rotate_left 2; focus (refine Le.ren [(0, 3)] rfl (by decide) ?_ ?_ <;> repeat' (first | exact trivial | refine And.intro ⟨_, rfl, ?_⟩ ?_ | refine And.intro ⟨_, _, rfl, rfl, ?_⟩ ?_ | exact Or.inr rfl | refine Or.inl ⟨?_, (by first | rfl | exact pur_sl _ _ | exact Pur.pf)⟩ | rfl)))
          · dsimp only
            refine ⟨by omega, ?_, by simp; omega, by omega⟩
            rw [hu4]; unfold issC; rw [map_take_succ _ _ _ hln, List.append_assoc, if_neg hq]
          · dsimp only; omega
      · repeat' (first | (apply id_rw; first | (apply rx_move;rfl;rfl) | (first | (apply rx_add; (case hx | hy => rfl); (case h => omega); (case hN => rfl)) | (apply rx_bin;rfl;rfl;rfl;rfl)) | (apply rw_nil; (case hf => kernel_rfl))) | (apply id_aw; first | apply aw_seq | apply aw_region | (apply aw_cond; (case hc => rfl); all_goals (intro hc; have hq := hc; (try simp only [bqs] at hq); (try (exfalso; omega)))) | apply aw_exit) | with_reducible apply tq_normal | with_reducible apply tq_exit | with_reducible apply bq_normal | with_reducible apply bq_here)
        (apply Exists.intro (i + 1, u4, m4); refine And.intro ?_ (And.intro ?_ ?_); rotate_left 2; focus (refine Le.ren [(0, 0)] rfl (by decide) ?_ ?_ <;> repeat' (first | exact trivial | refine And.intro ⟨_, rfl, ?_⟩ ?_ | refine And.intro ⟨_, _, rfl, rfl, ?_⟩ ?_ | exact Or.inr rfl | refine Or.inl ⟨?_, (by first | rfl | exact pur_sl _ _ | exact Pur.pf)⟩ | rfl)))
        · dsimp only
          refine ⟨by omega, ?_, hm4, by omega⟩
          rw [issF_succ, hu4, List.take_of_length_le (by omega), hu3, ← hL2, hu, List.append_assoc]; rfl
        · dsimp only; omega
  · repeat' (first | (apply id_rw; first | (apply rx_move;rfl;rfl) | (apply rx_bin;rfl;rfl;rfl;rfl) | (apply rx_assign;rfl;rfl) | (apply rw_nil; (case hf => kernel_rfl))) | (apply id_aw; first | apply aw_seq | apply aw_region | (apply aw_cond; (case hc => rfl); all_goals (intro hc; have hq := hc; (try simp only [bqs] at hq); (try (exfalso; omega)))) | apply aw_exit | apply aw_ret) | with_reducible apply tq_normal | with_reducible apply tq_exit | with_reducible apply bq_here)
    (refine rq_le (Le.frzD (d := 6) (i := 0) rfl rfl) ?_; refine rq_ret rfl ?_)
    refine ⟨?_, (by (exact pur_sl _ _))⟩
    simp only [oneOf, sl]
    rw [hm, hu, show i = pts.length by omega]
end Go.Proofs.YtejkbiijonnefaaGreat

namespace Go.Proofs.YtejkbiijonnefaaGreat
open Go.AL Go.RowKit

theorem issuesI_c (ts : List Int) (bd : List AL.Stmt) (pts : List Pnt) (w : WG ts pts) (f : Flows ts pts) : PC Tryz.prog 63 [aG ts bd pts] (fun r => r = sl cIss f.iss) := by
  have hpl := w.pl
  (refine pc_of_aw Tryz.func63 rfl (by simp [Tryz.ntmps63]) ?_; rw [Tryz.ntmps63])
  repeat' (first | (apply id_rw; first | (apply rx_makeFuncFrz;rfl;rfl;rfl) | ((with_reducible apply rx_callE (k := 69)); (case ha => rfl); (case h => exact loansIn_c ts bd pts f.Af w f.gf); (case hp => exact Pur.pf); (case hN => rfl)) | ((with_reducible apply rx_callE (k := 129)); (case ha => rfl); (case h => exact liveAfter_c ts bd pts f.An f.Al w f.gn f.gl); (case hp => exact Pur.pf); (case hN => rfl)) | ((with_reducible apply rx_callE (k := 128)); (case ha => rfl); (case h => exact check_c ts bd pts f.Aa f.Am f.Al f.Af f.Ap _ w f.ga f.gm f.gl f.gf f.gp rfl); (case hp => exact Pur.pf); (case hN => rfl)) | (apply rx_move;rfl;rfl) | (apply rx_assign;rfl;rfl) | (apply rw_nil; (case hf => kernel_rfl)) | (apply rx_alloc;rfl;rfl) | (apply rx_store; (case hx | hy | hc | hn | hH => rfl); (case hl => (simp;done)); (case hcs => (exact (rfl : _ = [_]))))) | (apply id_aw; first | apply aw_seq | apply aw_region | apply aw_ret) | with_reducible apply tq_normal)
  refine rq_ret rfl ⟨rfl, (by (exact pur_sl _ _))⟩
theorem graphOf_c (p : Prg) (hl : p.types.length ≤ 1000000) (hs : cntL p.body ≤ 1000000) : PC Tryz.prog 62 [aPrg p, .v (.slice none 0 0)] (fun r => r = if validF p = true then .tup [aG p.types p.body (ptsF p), bv true] else .tup [.v (.pointer none), bv false]) := by
  have hpl := ptsF_len p
  have hnl := npL_le p.body
  (refine pc_of_aw Tryz.func62 rfl (by simp [Tryz.ntmps62]) ?_; rw [Tryz.ntmps62])
  repeat' (first | (apply id_rw; first | (apply rx_move;rfl;rfl) | (apply rx_loadA; (case hx | hd => rfl); (case hc => (exact (rfl : _ = [_, _]))); (case hn | h0 | hN => rfl)) | (apply rx_assign;rfl;rfl) | (first | ((with_reducible apply rx_callE (k := 56)); (case ha => rfl); (case h => (apply validI_c <;> (first | assumption | omega))); (case hp => (exact Pur.pf)); (case hN => rfl)) | ((with_reducible apply rx_callE (k := 87)); (case ha => rfl); (case h => (apply points_c <;> (assumption))); (case hp => (exact Pur.pf)); (case hN => rfl))) | (apply rx_len;rfl;rfl;rfl) | (apply rw_nil; (case hf => kernel_rfl)) | (apply rx_buildK; (case hl => rfl); (case hf => (exact (rfl : _ = some [_, _, _]))); (case hk => (exact (rfl : _ = [_, _, _]))); (case hN => rfl)) | (apply rx_not;rfl;rfl) | (apply rx_box;rfl;rfl;rfl;rfl)) | (apply id_aw; first | apply aw_seq | apply aw_region | (apply aw_draw; (case hm => kernel_rfl)) | (apply aw_cond; (case hc => rfl); all_goals (intro hc; have hq := hc; (try simp only [bqs] at hq); (try (exfalso; omega)))) | apply aw_block | apply aw_skip | apply aw_ret) | with_reducible apply tq_normal | with_reducible apply tq_ret)
  · refine rq_ret rfl ⟨?_, (by (rfl))⟩
    rw [if_neg (by simp [hq])]; rfl
  · refine aw_loopK (σ := Unit) [6, 17, 18] [(6, _), (17, _), (18, _)] [1] [(1, some _)] (fun _u => [(19, iv 0)]) (fun _u => []) (fun _u => True) (fun _u => 0) () trivial rfl rfl (by repeat' (first | exact trivial | refine And.intro rfl ?_)) (by repeat' (exact trivial)) ?_
    intro _ _
    repeat' (first | (apply id_rw; first | (apply rx_move;rfl;rfl) | (apply rx_bin;rfl;rfl;rfl;rfl) | (apply rx_assign;rfl;rfl) | (apply rw_nil; (case hf => kernel_rfl))) | (apply id_aw; first | apply aw_seq | apply aw_region | (apply aw_condF; (case hc => rfl); (case hb => (rfl))) | apply aw_exit | apply aw_ret) | with_reducible apply tq_normal | with_reducible apply tq_exit | with_reducible apply bq_here)
    refine rq_le (Le.frzP (d := 4) (i := 1) rfl rfl) ?_
    refine rq_ret rfl ⟨?_, (by show (AV.tup [aG p.types p.body (ptsF p), bv true]).pur = true; exact PurV.pf)⟩
    rw [if_pos hq]; rfl
def chkF (p : Prg) (f : Flows p.types (ptsF p)) : List Iss := if validF p = true then f.iss else []
theorem CheckI_c (p : Prg) (f : Flows p.types (ptsF p)) (hl : p.types.length ≤ 1000000) (hs : cntL p.body ≤ 1000000) : PC Tryz.prog 21 [aPrg p] (fun r => r = sl cIss (chkF p f)) := by
  unfold chkF
  cases hv : validF p
  · (refine pc_of_aw Tryz.func21 rfl (by simp [Tryz.ntmps21]) ?_; rw [Tryz.ntmps21])
    repeat' (first | (apply id_rw; first | ((with_reducible apply rx_callE (k := 62)); (case ha => rfl); (case h => exact (by have := graphOf_c p hl hs; rw [if_neg (by simp [hv])] at this; exact this)); (case hp => (exact Pur.pf)); (case hN => rfl)) | (apply rx_move;rfl;rfl) | (apply rx_loadA; (case hx | hd => rfl); (case hc => (exact (rfl : _ = [_, _]))); (case hn | h0 | hN => rfl)) | (apply rx_assign;rfl;rfl) | (apply rw_nil; (case hf => kernel_rfl)) | (apply rx_not;rfl;rfl) | (apply rx_box;rfl;rfl;rfl;rfl) | (apply rx_extract;rfl;rfl;rfl)) | (apply id_aw; first | apply aw_seq | apply aw_region | (apply aw_condT; (case hc => rfl); (case hb => (rfl))) | apply aw_ret) | with_reducible apply tq_normal | with_reducible apply tq_ret)
    (refine rq_le (Le.nilImm (d := 2) rfl) ?_; refine rq_ret rfl ?_)
    exact ⟨rfl, rfl⟩
  · have w := WG.of_valid hv
    (refine pc_of_aw Tryz.func21 rfl (by simp [Tryz.ntmps21]) ?_; rw [Tryz.ntmps21])
    repeat' (first | (apply id_rw; first | ((with_reducible apply rx_callE (k := 62)); (case ha => rfl); (case h => exact (by have := graphOf_c p hl hs; rw [if_pos hv] at this; exact this)); (case hp => (exact Pur.pf)); (case hN => rfl)) | ((with_reducible apply rx_callE (k := 63)); (case ha => rfl); (case h => exact issuesI_c p.types p.body (ptsF p) w f); (case hp => (exact Pur.pf)); (case hN => rfl)) | (apply rx_move;rfl;rfl) | (apply rx_loadA; (case hx | hd => rfl); (case hc => (exact (rfl : _ = [_, _]))); (case hn | h0 | hN => rfl)) | (apply rx_assign;rfl;rfl) | (apply rw_nil; (case hf => kernel_rfl)) | (apply rx_not;rfl;rfl) | (apply rx_box;rfl;rfl;rfl;rfl) | (apply rx_extract;rfl;rfl;rfl)) | (apply id_aw; first | apply aw_seq | apply aw_region | (apply aw_condF; (case hc => rfl); (case hb => (rfl))) | apply aw_skip | apply aw_ret) | with_reducible apply tq_normal)
    exact rq_ret rfl ⟨rfl, (by (exact pur_sl _ _))⟩
def fstF (l : List Iss) : Iss × Bool := match l with | [] => (⟨0, 0, 0⟩, false) | x :: _ => (x, true)
end Go.Proofs.YtejkbiijonnefaaGreat

namespace Go.Proofs.YtejkbiijonnefaaGreat
open Go.AL Go.RowKit

instance : BoT Tryz.prog 4 := ⟨by kernel_rfl⟩
theorem l3Set_c (x : Pnt) : PC Tryz.prog 149 [aPnt x] (fun r => r = iv (setAt x)) := by
  (refine pc_of_aw Tryz.func149 rfl (by simp [Tryz.ntmps149]) ?_; rw [Tryz.ntmps149])
  repeat' (first | (apply id_rw; first | (apply rx_move;rfl;rfl) | (apply rx_load1;rfl;rfl;rfl;rfl) | (apply rx_fieldAddr;rfl;rfl;rfl) | (first | (apply rx_guardY; (case hj | hb | hN => rfl); (case hw => (assumption))) | (apply rx_guardNs; (case hj | hb | hN => rfl); (case hw => (assumption))) | (apply rx_guardS; (case hj | hb | hN => rfl); all_goals (intro hg; have hq := hg; (try simp only [bqs] at hq); (try (exfalso; omega))))) | (apply rx_bin;rfl;rfl;rfl;rfl) | (apply rx_assign;rfl;rfl) | (first | (apply rx_pickT; (case hc => rfl); (case hb => (assumption)); (case hx | hN => rfl)) | (apply rx_pickF; (case hc => rfl); (case hb => (assumption)); (case hx | hN => rfl))) | (apply rw_nil; (case hf => kernel_rfl)) | (apply rx_box;rfl;rfl;rfl;rfl)) | (apply id_aw; first | apply aw_seq | apply aw_region | (apply aw_condF; (case hc => rfl); (case hb => (rfl))) | (apply aw_cond; (case hc => rfl); all_goals (intro hc; have hq := hc; (try simp only [bqs] at hq); (try (exfalso; omega)))) | apply aw_skip | apply aw_ret) | with_reducible apply tq_normal | with_reducible apply tq_ret | ((with_reducible apply rq_ret); case hr => rfl))
  all_goals (refine ⟨?_, rfl⟩; simp only [oneOf, AV.v.injEq, Value.bool.injEq, Value.int.injEq, true_and])
  all_goals grind [setAt]
theorem l3Use_c (ts : List Int) (x : Pnt) (v : Int) (h : 0 ≤ v ∧ v < ts.length) : PC Tryz.prog 132 [sl cI ts, aPnt x, iv v] (fun r => r = iv (useAt ts x v)) := by
  (refine pc_of_aw Tryz.func132 rfl (by simp [Tryz.ntmps132]) ?_; rw [Tryz.ntmps132])
  repeat' (first | (apply id_rw; first | (apply rx_move;rfl;rfl) | (apply rx_load1;rfl;rfl;rfl;rfl) | (apply rx_fieldAddr;rfl;rfl;rfl) | (first | (apply rx_guardY; (case hj | hb | hN => rfl); (case hw => (assumption))) | (apply rx_guardNs; (case hj | hb | hN => rfl); (case hw => (assumption))) | (apply rx_guardS; (case hj | hb | hN => rfl); all_goals (intro hg; have hq := hg; (try simp only [bqs] at hq); (try (exfalso; omega))))) | (apply rx_bin;rfl;rfl;rfl;rfl) | (apply rx_assign;rfl;rfl) | (first | (apply rx_pickT; (case hc => rfl); (case hb => (assumption)); (case hx | hN => rfl)) | (apply rx_pickF; (case hc => rfl); (case hb => (assumption)); (case hx | hN => rfl))) | (apply rx_indexF; (case hx | hi => rfl); (case hm => (assumption)); (case hml => (rfl)); (case hα | hf | hg => infer_instance); (case hN => rfl)) | (apply rw_nil; (case hf => kernel_rfl)) | (apply rx_box;rfl;rfl;rfl;rfl)) | (apply id_aw; first | apply aw_seq | apply aw_region | (apply aw_condT; (case hc => rfl); (case hb => first | rfl | assumption)) | (apply aw_cond; (case hc => rfl); all_goals (intro hc; have hq := hc; (try simp only [bqs] at hq); (try (exfalso; omega)))) | apply aw_block | apply aw_skip | apply aw_ret) | with_reducible apply tq_normal | with_reducible apply tq_ret | with_reducible apply bq_normal | with_reducible apply bq_ret | ((with_reducible apply rq_ret); case hr => rfl))
  all_goals (refine ⟨?_, rfl⟩; simp only [oneOf, AV.v.injEq, Value.bool.injEq, Value.int.injEq, true_and])
  all_goals grind [useAt]
theorem l3Equal_c (a b : List Bool) (hab : a.length = b.length) (hl : a.length ≤ 1000000) : PC Tryz.prog 152 [sl cB a, sl cB b] (fun r => r = bv (decide (a = b))) := by
  (refine pc_of_aw Tryz.func152 rfl (by simp [Tryz.ntmps152]) ?_; rw [Tryz.ntmps152])
  repeat' (first | (apply id_rw; first | (apply rx_assign;rfl;rfl) | (apply rw_nil; (case hf => kernel_rfl))) | (apply id_aw; first | apply aw_seq | apply aw_region | apply aw_block) | with_reducible apply tq_normal)
  refine aw_loopK (σ := Nat) [0, 1] [(0, _), (1, _)] [] [] (fun k => [(5, iv (k : Int))]) (fun k => []) (fun k => k ≤ a.length ∧ ∀ i, i < k → a[i]! = b[i]!) (fun k => a.length - k) (0) ⟨by omega, by omega⟩ rfl rfl (by repeat' (first | exact trivial | refine And.intro rfl ?_)) (by repeat' (exact trivial)) ?_
  intro k ⟨hk, hall⟩
  repeat' (first | (apply id_rw; first | (apply rx_move;rfl;rfl) | (apply rx_load1;rfl;rfl;rfl;rfl) | (first | (apply rx_bbin;rfl;rfl;rfl;rfl) | (apply rx_add; (case hx | hy => rfl); (case h => omega); (case hN => rfl)) | (apply rx_bin;rfl;rfl;rfl;rfl)) | (apply rx_assign;rfl;rfl) | (apply rx_indexFN; (case hx | hi => rfl); (case hm => (omega)); (case hml => (rfl)); (case hα | hf | hg => infer_instance); (case hN => rfl)) | (apply rx_len;rfl;rfl;rfl) | (apply rw_nil; (case hf => kernel_rfl))) | (apply id_aw; first | apply aw_seq | apply aw_region | (apply aw_draw; (case hm => kernel_rfl)) | (apply aw_cond; (case hc => rfl); all_goals (intro hc; have hq := hc; (try simp only [bqs] at hq); (try (exfalso; omega)))) | apply aw_block | apply aw_skip | apply aw_exit | apply aw_ret) | with_reducible apply tq_normal | with_reducible apply tq_ret | with_reducible apply tq_exit | with_reducible apply bq_normal | with_reducible apply bq_ret | with_reducible apply bq_here | ((with_reducible apply rq_ret); case hr => rfl))
  · refine ⟨?_, (by (rfl))⟩
    simp only [oneOf]
    have : a ≠ b := fun e => by subst e; exact absurd rfl ‹¬_›
    rw [decide_eq_false this]
  · (apply Exists.intro (k + 1); refine And.intro ?_ (And.intro ?_ ?_); rotate_left 2; focus (refine Le.ren [] rfl (by decide) ?_ ?_ <;> repeat' (first | exact trivial | refine And.intro ⟨_, rfl, ?_⟩ ?_ | refine Or.inl ⟨?_, (by first | rfl | exact pur_sl _ _)⟩ | rfl)))
    · refine ⟨by omega, fun i hi => ?_⟩
      by_cases h : i = k
      · subst h; assumption
      · exact hall i (by omega)
    · try dsimp only
      omega
  · refine ⟨?_, (by (rfl))⟩
    simp only [oneOf]
    have : a = b := ext_get hab fun i hi => hall i (by omega)
    rw [decide_eq_true this, decide_eq_true (by omega)]
theorem l3After_c (ts : List Int) (x : Pnt) (b : List Bool) (hb : b.length = ts.length) (hl : ts.length ≤ 6) (hs : setAt x < ts.length) : PC Tryz.prog 150 [sl cI ts, aPnt x, sl cB b] (fun r => r = sl cB (aftB ts x b)) := by
  (refine pc_of_aw Tryz.func150 rfl (by simp [Tryz.ntmps150]) ?_; rw [Tryz.ntmps150])
  repeat' (first | (apply id_rw; first | (apply rx_move;rfl;rfl) | (apply rx_assign;rfl;rfl) | (apply rx_append; (case hx | hy | hze | he0 | hH => rfl); (case hl => (simp [flat_length]; done)); (case hs' => (exact sC_imm (by (rfl)))); (case hbig => omega); (case hmx => omega); (case hcs => (exact app_nilF (by (omega)))); (case hM | hN => rfl)) | (apply rw_nil; (case hf => kernel_rfl)) | (apply rx_box;rfl;rfl;rfl;rfl) | (apply rx_buildSlice; (case hze | hsm | hl => rfl); (case hfl => (rfl)); (case hM | hN => rfl))) | (apply id_aw; first | apply aw_seq | apply aw_region | apply aw_block) | with_reducible apply tq_normal)
  refine aw_loopK (σ := Nat × List Bool) [0, 4, 7] [(0, _), (4, _), (7, _)] [0] [(0, some _)] (fun k => [(8, iv (k.1 : Int))]) (fun k => [(2, some (flat cB k.2))]) (fun k => k.1 ≤ b.length ∧ k.2.length = b.length ∧ (∀ i, i < b.length → k.2[i]! = if i < k.1 ∧ useAt ts x i = 2 then false else b[i]!)) (fun k => b.length - k.1) (0, b) ⟨by omega, rfl, by intro i hi; rw [if_neg (by omega)]⟩ rfl rfl (by repeat' (first | exact trivial | refine And.intro rfl ?_)) (by repeat' (first | exact trivial | refine And.intro (.inr rfl) ?_)) ?_
  rintro ⟨k, u⟩ ⟨hk, hul, hu⟩
  dsimp only at hk hul hu
  try dsimp only
  repeat' (first | (apply id_rw; first | (apply rx_move;rfl;rfl) | (apply rx_loadA; (case hx | hd => rfl); (case hc => (exact (rfl : _ = [_, _, _, _, _]))); (case hn | h0 | hN => rfl)) | (first | (apply rx_add; (case hx | hy => rfl); (case h => omega); (case hN => rfl)) | (apply rx_bin;rfl;rfl;rfl;rfl)) | (apply rx_assign;rfl;rfl) | (first | (apply rx_indexON; (case hx | hi => rfl); (case hm => (omega)); (case hN => rfl)) | (apply rx_indexO; (case hx | hi => rfl); (case hm => (omega)); (case hN => rfl))) | (first | ((with_reducible apply rx_callE (k := 132)); (case ha => rfl); (case h => (apply l3Use_c <;> (omega))); (case hp => (exact Pur.pf)); (case hN => rfl)) | ((with_reducible apply rx_callE (k := 149)); (case ha => rfl); (case h => (apply l3Set_c <;> (fail))); (case hp => (exact Pur.pf)); (case hN => rfl))) | (apply rx_len;rfl;rfl;rfl) | (apply rw_nil; (case hf => kernel_rfl)) | (apply rx_store; (case hx | hy | hc | hn | hH => rfl); (case hl => (rw [flat_length]; simp only [lns] <;> omega)); (case hcs => (exact st_bool (by (omega)))))) | (apply id_aw; first | apply aw_seq | apply aw_region | (apply aw_cond; (case hc => rfl); all_goals (intro hc; have hq := hc; (try simp only [bqs] at hq); (try (exfalso; omega)))) | apply aw_block | apply aw_skip | apply aw_exit | apply aw_ret) | with_reducible apply tq_normal | with_reducible apply tq_exit | with_reducible apply bq_normal | with_reducible apply bq_here)
  · (apply Exists.intro (k + 1, _); refine And.intro ?_ (And.intro ?_ ?_); rotate_left 2; focus (refine Le.ren [(2, 2), (0, 0)] rfl (by decide) ?_ ?_ <;> repeat' (first | exact trivial | refine And.intro ⟨_, rfl, ?_⟩ ?_ | refine And.intro ⟨_, _, rfl, rfl, ?_⟩ ?_ | exact Or.inr rfl | refine Or.inl ⟨?_, (by first | rfl | exact pur_sl _ _ | exact Pur.pf)⟩ | rfl)))
    · refine ⟨(by show k + 1 ≤ b.length; omega), (by show (u.set k false).length = b.length; simp; omega), fun i hi => ?_⟩
      show (u.set k false)[i]! = if i < k + 1 ∧ _ then _ else _
      rw [set_get, hu i hi]; grind
    · show b.length - (k + 1) < b.length - k; omega
  · (apply Exists.intro (k + 1, _); refine And.intro ?_ (And.intro ?_ ?_); rotate_left 2; focus (refine Le.ren [(2, 2), (0, 0)] rfl (by decide) ?_ ?_ <;> repeat' (first | exact trivial | refine And.intro ⟨_, rfl, ?_⟩ ?_ | refine And.intro ⟨_, _, rfl, rfl, ?_⟩ ?_ | exact Or.inr rfl | refine Or.inl ⟨?_, (by first | rfl | exact pur_sl _ _ | exact Pur.pf)⟩ | rfl)))
    · refine ⟨(by show k + 1 ≤ b.length; omega), hul, fun i hi => ?_⟩
      show u[i]! = if i < k + 1 ∧ _ then _ else _
      rw [hu i hi]; grind
    · show b.length - (k + 1) < b.length - k; omega
  · refine rq_le (Le.frzD (d := 6) (i := 2) rfl rfl) ?_
    refine rq_ret rfl ⟨?_, (by (exact pur_sl _ _))⟩
    have e : u.set (setAt x).toNat true = aftB ts x b := ext_get (by rw [aftB_len]; simp; omega) fun i hi => by
      rw [aftB_get _ _ _ _ (by simp at hi; omega), set_get, hu i (by simp at hi; omega)]
      grind
    simp only [oneOf, e, Nat.zero_add, sl, aftB_len]
  · refine rq_le (Le.frzD (d := 6) (i := 2) rfl rfl) ?_
    refine rq_ret rfl ⟨?_, (by (exact pur_sl _ _))⟩
    have e : u = aftB ts x b := ext_get (by rw [aftB_len]; omega) fun i hi => by
      rw [aftB_get _ _ _ _ (by omega), hu i (by omega)]
      grind
    rw [e]
    simp only [oneOf, Nat.zero_add, sl, aftB_len]
theorem l3Join_c (o a : List Bool) (all : Bool) (ho : o.length = 0 ∨ o.length = a.length) (hl : a.length ≤ 1000000) : PC Tryz.prog 151 [sl cB o, sl cB a, bv all] (fun r => r = sl cB (jnB o a all)) := by
  (refine pc_of_aw Tryz.func151 rfl (by simp [Tryz.ntmps151]) ?_; rw [Tryz.ntmps151])
  cases all
  · repeat' (first | (apply id_rw; first | (apply rx_move;rfl;rfl) | (apply rx_assign;rfl;rfl) | (apply rx_append; (case hx | hy | hze | he0 | hH => rfl); (case hl => (simp [flat_length]; done)); (case hs' => (exact sC_imm (by (rfl)))); (case hbig => omega); (case hmx => omega); (case hcs => (exact app_nilF (by (omega)))); (case hM | hN => rfl)) | (apply rw_nil; (case hf => kernel_rfl)) | (apply rx_buildSlice; (case hze | hsm | hl => rfl); (case hfl => (rfl)); (case hM | hN => rfl))) | (apply id_aw; first | apply aw_seq | apply aw_region | apply aw_block) | with_reducible apply tq_normal)
    refine aw_loopK (σ := Nat × List Bool) [0, 1, 2, 7] [(0, _), (1, _), (2, _), (7, _)] [] [] (fun k => [(8, iv (k.1 : Int))]) (fun k => [(1, some (flat cB k.2))]) (fun k => k.1 ≤ o.length ∧ k.2.length = a.length ∧ (∀ i, i < a.length → k.2[i]! = if i < k.1 then o[i]! || a[i]! else a[i]!)) (fun k => o.length - k.1) (0, a) ⟨by omega, rfl, by intro i hi; rw [if_neg (by omega)]⟩ rfl rfl (by repeat' (first | exact trivial | refine And.intro rfl ?_)) (by repeat' (first | exact trivial | refine And.intro (.inr rfl) ?_)) ?_
    rintro ⟨k, u⟩ ⟨hk, hul, hu⟩
    dsimp only at hk hul hu
    try dsimp only
    repeat' (first | (apply id_rw; first | (apply rx_move;rfl;rfl) | (apply rx_load1;rfl;rfl;rfl;rfl) | (first | (apply rx_guardY; (case hj | hb | hN => rfl); (case hw => (assumption))) | (apply rx_guardNs; (case hj | hb | hN => rfl); (case hw => (assumption))) | (apply rx_guardS; (case hj | hb | hN => rfl); all_goals (intro hg; have hq := hg; (try simp only [bqs] at hq); (try (exfalso; omega))))) | (first | (apply rx_add; (case hx | hy => rfl); (case h => omega); (case hN => rfl)) | (apply rx_bin;rfl;rfl;rfl;rfl)) | (apply rx_assign;rfl;rfl) | (first | (apply rx_pickT; (case hc => rfl); (case hb => (assumption)); (case hx | hN => rfl)) | (apply rx_pickF; (case hc => rfl); (case hb => (assumption)); (case hx | hN => rfl))) | (first | (apply rx_indexFN; (case hx | hi => rfl); (case hm => (omega)); (case hml => (rfl)); (case hα | hf | hg => infer_instance); (case hN => rfl)) | (apply rx_indexON; (case hx | hi => rfl); (case hm => (omega)); (case hN => rfl))) | (apply rx_len;rfl;rfl;rfl) | (apply rw_nil; (case hf => kernel_rfl)) | (apply rx_store; (case hx | hy | hc | hn | hH => rfl); (case hl => (rw [flat_length]; simp only [lns] <;> omega)); (case hcs => (exact st_bool (by (omega)))))) | (apply id_aw; first | apply aw_seq | apply aw_region | (apply aw_condF; (case hc => rfl); (case hb => (rfl))) | (apply aw_cond; (case hc => rfl); all_goals (intro hc; have hq := hc; (try simp only [bqs] at hq); (try (exfalso; omega)))) | apply aw_block | apply aw_skip | apply aw_exit | apply aw_ret) | with_reducible apply tq_normal | with_reducible apply tq_exit | with_reducible apply bq_normal | with_reducible apply bq_here)
    · (apply Exists.intro (k + 1, _); refine And.intro ?_ (And.intro ?_ ?_); rotate_left 2; focus (refine Le.ren [(1, 1)] rfl (by decide) ?_ ?_ <;> repeat' (first | exact trivial | refine And.intro ⟨_, rfl, ?_⟩ ?_ | refine And.intro ⟨_, _, rfl, rfl, ?_⟩ ?_ | exact Or.inr rfl | refine Or.inl ⟨?_, (by first | rfl | exact pur_sl _ _)⟩ | rfl)))
      · refine ⟨(by show k + 1 ≤ o.length; omega), (by show (u.set k a[k]!).length = a.length; simp; omega), fun i hi => ?_⟩
        show (u.set k a[k]!)[i]! = if i < k + 1 then _ else _
        rw [set_get, hu i hi]; grind
      · show o.length - (k + 1) < o.length - k; omega
    · (apply Exists.intro (k + 1, _); refine And.intro ?_ (And.intro ?_ ?_); rotate_left 2; focus (refine Le.ren [(1, 1)] rfl (by decide) ?_ ?_ <;> repeat' (first | exact trivial | refine And.intro ⟨_, rfl, ?_⟩ ?_ | refine And.intro ⟨_, _, rfl, rfl, ?_⟩ ?_ | exact Or.inr rfl | refine Or.inl ⟨?_, (by first | rfl | exact pur_sl _ _)⟩ | rfl)))
      · refine ⟨(by show k + 1 ≤ o.length; omega), (by show (u.set k true).length = a.length; simp; omega), fun i hi => ?_⟩
        show (u.set k true)[i]! = if i < k + 1 then _ else _
        rw [set_get, hu i hi]; grind
      · show o.length - (k + 1) < o.length - k; omega
    · refine rq_le (Le.frzD (d := 6) (i := 1) rfl rfl) ?_
      refine rq_ret rfl ⟨?_, (by (exact pur_sl _ _))⟩
      have e : u = jnB o a false := ext_get (by rw [jnB_len]; omega) fun i hi => by
        rw [jnB_get _ _ _ _ (by omega), hu i (by omega)]
        grind
      rw [e]
      simp only [oneOf, Nat.zero_add, sl, jnB_len]
  · repeat' (first | (apply id_rw; first | (apply rx_move;rfl;rfl) | (apply rx_assign;rfl;rfl) | (apply rx_append; (case hx | hy | hze | he0 | hH => rfl); (case hl => (simp [flat_length]; done)); (case hs' => (exact sC_imm (by (rfl)))); (case hbig => omega); (case hmx => omega); (case hcs => (exact app_nilF (by (omega)))); (case hM | hN => rfl)) | (apply rw_nil; (case hf => kernel_rfl)) | (apply rx_buildSlice; (case hze | hsm | hl => rfl); (case hfl => (rfl)); (case hM | hN => rfl))) | (apply id_aw; first | apply aw_seq | apply aw_region | apply aw_block) | with_reducible apply tq_normal)
    refine aw_loopK (σ := Nat × List Bool) [0, 1, 2, 7] [(0, _), (1, _), (2, _), (7, _)] [] [] (fun k => [(8, iv (k.1 : Int))]) (fun k => [(1, some (flat cB k.2))]) (fun k => k.1 ≤ o.length ∧ k.2.length = a.length ∧ (∀ i, i < a.length → k.2[i]! = if i < k.1 then o[i]! && a[i]! else a[i]!)) (fun k => o.length - k.1) (0, a) ⟨by omega, rfl, by intro i hi; rw [if_neg (by omega)]⟩ rfl rfl (by repeat' (first | exact trivial | refine And.intro rfl ?_)) (by repeat' (first | exact trivial | refine And.intro (.inr rfl) ?_)) ?_
    rintro ⟨k, u⟩ ⟨hk, hul, hu⟩
    dsimp only at hk hul hu
    try dsimp only
    repeat' (first | (apply id_rw; first | (apply rx_move;rfl;rfl) | (apply rx_load1;rfl;rfl;rfl;rfl) | (first | (apply rx_guardY; (case hj | hb | hN => rfl); (case hw => (assumption))) | (apply rx_guardNs; (case hj | hb | hN => rfl); (case hw => (assumption))) | (apply rx_guardS; (case hj | hb | hN => rfl); all_goals (intro hg; have hq := hg; (try simp only [bqs] at hq); (try (exfalso; omega))))) | (first | (apply rx_add; (case hx | hy => rfl); (case h => omega); (case hN => rfl)) | (apply rx_bin;rfl;rfl;rfl;rfl)) | (apply rx_assign;rfl;rfl) | (first | (apply rx_pickT; (case hc => rfl); (case hb => (assumption)); (case hx | hN => rfl)) | (apply rx_pickF; (case hc => rfl); (case hb => (assumption)); (case hx | hN => rfl))) | (first | (apply rx_indexFN; (case hx | hi => rfl); (case hm => (omega)); (case hml => (rfl)); (case hα | hf | hg => infer_instance); (case hN => rfl)) | (apply rx_indexON; (case hx | hi => rfl); (case hm => (omega)); (case hN => rfl))) | (apply rx_len;rfl;rfl;rfl) | (apply rw_nil; (case hf => kernel_rfl)) | (apply rx_store; (case hx | hy | hc | hn | hH => rfl); (case hl => (rw [flat_length]; simp only [lns] <;> omega)); (case hcs => (exact st_bool (by (omega)))))) | (apply id_aw; first | apply aw_seq | apply aw_region | (apply aw_condT; (case hc => rfl); (case hb => (rfl))) | (apply aw_cond; (case hc => rfl); all_goals (intro hc; have hq := hc; (try simp only [bqs] at hq); (try (exfalso; omega)))) | apply aw_block | apply aw_skip | apply aw_exit | apply aw_ret) | with_reducible apply tq_normal | with_reducible apply tq_exit | with_reducible apply bq_normal | with_reducible apply bq_here)
    · (apply Exists.intro (k + 1, _); refine And.intro ?_ (And.intro ?_ ?_); rotate_left 2; focus (refine Le.ren [(1, 1)] rfl (by decide) ?_ ?_ <;> repeat' (first | exact trivial | refine And.intro ⟨_, rfl, ?_⟩ ?_ | refine And.intro ⟨_, _, rfl, rfl, ?_⟩ ?_ | exact Or.inr rfl | refine Or.inl ⟨?_, (by first | rfl | exact pur_sl _ _)⟩ | rfl)))
      · refine ⟨(by show k + 1 ≤ o.length; omega), (by show (u.set k a[k]!).length = a.length; simp; omega), fun i hi => ?_⟩
        show (u.set k a[k]!)[i]! = if i < k + 1 then _ else _
        rw [set_get, hu i hi]; grind
      · show o.length - (k + 1) < o.length - k; omega
    · (apply Exists.intro (k + 1, _); refine And.intro ?_ (And.intro ?_ ?_); rotate_left 2; focus (refine Le.ren [(1, 1)] rfl (by decide) ?_ ?_ <;> repeat' (first | exact trivial | refine And.intro ⟨_, rfl, ?_⟩ ?_ | refine And.intro ⟨_, _, rfl, rfl, ?_⟩ ?_ | exact Or.inr rfl | refine Or.inl ⟨?_, (by first | rfl | exact pur_sl _ _)⟩ | rfl)))
      · refine ⟨(by show k + 1 ≤ o.length; omega), (by show (u.set k false).length = a.length; simp; omega), fun i hi => ?_⟩
        show (u.set k false)[i]! = if i < k + 1 then _ else _
        rw [set_get, hu i hi]; grind
      · show o.length - (k + 1) < o.length - k; omega
    · refine rq_le (Le.frzD (d := 6) (i := 1) rfl rfl) ?_
      refine rq_ret rfl ⟨?_, (by (exact pur_sl _ _))⟩
      have e : u = jnB o a true := ext_get (by rw [jnB_len]; omega) fun i hi => by
        rw [jnB_get _ _ _ _ (by omega), hu i (by omega)]
        grind
      rw [e]
      simp only [oneOf, Nat.zero_add, sl, jnB_len]
end Go.Proofs.YtejkbiijonnefaaGreat

namespace Go.Proofs.YtejkbiijonnefaaGreat
open Go.AL Go.RowKit

theorem l3Forward_c (p : Prg) (all : Bool) (A : List Nat) (hs : cntL p.body ≤ 1000000) (w : WG p.types (ptsF p)) (hr : Rch (ptsF p)) (hA : GoodF2 p.types (ptsF p) all A) : PC Tryz.prog 81 [aPrg p, bv all] (fun r => r = sl cBB (rowsB p.types.length (ptsF p).length A)) := by
  have hpl := w.pl
  have hp0 := w.p0
  have htl := w.tl
  have hini := fw_init w all
  (refine pc_of_aw Tryz.func81 rfl (by simp [Tryz.ntmps81]) ?_; rw [Tryz.ntmps81])
  repeat' (first | (apply id_rw; first | ((with_reducible apply rx_callE (k := 106)); (case ha => rfl); (case h => exact l2Points_c p hs); (case hp => (exact Pur.pf)); (case hN => rfl)) | (with_reducible apply rw_stop (d := 22)) | (apply rx_move;rfl;rfl) | (apply rx_loadA; (case hx | hd => rfl); (case hc => (exact (rfl : _ = [_, _]))); (case hn | h0 | hN => rfl)) | (apply rx_assign;rfl;rfl) | (apply rx_len;rfl;rfl;rfl) | (apply rw_nil; (case hf => kernel_rfl)) | (apply rx_box;rfl;rfl;rfl;rfl) | (apply rx_makeSliceE; (case hx | hy | hze => rfl); (case hsm => omega); (case hmx => omega); (case hcs => first | exact mk_bool | rfl); (case hM | hN => rfl))) | (apply id_aw; first | apply aw_seq | apply aw_region) | with_reducible apply tq_normal)
  refine rw_go (rw_le ?_ (Le.nilRows (i := 0 + 1) rfl))
  repeat' (first | (apply id_rw; first | ((apply rx_mkB (d := 26)); (case hx | hy => rfl); (case hsm => omega); (case hmx => omega); (case hM | hN => rfl)) | (apply rx_move;rfl;rfl) | (apply rx_load1;rfl;rfl;rfl;rfl) | (apply rx_fieldAddr;rfl;rfl;rfl) | (apply rx_assign;rfl;rfl) | (apply rx_indexON; (case hx | hi => rfl); (case hm => (assumption)); (case hN => rfl)) | (apply rx_len;rfl;rfl;rfl) | (apply rw_nil; (case hf => kernel_rfl)) | (apply rx_buildSlice; (case hze | hsm | hl => rfl); (case hfl => (exact (rfl : _ = some [_]))); (case hM | hN => rfl)) | (apply rx_store; (case hx | hy | hc | hn | hH => rfl); (case hl => (rw [flat_length]; simp only [lns] <;> omega)); (case hcs => first | exact st_rows (by (simp only [lns] <;> omega)) | exact st_bool (by (simp only [lns] <;> omega))))) | (apply id_aw; first | apply aw_seq | apply aw_region | apply aw_block) | with_reducible apply tq_normal)
  refine aw_loopK (σ := Fw × Nat) [1, 2, 5, 6, 7] [(1, _), (2, _), (5, _), (6, _), (7, _)] [0] [(0, some _)] (fun s => [(8, .own 4 0 s.2 1)]) (fun s => [(1, some (flat cBB s.1.out)), (2, some (flat cB s.1.seen)), (4, some (flat cI s.1.work))]) (fun s => FI p.types (ptsF p) all s.1 ∧ FC p.types (ptsF p) all (fun _ => False) s.1 ∧ s.2 = s.1.work.length ∧ fwMu all p.types.length (ptsF p).length s.1 ≤ 10000) (fun s => fwMu all p.types.length (ptsF p).length s.1) (⟨(List.replicate (ptsF p).length []).set 0 (List.replicate p.types.length false), (List.replicate (ptsF p).length false).set 0 true, [0]⟩, 1) ⟨hini.1, hini.2, rfl, by have := fwMu_bd all p.types.length (ptsF p).length ⟨(List.replicate (ptsF p).length []).set 0 (List.replicate p.types.length false), (List.replicate (ptsF p).length false).set 0 true, [0]⟩ htl hpl; simp only [List.length_singleton] at this; show fwMu all p.types.length (ptsF p).length ⟨(List.replicate (ptsF p).length []).set 0 (List.replicate p.types.length false), (List.replicate (ptsF p).length false).set 0 true, [0]⟩ ≤ 10000; omega⟩ rfl rfl (by repeat' (first | exact trivial | refine And.intro rfl ?_)) (by repeat' (first | exact trivial | refine And.intro (.inr rfl) ?_)) ?_
  rintro ⟨⟨out, seen, work⟩, m⟩ ⟨hI, hC, hm, hmb⟩
  dsimp only at hI hC hm hmb
  have hlo := hI.lo
  have hls := hI.ls
  dsimp only at hlo hls
  cases work with
  | nil =>
    simp only [List.length_nil] at hm
    subst hm
    try dsimp only
    repeat' (first | (apply id_rw; first | (apply rx_move;rfl;rfl) | (apply rx_bin;rfl;rfl;rfl;rfl) | (apply rx_assign;rfl;rfl) | (apply rx_len;rfl;rfl;rfl) | (apply rw_nil; (case hf => kernel_rfl))) | (apply id_aw; first | apply aw_seq | apply aw_region | (apply aw_condF; (case hc => rfl); (case hb => (rfl))) | apply aw_exit | apply aw_ret) | with_reducible apply tq_normal | with_reducible apply tq_exit | with_reducible apply bq_here)
    refine rq_le (Le.frzD (d := 4) (i := 1) rfl rfl) ?_
    refine rq_ret rfl ⟨?_, (by (exact pur_sl _ _))⟩
    have e : out = rowsB p.types.length (ptsF p).length A := fw_final w hr hA hI hC rfl
    rw [e]
    simp only [oneOf, Nat.zero_add, sl, rowsB_len]
  | cons a q =>
    simp only [List.length_cons] at hm
    try dsimp only
    have hwa := hI.w a (List.mem_cons_self)
    have hon := hI.a a.toNat (by omega) hwa.2.2
    dsimp only at hwa hon
    have hset := (w.set a.toNat (by omega)).1
    repeat' (first | (apply id_rw; first | (with_reducible apply rw_stop (d := 8)) | (apply rx_sliceOw; (case hx | hl => rfl); (case hb => omega); (case hN => rfl)) | (apply rx_move;rfl;rfl) | (apply rx_load1;rfl;rfl;rfl;rfl) | (apply rx_bin;rfl;rfl;rfl;rfl) | (apply rx_assign;rfl;rfl) | (apply rx_indexO; (case hx | hi => rfl); (case hm => (omega)); (case hN => rfl)) | (apply rx_len;rfl;rfl;rfl) | (apply rw_nil; (case hf => kernel_rfl))) | (apply id_aw; first | apply aw_seq | apply aw_region | (apply aw_cond; (case hc => rfl); all_goals (intro hc; have hq := hc; (try simp only [bqs] at hq); (try (exfalso; omega)))) | apply aw_block | apply aw_skip) | with_reducible apply tq_normal)
    refine rw_go (rw_le ?_ (Le.mvO (d := 38) (i := 4) rfl rfl (by simp [flat_length]) (by decide)))
    have hmw := fwMu_wk all p.types.length (ptsF p).length ⟨out, seen, a :: q⟩
    simp only [List.length_cons] at hmw
    have hpop := fw_pop hI hC
    have hT := fw_hT hI hwa.2.2
    dsimp only at hT
    have hal : (aftB p.types (ptsF p)[a.toNat]! out[a.toNat]!).length = p.types.length := by rw [aftB_len]; exact hon
    repeat' (first | (apply id_rw; first | (apply rx_move;rfl;rfl) | (first | (apply rx_loadF0; (case hx | hH => rfl); (case hf | hg | hα => infer_instance); (case hk => omega); (case hc | hN => rfl)) | (apply rx_load1;rfl;rfl;rfl;rfl) | (apply rx_loadA; (case hx | hd => rfl); (case hc => (exact (rfl : _ = [_, _, _, _, _]))); (case hn | h0 | hN => rfl))) | (apply rx_fieldAddr;rfl;rfl;rfl) | (apply rx_assign;rfl;rfl) | (first | (apply rx_indexF; (case hx | hi => rfl); (case hm => (omega)); (case hml => (rfl)); (case hα | hf | hg => infer_instance); (case hN => rfl)) | (apply rx_indexO; (case hx | hi => rfl); (case hm => (omega)); (case hN => rfl))) | ((with_reducible apply rx_callE (k := 150)); (case ha => rfl); (case h => (apply l3After_c <;> (assumption))); (case hp => (exact Pur.pf)); (case hN => rfl)) | (apply rw_nil; (case hf => kernel_rfl))) | (apply id_aw; first | apply aw_seq | apply aw_region | (apply aw_draw; (case hm => kernel_rfl)) | apply aw_block) | with_reducible apply tq_normal)
    refine aw_loopK (σ := Nat × Fw × Nat) [1, 2, 5, 6, 7, 9, 10] [(1, _), (2, _), (5, _), (6, _), (7, _), (9, _), (10, _)] [0] [(0, some _)] (fun k => [(11, iv (k.1 : Int)), (8, .own 5 0 k.2.2 1)]) (fun k => [(1, some (flat cBB k.2.1.out)), (2, some (flat cB k.2.1.seen)), (5, some (flat cI k.2.1.work))]) (fun k => k.1 ≤ (ptsF p)[a.toNat]!.next.length ∧ FIn p.types (ptsF p) all a.toNat (aftB p.types (ptsF p)[a.toNat]! out[a.toNat]!) (fwMu all p.types.length (ptsF p).length ⟨out, seen, a :: q⟩ - 1) k.1 k.2.1 ∧ k.2.2 = k.2.1.work.length) (fun k => (ptsF p)[a.toNat]!.next.length - k.1) (0, ⟨out, seen, q⟩, m - 1) ⟨by omega, hpop, by show m - 1 = q.length; omega⟩ rfl rfl (by repeat' (first | exact trivial | refine And.intro rfl ?_)) (by repeat' (first | exact trivial | refine And.intro (.inr rfl) ?_)) ?_
    rintro ⟨k, ⟨o2, s2, w2⟩, m2⟩ ⟨hk, hF, hm2⟩
    dsimp only at hk hF hm2
    try dsimp only
    have hnl := w.nl a.toNat (by omega)
    have hlo2 := hF.I.lo
    have hls2 := hF.I.ls
    have hmu2 := hF.mu
    have hmw2 := fwMu_wk all p.types.length (ptsF p).length ⟨o2, s2, w2⟩
    dsimp only at hlo2 hls2 hmw2
    by_cases hkn : k < (ptsF p)[a.toNat]!.next.length
    · have hz := w.nx a.toNat (by omega) _ (getB_mem _ _ hkn)
      have hst := hF.step w (by omega) hkn hal hT
      by_cases hsn : s2[((ptsF p)[a.toNat]!.next[k]!).toNat]! = true
      · have hol := hF.I.a _ (by omega) hsn
        dsimp only at hol
        have hab : (o2[((ptsF p)[a.toNat]!.next[k]!).toNat]!).length = (jnB o2[((ptsF p)[a.toNat]!.next[k]!).toNat]! (aftB p.types (ptsF p)[a.toNat]! out[a.toNat]!) all).length := by rw [jnB_len]; omega
        have ho : (o2[((ptsF p)[a.toNat]!.next[k]!).toNat]!).length = 0 ∨ (o2[((ptsF p)[a.toNat]!.next[k]!).toNat]!).length = (aftB p.types (ptsF p)[a.toNat]! out[a.toNat]!).length := .inr (by omega)
        repeat' (first | (apply id_rw; first | (apply rx_move;rfl;rfl) | (first | (apply rx_loadF0; (case hx | hH => rfl); (case hf | hg | hα => infer_instance); (case hk => omega); (case hc | hN => rfl)) | (apply rx_load1;rfl;rfl;rfl;rfl)) | (apply rx_fieldAddr;rfl;rfl;rfl) | (first | (apply rx_guardY; (case hj | hb | hN => rfl); (case hw => (assumption))) | (apply rx_guardNs; (case hj | hb | hN => rfl); (case hw => (assumption))) | (apply rx_guardS; (case hj | hb | hN => rfl); all_goals (intro hg; have hq := hg; (try simp only [bqs] at hq); (try (exfalso; omega))))) | (first | (apply rx_add; (case hx | hy => rfl); (case h => omega); (case hN => rfl)) | (apply rx_bin;rfl;rfl;rfl;rfl)) | (apply rx_assign;rfl;rfl) | (first | (apply rx_pickT; (case hc => rfl); (case hb => (assumption)); (case hx | hN => rfl)) | (apply rx_pickF; (case hc => rfl); (case hb => (assumption)); (case hx | hN => rfl))) | (first | (apply rx_indexFN; (case hx | hi => rfl); (case hm => (assumption)); (case hml => (rfl)); (case hα | hf | hg => infer_instance); (case hN => rfl)) | (apply rx_indexF; (case hx | hi => rfl); (case hm => (omega)); (case hml => (rfl)); (case hα | hf | hg => infer_instance); (case hN => rfl)) | (apply rx_indexO; (case hx | hi => rfl); (case hm => (assumption)); (case hN => rfl))) | (first | ((with_reducible apply rx_callE (k := 151)); (case ha => rfl); (case h => (apply l3Join_c <;> (first | assumption | omega))); (case hp => (exact Pur.pf)); (case hN => rfl)) | ((with_reducible apply rx_callE (k := 152)); (case ha => rfl); (case h => (apply l3Equal_c <;> (first | assumption | omega))); (case hp => (exact Pur.pf)); (case hN => rfl))) | (first | (apply rx_len;rfl;rfl;rfl) | (apply rx_append; (case hx | hy | hze | he0 | hH => rfl); (case hl => (rw [flat_length]; omega)); (case hs' => (rfl)); (case hbig => omega); (case hmx => omega); (case hcs => (exact app_int (by (assumption)))); (case hM | hN => rfl))) | (apply rw_nil; (case hf => kernel_rfl)) | (apply rx_not;rfl;rfl) | ((apply rx_buildSliceI (t := _)); (case hze | hsm | hl => rfl); (case hfl => (exact (rfl : _ = some [_]))); (case hM | hN => rfl)) | (apply rx_store; (case hx | hy | hc | hn | hH => rfl); (case hl => (rw [flat_length]; simp only [lns] <;> omega)); (case hcs => first | exact st_rows (by (first | omega | grind)) | exact st_bool (by (omega))))) | (apply id_aw; first | apply aw_seq | apply aw_region | (apply aw_condT; (case hc => rfl); (case hb => (rfl))) | (apply aw_cond; (case hc => rfl); all_goals (intro hc; have hq := hc; (try simp only [bqs] at hq); (try (exfalso; omega)))) | apply aw_block | apply aw_skip) | with_reducible apply tq_normal | with_reducible apply bq_normal)
        all_goals try exact absurd (hsn.symm.trans (by assumption : s2[((ptsF p)[a.toNat]!.next[k]!).toNat]! = false)) (by decide)
        · have e9 : fwP all (aftB p.types (ptsF p)[a.toNat]! out[a.toNat]!) ⟨o2, s2, w2⟩ ((ptsF p)[a.toNat]!.next[k]!).toNat = ⟨o2.set ((ptsF p)[a.toNat]!.next[k]!).toNat (jnB o2[((ptsF p)[a.toNat]!.next[k]!).toNat]! (aftB p.types (ptsF p)[a.toNat]! out[a.toNat]!) all), s2.set ((ptsF p)[a.toNat]!.next[k]!).toNat true, w2 ++ [((ptsF p)[a.toNat]!.next[k]!)]⟩ := by
            unfold fwP
            rw [if_neg (fun h => absurd h.2 ‹_›), Int.toNat_of_nonneg hz.1]
          rw [e9] at hst
          (apply Exists.intro (k + 1, ⟨_, _, _⟩, _); refine And.intro ?_ (And.intro ?_ ?_); rotate_left 2; focus (refine Le.ren [(0, 0), (1, 1), (2, 2), (5, 7)] rfl (by decide) ?_ ?_ <;> repeat' (first | exact trivial | refine And.intro ⟨_, rfl, ?_⟩ ?_ | refine And.intro ⟨_, _, rfl, rfl, ?_⟩ ?_ | exact Or.inr rfl | refine Or.inl ⟨?_, (by first | rfl | exact pur_sl _ _ | exact Pur.pf)⟩ | rfl)))
          · exact ⟨(by show k + 1 ≤ (ptsF p)[a.toNat]!.next.length; omega), hst, (by show m2 + 1 = (w2 ++ [((ptsF p)[a.toNat]!.next[k]!)]).length; rw [List.length_append, List.length_singleton]; omega)⟩
          · show (ptsF p)[a.toNat]!.next.length - (k + 1) < (ptsF p)[a.toNat]!.next.length - k; omega
        · have e9 : fwP all (aftB p.types (ptsF p)[a.toNat]! out[a.toNat]!) ⟨o2, s2, w2⟩ ((ptsF p)[a.toNat]!.next[k]!).toNat = ⟨o2, s2, w2⟩ := by
            unfold fwP
            rw [if_pos ⟨hsn, ‹_›⟩]
          rw [e9] at hst
          (apply Exists.intro (k + 1, ⟨o2, s2, w2⟩, m2); refine And.intro ?_ (And.intro ?_ ?_); rotate_left 2; focus (refine Le.ren [(0, 0), (1, 1), (2, 2), (5, 5)] rfl (by decide) ?_ ?_ <;> repeat' (first | exact trivial | refine And.intro ⟨_, rfl, ?_⟩ ?_ | refine And.intro ⟨_, _, rfl, rfl, ?_⟩ ?_ | exact Or.inr rfl | refine Or.inl ⟨?_, (by first | rfl | exact pur_sl _ _ | exact Pur.pf)⟩ | rfl)))
          · exact ⟨(by show k + 1 ≤ (ptsF p)[a.toNat]!.next.length; omega), hst, hm2⟩
          · show (ptsF p)[a.toNat]!.next.length - (k + 1) < (ptsF p)[a.toNat]!.next.length - k; omega
      · rw [Bool.not_eq_true] at hsn
        have hol := hF.I.b _ (by omega) hsn
        dsimp only at hol
        have ho : (o2[((ptsF p)[a.toNat]!.next[k]!).toNat]!).length = 0 ∨ (o2[((ptsF p)[a.toNat]!.next[k]!).toNat]!).length = (aftB p.types (ptsF p)[a.toNat]! out[a.toNat]!).length := .inl (by rw [hol]; rfl)
        repeat' (first | (apply id_rw; first | (apply rx_move;rfl;rfl) | (first | (apply rx_loadF0; (case hx | hH => rfl); (case hf | hg | hα => infer_instance); (case hk => omega); (case hc | hN => rfl)) | (apply rx_load1;rfl;rfl;rfl;rfl)) | (apply rx_fieldAddr;rfl;rfl;rfl) | (first | (apply rx_guardY; (case hj | hb | hN => rfl); (case hw => (assumption))) | (apply rx_guardNs; (case hj | hb | hN => rfl); (case hw => (assumption))) | (apply rx_guardS; (case hj | hb | hN => rfl); all_goals (intro hg; have hq := hg; (try simp only [bqs] at hq); (try (exfalso; omega))))) | (first | (apply rx_add; (case hx | hy => rfl); (case h => omega); (case hN => rfl)) | (apply rx_bin;rfl;rfl;rfl;rfl)) | (apply rx_assign;rfl;rfl) | (first | (apply rx_pickT; (case hc => rfl); (case hb => (assumption)); (case hx | hN => rfl)) | (apply rx_pickF; (case hc => rfl); (case hb => (assumption)); (case hx | hN => rfl))) | (first | (apply rx_indexFN; (case hx | hi => rfl); (case hm => (assumption)); (case hml => (rfl)); (case hα | hf | hg => infer_instance); (case hN => rfl)) | (apply rx_indexF; (case hx | hi => rfl); (case hm => (omega)); (case hml => (rfl)); (case hα | hf | hg => infer_instance); (case hN => rfl)) | (apply rx_indexO; (case hx | hi => rfl); (case hm => (assumption)); (case hN => rfl))) | (first | ((with_reducible apply rx_callE (k := 151)); (case ha => rfl); (case h => (apply l3Join_c <;> (first | assumption | omega))); (case hp => (exact Pur.pf)); (case hN => rfl)) | ((with_reducible apply rx_callE (k := 152)); (case ha => rfl); (case h => (apply l3Equal_c <;> (first | omega | grind))); (case hp => (exact Pur.pf)); (case hN => rfl))) | (first | (apply rx_len;rfl;rfl;rfl) | (apply rx_append; (case hx | hy | hze | he0 | hH => rfl); (case hl => (rw [flat_length]; omega)); (case hs' => (rfl)); (case hbig => omega); (case hmx => omega); (case hcs => (exact app_int (by (assumption)))); (case hM | hN => rfl))) | (apply rw_nil; (case hf => kernel_rfl)) | (apply rx_not;rfl;rfl) | ((apply rx_buildSliceI (t := _)); (case hze | hsm | hl => rfl); (case hfl => (exact (rfl : _ = some [_]))); (case hM | hN => rfl)) | (apply rx_store; (case hx | hy | hc | hn | hH => rfl); (case hl => (rw [flat_length]; simp only [lns] <;> omega)); (case hcs => first | exact st_rows (by (first | omega | grind)) | exact st_bool (by (omega))))) | (apply id_aw; first | apply aw_seq | apply aw_region | (apply aw_condT; (case hc => rfl); (case hb => (rfl))) | (apply aw_cond; (case hc => rfl); all_goals (intro hc; have hq := hc; (try simp only [bqs] at hq); (try (exfalso; omega)))) | apply aw_block | apply aw_skip) | with_reducible apply tq_normal | with_reducible apply bq_normal)
        all_goals try exact absurd (hsn.symm.trans (by assumption : s2[((ptsF p)[a.toNat]!.next[k]!).toNat]! = true)) (by decide)
        · have e9 : fwP all (aftB p.types (ptsF p)[a.toNat]! out[a.toNat]!) ⟨o2, s2, w2⟩ ((ptsF p)[a.toNat]!.next[k]!).toNat = ⟨o2.set ((ptsF p)[a.toNat]!.next[k]!).toNat (jnB o2[((ptsF p)[a.toNat]!.next[k]!).toNat]! (aftB p.types (ptsF p)[a.toNat]! out[a.toNat]!) all), s2.set ((ptsF p)[a.toNat]!.next[k]!).toNat true, w2 ++ [((ptsF p)[a.toNat]!.next[k]!)]⟩ := by
            unfold fwP
            rw [if_neg (fun h => by rw [hsn] at h; cases h.1), Int.toNat_of_nonneg hz.1]
          rw [e9] at hst
          (apply Exists.intro (k + 1, ⟨_, _, _⟩, _); refine And.intro ?_ (And.intro ?_ ?_); rotate_left 2; focus (refine Le.ren [(0, 0), (1, 1), (2, 2), (5, 7)] rfl (by decide) ?_ ?_ <;> repeat' (first | exact trivial | refine And.intro ⟨_, rfl, ?_⟩ ?_ | refine And.intro ⟨_, _, rfl, rfl, ?_⟩ ?_ | exact Or.inr rfl | refine Or.inl ⟨?_, (by first | rfl | exact pur_sl _ _ | exact Pur.pf)⟩ | rfl)))
          · exact ⟨(by show k + 1 ≤ (ptsF p)[a.toNat]!.next.length; omega), hst, (by show m2 + 1 = (w2 ++ [((ptsF p)[a.toNat]!.next[k]!)]).length; rw [List.length_append, List.length_singleton]; omega)⟩
          · show (ptsF p)[a.toNat]!.next.length - (k + 1) < (ptsF p)[a.toNat]!.next.length - k; omega
    · repeat' (first | (apply id_rw; first | (apply rx_move;rfl;rfl) | (apply rx_load1;rfl;rfl;rfl;rfl) | (apply rx_fieldAddr;rfl;rfl;rfl) | (apply rx_bin;rfl;rfl;rfl;rfl) | (apply rx_indexF; (case hx | hi => rfl); (case hm => (omega)); (case hml => (rfl)); (case hα | hf | hg => infer_instance); (case hN => rfl)) | (apply rx_len;rfl;rfl;rfl) | (apply rw_nil; (case hf => kernel_rfl))) | (apply id_aw; first | apply aw_seq | apply aw_region | (apply aw_cond; (case hc => rfl); all_goals (intro hc; have hq := hc; (try simp only [bqs] at hq); (try (exfalso; omega)))) | apply aw_exit) | with_reducible apply tq_normal | with_reducible apply tq_exit | with_reducible apply bq_normal | with_reducible apply bq_here)
      (apply Exists.intro (⟨o2, s2, w2⟩, m2); refine And.intro ?_ (And.intro ?_ ?_); rotate_left 2; focus (refine Le.ren [(0, 0), (1, 1), (2, 2), (4, 5)] rfl (by decide) ?_ ?_ <;> repeat' (first | exact trivial | refine And.intro ⟨_, rfl, ?_⟩ ?_ | refine And.intro ⟨_, _, rfl, rfl, ?_⟩ ?_ | exact Or.inr rfl | refine Or.inl ⟨?_, (by first | rfl | exact pur_sl _ _ | exact Pur.pf)⟩ | rfl)))
      · exact ⟨hF.I, hF.out (by omega), hm2, (by show fwMu all p.types.length (ptsF p).length ⟨o2, s2, w2⟩ ≤ 10000; omega)⟩
      · show fwMu all p.types.length (ptsF p).length ⟨o2, s2, w2⟩ < fwMu all p.types.length (ptsF p).length ⟨out, seen, a :: q⟩; omega
end Go.Proofs.YtejkbiijonnefaaGreat

namespace Go.Proofs.YtejkbiijonnefaaGreat
open Go.AL Go.RowKit

theorem l4Accesses_c (ts : List Int) (x : Pnt) (mb : List Bool) (htl : ts.length ≤ 6) (hmb : mb.length = ts.length) (hst : setAt x < ts.length) (hy : 0 ≤ x.y ∧ (3 ≤ x.op → x.op ≤ 7 → x.y < ts.length)) : PC Tryz.prog 80 [sl cI ts, aPnt x, sl cB mb] (fun r => r = sl cAcc (accF ts x mb[(setAt x).toNat]!)) := by
  have hu : x.op = 3 → (useAt ts x x.y = 2 ↔ tkT ts[x.y.toNat]! = true) := by
    intro h
    unfold useAt tkT; rw [if_pos h, if_pos rfl]; grind
  (refine pc_of_aw Tryz.func80 rfl (by simp [Tryz.ntmps80]) ?_; rw [Tryz.ntmps80])
  repeat' (first | (apply id_rw; first | (apply rx_move;rfl;rfl) | (first | (apply rx_load1;rfl;rfl;rfl;rfl) | (apply rx_loadA; (case hx | hd => rfl); (case hc => (exact (rfl : _ = [_, _, _, _, _]))); (case hn | h0 | hN => rfl))) | (apply rx_fieldAddr;rfl;rfl;rfl) | (first | (apply rx_guardY; (case hj | hb | hN => rfl); (case hw => (assumption))) | (apply rx_guardNs; (case hj | hb | hN => rfl); (case hw => first | rfl | assumption)) | (apply rx_guardS; (case hj | hb | hN => rfl); all_goals (intro hg; have hq := hg; (try simp only [bqs] at hq); (try (exfalso; omega))))) | (apply rx_bin;rfl;rfl;rfl;rfl) | (apply rx_assign;rfl;rfl) | (first | (apply rx_pickT; (case hc => rfl); (case hb => (assumption)); (case hx | hN => rfl)) | (apply rx_pickF; (case hc => rfl); (case hb => first | rfl | assumption); (case hx | hN => rfl))) | (apply rx_indexF; (case hx | hi => rfl); (case hm => (omega)); (case hml => (rfl)); (case hα | hf | hg => infer_instance); (case hN => rfl)) | (first | ((with_reducible apply rx_callE (k := 132)); (case ha => rfl); (case h => (apply l3Use_c <;> (omega))); (case hp => (exact Pur.pf)); (case hN => rfl)) | ((with_reducible apply rx_callE (k := 149)); (case ha => rfl); (case h => (apply l3Set_c <;> (fail))); (case hp => (exact Pur.pf)); (case hN => rfl))) | (apply rx_append; (case hx | hy | hze | he0 | hH => rfl); (case hl => (simp [flat_length]; done)); (case hs' => (rfl)); (case hbig => omega); (case hmx => omega); (case hcs => first | exact (rfl : _ = [_, _]) | exact (rfl : _ = [_, _, _, _])); (case hM | hN => rfl)) | (apply rw_nil; (case hf => kernel_rfl)) | (apply rx_buildK; (case hl => rfl); (case hf => (exact (rfl : _ = some [_, _]))); (case hk => (exact (rfl : _ = [_, _]))); (case hN => rfl)) | (apply rx_box;rfl;rfl;rfl;rfl) | (apply rx_buildSlice; (case hze | hsm | hl => rfl); (case hfl => (first | exact (rfl : _ = some [_, _]) | rfl)); (case hM | hN => rfl))) | (apply id_aw; first | apply aw_seq | apply aw_region | (apply aw_condT; (case hc => rfl); (case hb => (assumption))) | (apply aw_condF; (case hc => rfl); (case hb => (rfl))) | (apply aw_cond; (case hc => rfl); all_goals (intro hc; have hq := hc; (try simp only [bqs] at hq); (try (exfalso; omega)))) | apply aw_block | apply aw_skip | apply aw_ret) | with_reducible apply tq_normal | with_reducible apply bq_normal)
  all_goals first | refine rq_le (Le.frzD (d := 6) (i := 1) rfl rfl) ?_ | refine rq_le (Le.frzD (d := 6) (i := 3) rfl rfl) ?_ | refine rq_le (Le.frzD (d := 6) (i := 5) rfl rfl) ?_
  all_goals refine rq_ret rfl ⟨?_, (by (rfl))⟩
  all_goals simp only [oneOf, accF]
  all_goals (repeat' split)
  all_goals first | rfl | (exfalso; grind)
end Go.Proofs.YtejkbiijonnefaaGreat

namespace Go.Proofs.YtejkbiijonnefaaGreat
open Go.AL Go.RowKit

theorem l4Conflicts_c (pts : List Pnt) (acs : List Acc) (fr : List (List Bool)) (pl lv : List Bool) (hpl : pts.length ≤ 61) (hac : acs.length ≤ 6) (h1 : pl.length = pts.length) (h2 : lv.length = pts.length) : PC Tryz.prog 79 [sl cPnt pts, sl cAcc acs, .agg [sl cBB fr, sl cB pl], sl cB lv] (fun r => r = sl cB (cfB pts acs pl lv)) := by
  (refine pc_of_aw Tryz.func79 rfl (by simp [Tryz.ntmps79]) ?_; rw [Tryz.ntmps79])
  repeat' (first | (apply id_rw; first | (apply rx_move;rfl;rfl) | (apply rx_assign;rfl;rfl) | (apply rx_len;rfl;rfl;rfl) | (apply rw_nil; (case hf => kernel_rfl)) | (apply rx_box;rfl;rfl;rfl;rfl) | (apply rx_makeSliceE; (case hx | hy | hze => rfl); (case hsm => omega); (case hmx => omega); (case hcs => (exact mk_bool)); (case hM | hN => rfl))) | (apply id_aw; first | apply aw_seq | apply aw_region | apply aw_block) | with_reducible apply tq_normal)
  refine aw_loopK (σ := Nat × List Bool) [0, 1, 3, 6, 9] [(0, _), (1, _), (3, _), (6, _), (9, _)] [0] [(0, some _)] (fun k => [(10, iv (k.1 : Int))]) (fun k => [(1, some (flat cB k.2))]) (fun k => k.1 ≤ pts.length ∧ k.2.length = pts.length ∧ (∀ l, l < pts.length → k.2[l]! = if l < k.1 then acs.any (cfg pts pl lv l) else false)) (fun k => pts.length - k.1) (0, List.replicate pts.length false) ⟨by omega, by simp, fun l hl => by rw [if_neg (by omega), rep_get _ _ _ hl]⟩ rfl rfl (by repeat' (first | exact trivial | refine And.intro rfl ?_)) (by repeat' (first | exact trivial | refine And.intro (.inr rfl) ?_)) ?_
  rintro ⟨i, u⟩ ⟨hi, hul, hu⟩
  dsimp only at hi hul hu
  try dsimp only
  repeat' (first | (apply id_rw; first | (apply rx_move;rfl;rfl) | (apply rx_bin;rfl;rfl;rfl;rfl) | (apply rx_assign;rfl;rfl) | (apply rx_len;rfl;rfl;rfl) | (apply rw_nil; (case hf => kernel_rfl))) | (apply id_aw; first | apply aw_seq | apply aw_region | (apply aw_cond; (case hc => rfl); all_goals (intro hc; have hq := hc; (try simp only [bqs] at hq); (try (exfalso; omega)))) | apply aw_block | apply aw_skip | apply aw_exit | apply aw_ret) | with_reducible apply tq_normal | with_reducible apply tq_exit | with_reducible apply bq_here)
  · have hin : i < pts.length := by omega
    refine aw_loopK (σ := Nat × List Bool) [0, 1, 3, 6, 9, 10] [(0, _), (1, _), (3, _), (6, _), (9, _), (10, _)] [0] [(0, some _)] (fun k => [(11, iv (k.1 : Int))]) (fun k => [(1, some (flat cB k.2))]) (fun k => k.1 ≤ acs.length ∧ k.2.length = pts.length ∧ (∀ l, l < pts.length → k.2[l]! = if l < i then acs.any (cfg pts pl lv l) else if l = i then (acs.take k.1).any (cfg pts pl lv l) else false)) (fun k => acs.length - k.1) (0, u) ⟨by omega, hul, fun l hl => by rw [hu l hl]; simp⟩ rfl rfl (by repeat' (first | exact trivial | refine And.intro rfl ?_)) (by repeat' (first | exact trivial | refine And.intro (.inr rfl) ?_)) ?_
    rintro ⟨j, s⟩ ⟨hj, hsl, hs⟩
    dsimp only at hj hsl hs
    try dsimp only
    have hsi : s[i]! = (acs.take j).any (cfg pts pl lv i) := by rw [hs i hin]; simp
    have hst := fun h : j < acs.length => any_take (cfg pts pl lv i) acs j h
    have hcg : cfg pts pl lv i acs[j]! = (lv[i]! && pl[i]! && decide (pts[i]!.y = acs[j]!.var) && (acs[j]!.write || decide (pts[i]!.op = 5))) := rfl
    repeat' (first | (apply id_rw; first | (apply rx_move;rfl;rfl) | (first | (apply rx_loadF0; (case hx | hH => rfl); (case hf | hg | hα => infer_instance); (case hk => omega); (case hc | hN => rfl)) | (apply rx_load1;rfl;rfl;rfl;rfl)) | (apply rx_fieldAddr;rfl;rfl;rfl) | (first | (apply rx_guardU;rfl;rfl;rfl) | (apply rx_guardY; (case hj | hb | hN => rfl); (case hw => (assumption))) | (apply rx_guardNs; (case hj | hb | hN => rfl); (case hw => first | rfl | assumption)) | (apply rx_guardS; (case hj | hb | hN => rfl); all_goals (intro hg; have hq := hg; (try simp only [bqs] at hq); (try (exfalso; omega))))) | (first | (apply rx_add; (case hx | hy => rfl); (case h => omega); (case hN => rfl)) | (apply rx_bin;rfl;rfl;rfl;rfl)) | (apply rx_assign;rfl;rfl) | (first | (apply rx_pickT; (case hc => rfl); (case hb => (assumption)); (case hx | hN => rfl)) | (apply rx_pickF; (case hc => rfl); (case hb => first | rfl | assumption); (case hx | hN => rfl))) | (first | (apply rx_indexFN; (case hx | hi => rfl); (case hm => (first | assumption | omega)); (case hml => (rfl)); (case hα | hf | hg => infer_instance); (case hN => rfl)) | (apply rx_indexON; (case hx | hi => rfl); (case hm => (assumption)); (case hN => rfl))) | (apply rx_len;rfl;rfl;rfl) | (apply rw_nil; (case hf => kernel_rfl)) | (apply rx_store; (case hx | hy | hc | hn | hH => rfl); (case hl => (rw [flat_length]; simp only [lns] <;> omega)); (case hcs => (exact st_bool (by (omega)))))) | (apply id_aw; first | apply aw_seq | apply aw_region | (apply aw_draw; (case hm => kernel_rfl)) | (apply aw_cond; (case hc => rfl); all_goals (intro hc; have hq := hc; (try simp only [bqs] at hq); (try (exfalso; omega)))) | apply aw_block | apply aw_skip | apply aw_exit) | with_reducible apply tq_normal | with_reducible apply tq_exit | with_reducible apply bq_normal | with_reducible apply bq_here)
    · (apply Exists.intro (j + 1, _); refine And.intro ?_ (And.intro ?_ ?_); rotate_left 2; focus (refine Le.ren [(0, 0), (1, 1)] rfl (by decide) ?_ ?_ <;> repeat' (first | exact trivial | refine And.intro ⟨_, rfl, ?_⟩ ?_ | refine And.intro ⟨_, _, rfl, rfl, ?_⟩ ?_ | exact Or.inr rfl | refine Or.inl ⟨?_, (by first | rfl | exact pur_sl _ _ | exact Pur.pf)⟩ | rfl)))
      · refine ⟨(by show j + 1 ≤ acs.length; omega), (by show (s.set i _).length = pts.length; rw [List.length_set]; exact hsl), fun l hl => ?_⟩
        show (s.set i _)[l]! = if l < i then _ else if l = i then (acs.take (j + 1)).any _ else false
        by_cases e : l = i
        · rw [e, hst (by omega), hcg, set_get, if_pos ⟨rfl, by omega⟩, if_neg (Nat.lt_irrefl _), if_pos rfl, ← hsi]
          clear hs hu hst hsi hcg
          grind
        · rw [set_get, if_neg (fun h => e h.1.symm), hs l hl, if_neg e, if_neg e]
      · show acs.length - (j + 1) < acs.length - j; omega
    · (apply Exists.intro (j + 1, _); refine And.intro ?_ (And.intro ?_ ?_); rotate_left 2; focus (refine Le.ren [(0, 0), (1, 1)] rfl (by decide) ?_ ?_ <;> repeat' (first | exact trivial | refine And.intro ⟨_, rfl, ?_⟩ ?_ | refine And.intro ⟨_, _, rfl, rfl, ?_⟩ ?_ | exact Or.inr rfl | refine Or.inl ⟨?_, (by first | rfl | exact pur_sl _ _ | exact Pur.pf)⟩ | rfl)))
      · refine ⟨(by show j + 1 ≤ acs.length; omega), (by show (s.set i _).length = pts.length; rw [List.length_set]; exact hsl), fun l hl => ?_⟩
        show (s.set i _)[l]! = if l < i then _ else if l = i then (acs.take (j + 1)).any _ else false
        by_cases e : l = i
        · rw [e, hst (by omega), hcg, set_get, if_pos ⟨rfl, by omega⟩, if_neg (Nat.lt_irrefl _), if_pos rfl, ← hsi]
          clear hs hu hst hsi hcg
          grind
        · rw [set_get, if_neg (fun h => e h.1.symm), hs l hl, if_neg e, if_neg e]
      · show acs.length - (j + 1) < acs.length - j; omega
    · (apply Exists.intro (j + 1, _); refine And.intro ?_ (And.intro ?_ ?_); rotate_left 2; focus (refine Le.ren [(0, 0), (1, 1)] rfl (by decide) ?_ ?_ <;> repeat' (first | exact trivial | refine And.intro ⟨_, rfl, ?_⟩ ?_ | refine And.intro ⟨_, _, rfl, rfl, ?_⟩ ?_ | exact Or.inr rfl | refine Or.inl ⟨?_, (by first | rfl | exact pur_sl _ _ | exact Pur.pf)⟩ | rfl)))
      · refine ⟨(by show j + 1 ≤ acs.length; omega), (by show (s.set i _).length = pts.length; rw [List.length_set]; exact hsl), fun l hl => ?_⟩
        show (s.set i _)[l]! = if l < i then _ else if l = i then (acs.take (j + 1)).any _ else false
        by_cases e : l = i
        · rw [e, hst (by omega), hcg, set_get, if_pos ⟨rfl, by omega⟩, if_neg (Nat.lt_irrefl _), if_pos rfl, ← hsi]
          clear hs hu hst hsi hcg
          grind
        · rw [set_get, if_neg (fun h => e h.1.symm), hs l hl, if_neg e, if_neg e]
      · show acs.length - (j + 1) < acs.length - j; omega
    · (apply Exists.intro (j + 1, _); refine And.intro ?_ (And.intro ?_ ?_); rotate_left 2; focus (refine Le.ren [(0, 0), (1, 1)] rfl (by decide) ?_ ?_ <;> repeat' (first | exact trivial | refine And.intro ⟨_, rfl, ?_⟩ ?_ | refine And.intro ⟨_, _, rfl, rfl, ?_⟩ ?_ | exact Or.inr rfl | refine Or.inl ⟨?_, (by first | rfl | exact pur_sl _ _ | exact Pur.pf)⟩ | rfl)))
      · refine ⟨(by show j + 1 ≤ acs.length; omega), (by show (s.set i _).length = pts.length; rw [List.length_set]; exact hsl), fun l hl => ?_⟩
        show (s.set i _)[l]! = if l < i then _ else if l = i then (acs.take (j + 1)).any _ else false
        by_cases e : l = i
        · rw [e, hst (by omega), hcg, set_get, if_pos ⟨rfl, by omega⟩, if_neg (Nat.lt_irrefl _), if_pos rfl, ← hsi]
          clear hs hu hst hsi hcg
          grind
        · rw [set_get, if_neg (fun h => e h.1.symm), hs l hl, if_neg e, if_neg e]
      · show acs.length - (j + 1) < acs.length - j; omega
    · (apply Exists.intro (j + 1, _); refine And.intro ?_ (And.intro ?_ ?_); rotate_left 2; focus (refine Le.ren [(0, 0), (1, 1)] rfl (by decide) ?_ ?_ <;> repeat' (first | exact trivial | refine And.intro ⟨_, rfl, ?_⟩ ?_ | refine And.intro ⟨_, _, rfl, rfl, ?_⟩ ?_ | exact Or.inr rfl | refine Or.inl ⟨?_, (by first | rfl | exact pur_sl _ _ | exact Pur.pf)⟩ | rfl)))
      · refine ⟨(by show j + 1 ≤ acs.length; omega), (by show (s.set i _).length = pts.length; rw [List.length_set]; exact hsl), fun l hl => ?_⟩
        show (s.set i _)[l]! = if l < i then _ else if l = i then (acs.take (j + 1)).any _ else false
        by_cases e : l = i
        · rw [e, hst (by omega), hcg, set_get, if_pos ⟨rfl, by omega⟩, if_neg (Nat.lt_irrefl _), if_pos rfl, ← hsi]
          clear hs hu hst hsi hcg
          grind
        · rw [set_get, if_neg (fun h => e h.1.symm), hs l hl, if_neg e, if_neg e]
      · show acs.length - (j + 1) < acs.length - j; omega
    · (apply Exists.intro (j + 1, _); refine And.intro ?_ (And.intro ?_ ?_); rotate_left 2; focus (refine Le.ren [(0, 0), (1, 1)] rfl (by decide) ?_ ?_ <;> repeat' (first | exact trivial | refine And.intro ⟨_, rfl, ?_⟩ ?_ | refine And.intro ⟨_, _, rfl, rfl, ?_⟩ ?_ | exact Or.inr rfl | refine Or.inl ⟨?_, (by first | rfl | exact pur_sl _ _ | exact Pur.pf)⟩ | rfl)))
      · refine ⟨(by show j + 1 ≤ acs.length; omega), (by show (s.set i _).length = pts.length; rw [List.length_set]; exact hsl), fun l hl => ?_⟩
        show (s.set i _)[l]! = if l < i then _ else if l = i then (acs.take (j + 1)).any _ else false
        by_cases e : l = i
        · rw [e, hst (by omega), hcg, set_get, if_pos ⟨rfl, by omega⟩, if_neg (Nat.lt_irrefl _), if_pos rfl, ← hsi]
          clear hs hu hst hsi hcg
          grind
        · rw [set_get, if_neg (fun h => e h.1.symm), hs l hl, if_neg e, if_neg e]
      · show acs.length - (j + 1) < acs.length - j; omega
    · (apply Exists.intro (j + 1, _); refine And.intro ?_ (And.intro ?_ ?_); rotate_left 2; focus (refine Le.ren [(0, 0), (1, 1)] rfl (by decide) ?_ ?_ <;> repeat' (first | exact trivial | refine And.intro ⟨_, rfl, ?_⟩ ?_ | refine And.intro ⟨_, _, rfl, rfl, ?_⟩ ?_ | exact Or.inr rfl | refine Or.inl ⟨?_, (by first | rfl | exact pur_sl _ _ | exact Pur.pf)⟩ | rfl)))
      · refine ⟨(by show j + 1 ≤ acs.length; omega), (by show (s.set i _).length = pts.length; rw [List.length_set]; exact hsl), fun l hl => ?_⟩
        show (s.set i _)[l]! = if l < i then _ else if l = i then (acs.take (j + 1)).any _ else false
        by_cases e : l = i
        · rw [e, hst (by omega), hcg, set_get, if_pos ⟨rfl, by omega⟩, if_neg (Nat.lt_irrefl _), if_pos rfl, ← hsi]
          clear hs hu hst hsi hcg
          grind
        · rw [set_get, if_neg (fun h => e h.1.symm), hs l hl, if_neg e, if_neg e]
      · show acs.length - (j + 1) < acs.length - j; omega
    · (apply Exists.intro (j + 1, _); refine And.intro ?_ (And.intro ?_ ?_); rotate_left 2; focus (refine Le.ren [(0, 0), (1, 1)] rfl (by decide) ?_ ?_ <;> repeat' (first | exact trivial | refine And.intro ⟨_, rfl, ?_⟩ ?_ | refine And.intro ⟨_, _, rfl, rfl, ?_⟩ ?_ | exact Or.inr rfl | refine Or.inl ⟨?_, (by first | rfl | exact pur_sl _ _ | exact Pur.pf)⟩ | rfl)))
      · refine ⟨(by show j + 1 ≤ acs.length; omega), (by show (s.set i _).length = pts.length; rw [List.length_set]; exact hsl), fun l hl => ?_⟩
        show (s.set i _)[l]! = if l < i then _ else if l = i then (acs.take (j + 1)).any _ else false
        by_cases e : l = i
        · rw [e, hst (by omega), hcg, set_get, if_pos ⟨rfl, by omega⟩, if_neg (Nat.lt_irrefl _), if_pos rfl, ← hsi]
          clear hs hu hst hsi hcg
          grind
        · rw [set_get, if_neg (fun h => e h.1.symm), hs l hl, if_neg e, if_neg e]
      · show acs.length - (j + 1) < acs.length - j; omega
    · (apply Exists.intro (i + 1, s); refine And.intro ?_ (And.intro ?_ ?_); rotate_left 2; focus (refine Le.ren [(0, 0), (1, 1)] rfl (by decide) ?_ ?_ <;> repeat' (first | exact trivial | refine And.intro ⟨_, rfl, ?_⟩ ?_ | refine And.intro ⟨_, _, rfl, rfl, ?_⟩ ?_ | exact Or.inr rfl | refine Or.inl ⟨?_, (by first | rfl | exact pur_sl _ _ | exact Pur.pf)⟩ | rfl)))
      · refine ⟨(by show i + 1 ≤ pts.length; omega), hsl, fun l hl => ?_⟩
        show s[l]! = if l < i + 1 then _ else _
        rw [hs l hl, List.take_of_length_le (by omega)]
        clear hs hu
        grind
      · show pts.length - (i + 1) < pts.length - i; omega
  · refine rq_le (Le.frzD (d := 8) (i := 1) rfl rfl) ?_
    refine rq_ret rfl ⟨?_, (by (exact pur_sl _ _))⟩
    have e : u = cfB pts acs pl lv := ext_get (by rw [cfB_len, hul]) fun l hl => by
      rw [cfB_get _ _ _ _ _ (by omega), hu l (by omega), if_pos (by omega)]
    rw [e]
    simp only [oneOf, Nat.zero_add, sl, cfB_len]
end Go.Proofs.YtejkbiijonnefaaGreat

namespace Go.Proofs.YtejkbiijonnefaaGreat
open Go.AL Go.RowKit

theorem rx_l4Add {a b : List Bool} {m : Nat} {N : Nat} {Q : Exit → AS → Prop} {all : Array Oper} {rest : List Oper} {tsl : List (Nat × AV)} {hsl : List (Nat × Option (List AV))} {nidl : Nat} {z0 : Lo} {md : Md} {d : Nat} {ty : TypeId} {pos : String} {af : Array Edge} {tys : Array TypeId} {x0 x1 : Operand} {i0 : Nat} (ha0 : ev (lk tsl) x0 = some (.own i0 0 m 1)) (ha1 : ev (lk tsl) x1 = some (sl cB b)) (hH0 : lkH hsl i0 = some (flat cB a)) (hmc : MC Tryz.prog 148 [.own 0 0 m 1, sl cB b] [(0, some (flat cB a))] 1 (fun _ : Unit => True) (fun _ => .tup []) (fun _ => [(0, some (flat cB (addB a b)))])) (hM : Nat.ble (nidl + 0) big = true) (hN : Nat.blt d N = true) {md' : Md} [hmd : MdA md (rOs [x0, x1] ++ [.inr i0]) (List.map Sum.inr (List.map Prod.fst ([(i0, some (flat cB (addB a b)))] : List (Nat × Option (List AV)))) ++ [.inl d]) md'] (kk : RW Tryz.prog N all Q md' rest ⟨(d, .tup []) :: tsl, wrH hsl [(i0, some (flat cB (addB a b)))], nidl + 0, z0⟩) : RW Tryz.prog N all Q md (⟨some d, .call ⟨.value (.func 148), #[x0, x1], tys⟩, ty, pos, af, none⟩ :: rest) ⟨tsl, hsl, nidl, z0⟩ := by
  refine rx_mcallE [i0] 1 [(i0, some (flat cB (addB a b)))] hmc (avs := [.own i0 0 m 1, sl cB b]) ?_ rfl ?_ rfl ?_ (by simpa using hM) ?_ ?_ ?_ hN (md' := md') (hmd := hmd) kk
  · show evL (lk tsl) [x0, x1] = _
    simp only [evL, ha0, ha1]
  · exact ⟨⟨_, _, rfl, hH0, by (repeat' (exact RnL.purI inferInstance))⟩, trivial⟩
  · (repeat' (first | exact RnL.purI inferInstance | exact RnV.own rfl | refine RnL.cons ?_ ?_))
  · (repeat' (exact RnV.purI inferInstance))
  · simp [wsAll]
  · (repeat' (first | exact trivial | (refine And.intro ⟨0, _, rfl, rfl, ?_⟩ ?_) | exact RnL.purI inferInstance))

theorem l4Add_c (a b : List Bool) (m : Nat) (hm : m = a.length) (hab : b.length ≤ a.length) (hl : a.length ≤ 1000000) : MC Tryz.prog 148 [.own 0 0 m 1, sl cB b] [(0, some (flat cB a))] 1 (fun _ : Unit => True) (fun _ => .tup []) (fun _ => [(0, some (flat cB (addB a b)))]) := by
  subst hm
  (refine mc_of_aw Tryz.func148 rfl (by simp [Tryz.ntmps148]) ?_; rw [Tryz.ntmps148])
  repeat' (first | (apply id_rw; first | (apply rx_assign;rfl;rfl) | (apply rw_nil; (case hf => kernel_rfl))) | (apply id_aw; first | apply aw_seq | apply aw_region | apply aw_block) | with_reducible apply tq_normal)
  refine aw_loopK (σ := Nat × List Bool) [0, 1] [(0, _), (1, _)] [] [] (fun k => [(4, iv (k.1 : Int))]) (fun k => [(0, some (flat cB k.2))]) (fun k => k.1 ≤ b.length ∧ k.2.length = a.length ∧ (∀ l, l < a.length → k.2[l]! = (a[l]! || (decide (l < k.1) && b[l]!)))) (fun k => b.length - k.1) (0, a) ⟨by omega, rfl, fun l hl => by simp⟩ rfl rfl (by repeat' (first | exact trivial | refine And.intro rfl ?_)) (by repeat' (first | exact trivial | refine And.intro (.inr rfl) ?_)) ?_
  rintro ⟨k, u⟩ ⟨hk, hul, hu⟩
  dsimp only at hk hul hu
  try dsimp only
  repeat' (first | (apply id_rw; first | (apply rx_move;rfl;rfl) | (first | (apply rx_loadF0; (case hx | hH => rfl); (case hf | hg | hα => infer_instance); (case hk => omega); (case hc | hN => rfl)) | (apply rx_load1;rfl;rfl;rfl;rfl)) | (first | (apply rx_guardY; (case hj | hb | hN => rfl); (case hw => (assumption))) | (apply rx_guardNs; (case hj | hb | hN => rfl); (case hw => (assumption))) | (apply rx_guardS; (case hj | hb | hN => rfl); all_goals (intro hg; have hq := hg; (try simp only [bqs] at hq); (try (exfalso; omega))))) | (first | (apply rx_add; (case hx | hy => rfl); (case h => omega); (case hN => rfl)) | (apply rx_bin;rfl;rfl;rfl;rfl)) | (apply rx_assign;rfl;rfl) | (first | (apply rx_pickT; (case hc => rfl); (case hb => (assumption)); (case hx | hN => rfl)) | (apply rx_pickF; (case hc => rfl); (case hb => (assumption)); (case hx | hN => rfl))) | (first | (apply rx_indexFN; (case hx | hi => rfl); (case hm => (omega)); (case hml => (rfl)); (case hα | hf | hg => infer_instance); (case hN => rfl)) | (apply rx_indexON; (case hx | hi => rfl); (case hm => (omega)); (case hN => rfl))) | (apply rx_len;rfl;rfl;rfl) | (apply rw_nil; (case hf => kernel_rfl)) | (apply rx_store; (case hx | hy | hc | hn | hH => rfl); (case hl => (rw [flat_length]; simp only [lns] <;> omega)); (case hcs => (exact st_bool (by (omega)))))) | (apply id_aw; first | apply aw_seq | apply aw_region | (apply aw_cond; (case hc => rfl); all_goals (intro hc; have hq := hc; (try simp only [bqs] at hq); (try (exfalso; omega)))) | apply aw_block | apply aw_skip | apply aw_exit) | with_reducible apply tq_normal | with_reducible apply tq_exit | with_reducible apply bq_normal | with_reducible apply bq_here)
  · (apply Exists.intro (k + 1, _); refine And.intro ?_ (And.intro ?_ ?_); rotate_left 2; focus (refine Le.ren [] rfl (by decide) ?_ ?_ <;> repeat' (first | exact trivial | refine And.intro ⟨_, rfl, ?_⟩ ?_ | refine And.intro ⟨_, _, rfl, rfl, ?_⟩ ?_ | exact Or.inr rfl | refine Or.inl ⟨?_, (by first | rfl | exact pur_sl _ _)⟩ | rfl)))
    · refine ⟨(by show k + 1 ≤ b.length; omega), (by show (u.set k _).length = a.length; rw [List.length_set]; exact hul), fun l hl => ?_⟩
      show (u.set k _)[l]! = (a[l]! || (decide (l < k + 1) && b[l]!))
      have h1 := hu l hl
      have h2 := hu k (by omega)
      rw [set_get]
      clear hu
      grind
    · show b.length - (k + 1) < b.length - k; omega
  · (apply Exists.intro (k + 1, _); refine And.intro ?_ (And.intro ?_ ?_); rotate_left 2; focus (refine Le.ren [] rfl (by decide) ?_ ?_ <;> repeat' (first | exact trivial | refine And.intro ⟨_, rfl, ?_⟩ ?_ | refine And.intro ⟨_, _, rfl, rfl, ?_⟩ ?_ | exact Or.inr rfl | refine Or.inl ⟨?_, (by first | rfl | exact pur_sl _ _)⟩ | rfl)))
    · refine ⟨(by show k + 1 ≤ b.length; omega), (by show (u.set k _).length = a.length; rw [List.length_set]; exact hul), fun l hl => ?_⟩
      show (u.set k _)[l]! = (a[l]! || (decide (l < k + 1) && b[l]!))
      have h1 := hu l hl
      have h2 := hu k (by omega)
      rw [set_get]
      clear hu
      grind
    · show b.length - (k + 1) < b.length - k; omega
  · refine rq_end (l := []) rfl ?_
    refine mc_ret () trivial rfl ⟨.inr (Eq.trans (b := some _) rfl ?_), trivial⟩
    have e : u = addB a b := ext_get (by rw [addB_len, hul]) fun l hl => by
      rw [addB_get _ _ _ (by omega), hu l (by omega)]
      clear hu
      grind
    rw [e]
end Go.Proofs.YtejkbiijonnefaaGreat

namespace Go.Proofs.YtejkbiijonnefaaGreat
open Go.AL Go.RowKit

theorem l4Live_c (ts : List Int) (x : Pnt) (fr : List (List Bool)) (pl lv : List Bool) (htl : ts.length ≤ 6) (hpl : pl.length ≤ 61) (h1 : lv.length = ts.length) (h2 : fr.length = ts.length) (h3 : ∀ v, v < ts.length → fr[v]!.length = pl.length) : PC Tryz.prog 76 [sl cI ts, aPnt x, .agg [sl cBB fr, sl cB pl], sl cB lv] (fun r => r = sl cB (lvB ts x fr lv pl.length)) := by
  (refine pc_of_aw Tryz.func76 rfl (by simp [Tryz.ntmps76]) ?_; rw [Tryz.ntmps76])
  repeat' (first | (apply id_rw; first | (apply rx_load1;rfl;rfl;rfl;rfl) | (apply rx_fieldAddr;rfl;rfl;rfl) | (apply rx_assign;rfl;rfl) | (apply rx_len;rfl;rfl;rfl) | (apply rw_nil; (case hf => kernel_rfl)) | (apply rx_box;rfl;rfl;rfl;rfl) | (apply rx_makeSliceE; (case hx | hy | hze => rfl); (case hsm => omega); (case hmx => omega); (case hcs => (exact mk_bool)); (case hM | hN => rfl))) | (apply id_aw; first | apply aw_seq | apply aw_region | apply aw_block) | with_reducible apply tq_normal)
  refine aw_loopK (σ := Nat × List Bool) [0, 3, 5, 6, 9] [(0, _), (3, _), (5, _), (6, _), (9, _)] [0, 1] [(0, some _), (1, some _)] (fun k => [(10, iv (k.1 : Int))]) (fun k => [(2, some (flat cB k.2))]) (fun k => k.1 ≤ lv.length ∧ k.2.length = pl.length ∧ (∀ l, l < pl.length → k.2[l]! = (List.range k.1).any (lvG ts x fr lv l))) (fun k => lv.length - k.1) (0, List.replicate pl.length false) ⟨by omega, by simp, fun l hl => by rw [rep_get _ _ _ hl]; rfl⟩ rfl rfl (by repeat' (first | exact trivial | refine And.intro rfl ?_)) (by repeat' (first | exact trivial | refine And.intro (.inr rfl) ?_)) ?_
  rintro ⟨k, u⟩ ⟨hk, hul, hu⟩
  dsimp only at hk hul hu
  try dsimp only
  by_cases hkn : k < lv.length
  · have hrow := h3 k (by omega)
    have hst : ∀ l, (List.range (k + 1)).any (lvG ts x fr lv l) = ((List.range k).any (lvG ts x fr lv l) || lvG ts x fr lv l k) := fun l => by rw [List.range_succ, List.any_append]; simp
    repeat' (first | (apply id_rw; first | (apply rx_move;rfl;rfl) | (first | (apply rx_load1;rfl;rfl;rfl;rfl) | (apply rx_loadA; (case hx | hd => rfl); (case hc => (exact (rfl : _ = [_, _, _, _, _]))); (case hn | h0 | hN => rfl))) | (apply rx_fieldAddr;rfl;rfl;rfl) | (first | (apply rx_guardY; (case hj | hb | hN => rfl); (case hw => (assumption))) | (apply rx_guardNs; (case hj | hb | hN => rfl); (case hw => first | rfl | assumption)) | (apply rx_guardS; (case hj | hb | hN => rfl); all_goals (intro hg; have hq := hg; (try simp only [bqs] at hq); (try (exfalso; omega))))) | (first | (apply rx_add; (case hx | hy => rfl); (case h => omega); (case hN => rfl)) | (apply rx_bin;rfl;rfl;rfl;rfl)) | (apply rx_assign;rfl;rfl) | (first | (apply rx_pickT; (case hc => rfl); (case hb => (assumption)); (case hx | hN => rfl)) | (apply rx_pickF; (case hc => rfl); (case hb => first | rfl | assumption); (case hx | hN => rfl))) | (apply rx_indexFN; (case hx | hi => rfl); (case hm => (first | assumption | omega)); (case hml => (rfl)); (case hα | hf | hg => infer_instance); (case hN => rfl)) | (first | ((with_reducible apply rx_callE (k := 132)); (case ha => rfl); (case h => (apply l3Use_c <;> (omega))); (case hp => (exact Pur.pf)); (case hN => rfl)) | (apply rx_l4Add; (case ha0 | ha1 => rfl); (case hH0 => (rfl)); (case hmc => (apply l4Add_c <;> (omega))); (case hM | hN => rfl)) | ((with_reducible apply rx_callE (k := 149)); (case ha => rfl); (case h => (apply l3Set_c <;> (fail))); (case hp => (exact Pur.pf)); (case hN => rfl))) | (apply rx_len;rfl;rfl;rfl) | (apply rw_nil; (case hf => kernel_rfl))) | (apply id_aw; first | apply aw_seq | apply aw_region | (apply aw_condF; (case hc => rfl); (case hb => (rfl))) | (apply aw_cond; (case hc => rfl); all_goals (intro hc; have hq := hc; (try simp only [bqs] at hq); (try (exfalso; omega)))) | apply aw_block | apply aw_skip) | with_reducible apply tq_normal | with_reducible apply bq_normal)
    · (apply Exists.intro (k + 1, _); refine And.intro ?_ (And.intro ?_ ?_); rotate_left 2; focus (refine Le.ren [(0, 0), (1, 1), (2, 2)] rfl (by decide) ?_ ?_ <;> repeat' (first | exact trivial | refine And.intro ⟨_, rfl, ?_⟩ ?_ | refine And.intro ⟨_, _, rfl, rfl, ?_⟩ ?_ | exact Or.inr rfl | refine Or.inl ⟨?_, (by first | rfl | exact pur_sl _ _ | exact Pur.pf)⟩ | rfl)))
      · refine ⟨(by show k + 1 ≤ lv.length; omega), (by show (addB u fr[k]!).length = pl.length; rw [addB_len]; exact hul), fun l hl => ?_⟩
        show (addB u fr[k]!)[l]! = (List.range (k + 1)).any _
        rw [hst l, addB_get _ _ _ (by omega), hu l hl, decide_eq_true (by omega : l < fr[k]!.length)]
        clear hu hst h3
        unfold lvG
        grind
      · show lv.length - (k + 1) < lv.length - k; omega
    · (apply Exists.intro (k + 1, u); refine And.intro ?_ (And.intro ?_ ?_); rotate_left 2; focus (refine Le.ren [(0, 0), (1, 1), (2, 2)] rfl (by decide) ?_ ?_ <;> repeat' (first | exact trivial | refine And.intro ⟨_, rfl, ?_⟩ ?_ | refine And.intro ⟨_, _, rfl, rfl, ?_⟩ ?_ | exact Or.inr rfl | refine Or.inl ⟨?_, (by first | rfl | exact pur_sl _ _ | exact Pur.pf)⟩ | rfl)))
      · refine ⟨(by show k + 1 ≤ lv.length; omega), hul, fun l hl => ?_⟩
        show u[l]! = (List.range (k + 1)).any _
        rw [hst l, hu l hl]
        clear hu hst h3
        have e : lvG ts x fr lv l k = false := by unfold lvG; grind
        rw [e, Bool.or_false]
      · show lv.length - (k + 1) < lv.length - k; omega
    · (apply Exists.intro (k + 1, u); refine And.intro ?_ (And.intro ?_ ?_); rotate_left 2; focus (refine Le.ren [(0, 0), (1, 1), (2, 2)] rfl (by decide) ?_ ?_ <;> repeat' (first | exact trivial | refine And.intro ⟨_, rfl, ?_⟩ ?_ | refine And.intro ⟨_, _, rfl, rfl, ?_⟩ ?_ | exact Or.inr rfl | refine Or.inl ⟨?_, (by first | rfl | exact pur_sl _ _ | exact Pur.pf)⟩ | rfl)))
      · refine ⟨(by show k + 1 ≤ lv.length; omega), hul, fun l hl => ?_⟩
        show u[l]! = (List.range (k + 1)).any _
        rw [hst l, hu l hl]
        clear hu hst h3
        have e : lvG ts x fr lv l k = false := by unfold lvG; grind
        rw [e, Bool.or_false]
      · show lv.length - (k + 1) < lv.length - k; omega
    · (apply Exists.intro (k + 1, u); refine And.intro ?_ (And.intro ?_ ?_); rotate_left 2; focus (refine Le.ren [(0, 0), (1, 1), (2, 2)] rfl (by decide) ?_ ?_ <;> repeat' (first | exact trivial | refine And.intro ⟨_, rfl, ?_⟩ ?_ | refine And.intro ⟨_, _, rfl, rfl, ?_⟩ ?_ | exact Or.inr rfl | refine Or.inl ⟨?_, (by first | rfl | exact pur_sl _ _ | exact Pur.pf)⟩ | rfl)))
      · refine ⟨(by show k + 1 ≤ lv.length; omega), hul, fun l hl => ?_⟩
        show u[l]! = (List.range (k + 1)).any _
        rw [hst l, hu l hl]
        clear hu hst h3
        have e : lvG ts x fr lv l k = false := by unfold lvG; grind
        rw [e, Bool.or_false]
      · show lv.length - (k + 1) < lv.length - k; omega
  · repeat' (first | (apply id_rw; first | (apply rx_move;rfl;rfl) | (apply rx_bin;rfl;rfl;rfl;rfl) | (apply rx_assign;rfl;rfl) | (apply rx_len;rfl;rfl;rfl) | (apply rw_nil; (case hf => kernel_rfl))) | (apply id_aw; first | apply aw_seq | apply aw_region | (apply aw_cond; (case hc => rfl); all_goals (intro hc; have hq := hc; (try simp only [bqs] at hq); (try (exfalso; omega)))) | apply aw_exit | apply aw_ret) | with_reducible apply tq_normal | with_reducible apply tq_exit | with_reducible apply bq_here)
    refine rq_le (Le.frzD (d := 8) (i := 2) rfl rfl) ?_
    refine rq_ret rfl ⟨?_, (by (exact pur_sl _ _))⟩
    have hkl : k = lv.length := by omega
    have e : u = lvB ts x fr lv pl.length := ext_get (by unfold lvB; simp; omega) fun l hl => by
      unfold lvB
      rw [mapR_get _ _ _ (by omega), hu l (by omega), hkl]
    have el : (lvB ts x fr lv pl.length).length = pl.length := by unfold lvB; simp
    rw [e]
    simp only [oneOf, Nat.zero_add, sl, el]
end Go.Proofs.YtejkbiijonnefaaGreat

namespace Go.Proofs.YtejkbiijonnefaaGreat
open Go.AL Go.RowKit

theorem allR_false {f : Nat → Bool} {n k : Nat} (h : k < n) (hf : f k = false) : (List.range n).all f = false := by
  rw [Bool.eq_false_iff]; intro hc
  rw [List.all_eq_true] at hc
  have := hc k (List.mem_range.2 h)
  rw [hf] at this; cases this
theorem allR_succ {f : Nat → Bool} {k : Nat} : (List.range (k + 1)).all f = ((List.range k).all f && f k) := by
  rw [List.range_succ, List.all_append]; simp
theorem l4Within_c (fa fb : List (List Bool)) (pa pb : List Bool) (hpl : pa.length ≤ 61) (hfl : fa.length ≤ 6) (h1 : pb.length = pa.length) (h2 : fb.length = fa.length) (h3 : ∀ v, v < fa.length → fa[v]!.length = pa.length) (h4 : ∀ v, v < fa.length → fb[v]!.length = pa.length) : PC Tryz.prog 147 [.agg [sl cBB fa, sl cB pa], .agg [sl cBB fb, sl cB pb]] (fun r => r = bv (wiB fa fb pa pb)) := by
  (refine pc_of_aw Tryz.func147 rfl (by simp [Tryz.ntmps147]) ?_; rw [Tryz.ntmps147])
  repeat' (first | (apply id_rw; first | (apply rx_assign;rfl;rfl) | (apply rw_nil; (case hf => kernel_rfl)) | (apply rx_box;rfl;rfl;rfl;rfl)) | (apply id_aw; first | apply aw_seq | apply aw_region | apply aw_block) | with_reducible apply tq_normal)
  refine aw_loopK (σ := Nat) [2, 3] [(2, _), (3, _)] [0, 1] [(0, some _), (1, some _)] (fun k => [(5, iv (k : Int))]) (fun k => []) (fun k => k ≤ pa.length ∧ (List.range k).all (wiI fa fb pa pb) = true) (fun k => pa.length - k) (0) ⟨by omega, rfl⟩ rfl rfl (by repeat' (first | exact trivial | refine And.intro rfl ?_)) (by repeat' (exact trivial)) ?_
  rintro i ⟨hi, hall⟩
  try dsimp only
  repeat' (first | (apply id_rw; first | (apply rx_move;rfl;rfl) | (apply rx_load1;rfl;rfl;rfl;rfl) | (apply rx_fieldAddr;rfl;rfl;rfl) | (first | (apply rx_guardY; (case hj | hb | hN => rfl); (case hw => (assumption))) | (apply rx_guardNs; (case hj | hb | hN => rfl); (case hw => (assumption))) | (apply rx_guardS; (case hj | hb | hN => rfl); all_goals (intro hg; have hq := hg; (try simp only [bqs] at hq); (try (exfalso; omega))))) | (apply rx_bin;rfl;rfl;rfl;rfl) | (apply rx_assign;rfl;rfl) | (first | (apply rx_pickT; (case hc => rfl); (case hb => (assumption)); (case hx | hN => rfl)) | (apply rx_pickF; (case hc => rfl); (case hb => (assumption)); (case hx | hN => rfl))) | (apply rx_indexFN; (case hx | hi => rfl); (case hm => (omega)); (case hml => (rfl)); (case hα | hf | hg => infer_instance); (case hN => rfl)) | (apply rx_len;rfl;rfl;rfl) | (apply rw_nil; (case hf => kernel_rfl)) | (apply rx_not;rfl;rfl)) | (apply id_aw; first | apply aw_seq | apply aw_region | (apply aw_condF; (case hc => rfl); (case hb => (rfl))) | (apply aw_cond; (case hc => rfl); all_goals (intro hc; have hq := hc; (try simp only [bqs] at hq); (try (exfalso; omega)))) | apply aw_block | apply aw_skip | apply aw_exit | apply aw_ret) | with_reducible apply tq_normal | with_reducible apply tq_ret | with_reducible apply tq_exit | with_reducible apply bq_ret | with_reducible apply bq_here)
  · refine rq_ret rfl ⟨?_, (by (rfl))⟩
    have e2 : wiI fa fb pa pb i = false := by unfold wiI; grind
    have e3 : wiB fa fb pa pb = false := allR_false (by omega : i < pa.length) e2
    simp only [oneOf]
    rw [e3]
  · have hin : i < pa.length := by omega
    have hpp : (!pa[i]! || pb[i]!) = true := by grind
    refine aw_loopK (σ := Nat) [2, 3, 5] [(2, _), (3, _), (5, _)] [0, 1] [(0, some _), (1, some _)] (fun j => [(6, iv (j : Int))]) (fun j => []) (fun j => j ≤ fa.length ∧ (List.range j).all (wiV fa fb i) = true) (fun j => fa.length - j) (0) ⟨by omega, rfl⟩ rfl rfl (by repeat' (first | exact trivial | refine And.intro rfl ?_)) (by repeat' (exact trivial)) ?_
    rintro j ⟨hj, hj2⟩
    try dsimp only
    by_cases hjn : j < fa.length
    · have r1 := h3 j hjn
      have r2 := h4 j hjn
      repeat' (first | (apply id_rw; first | (apply rx_move;rfl;rfl) | (apply rx_load1;rfl;rfl;rfl;rfl) | (apply rx_fieldAddr;rfl;rfl;rfl) | (first | (apply rx_guardY; (case hj | hb | hN => rfl); (case hw => (assumption))) | (apply rx_guardNs; (case hj | hb | hN => rfl); (case hw => (assumption))) | (apply rx_guardS; (case hj | hb | hN => rfl); all_goals (intro hg; have hq := hg; (try simp only [bqs] at hq); (try (exfalso; omega))))) | (first | (apply rx_add; (case hx | hy => rfl); (case h => omega); (case hN => rfl)) | (apply rx_bin;rfl;rfl;rfl;rfl)) | (apply rx_assign;rfl;rfl) | (first | (apply rx_pickT; (case hc => rfl); (case hb => (assumption)); (case hx | hN => rfl)) | (apply rx_pickF; (case hc => rfl); (case hb => (assumption)); (case hx | hN => rfl))) | (apply rx_indexFN; (case hx | hi => rfl); (case hm => (first | assumption | omega)); (case hml => (rfl)); (case hα | hf | hg => infer_instance); (case hN => rfl)) | (apply rx_len;rfl;rfl;rfl) | (apply rw_nil; (case hf => kernel_rfl)) | (apply rx_not;rfl;rfl)) | (apply id_aw; first | apply aw_seq | apply aw_region | (apply aw_condF; (case hc => rfl); (case hb => (rfl))) | (apply aw_cond; (case hc => rfl); all_goals (intro hc; have hq := hc; (try simp only [bqs] at hq); (try (exfalso; omega)))) | apply aw_block | apply aw_skip | apply aw_ret) | with_reducible apply tq_normal | with_reducible apply tq_ret | with_reducible apply bq_normal | with_reducible apply bq_ret)
      · refine rq_ret rfl ⟨?_, (by (rfl))⟩
        have e1 : wiV fa fb i j = false := by unfold wiV; grind
        have e2 : wiI fa fb pa pb i = false := by unfold wiI; rw [allR_false hjn e1, Bool.and_false]
        have e3 : wiB fa fb pa pb = false := allR_false hin e2
        simp only [oneOf]
        rw [e3]
      · (apply Exists.intro (j + 1); refine And.intro ?_ (And.intro ?_ ?_); rotate_left 2; focus (refine Le.ren [(0, 0), (1, 1)] rfl (by decide) ?_ ?_ <;> repeat' (first | exact trivial | refine And.intro ⟨_, rfl, ?_⟩ ?_ | refine And.intro ⟨_, _, rfl, rfl, ?_⟩ ?_ | exact Or.inr rfl | refine Or.inl ⟨?_, (by first | rfl | exact Pur.pf)⟩ | rfl)))
        · refine ⟨by omega, ?_⟩
          rw [allR_succ, hj2]; unfold wiV; grind
        · omega
      · (apply Exists.intro (j + 1); refine And.intro ?_ (And.intro ?_ ?_); rotate_left 2; focus (refine Le.ren [(0, 0), (1, 1)] rfl (by decide) ?_ ?_ <;> repeat' (first | exact trivial | refine And.intro ⟨_, rfl, ?_⟩ ?_ | refine And.intro ⟨_, _, rfl, rfl, ?_⟩ ?_ | exact Or.inr rfl | refine Or.inl ⟨?_, (by first | rfl | exact Pur.pf)⟩ | rfl)))
        · refine ⟨by omega, ?_⟩
          rw [allR_succ, hj2]; unfold wiV; grind
        · omega
    · have hje : j = fa.length := by omega
      have e2 : wiI fa fb pa pb i = true := by unfold wiI; rw [hpp, ← hje, hj2]; rfl
      repeat' (first | (apply id_rw; first | (apply rx_move;rfl;rfl) | (apply rx_load1;rfl;rfl;rfl;rfl) | (apply rx_fieldAddr;rfl;rfl;rfl) | (first | (apply rx_add; (case hx | hy => rfl); (case h => omega); (case hN => rfl)) | (apply rx_bin;rfl;rfl;rfl;rfl)) | (apply rx_assign;rfl;rfl) | (apply rx_len;rfl;rfl;rfl) | (apply rw_nil; (case hf => kernel_rfl))) | (apply id_aw; first | apply aw_seq | apply aw_region | (apply aw_cond; (case hc => rfl); all_goals (intro hc; have hq := hc; (try simp only [bqs] at hq); (try (exfalso; omega)))) | apply aw_exit) | with_reducible apply tq_normal | with_reducible apply tq_exit | with_reducible apply bq_normal | with_reducible apply bq_here)
      (apply Exists.intro (i + 1); refine And.intro ?_ (And.intro ?_ ?_); rotate_left 2; focus (refine Le.ren [(0, 0), (1, 1)] rfl (by decide) ?_ ?_ <;> repeat' (first | exact trivial | refine And.intro ⟨_, rfl, ?_⟩ ?_ | refine And.intro ⟨_, _, rfl, rfl, ?_⟩ ?_ | exact Or.inr rfl | refine Or.inl ⟨?_, (by first | rfl | exact Pur.pf)⟩ | rfl)))
      · refine ⟨by omega, ?_⟩
        rw [allR_succ, hall, e2]; rfl
      · omega
  · have hin : i < pa.length := by omega
    have hpp : (!pa[i]! || pb[i]!) = true := by grind
    refine aw_loopK (σ := Nat) [2, 3, 5] [(2, _), (3, _), (5, _)] [0, 1] [(0, some _), (1, some _)] (fun j => [(6, iv (j : Int))]) (fun j => []) (fun j => j ≤ fa.length ∧ (List.range j).all (wiV fa fb i) = true) (fun j => fa.length - j) (0) ⟨by omega, rfl⟩ rfl rfl (by repeat' (first | exact trivial | refine And.intro rfl ?_)) (by repeat' (exact trivial)) ?_
    rintro j ⟨hj, hj2⟩
    try dsimp only
    by_cases hjn : j < fa.length
    · have r1 := h3 j hjn
      have r2 := h4 j hjn
      repeat' (first | (apply id_rw; first | (apply rx_move;rfl;rfl) | (apply rx_load1;rfl;rfl;rfl;rfl) | (apply rx_fieldAddr;rfl;rfl;rfl) | (first | (apply rx_guardY; (case hj | hb | hN => rfl); (case hw => (assumption))) | (apply rx_guardNs; (case hj | hb | hN => rfl); (case hw => (assumption))) | (apply rx_guardS; (case hj | hb | hN => rfl); all_goals (intro hg; have hq := hg; (try simp only [bqs] at hq); (try (exfalso; omega))))) | (first | (apply rx_add; (case hx | hy => rfl); (case h => omega); (case hN => rfl)) | (apply rx_bin;rfl;rfl;rfl;rfl)) | (apply rx_assign;rfl;rfl) | (first | (apply rx_pickT; (case hc => rfl); (case hb => (assumption)); (case hx | hN => rfl)) | (apply rx_pickF; (case hc => rfl); (case hb => (assumption)); (case hx | hN => rfl))) | (apply rx_indexFN; (case hx | hi => rfl); (case hm => (first | assumption | omega)); (case hml => (rfl)); (case hα | hf | hg => infer_instance); (case hN => rfl)) | (apply rx_len;rfl;rfl;rfl) | (apply rw_nil; (case hf => kernel_rfl)) | (apply rx_not;rfl;rfl)) | (apply id_aw; first | apply aw_seq | apply aw_region | (apply aw_condF; (case hc => rfl); (case hb => (rfl))) | (apply aw_cond; (case hc => rfl); all_goals (intro hc; have hq := hc; (try simp only [bqs] at hq); (try (exfalso; omega)))) | apply aw_block | apply aw_skip | apply aw_ret) | with_reducible apply tq_normal | with_reducible apply tq_ret | with_reducible apply bq_normal | with_reducible apply bq_ret)
      · refine rq_ret rfl ⟨?_, (by (rfl))⟩
        have e1 : wiV fa fb i j = false := by unfold wiV; grind
        have e2 : wiI fa fb pa pb i = false := by unfold wiI; rw [allR_false hjn e1, Bool.and_false]
        have e3 : wiB fa fb pa pb = false := allR_false hin e2
        simp only [oneOf]
        rw [e3]
      · (apply Exists.intro (j + 1); refine And.intro ?_ (And.intro ?_ ?_); rotate_left 2; focus (refine Le.ren [(0, 0), (1, 1)] rfl (by decide) ?_ ?_ <;> repeat' (first | exact trivial | refine And.intro ⟨_, rfl, ?_⟩ ?_ | refine And.intro ⟨_, _, rfl, rfl, ?_⟩ ?_ | exact Or.inr rfl | refine Or.inl ⟨?_, (by first | rfl | exact Pur.pf)⟩ | rfl)))
        · refine ⟨by omega, ?_⟩
          rw [allR_succ, hj2]; unfold wiV; grind
        · omega
      · (apply Exists.intro (j + 1); refine And.intro ?_ (And.intro ?_ ?_); rotate_left 2; focus (refine Le.ren [(0, 0), (1, 1)] rfl (by decide) ?_ ?_ <;> repeat' (first | exact trivial | refine And.intro ⟨_, rfl, ?_⟩ ?_ | refine And.intro ⟨_, _, rfl, rfl, ?_⟩ ?_ | exact Or.inr rfl | refine Or.inl ⟨?_, (by first | rfl | exact Pur.pf)⟩ | rfl)))
        · refine ⟨by omega, ?_⟩
          rw [allR_succ, hj2]; unfold wiV; grind
        · omega
    · have hje : j = fa.length := by omega
      have e2 : wiI fa fb pa pb i = true := by unfold wiI; rw [hpp, ← hje, hj2]; rfl
      repeat' (first | (apply id_rw; first | (apply rx_move;rfl;rfl) | (apply rx_load1;rfl;rfl;rfl;rfl) | (apply rx_fieldAddr;rfl;rfl;rfl) | (first | (apply rx_add; (case hx | hy => rfl); (case h => omega); (case hN => rfl)) | (apply rx_bin;rfl;rfl;rfl;rfl)) | (apply rx_assign;rfl;rfl) | (apply rx_len;rfl;rfl;rfl) | (apply rw_nil; (case hf => kernel_rfl))) | (apply id_aw; first | apply aw_seq | apply aw_region | (apply aw_cond; (case hc => rfl); all_goals (intro hc; have hq := hc; (try simp only [bqs] at hq); (try (exfalso; omega)))) | apply aw_exit) | with_reducible apply tq_normal | with_reducible apply tq_exit | with_reducible apply bq_normal | with_reducible apply bq_here)
      (apply Exists.intro (i + 1); refine And.intro ?_ (And.intro ?_ ?_); rotate_left 2; focus (refine Le.ren [(0, 0), (1, 1)] rfl (by decide) ?_ ?_ <;> repeat' (first | exact trivial | refine And.intro ⟨_, rfl, ?_⟩ ?_ | refine And.intro ⟨_, _, rfl, rfl, ?_⟩ ?_ | exact Or.inr rfl | refine Or.inl ⟨?_, (by first | rfl | exact Pur.pf)⟩ | rfl)))
      · refine ⟨by omega, ?_⟩
        rw [allR_succ, hall, e2]; rfl
      · omega
  · refine rq_ret rfl ⟨?_, (by (rfl))⟩
    have hie : i = pa.length := by omega
    have e3 : wiB fa fb pa pb = true := by unfold wiB; rw [← hie]; exact hall
    simp only [oneOf]
    rw [e3]
end Go.Proofs.YtejkbiijonnefaaGreat
