/-
  A part of the proofs over this program: rules and contracts of its functions (the contracts).
-/
import Derived.Test.YtejkbiijonnefaaGreatB05
set_option linter.unusedVariables false
set_option linter.unusedSimpArgs false
set_option maxHeartbeats 8000000
set_option maxRecDepth 4000
attribute [local irreducible] Go.AL.RW Go.AL.AW Go.AL.Stop
namespace Go.Proofs.YtejkbiijonnefaaGreat
open Go.AL Go.RowKit

theorem regs1_c (A : List Nat) (i : Int) (hA : A.length = 6) : PC Tryz.prog 130 [iv i, .iptr (flat cW A)] (fun r => r = .agg (flat cW A)) := by
  (refine pc_of_aw Tryz.func130 rfl (by simp [Tryz.ntmps130]) ?_; rw [Tryz.ntmps130])
  repeat' (first | (apply id_rw; first | (apply rx_loadIArr;rfl;(omega);rfl;rfl) | (apply rw_nil;kernel_rfl) | (apply rx_alloc;rfl;rfl) | (apply rx_storeArr;rfl;rfl;rfl;(simp only [lns] <;> omega);(rfl))) | (apply id_aw; first | apply aw_seq | apply aw_region | apply aw_ret) | with_reducible apply tq_normal)
  have e6 : A.take 6 = A := List.take_of_length_le (by omega)
  refine rq_ret (resL_cellW (z := 6) rfl rfl (by rw [e6]; exact hA) (by decide)) ⟨by rw [e6]; rfl, (by (exact pur_sl _ _))⟩
theorem checkR_c (A : List Nat) (ts : List Int) (bd : List AL.Stmt) (pts : List Pnt) (Aa Am Al Af Ap : List Nat) (n : Nat) (w : WG ts pts) (ga : GoodA ts pts Aa) (gm : GoodM ts pts Am) (gl : GoodL ts pts Al) (hA6 : A.length = 6) (hlf : Af.length = pts.length * 6) (hrow : ∀ i, i < pts.length → row6 Af i = A) (hbit : ∀ q : Nat, ∀ v, A[q]!.testBit v = true → v < pts.length) (gp : GoodP ts pts Ap) (hn : n = pts.length) :
    PC Tryz.prog 128 [aG ts bd pts, .imm n (flat cN Al), .clos (.func 130) [] [.iptr (flat cW A)]] (fun r => r = sl cIss (issF ts pts Aa Am Al Af Ap pts.length)) := by
  subst hn
  have hpl := w.pl
  have htl := w.tl
  have hla := ga.1
  have hlm := gm.1
  have hll := gl.1
  have hlp := gp.1
  (refine pc_of_aw Tryz.func128 rfl (by simp [Tryz.ntmps128]) ?_; rw [Tryz.ntmps128])
  repeat' (first | (apply id_rw; first | ((apply rx_assignNil (d := 10) (e := 3)); (case hM | hN => rfl)) | (apply rx_move;rfl;rfl) | (apply rx_load1;rfl;rfl;rfl;rfl) | (apply rx_fieldAddr;rfl;rfl;rfl) | (apply rx_assign;rfl;rfl) | (first | ((with_reducible apply rx_callE (k := 70)); (case ha => rfl); (case h => (apply placed_c <;> (assumption))); (case hp => (exact Pur.pf)); (case hN => rfl)) | ((with_reducible apply rx_callE (k := 73)); (case ha => rfl); (case h => (apply maybe_c <;> (assumption))); (case hp => (exact Pur.pf)); (case hN => rfl)) | ((with_reducible apply rx_callE (k := 89)); (case ha => rfl); (case h => (apply always_c <;> (assumption))); (case hp => (exact Pur.pf)); (case hN => rfl))) | (apply rx_len;rfl;rfl;rfl) | (apply rw_nil;kernel_rfl) | (apply rx_nil;rfl;rfl;rfl)) | (apply id_aw; first | apply aw_seq | apply aw_region | apply aw_block) | with_reducible apply tq_normal)
  refine aw_loopK (σ := Nat × List Iss × Nat) [0, 1, 2, 7, 8, 9, 27, 28] [(0, _), (1, _), (2, _), (7, _), (8, _), (9, _), (27, _), (28, _)] [] [] (fun k => [(29, iv (k.1 : Int)), (10, .own 0 0 k.2.2 3)]) (fun k => [(0, some (flat cIss k.2.1))]) (fun k => k.1 ≤ pts.length ∧ k.2.1 = issF ts pts Aa Am Al Af Ap k.1 ∧ k.2.2 = k.2.1.length ∧ k.2.2 ≤ k.1 * 124) (fun k => pts.length - k.1) (0, [], 0) ⟨by omega, rfl, rfl, Nat.le_refl _⟩ rfl rfl (by repeat' (first | exact trivial | refine And.intro rfl ?_)) (by repeat' (first | exact trivial | refine And.intro (.inr rfl) ?_)) ?_
  rintro ⟨i, u, m⟩ ⟨hk, hu, hm, hmk⟩
  dsimp only at hk hu hm hmk ⊢
  by_cases hin : i < pts.length
  · have hst := w.set i hin
    have hsU : Sm (wS ts pts[i]! [1, 2, 3]) := mkBits_sm (by omega)
    have bl : ∀ {A : Nat} {n : Nat}, n ≤ 62 → (∀ v, A.testBit v = true → v < n) → A < 2 ^ n := fun _ hv => Nat.lt_pow_two_of_testBit _ fun v h => by
      cases hq : Nat.testBit _ v with
      | false => rfl
      | true => have := hv v hq; omega
    have hAa : Sm Aa[i]! := ⟨bl (n := 62) (by omega) fun v hv => by have := ((ga.2 i hin v).1 hv).1; omega⟩
    have hAm : Sm Am[i]! := ⟨bl (n := 62) (by omega) fun v hv => by have := Mb_lt w ((gm.2 i hin v).1 hv); dsimp only at this; omega⟩
    have hAl : Al[i]! < 2 ^ ts.length := bl (by omega) fun v hv => by obtain ⟨k, _, h⟩ := (gl.2 i hin v).1 hv; exact Nd_lt w h
    have hAl2 : Sm Al[i]! := ⟨Nat.lt_of_lt_of_le hAl (Nat.pow_le_pow_right (by decide) (by omega))⟩
    have hAp : Ap[i]! < 2 ^ pts.length := bl (by omega) fun v hv => (Pl_ln ((gp.2 i hin v).1 hv)).1
    have hAp2 : Sm Ap[i]! := ⟨Nat.lt_of_lt_of_le hAp (Nat.pow_le_pow_right (by decide) (by omega))⟩
    have hrl := row6_len hlf hin
    have hrs : ∀ z : Nat, Sm (row6 Af i)[z]! := by
      intro z
      rw [hrow i hin]
      exact ⟨bl (n := 62) (by omega) fun v hv => by have := hbit z v hv; omega⟩
    have hkp : kpF ts pts[(i : Int).toNat]! Al[i]! (row6 Af (i : Int).toNat) < 2 ^ pts.length := by
      refine bl (by omega) fun v hv => ?_
      unfold kpF at hv
      rw [testBit_orL] at hv
      rcases hv with hv | ⟨z, hz, hv⟩
      · simp at hv
      · obtain ⟨q, h1, h2, rfl⟩ := mem_bitsI.1 hz
        rw [testBit_anl, Bool.and_eq_true] at h2
        have h3 := lt_of_bits hAl h2.1
        have h4 : q < 6 := by omega
        have h5 : (row6 Af i)[q]!.testBit v = true := hv
        rw [hrow i hin] at h5
        exact hbit q v h5
    have hkp2 : Sm (kpF ts pts[(i : Int).toNat]! Al[i]! (row6 Af (i : Int).toNat)) := ⟨Nat.lt_of_lt_of_le hkp (Nat.pow_le_pow_right (by decide) (by omega))⟩
    have hlo : kpF ts pts[(i : Int).toNat]! Al[i]! (row6 Af (i : Int).toNat) &&& Ap[i]! < 2 ^ pts.length := Nat.and_lt_two_pow _ hAp
    have hcf := cfN_lt w (Am := Am) (Al := Al) (Af := Af) (i := i) hAp
    have hcf2 : Sm (cfN ts pts Am Al Af Ap i) := ⟨Nat.lt_of_lt_of_le hcf (Nat.pow_le_pow_right (by decide) (by omega))⟩
    have hcf3 : Sm (agF pts (kpF ts pts[(i : Int).toNat]! Al[i]! (row6 Af (i : Int).toNat) &&& Ap[i]!) (accF ts pts[(i : Int).toNat]! (Am[i]!.testBit (setAt pts[(i : Int).toNat]!).toNat)) 0) := hcf2
    have hb1 := bitsI_len (anl (wS ts pts[i]! [1, 2, 3]) Aa[i]!)
    have hb2 := bitsI_len (cfN ts pts Am Al Af Ap i)
    repeat' (first | (apply id_rw; first | (apply rx_move;rfl;rfl) | (first | (apply rx_load1;rfl;rfl;rfl;rfl) | (apply rx_loadA;rfl;rfl;(exact (rfl:_=[_, _, _, _, _]));rfl;rfl;rfl)) | (first | (apply rx_anlN;rfl;rfl;infer_instance;infer_instance;infer_instance;rfl) | (apply rx_bin;rfl;rfl;rfl;rfl)) | (apply rx_assign;rfl;rfl) | (apply rx_indexFN; (case hx | hi => rfl); (case hm => (assumption)); (case hml => (first | rfl | omega)); (case hα | hf | hg => infer_instance); (case hN => rfl)) | (first | ((with_reducible apply rx_callE (k := 88)); (case ha => rfl); (case h => (apply bits_c <;> (infer_instance))); (case hp => (rfl)); (case hN => rfl)) | ((with_reducible apply rx_callE (k := 138)); (case ha => rfl); (case h => (apply used_c <;> (assumption))); (case hp => (exact Pur.pf)); (case hN => rfl))) | (apply rx_len;rfl;rfl;rfl) | (apply rw_nil;kernel_rfl) | (apply rx_alloc;rfl;rfl) | (apply rx_store;rfl;rfl;rfl;rfl;rfl;(case hl => (simp;done));(exact (rfl:_=[_, _, _, _, _])))) | (apply id_aw; first | apply aw_seq | apply aw_region | (apply aw_draw;kernel_rfl) | (apply aw_cond;rfl;all_goals intro hc;have hq:=hc;(try simp only [bqs] at hq);try exfalso;omega) | apply aw_block | apply aw_skip) | with_reducible apply tq_normal)
    have hb1b : ∀ j, j < (bitsI (anl (wS ts pts[i]! [1, 2, 3]) Aa[i]!)).length → 0 ≤ (bitsI (anl (wS ts pts[i]! [1, 2, 3]) Aa[i]!))[j]! := fun j h => (bitsI_bd (inferInstance : Sm (anl (wS ts pts[i]! [1, 2, 3]) Aa[i]!)).pf h).1
    refine aw_loopK (σ := Nat × List Iss × Nat) [0, 1, 2, 7, 8, 9, 11, 27, 28, 29, 42, 43] [(0, _), (1, _), (2, _), (7, _), (8, _), (9, _), (11, _), (27, _), (28, _), (29, _), (42, _), (43, _)] [] [] (fun j => [(44, iv (j.1 : Int)), (10, .own 0 0 j.2.2 3)]) (fun j => [(0, some (flat cIss j.2.1))]) (fun j => j.1 ≤ (bitsI (anl (wS ts pts[i]! [1, 2, 3]) Aa[i]!)).length ∧ j.2.1 = u ++ issU i ((bitsI (anl (wS ts pts[i]! [1, 2, 3]) Aa[i]!)).take j.1) ∧ j.2.2 = j.2.1.length ∧ j.2.2 ≤ i * 124 + j.1) (fun j => (bitsI (anl (wS ts pts[i]! [1, 2, 3]) Aa[i]!)).length - j.1) (0, u, m) ⟨by omega, by simp [issU], hm, by omega⟩ rfl rfl (by repeat' (first | exact trivial | refine And.intro rfl ?_)) (by repeat' (first | exact trivial | refine And.intro (.inr rfl) ?_)) ?_
    rintro ⟨j, u2, m2⟩ ⟨hj, hu2, hm2, hmk2⟩
    dsimp only at hj hu2 hm2 hmk2 ⊢
    by_cases hjn : j < (bitsI (anl (wS ts pts[i]! [1, 2, 3]) Aa[i]!)).length
    · repeat' (first | (apply id_rw; first | (apply rx_move;rfl;rfl) | (apply rx_load1;rfl;rfl;rfl;rfl) | (first | (apply rx_add;rfl;rfl;omega;rfl) | (apply rx_bin;rfl;rfl;rfl;rfl)) | (apply rx_assign;rfl;rfl) | (apply rx_indexFN; (case hx | hi => rfl); (case hm => (assumption)); (case hml => (rfl)); (case hα | hf | hg => infer_instance); (case hN => rfl)) | (apply rx_append;rfl;rfl;rfl;rfl;rfl;(rw [flat_length]; omega);(rfl);omega;omega;(exact app_iss (by (assumption)));rfl;rfl) | (apply rw_nil;kernel_rfl) | (apply rx_buildK;rfl;(exact (rfl:_=some [_, _, _]));(exact (rfl:_=[_, _, _]));rfl) | ((apply rx_buildSliceI (t := _)); (case hze | hsm | hl => rfl); (case hfl => (exact (rfl:_=some [_, _, _]))); (case hM | hN => rfl))) | (apply id_aw; first | apply aw_seq | apply aw_region | (apply aw_cond;rfl;all_goals intro hc;have hq:=hc;(try simp only [bqs] at hq);try exfalso;omega) | apply aw_block | apply aw_skip) | with_reducible apply tq_normal | with_reducible apply bq_normal)
      (apply ex3 (j + 1, _, _); focus (refine Le.ren [(0, 3)] rfl (by decide) ?_ ?_ <;> repeat' (first | exact trivial | refine And.intro ⟨_, rfl, ?_⟩ ?_ | refine And.intro ⟨_, _, rfl, rfl, ?_⟩ ?_ | exact Or.inr rfl | refine Or.inl ⟨?_, (by first | rfl | exact pur_sl _ _ | exact Pur.pf)⟩ | rfl)))
      · dsimp only
        refine ⟨by omega, ?_, by simp; omega, by omega⟩
        rw [hu2]; unfold issU; rw [map_take_succ _ _ _ hjn, List.append_assoc]
      · dsimp only; omega
    · have hu3 : u2 = u ++ issU i (bitsI (anl (wS ts pts[i]! [1, 2, 3]) Aa[i]!)) := by rw [hu2, List.take_of_length_le (by omega)]
      have hcl := regs1_c A (i : Int) hA6
      rw [show (fun r : AV => r = .agg (flat cW A)) = (fun r : AV => r = .agg (flat cW (row6 Af (i : Int).toNat))) from by rw [show row6 Af (i : Int).toNat = A from hrow i hin]] at hcl
      repeat' (first | (apply id_rw; first | (apply rx_move;rfl;rfl) | (apply rx_load1;rfl;rfl;rfl;rfl) | (first | (apply rx_andN;rfl;rfl;infer_instance;infer_instance;infer_instance;rfl) | (apply rx_bin;rfl;rfl;rfl;rfl)) | (apply rx_indexFN; (case hx | hi => rfl); (case hm => (assumption)); (case hml => (omega)); (case hα | hf | hg => infer_instance); (case hN => rfl)) | (first | ((with_reducible apply rx_callE (k := 66)); (case ha => rfl); (case h => (apply kept_c <;> (first | assumption | omega))); (case hp => (exact Pur.pf)); (case hN => rfl)) | ((with_reducible apply rx_callE (k := 71)); (case ha => rfl); (case h => (apply loanBits_c <;> (assumption))); (case hp => (rfl)); (case hN => rfl)) | ((with_reducible apply rx_callE (k := 72)); (case ha => rfl); (case h => (apply against_c <;> (first | assumption | omega))); (case hp => (exact Pur.pf)); (case hN => rfl))) | (apply rx_len;rfl;rfl;rfl) | ((with_reducible apply rx_callC); (case hx | hcl => rfl); (case hc => infer_instance); (case ha => rfl); (case h => (apply hcl <;> (fail))); (case hp => (exact Pur.pf)); (case hN => rfl)) | (apply rw_nil;kernel_rfl)) | (apply id_aw; first | apply aw_seq | apply aw_region | (apply aw_draw;kernel_rfl) | (apply aw_cond;rfl;all_goals intro hc;have hq:=hc;(try simp only [bqs] at hq);try exfalso;omega) | apply aw_block | apply aw_exit) | with_reducible apply tq_normal | with_reducible apply tq_exit | with_reducible apply bq_here)
      generalize hL : bitsI (agF pts (kpF ts pts[(i : Int).toNat]! Al[i]! (row6 Af (i : Int).toNat) &&& Ap[i]!) (accF ts pts[(i : Int).toNat]! (Am[i]!.testBit (setAt pts[(i : Int).toNat]!).toNat)) 0) = L2
      have hL2 : bitsI (cfN ts pts Am Al Af Ap i) = L2 := hL
      have hbd : ∀ j, j < L2.length → 0 ≤ L2[j]! ∧ L2[j]! < pts.length := fun j h => by rw [← hL2] at h ⊢; exact bitsI_bd hcf h
      rw [hL2] at hb2
      refine aw_loopK (σ := Nat × List Iss × Nat) [0, 1, 2, 7, 8, 9, 11, 27, 28, 29, 77, 78] [(0, _), (1, _), (2, _), (7, _), (8, _), (9, _), (11, _), (27, _), (28, _), (29, _), (77, _), (78, _)] [] [] (fun l => [(79, iv (l.1 : Int)), (10, .own 0 0 l.2.2 3)]) (fun l => [(0, some (flat cIss l.2.1))]) (fun l => l.1 ≤ L2.length ∧ l.2.1 = u2 ++ issC pts i (L2.take l.1) ∧ l.2.2 = l.2.1.length ∧ l.2.2 ≤ i * 124 + 62 + l.1) (fun l => L2.length - l.1) (0, u2, m2) ⟨by omega, by simp [issC], hm2, Nat.le_trans hmk2 (by omega)⟩ rfl rfl (by repeat' (first | exact trivial | refine And.intro rfl ?_)) (by repeat' (first | exact trivial | refine And.intro (.inr rfl) ?_)) ?_
      rintro ⟨l, u4, m4⟩ ⟨hl, hu4, hm4, hmk4⟩
      dsimp only at hl hu4 hm4 hmk4 ⊢
      by_cases hln : l < L2.length
      · have hbl := hbd l hln
        repeat' (first | (apply id_rw; first | (apply rx_move;rfl;rfl) | (apply rx_load1;rfl;rfl;rfl;rfl) | (apply rx_fieldAddr;rfl;rfl;rfl) | (first | (apply rx_add;rfl;rfl;omega;rfl) | (apply rx_bin;rfl;rfl;rfl;rfl)) | (apply rx_assign;rfl;rfl) | (first | (apply rx_indexFN; (case hx | hi => rfl); (case hm => (assumption)); (case hml => (rfl)); (case hα | hf | hg => infer_instance); (case hN => rfl)) | (apply rx_indexF; (case hx | hi => rfl); (case hm => (assumption)); (case hml => (rfl)); (case hα | hf | hg => infer_instance); (case hN => rfl))) | (apply rx_append;rfl;rfl;rfl;rfl;rfl;(rw [flat_length]; omega);(rfl);omega;omega;(exact app_iss (by (assumption)));rfl;rfl) | (apply rw_nil;kernel_rfl) | (apply rx_buildK;rfl;(exact (rfl:_=some [_, _, _]));(exact (rfl:_=[_, _, _]));rfl) | (apply rx_nil;rfl;rfl;rfl) | ((apply rx_buildSliceI (t := _)); (case hze | hsm | hl => rfl); (case hfl => (exact (rfl:_=some [_, _, _]))); (case hM | hN => rfl))) | (apply id_aw; first | apply aw_seq | apply aw_region | (apply aw_cond;rfl;all_goals intro hc;have hq:=hc;(try simp only [bqs] at hq);try exfalso;omega) | apply aw_block | apply aw_skip) | with_reducible apply tq_normal | with_reducible apply bq_normal)
        · (apply ex3 (l + 1, _, _); focus (refine Le.ren [(0, 3)] rfl (by decide) ?_ ?_ <;> repeat' (first | exact trivial | refine And.intro ⟨_, rfl, ?_⟩ ?_ | refine And.intro ⟨_, _, rfl, rfl, ?_⟩ ?_ | exact Or.inr rfl | refine Or.inl ⟨?_, (by first | rfl | exact pur_sl _ _ | exact Pur.pf)⟩ | rfl)))
          · dsimp only
            refine ⟨by omega, ?_, by simp; omega, by omega⟩
            rw [hu4]; unfold issC; rw [map_take_succ _ _ _ hln, List.append_assoc, if_pos hq]
          · dsimp only; omega
        · (apply ex3 (l + 1, _, _); focus (refine Le.ren [(0, 3)] rfl (by decide) ?_ ?_ <;> repeat' (first | exact trivial | refine And.intro ⟨_, rfl, ?_⟩ ?_ | refine And.intro ⟨_, _, rfl, rfl, ?_⟩ ?_ | exact Or.inr rfl | refine Or.inl ⟨?_, (by first | rfl | exact pur_sl _ _ | exact Pur.pf)⟩ | rfl)))
          · dsimp only
            refine ⟨by omega, ?_, by simp; omega, by omega⟩
            rw [hu4]; unfold issC; rw [map_take_succ _ _ _ hln, List.append_assoc, if_neg hq]
          · dsimp only; omega
      · repeat' (first | (apply id_rw; first | (apply rx_move;rfl;rfl) | (first | (apply rx_add;rfl;rfl;omega;rfl) | (apply rx_bin;rfl;rfl;rfl;rfl)) | (apply rw_nil;kernel_rfl)) | (apply id_aw; first | apply aw_seq | apply aw_region | (apply aw_cond;rfl;all_goals intro hc;have hq:=hc;(try simp only [bqs] at hq);try exfalso;omega) | apply aw_exit) | with_reducible apply tq_normal | with_reducible apply tq_exit | with_reducible apply bq_normal | with_reducible apply bq_here)
        (apply ex3 (i + 1, u4, m4); focus (refine Le.ren [(0, 0)] rfl (by decide) ?_ ?_ <;> repeat' (first | exact trivial | refine And.intro ⟨_, rfl, ?_⟩ ?_ | refine And.intro ⟨_, _, rfl, rfl, ?_⟩ ?_ | exact Or.inr rfl | refine Or.inl ⟨?_, (by first | rfl | exact pur_sl _ _ | exact Pur.pf)⟩ | rfl)))
        · dsimp only
          refine ⟨by omega, ?_, hm4, by omega⟩
          rw [issF_succ, hu4, List.take_of_length_le (by omega), hu3, ← hL2, hu, List.append_assoc]; rfl
        · dsimp only; omega
  · repeat' (first | (apply id_rw; first | (apply rx_move;rfl;rfl) | (apply rx_bin;rfl;rfl;rfl;rfl) | (apply rx_assign;rfl;rfl) | (apply rw_nil;kernel_rfl)) | (apply id_aw; first | apply aw_seq | apply aw_region | (apply aw_cond;rfl;all_goals intro hc;have hq:=hc;(try simp only [bqs] at hq);try exfalso;omega) | apply aw_exit | apply aw_ret) | with_reducible apply tq_normal | with_reducible apply tq_exit | with_reducible apply bq_here)
    (refine rq_le (Le.frzD (d := 6) (i := 0) rfl rfl) ?_; refine rq_ret rfl ?_)
    refine ⟨?_, (by (exact pur_sl _ _))⟩
    simp only [oneOf, sl]
    rw [hm, hu, show i = pts.length by omega]
theorem CheckRI0_c (p : Prg) (hv : validF p = false) (hl : p.types.length ≤ 1000000) (hs : cntL p.body ≤ 1000000) : PC Tryz.prog 58 [aPrg p] (fun r => r = sl cIss []) := by
  have hg := graphOf_c p hl hs
  rw [if_neg (by simp [hv])] at hg
  (refine pc_of_aw Tryz.func58 rfl (by simp [Tryz.ntmps58]) ?_; rw [Tryz.ntmps58])
  repeat' (first | (apply id_rw; first | ((with_reducible apply rx_callE (k := 62)); (case ha => rfl); (case h => exact hg); (case hp => (exact Pur.pf)); (case hN => rfl)) | (apply rx_move;rfl;rfl) | (apply rx_loadA;rfl;rfl;(exact (rfl:_=[_, _]));rfl;rfl;rfl) | (apply rx_assign;rfl;rfl) | (apply rw_nil;kernel_rfl) | (apply rx_not;rfl;rfl) | (apply rx_box;rfl;rfl;rfl;rfl) | (apply rx_extract;rfl;rfl;rfl)) | (apply id_aw; first | apply aw_seq | apply aw_region | (apply aw_condT;rfl;(rfl)) | apply aw_ret) | with_reducible apply tq_normal | with_reducible apply tq_ret)
  (refine rq_le (Le.nilImm (d := 2) rfl) ?_; refine rq_ret rfl ?_)
  exact ⟨rfl, rfl⟩
theorem CheckRI_c (p : Prg) (f : Flows p.types (ptsF p)) (A : List Nat) (hA : GoodG p.types (ptsF p) A) (hv : validF p = true) (hl : p.types.length ≤ 1000000) (hs : cntL p.body ≤ 1000000) : PC Tryz.prog 58 [aPrg p] (fun r => r = sl cIss (regF p f A)) := by
  have w := WG.of_valid hv
  have t := WT.of_valid hv
  have hg := graphOf_c p hl hs
  rw [if_pos hv] at hg
  have hr := regionsI_c p.types p.body (ptsF p) A w t hA
  have hA6 := hA.1
  have hlv := liveAfter_c p.types p.body (ptsF p) f.An f.Al w f.gn f.gl
  have hbit : ∀ q : Nat, ∀ v, A[q]!.testBit v = true → v < (ptsF p).length := fun q v h => by
    by_cases hq : q < 6
    · exact (Rg_lt w t ((hA.2 q hq v).1 h)).2
    · rw [getElem!_neg _ q (by omega)] at h; simp at h
  have hck := checkR_c A p.types p.body (ptsF p) f.Aa f.Am f.Al (cst6 (ptsF p).length A) f.Ap (ptsF p).length w f.ga f.gm f.gl hA6 (cst6_len A hA6 _) (cst6_row A hA6 _) hbit f.gp rfl
  (refine pc_of_aw Tryz.func58 rfl (by simp [Tryz.ntmps58]) ?_; rw [Tryz.ntmps58])
  repeat' (first | (apply id_rw; first | ((apply rx_makeFuncFrzN 5); (case hx | hH | hc | hN => rfl)) | ((with_reducible apply rx_callE (k := 62)); (case ha => rfl); (case h => exact hg); (case hp => (exact Pur.pf)); (case hN => rfl)) | ((with_reducible apply rx_callE (k := 127)); (case ha => rfl); (case h => exact hr); (case hp => (exact Pur.pf)); (case hN => rfl)) | ((with_reducible apply rx_callE (k := 129)); (case ha => rfl); (case h => exact hlv); (case hp => (exact Pur.pf)); (case hN => rfl)) | ((with_reducible apply rx_callE (k := 128)); (case ha => rfl); (case h => exact hck); (case hp => (exact Pur.pf)); (case hN => rfl)) | (apply rx_move;rfl;rfl) | (apply rx_loadA;rfl;rfl;(exact (rfl:_=[_, _]));rfl;rfl;rfl) | (apply rx_assign;rfl;rfl) | (apply rw_nil;kernel_rfl) | (apply rx_not;rfl;rfl) | (apply rx_box;rfl;rfl;rfl;rfl) | (apply rx_alloc;rfl;rfl) | (apply rx_extract;rfl;rfl;rfl) | (apply rx_storeArr;rfl;rfl;rfl;(assumption);(rfl))) | (apply id_aw; first | apply aw_seq | apply aw_region | (apply aw_condF;rfl;(rfl)) | apply aw_skip | apply aw_ret) | with_reducible apply tq_normal)
  exact rq_ret rfl ⟨rfl, (by (exact pur_sl _ _))⟩
end Go.Proofs.YtejkbiijonnefaaGreat

namespace Go.Proofs.YtejkbiijonnefaaGreat
open Go.AL Go.RowKit

theorem boundsS_c (p : Prg) (hs : cntL p.body ≤ 1000000) (w : WG p.types (ptsF p)) : PC Tryz.prog 178 [aPrg p] (fun r => r = sl cBnd (bnF p.types (ptsF p) (ptsF p).length)) := by
  have hpl := w.pl
  have htl := w.tl
  have hp := l2Points_c p hs
  (refine pc_of_aw Tryz.func178 rfl (by simp [Tryz.ntmps178]) ?_; rw [Tryz.ntmps178])
  repeat' (first | (apply id_rw; first | ((with_reducible apply rx_callE (k := 106)); (case ha => rfl); (case h => exact hp); (case hp => (exact Pur.pf)); (case hN => rfl)) | (apply rx_loadA;rfl;rfl;(exact (rfl:_=[_, _]));rfl;rfl;rfl) | (apply rx_assign;rfl;rfl) | (apply rw_nil;kernel_rfl) | (apply rx_box;rfl;rfl;rfl;rfl) | (apply rx_buildSlice;rfl;rfl;rfl;(rfl);rfl;rfl)) | (apply id_aw; first | apply aw_seq | apply aw_region | apply aw_block) | with_reducible apply tq_normal)
  refine aw_loopK (σ := Nat × List Bnd × Nat) [1, 4] [(1, _), (4, _)] [0] [(0, some _)] (fun s => [(5, iv (s.1 : Int)), (3, .own 1 0 s.2.2 3)]) (fun s => [(1, some (flat cBnd s.2.1))]) (fun s => s.1 ≤ (ptsF p).length ∧ s.2.1 = bnF p.types (ptsF p) s.1 ∧ s.2.2 = s.2.1.length ∧ s.2.2 ≤ 2 * s.1) (fun s => (ptsF p).length - s.1) (0, [], 0) ⟨by omega, rfl, rfl, Nat.le_refl _⟩ rfl rfl (by repeat' (first | exact trivial | refine And.intro rfl ?_)) (by repeat' (first | exact trivial | refine And.intro (.inr rfl) ?_)) ?_
  rintro ⟨k, u, m⟩ ⟨hk, hu, hm, hmk⟩
  dsimp only at hk hu hm hmk
  try dsimp only
  by_cases hkn : k < (ptsF p).length
  · have hy := w.y k hkn
    have hsu := bnF_succ p.types (ptsF p) k
    rw [← hu] at hsu
    unfold bnP at hsu
    by_cases h4 : (ptsF p)[k]!.op = 4 ∨ (ptsF p)[k]!.op = 5
    · have hln : isLn (ptsF p)[k]! = true := by unfold isLn; rcases h4 with h | h <;> rw [h] <;> rfl
      repeat' (first | (apply id_rw; first | (apply rx_move;rfl;rfl) | (first | (apply rx_load1;rfl;rfl;rfl;rfl) | (apply rx_loadA;rfl;rfl;(exact (rfl:_=[_, _, _, _, _]));rfl;rfl;rfl)) | (apply rx_fieldAddr;rfl;rfl;rfl) | (first | (apply rx_guardY;rfl;rfl;rfl;(first | rfl | assumption)) | (apply rx_guardNs;rfl;rfl;rfl;(first | rfl | assumption)) | (apply rx_guardS; (case hj | hb | hN => rfl); all_goals (intro hg; have hq := hg; (try simp only [bqs] at hq); (try (exfalso; omega))))) | (first | (apply rx_add;rfl;rfl;omega;rfl) | (apply rx_bin;rfl;rfl;rfl;rfl)) | (apply rx_assign;rfl;rfl) | (first | (apply rx_pickT;rfl;(first | rfl | assumption);rfl;rfl) | (apply rx_pickF;rfl;(assumption);rfl;rfl)) | (first | (apply rx_indexFN; (case hx | hi => rfl); (case hm => (assumption)); (case hml => (rfl)); (case hα | hf | hg => infer_instance); (case hN => rfl)) | (apply rx_indexF; (case hx | hi => rfl); (case hm => (omega)); (case hml => (rfl)); (case hα | hf | hg => infer_instance); (case hN => rfl))) | ((with_reducible apply rx_callE (k := 184)); (case ha => rfl); (case h => (apply isRefS_c <;> (fail))); (case hp => (rfl)); (case hN => rfl)) | (first | (apply rx_len;rfl;rfl;rfl) | (apply rx_append;rfl;rfl;rfl;rfl;rfl;(first | (rw [flat_length]; omega) | (rw [flat_length]; simp only [lns] <;> omega));(rfl);omega;omega;(exact app_bnd (by (first | assumption | (simp only [lns] <;> omega))));rfl;rfl)) | (apply rw_nil;kernel_rfl) | (apply rx_buildK;rfl;(exact (rfl:_=some [_, _, _]));(exact (rfl:_=[_, _, _]));rfl) | (apply rx_alloc;rfl;rfl) | ((apply rx_buildSliceI (t := _)); (case hze | hsm | hl => rfl); (case hfl => (exact (rfl:_=some [_, _, _]))); (case hM | hN => rfl)) | (apply rx_store;rfl;rfl;rfl;rfl;rfl;(case hl => (simp;done));(exact (rfl:_=[_, _, _, _, _])))) | (apply id_aw; first | apply aw_seq | apply aw_region | (apply aw_condT;rfl;(rfl)) | (apply aw_cond;rfl;all_goals intro hc;have hq:=hc;(try simp only [bqs] at hq);try exfalso;omega) | apply aw_block | apply aw_skip) | with_reducible apply tq_normal | with_reducible apply bq_normal)
      · (apply ex3 (k + 1, _, _); focus (refine Le.ren [(0, 0), (1, 6)] rfl (by decide) ?_ ?_ <;> repeat' (first | exact trivial | refine And.intro ⟨_, rfl, ?_⟩ ?_ | refine And.intro ⟨_, _, rfl, rfl, ?_⟩ ?_ | exact Or.inr rfl | refine Or.inl ⟨?_, (by first | rfl | exact pur_sl _ _ | exact Pur.pf)⟩ | rfl)))
        · exact ⟨by dsimp only; omega, by dsimp only; rw [hsu, if_pos hln, if_pos ⟨.inl hln, by assumption⟩]; simp, by dsimp only; simp; omega, by dsimp only; omega⟩
        · dsimp only; omega
      · (apply ex3 (k + 1, _, _); focus (refine Le.ren [(0, 0), (1, 4)] rfl (by decide) ?_ ?_ <;> repeat' (first | exact trivial | refine And.intro ⟨_, rfl, ?_⟩ ?_ | refine And.intro ⟨_, _, rfl, rfl, ?_⟩ ?_ | exact Or.inr rfl | refine Or.inl ⟨?_, (by first | rfl | exact pur_sl _ _ | exact Pur.pf)⟩ | rfl)))
        · exact ⟨by dsimp only; omega, by dsimp only; rw [hsu, if_pos hln, if_neg (fun h => by rw [(by assumption : isRef p.types[(ptsF p)[k]!.y.toNat]! = false)] at h; cases h.2)]; simp, by dsimp only; simp; omega, by dsimp only; omega⟩
        · dsimp only; omega
      · (apply ex3 (k + 1, _, _); focus (refine Le.ren [(0, 0), (1, 6)] rfl (by decide) ?_ ?_ <;> repeat' (first | exact trivial | refine And.intro ⟨_, rfl, ?_⟩ ?_ | refine And.intro ⟨_, _, rfl, rfl, ?_⟩ ?_ | exact Or.inr rfl | refine Or.inl ⟨?_, (by first | rfl | exact pur_sl _ _ | exact Pur.pf)⟩ | rfl)))
        · exact ⟨by dsimp only; omega, by dsimp only; rw [hsu, if_pos hln, if_pos ⟨.inl hln, by assumption⟩]; simp, by dsimp only; simp; omega, by dsimp only; omega⟩
        · dsimp only; omega
      · (apply ex3 (k + 1, _, _); focus (refine Le.ren [(0, 0), (1, 4)] rfl (by decide) ?_ ?_ <;> repeat' (first | exact trivial | refine And.intro ⟨_, rfl, ?_⟩ ?_ | refine And.intro ⟨_, _, rfl, rfl, ?_⟩ ?_ | exact Or.inr rfl | refine Or.inl ⟨?_, (by first | rfl | exact pur_sl _ _ | exact Pur.pf)⟩ | rfl)))
        · exact ⟨by dsimp only; omega, by dsimp only; rw [hsu, if_pos hln, if_neg (fun h => by rw [(by assumption : isRef p.types[(ptsF p)[k]!.y.toNat]! = false)] at h; cases h.2)]; simp, by dsimp only; simp; omega, by dsimp only; omega⟩
        · dsimp only; omega
    · have hln2 : ¬ isLn (ptsF p)[k]! = true := fun h => h4 (isLn_op h)
      repeat' (first | (apply id_rw; first | (apply rx_move;rfl;rfl) | (first | (apply rx_load1;rfl;rfl;rfl;rfl) | (apply rx_loadA;rfl;rfl;(exact (rfl:_=[_, _, _, _, _]));rfl;rfl;rfl)) | (apply rx_fieldAddr;rfl;rfl;rfl) | (first | (apply rx_guardY;rfl;rfl;rfl;(assumption)) | (apply rx_guardNs;rfl;rfl;rfl;(assumption)) | (apply rx_guardS; (case hj | hb | hN => rfl); all_goals (intro hg; have hq := hg; (try simp only [bqs] at hq); (try (exfalso; omega))))) | (first | (apply rx_add;rfl;rfl;omega;rfl) | (apply rx_bin;rfl;rfl;rfl;rfl)) | (apply rx_assign;rfl;rfl) | (first | (apply rx_pickT;rfl;(assumption);rfl;rfl) | (apply rx_pickF;rfl;(assumption);rfl;rfl)) | (first | (apply rx_indexFN; (case hx | hi => rfl); (case hm => (assumption)); (case hml => (rfl)); (case hα | hf | hg => infer_instance); (case hN => rfl)) | (apply rx_indexF; (case hx | hi => rfl); (case hm => (omega)); (case hml => (rfl)); (case hα | hf | hg => infer_instance); (case hN => rfl))) | ((with_reducible apply rx_callE (k := 184)); (case ha => rfl); (case h => (apply isRefS_c <;> (fail))); (case hp => (rfl)); (case hN => rfl)) | (first | (apply rx_len;rfl;rfl;rfl) | (apply rx_append;rfl;rfl;rfl;rfl;rfl;(rw [flat_length]; omega);(rfl);omega;omega;(exact app_bnd (by (assumption)));rfl;rfl)) | (apply rw_nil;kernel_rfl) | (apply rx_buildK;rfl;(exact (rfl:_=some [_, _, _]));(exact (rfl:_=[_, _, _]));rfl) | (apply rx_alloc;rfl;rfl) | ((apply rx_buildSliceI (t := _)); (case hze | hsm | hl => rfl); (case hfl => (exact (rfl:_=some [_, _, _]))); (case hM | hN => rfl)) | (apply rx_store;rfl;rfl;rfl;rfl;rfl;(case hl => (simp;done));(exact (rfl:_=[_, _, _, _, _])))) | (apply id_aw; first | apply aw_seq | apply aw_region | (apply aw_condF;rfl;(rfl)) | (apply aw_cond;rfl;all_goals intro hc;have hq:=hc;(try simp only [bqs] at hq);try exfalso;omega) | apply aw_block | apply aw_skip) | with_reducible apply tq_normal | with_reducible apply bq_normal)
      · (apply ex3 (k + 1, _, _); focus (refine Le.ren [(0, 0), (1, 4)] rfl (by decide) ?_ ?_ <;> repeat' (first | exact trivial | refine And.intro ⟨_, rfl, ?_⟩ ?_ | refine And.intro ⟨_, _, rfl, rfl, ?_⟩ ?_ | exact Or.inr rfl | refine Or.inl ⟨?_, (by first | rfl | exact pur_sl _ _ | exact Pur.pf)⟩ | rfl)))
        · exact ⟨by dsimp only; omega, by dsimp only; rw [hsu, if_neg hln2, if_pos ⟨.inr (by assumption), by assumption⟩]; simp, by dsimp only; simp; omega, by dsimp only; omega⟩
        · dsimp only; omega
      · (apply ex3 (k + 1, u, m); focus (refine Le.ren [(0, 0), (1, 1)] rfl (by decide) ?_ ?_ <;> repeat' (first | exact trivial | refine And.intro ⟨_, rfl, ?_⟩ ?_ | refine And.intro ⟨_, _, rfl, rfl, ?_⟩ ?_ | exact Or.inr rfl | refine Or.inl ⟨?_, (by first | rfl | exact pur_sl _ _ | exact Pur.pf)⟩ | rfl)))
        · exact ⟨by dsimp only; omega, by dsimp only; rw [hsu, if_neg hln2, if_neg (fun h => by rw [(by assumption : isRef p.types[(ptsF p)[k]!.y.toNat]! = false)] at h; cases h.2)]; simp, hm, by dsimp only; omega⟩
        · dsimp only; omega
      · (apply ex3 (k + 1, u, m); focus (refine Le.ren [(0, 0), (1, 1)] rfl (by decide) ?_ ?_ <;> repeat' (first | exact trivial | refine And.intro ⟨_, rfl, ?_⟩ ?_ | refine And.intro ⟨_, _, rfl, rfl, ?_⟩ ?_ | exact Or.inr rfl | refine Or.inl ⟨?_, (by first | rfl | exact pur_sl _ _ | exact Pur.pf)⟩ | rfl)))
        · exact ⟨by dsimp only; omega, by dsimp only; rw [hsu, if_neg hln2, if_neg (fun h => h.1.elim hln2 (by assumption))]; simp, hm, by dsimp only; omega⟩
        · dsimp only; omega
  · repeat' (first | (apply id_rw; first | (apply rx_move;rfl;rfl) | (apply rx_bin;rfl;rfl;rfl;rfl) | (apply rx_assign;rfl;rfl) | (apply rx_len;rfl;rfl;rfl) | (apply rw_nil;kernel_rfl)) | (apply id_aw; first | apply aw_seq | apply aw_region | (apply aw_cond;rfl;all_goals intro hc;have hq:=hc;(try simp only [bqs] at hq);try exfalso;omega) | apply aw_exit | apply aw_ret) | with_reducible apply tq_normal | with_reducible apply tq_exit | with_reducible apply bq_here)
    refine rq_le (Le.frzD (d := 2) (i := 1) rfl rfl) ?_
    refine rq_ret rfl ⟨?_, (by (exact pur_sl _ _))⟩
    rw [show (ptsF p).length = k by omega, ← hu]
    simp only [oneOf, sl, hm]
end Go.Proofs.YtejkbiijonnefaaGreat

namespace Go.Proofs.YtejkbiijonnefaaGreat
open Go.AL Go.RowKit

theorem rx_l4AddFF {R : List (List Bool)} {k j m m2 : Nat} {N : Nat} {Q : Exit → AS → Prop} {all : Array Oper} {rest : List Oper} {tsl : List (Nat × AV)} {hsl : List (Nat × Option (List AV))} {nidl : Nat} {z0 : Lo} {md : Md} {d : Nat} {ty : TypeId} {pos : String} {af : Array Edge} {tys : Array TypeId} {x0 x1 : Operand} (ha0 : ev (lk tsl) x0 = some (.own (k + big) 0 m 1)) (ha1 : ev (lk tsl) x1 = some (.own (j + big) 0 m2 1))
    (hF : FamR R R hsl hsl) (hk : k < R.length) (hj : j < R.length) (hkj : k ≠ j) (hm : m = R[k]!.length) (hm2 : m2 = R[j]!.length) (hab : R[j]!.length ≤ R[k]!.length) (hl : R[k]!.length ≤ 1000000) (hM : Nat.ble (nidl + 0) big = true) (hN : Nat.blt d N = true)
    {md' : Md} [hmd : MdA md (rOs [x0, x1] ++ [.inr (k + big), .inr (j + big)]) [.inr (k + big), .inr (j + big), .inl d] md']
    (kk : RW Tryz.prog N all Q md' rest ⟨(d, .tup []) :: tsl, (j + big, some (flat cB R[j]!)) :: (k + big, some (flat cB (addB R[k]! R[j]!))) :: hsl, nidl + 0, z0⟩) : RW Tryz.prog N all Q md (⟨some d, .call ⟨.value (.func 148), #[x0, x1], tys⟩, ty, pos, af, none⟩ :: rest) ⟨tsl, hsl, nidl, z0⟩ :=
  rx_l4Add2 (a := R[k]!) (b := R[j]!) (i0 := k + big) (i1 := j + big) ha0 ha1 (hF.get hk) (hF.get hj) (dist3 hkj) (l4Add2_c R[k]! R[j]! m m2 hm hm2 hab hl) hM hN (md' := md') (hmd := hmd) kk
theorem rx_storeBd {P : Program} {N : Nat} {Q : Exit → AS → Prop} {all : Array Oper} {rest : List Oper} {ts : List (Nat × AV)} {hs : List (Nat × Option (List AV))} {n : Nat} {z0 : Lo} {md : Md} {ty : TypeId} {pos : String} {af : Array Edge} {t : TypeId} {x y : Operand} {k v : Nat} {b : Bool} {R : List (List Bool)} [hz : SzT P t 1] (hx : ev (lk ts) x = some (.optr (k + big) (0 + v * 1))) (hy : ev (lk ts) y = some (.v (.bool b)))
    (hF : FamR R R hs hs) (hk : k < R.length) (hv : v < R[k]!.length) {md' : Md} [hmd : MdA md (rO x ++ (rO y ++ [.inr (k + big)])) [.inr (k + big)] md']
    (kk : RW P N all Q md' rest ⟨ts, (k + big, some (flat cB (R[k]!.set v b))) :: hs, n, z0⟩) : RW P N all Q md (⟨none, .store t x y, ty, pos, af, none⟩ :: rest) ⟨ts, hs, n, z0⟩ := by
  refine rx_store (md' := md') (hmd := hmd) (cs := flat cB R[k]!) (new := [.v (.bool b)]) (cs' := flat cB (R[k]!.set v b)) hx hy rfl rfl (hF.get hk) ?_ ?_ kk
  · rw [flat_length cB (e := 1), List.length_singleton]; omega
  · exact st_flat0 hv rfl
theorem regionsS_c (p : Prg) (A : List Nat) (hs : cntL p.body ≤ 1000000) (w : WG p.types (ptsF p)) (t : WT p.types (ptsF p)) (hA : GoodG p.types (ptsF p) A) : PC Tryz.prog 131 [aPrg p] (fun r => r = sl cBB (rgB p.types.length (ptsF p).length A)) := by
  have hpl := w.pl
  have hp0 := w.p0
  have htl := w.tl
  have hpt := l2Points_c p hs
  have hbo := boundsS_c p hs w
  have hbl := bnF_len p.types (ptsF p) (ptsF p).length
  have hbok : ∀ b, b ∈ bnF p.types (ptsF p) (ptsF p).length → BOk p.types.length (ptsF p).length b := fun b hb => bn_ok w t hb
  have hre := rounds_end w t _ (SRr.rep p.types (ptsF p)) hA
  have hs1 : ∀ k R, SRr p.types (ptsF p) R → SRr p.types (ptsF p) (((bnF p.types (ptsF p) (ptsF p).length).take k).foldl rgR R) := fun k R S => (rgFold_ok w t _ (fun b hb => List.mem_of_mem_take hb) R S).1
  have hs2 := fun k => (rounds_ok w t _ (SRr.rep p.types (ptsF p)) k).1
  generalize hL : bnF p.types (ptsF p) (ptsF p).length = L at hbo hbl hbok hre hs1 hs2
  (refine pc_of_aw Tryz.func131 rfl (by simp [Tryz.ntmps131]) ?_; rw [Tryz.ntmps131])
  repeat' (first | (apply id_rw; first | ((with_reducible apply rx_callE (k := 106)); (case ha => rfl); (case h => exact hpt); (case hp => (exact Pur.pf)); (case hN => rfl)) | ((with_reducible apply rx_callE (k := 178)); (case ha => rfl); (case h => exact hbo); (case hp => (exact Pur.pf)); (case hN => rfl)) | (apply rx_loadA;rfl;rfl;(exact (rfl:_=[_, _]));rfl;rfl;rfl) | (apply rx_assign;rfl;rfl) | (apply rx_len;rfl;rfl;rfl) | (apply rw_nil;kernel_rfl) | (apply rx_box;rfl;rfl;rfl;rfl) | (apply rx_buildSlice;rfl;rfl;rfl;(rfl);rfl;rfl)) | (apply id_aw; first | apply aw_seq | apply aw_region | apply aw_block) | with_reducible apply tq_normal)
  refine aw_loopF (σ := Nat) 0 (fun k => List.replicate k (List.replicate (ptsF p).length false)) [1, 3, 4] [(1, _), (3, _), (4, _)] [0] [(0, some _)] (fun k => [(6, iv (k : Int)), (5, .own 1 0 k 1)]) (fun k => [(1, some (flat (cRw 0 (ptsF p).length) (List.range k)))]) (fun k => k ≤ p.types.length) (fun k => p.types.length - k) (0) (Nat.zero_le _) rfl rfl (by repeat' (first | exact trivial | refine And.intro rfl ?_)) (by repeat' (first | exact trivial | refine And.intro (.inr rfl) ?_)) (by (repeat' (first | exact FamR.here | (apply FamR.cons; focus rfl)))) (by (rfl)) ?_
  intro k hk
  try dsimp only
  by_cases hkn : k < p.types.length
  · repeat' (first | (apply id_rw; first | (apply rx_move;rfl;rfl) | (apply rx_load1;rfl;rfl;rfl;rfl) | (apply rx_fieldAddr;rfl;rfl;rfl) | (first | (apply rx_add;rfl;rfl;omega;rfl) | (apply rx_bin;rfl;rfl;rfl;rfl)) | (apply rx_assign;rfl;rfl) | (first | (apply rx_len;rfl;rfl;rfl) | (apply rx_append;rfl;rfl;rfl;rfl;rfl;(case hl => (simp [flat_length]; done));(rfl);omega;omega;(rfl);rfl;rfl)) | (apply rw_nil;kernel_rfl) | (apply rx_buildSlice;rfl;rfl;rfl;exact (rfl:_=some [_]);rfl;rfl) | (apply rx_makeSliceE;rfl;rfl;rfl;omega;omega;(exact mk_bool);rfl;rfl)) | (apply id_aw; first | apply aw_seq | apply aw_region | (apply aw_cond;rfl;all_goals intro hc;have hq:=hc;(try simp only [bqs] at hq);try exfalso;omega) | apply aw_block | apply aw_skip) | with_reducible apply tq_normal | with_reducible apply bq_normal)
    (apply ex3 (k + 1); focus (refine Le.renF1 [(0, 0), (1, 4)] 2 (R := ?qA1) (r := ?qB1) (hF := ?qF1) (hz := ?qz1) (hm := ?qm1) (hn := ?qn1) (hlb := ?qlb1) (hb := ?qb1) (hr := ?qr1) (hR := ?qR1) (h1 := ?q11) (h2 := ?q21); (case qF1 => (repeat' (first | exact FamR.here | (apply FamR.cons; focus rfl)))); (case qz1 => (rfl)); (case qm1 => rfl); (case qn1 => decide); (case qlb1 => decide); (case qb1 => decide); (case qr1 => rfl); (case qR1 => (exact List.replicate_succ')); all_goals (repeat' (first | exact trivial | refine And.intro ⟨_, rfl, ?_⟩ ?_ | refine And.intro ⟨_, _, rfl, rfl, ?_⟩ ?_ | exact RnL.purI inferInstance | exact RnV.purI inferInstance | exact RnV.own rfl | exact RnV.optr rfl | exact rn_push (by decide) (by simp)))))
    · show k + 1 ≤ p.types.length; omega
    · show p.types.length - (k + 1) < p.types.length - k; omega
  · have hkN : k = p.types.length := by omega
    subst hkN
    repeat' (first | (apply id_rw; first | (with_reducible apply rw_stop (d := 7)) | (apply rx_move;rfl;rfl) | (apply rx_load1;rfl;rfl;rfl;rfl) | (apply rx_fieldAddr;rfl;rfl;rfl) | (apply rx_bin;rfl;rfl;rfl;rfl) | (apply rx_len;rfl;rfl;rfl) | (apply rw_nil;kernel_rfl)) | (apply id_aw; first | apply aw_seq | apply aw_region | (apply aw_cond;rfl;all_goals intro hc;have hq:=hc;(try simp only [bqs] at hq);try exfalso;omega) | apply aw_exit) | with_reducible apply tq_normal | with_reducible apply tq_exit | with_reducible apply bq_here)
    refine rw_go (rw_le ?_ (Le.frzD (d := 5) (i := 1) rfl rfl))
    repeat' (first | (apply id_rw; first | (apply rx_assign;rfl;rfl) | (apply rw_nil;kernel_rfl)) | (apply id_aw; (apply aw_block)) | with_reducible apply tq_normal)
    refine aw_loopF (σ := Nat × List (List Bool)) 0 (fun s => s.2) [1, 4, 5] [(1, _), (4, _), (5, _)] [0] [(0, some _)] (fun s => [(7, iv (s.1 : Int))]) (fun s => []) (fun s => s.1 ≤ p.types.length + 1 ∧ s.2 = rdR L (List.replicate p.types.length (List.replicate (ptsF p).length false)) s.1) (fun s => p.types.length + 1 - s.1) (0, List.replicate p.types.length (List.replicate (ptsF p).length false)) ⟨Nat.zero_le _, rfl⟩ rfl rfl (by repeat' (first | exact trivial | refine And.intro rfl ?_)) (by repeat' (exact trivial)) (by (repeat' (first | exact FamR.here | (apply FamR.cons; focus rfl)))) (by (rfl)) ?_
    rintro ⟨r, R⟩ ⟨hr, hR⟩
    dsimp only at hr hR
    have hSR : SRr p.types (ptsF p) R := by rw [hR]; exact hs2 r
    have hRl := hSR.l
    try dsimp only
    by_cases hrn : r ≤ p.types.length
    · repeat' (first | (apply id_rw; first | (apply rx_move;rfl;rfl) | (apply rx_load1;rfl;rfl;rfl;rfl) | (apply rx_fieldAddr;rfl;rfl;rfl) | (apply rx_bin;rfl;rfl;rfl;rfl) | (apply rx_assign;rfl;rfl) | (apply rx_len;rfl;rfl;rfl) | (apply rw_nil;kernel_rfl)) | (apply id_aw; first | apply aw_seq | apply aw_region | (apply aw_cond;rfl;all_goals intro hc;have hq:=hc;(try simp only [bqs] at hq);try exfalso;omega) | apply aw_block | apply aw_skip) | with_reducible apply tq_normal)
      refine aw_loopF (σ := Nat × List (List Bool)) 0 (fun s => s.2) [1, 4, 5, 7] [(1, _), (4, _), (5, _), (7, _)] [0] [(0, some _)] (fun s => [(8, iv (s.1 : Int))]) (fun s => []) (fun s => s.1 ≤ L.length ∧ s.2 = (L.take s.1).foldl rgR R) (fun s => L.length - s.1) (0, R) ⟨Nat.zero_le _, rfl⟩ rfl rfl (by repeat' (first | exact trivial | refine And.intro rfl ?_)) (by repeat' (exact trivial)) (by (repeat' (first | exact FamR.here | (apply FamR.cons; focus rfl)))) (by (rfl)) ?_
      rintro ⟨i, R2⟩ ⟨hi, hR2⟩
      dsimp only at hi hR2
      have hS2 : SRr p.types (ptsF p) R2 := by rw [hR2]; exact hs1 i R hSR
      have hl2 := hS2.l
      try dsimp only
      by_cases hin : i < L.length
      · have ok := hbok _ (getB_mem _ i hin)
        have hft := foldl_take rgR L R i hin
        rw [← hR2] at hft
        have hv := ok.v
        have hrv := hS2.r L[i]!.var.toNat (by omega)
        have hst : rgR R2 L[i]! = if 0 ≤ L[i]!.loan then R2.set L[i]!.var.toNat (R2[L[i]!.var.toNat]!.set L[i]!.loan.toNat true) else R2.set L[i]!.var.toNat (addB R2[L[i]!.var.toNat]! R2[L[i]!.src.toNat]!) := rfl
        rcases ok.k with ⟨h1, h2, h3⟩ | ⟨h1, h2, h3, h4⟩
        · rw [if_pos h1] at hst
          repeat' (first | (apply id_rw; first | (apply rx_store;rfl;rfl;rfl;rfl;rfl;(case hl => (simp; done));exact (rfl:_=[_, _, _])) | ((apply rx_storeBd (R := R2)); (case hx | hy => rfl); (case hF => (repeat' (first | exact FamR.here | (apply FamR.cons; focus rfl)))); (case hk => (simp only [Nat.zero_add]; omega)); (case hv => (simp only [Nat.zero_add]; omega))) | (with_reducible apply rw_stop (d := 39)) | (apply rx_move;rfl;rfl) | (first | (apply rx_load1;rfl;rfl;rfl;rfl) | (apply rx_loadA;rfl;rfl;(exact (rfl:_=[_, _, _]));rfl;rfl;rfl)) | (apply rx_fieldAddr;rfl;rfl;rfl) | (apply rx_bin;rfl;rfl;rfl;rfl) | (first | (apply rx_indexRgI;rfl;rfl;(assumption);rfl;infer_instance;infer_instance;rfl) | (apply rx_indexFN; (case hx | hi => rfl); (case hm => (assumption)); (case hml => (rfl)); (case hα | hf | hg => infer_instance); (case hN => rfl)) | (apply rx_indexO;rfl;rfl;(omega);rfl)) | (apply rx_len;rfl;rfl;rfl) | (apply rw_nil;kernel_rfl) | (apply rx_alloc;rfl;rfl)) | (apply id_aw; first | apply aw_seq | apply aw_region | (apply aw_draw;kernel_rfl) | (apply aw_cond;rfl;all_goals intro hc;have hq:=hc;(try simp only [bqs] at hq);try exfalso;omega) | apply aw_block | apply aw_skip) | with_reducible apply tq_normal | with_reducible apply bq_normal)
          refine rw_go ?_
          apply rw_le
          case k =>
            apply Le.fset (R := R2) (hk := by omega)
            (repeat' (first | exact FamR.here | (apply FamR.cons; focus rfl)))
          repeat' (first | (apply id_rw; first | (apply rx_move;rfl;rfl) | (apply rx_add;rfl;rfl;omega;rfl) | (apply rx_assign;rfl;rfl) | (apply rw_nil;kernel_rfl)) | with_reducible apply tq_normal)
          (apply ex3 (i + 1, _); focus (refine Le.renF0 [(0, 0)] (R := ?qA2) (hF := ?qF2) (hz := ?qz2) (hm := ?qm2) (hn := ?qn2) (h1 := ?q12) (h2 := ?q22); (case qF2 => (repeat' (first | exact FamR.here | (apply FamR.cons; focus rfl)))); (case qz2 => (simp only [List.length_set])); (case qm2 => rfl); (case qn2 => decide); all_goals (repeat' (first | exact trivial | refine And.intro ⟨_, rfl, ?_⟩ ?_ | refine And.intro ⟨_, _, rfl, rfl, ?_⟩ ?_ | exact RnL.purI inferInstance | exact RnV.purI inferInstance | exact RnV.optr rfl | exact RnV.imm (rn_rowsF (by (simp only [List.length_replicate, List.length_set, List.length_append, List.length_singleton] at * <;> omega)))))))
          · refine ⟨by show i + 1 ≤ L.length; omega, ?_⟩
            show R2.set _ _ = _
            rw [hft, hst]; simp only [Nat.zero_add]
          · show L.length - (i + 1) < L.length - i; omega
        · rw [if_neg (by omega)] at hst
          have hrs := hS2.r L[i]!.src.toNat (by omega)
          repeat' (first | (apply id_rw; first | (apply rx_store;rfl;rfl;rfl;rfl;rfl;(case hl => (simp; done));exact (rfl:_=[_, _, _])) | ((apply rx_l4AddFF (R := R2)); (case ha0 | ha1 => rfl); (case hF => (repeat' (first | exact FamR.here | (apply FamR.cons; focus rfl)))); (case hk => (simp only [Nat.zero_add]; omega)); (case hj => (simp only [Nat.zero_add]; omega)); (case hkj => (simp only [Nat.zero_add]; omega)); (case hm => (simp only [Nat.zero_add]; omega)); (case hm2 => (simp only [Nat.zero_add]; omega)); (case hab => (simp only [Nat.zero_add]; omega)); (case hl => (simp only [Nat.zero_add]; omega)); (case hM | hN => rfl)) | (with_reducible apply rw_stop (d := 39)) | (apply rx_move;rfl;rfl) | (first | (apply rx_load1;rfl;rfl;rfl;rfl) | (apply rx_loadA;rfl;rfl;(exact (rfl:_=[_, _, _]));rfl;rfl;rfl)) | (apply rx_fieldAddr;rfl;rfl;rfl) | (apply rx_bin;rfl;rfl;rfl;rfl) | (first | (apply rx_indexRgI;rfl;rfl;(first | assumption | omega);rfl;infer_instance;infer_instance;rfl) | (apply rx_indexFN; (case hx | hi => rfl); (case hm => (assumption)); (case hml => (rfl)); (case hα | hf | hg => infer_instance); (case hN => rfl))) | (apply rx_len;rfl;rfl;rfl) | (apply rw_nil;kernel_rfl) | (apply rx_alloc;rfl;rfl)) | (apply id_aw; first | apply aw_seq | apply aw_region | (apply aw_draw;kernel_rfl) | (apply aw_cond;rfl;all_goals intro hc;have hq:=hc;(try simp only [bqs] at hq);try exfalso;omega) | apply aw_block | apply aw_skip) | with_reducible apply tq_normal | with_reducible apply bq_normal)
          refine rw_go ?_
          apply rw_le
          case k =>
            apply Le.fset2 (R := R2) (hk := by omega) (hj := by omega) (hkj := by omega)
            (repeat' (first | exact FamR.here | (apply FamR.cons; focus rfl)))
          repeat' (first | (apply id_rw; first | (apply rx_move;rfl;rfl) | (apply rx_add;rfl;rfl;omega;rfl) | (apply rx_assign;rfl;rfl) | (apply rw_nil;kernel_rfl)) | with_reducible apply tq_normal)
          (apply ex3 (i + 1, _); focus (refine Le.renF0 [(0, 0)] (R := ?qA3) (hF := ?qF3) (hz := ?qz3) (hm := ?qm3) (hn := ?qn3) (h1 := ?q13) (h2 := ?q23); (case qF3 => (repeat' (first | exact FamR.here | (apply FamR.cons; focus rfl)))); (case qz3 => (simp only [List.length_set])); (case qm3 => rfl); (case qn3 => decide); all_goals (repeat' (first | exact trivial | refine And.intro ⟨_, rfl, ?_⟩ ?_ | refine And.intro ⟨_, _, rfl, rfl, ?_⟩ ?_ | exact RnL.purI inferInstance | exact RnV.purI inferInstance | exact RnV.optr rfl | exact RnV.imm (rn_rowsF (by (simp only [List.length_replicate, List.length_set, List.length_append, List.length_singleton] at * <;> omega)))))))
          · refine ⟨by show i + 1 ≤ L.length; omega, ?_⟩
            show R2.set _ _ = _
            rw [hft, hst]; simp only [Nat.zero_add]
          · show L.length - (i + 1) < L.length - i; omega
      · repeat' (first | (apply id_rw; first | (apply rx_move;rfl;rfl) | (first | (apply rx_add;rfl;rfl;omega;rfl) | (apply rx_bin;rfl;rfl;rfl;rfl)) | (apply rx_assign;rfl;rfl) | (apply rx_len;rfl;rfl;rfl) | (apply rw_nil;kernel_rfl)) | (apply id_aw; first | apply aw_seq | apply aw_region | (apply aw_cond;rfl;all_goals intro hc;have hq:=hc;(try simp only [bqs] at hq);try exfalso;omega) | apply aw_exit) | with_reducible apply tq_normal | with_reducible apply tq_exit | with_reducible apply bq_normal | with_reducible apply bq_here)
        (apply ex3 (r + 1, R2); focus (refine Le.renF0 [(0, 0)] (R := ?qA4) (hF := ?qF4) (hz := ?qz4) (hm := ?qm4) (hn := ?qn4) (h1 := ?q14) (h2 := ?q24); (case qF4 => (repeat' (first | exact FamR.here | (apply FamR.cons; focus rfl)))); (case qz4 => (rfl)); (case qm4 => rfl); (case qn4 => decide); all_goals (repeat' (first | exact trivial | refine And.intro ⟨_, rfl, ?_⟩ ?_ | refine And.intro ⟨_, _, rfl, rfl, ?_⟩ ?_ | exact RnL.purI inferInstance | exact RnV.purI inferInstance | exact RnV.optr rfl | exact RnV.imm (rn_rowsF (by (simp only [List.length_replicate, List.length_set, List.length_append, List.length_singleton] at * <;> omega)))))))
        · refine ⟨by show r + 1 ≤ _; omega, ?_⟩
          show R2 = _
          rw [hR2, List.take_of_length_le (by omega), hR]; rfl
        · show p.types.length + 1 - (r + 1) < p.types.length + 1 - r; omega
    · repeat' (first | (apply id_rw; first | (apply rx_move;rfl;rfl) | (apply rx_load1;rfl;rfl;rfl;rfl) | (apply rx_fieldAddr;rfl;rfl;rfl) | (apply rx_bin;rfl;rfl;rfl;rfl) | (apply rx_assign;rfl;rfl) | (apply rx_len;rfl;rfl;rfl) | (apply rw_nil;kernel_rfl)) | (apply id_aw; first | apply aw_seq | apply aw_region | (apply aw_cond;rfl;all_goals intro hc;have hq:=hc;(try simp only [bqs] at hq);try exfalso;omega) | apply aw_exit | apply aw_ret) | with_reducible apply tq_normal | with_reducible apply tq_exit | with_reducible apply bq_here)
      have hrt : r = p.types.length + 1 := by omega
      subst hrt
      refine rq_le (Le.frzAll (d := 2) (D := (List.range R.length).map fun k => 0 + k + big) rfl (.imm (LdL.rows (b := 0) (R := R) (by (repeat' (first | exact FamR.here | (apply FamR.cons; focus rfl)))) (fun k hk => List.mem_map.2 ⟨k, by rw [List.mem_range]; omega, rfl⟩) (by omega) (fun k hk => by rw [Nat.zero_add]; exact hSR.r k hk)))) ?_
      refine rq_ret rfl ⟨?_, (by (exact pur_sl _ _))⟩
      simp only [oneOf]
      rw [List.drop_zero, List.take_of_length_le (by omega), hR, hre]
      simp [sl, rgB]
end Go.Proofs.YtejkbiijonnefaaGreat

namespace Go.Proofs.YtejkbiijonnefaaGreat
open Go.AL Go.RowKit

theorem CheckRS0_c (p : Prg) (hv : validF p = false) (hl : p.types.length ≤ 1000000) (hs : cntL p.body ≤ 1000000) : PC Tryz.prog 59 [aPrg p] (fun r => r = sl cIss []) := by
  have hval := validS_c p hl (by omega)
  rw [hv] at hval
  (refine pc_of_aw Tryz.func59 rfl (by simp [Tryz.ntmps59]) ?_; rw [Tryz.ntmps59])
  repeat' (first | (apply id_rw; first | ((with_reducible apply rx_callE (k := 61)); (case ha => rfl); (case h => exact hval); (case hp => (exact Pur.pf)); (case hN => rfl)) | (apply rx_move;rfl;rfl) | (apply rx_loadA;rfl;rfl;(exact (rfl:_=[_, _]));rfl;rfl;rfl) | (apply rx_assign;rfl;rfl) | (apply rw_nil;kernel_rfl) | (apply rx_not;rfl;rfl) | (apply rx_box;rfl;rfl;rfl;rfl) | ((apply rx_buildSliceI (t := _)); (case hze | hsm | hl => rfl); (case hfl => (rfl)); (case hM | hN => rfl))) | (apply id_aw; first | apply aw_seq | apply aw_region | (apply aw_condT;rfl;(rfl)) | apply aw_ret) | with_reducible apply tq_normal | with_reducible apply tq_ret)
  exact rq_ret rfl ⟨rfl, rfl⟩
theorem CheckRS_c (p : Prg) (f : Flows p.types (ptsF p)) (A : List Nat) (hA : GoodG p.types (ptsF p) A) (hv : validF p = true) (hl : p.types.length ≤ 1000000) (hs : cntL p.body ≤ 1000000) : PC Tryz.prog 59 [aPrg p] (fun r => r = sl cIss (regF p f A)) := by
  have w := WG.of_valid hv
  have t := WT.of_valid hv
  have hr := Rch.of p
  have hval := validS_c p hl (by omega)
  rw [hv] at hval
  have hpl := w.pl
  have hp0 := w.p0
  have htl := w.tl
  have hpt := l2Points_c p hs
  have hfa := l3Forward_c p true f.Aa hs w hr (by unfold GoodF2; exact f.ga)
  have hfm := l3Forward_c p false f.Am hs w hr (by unfold GoodF2; exact f.gm)
  have hfl := l4Flow_c p f.Af f.Ap hs w f.gf f.gp
  have hlv := l3Live_c p f.Al hs w f.gl
  have hrg := regionsS_c p A hs w t hA
  have hA6 := hA.1
  have hra := rowsB_len p.types.length (ptsF p).length f.Aa
  have hrm := rowsB_len p.types.length (ptsF p).length f.Am
  have hrl := rowsB_len p.types.length (ptsF p).length f.Al
  have hfll : ((List.range (ptsF p).length).map (flB p.types.length (ptsF p).length f.Af f.Ap)).length = (ptsF p).length := by simp
  (refine pc_of_aw Tryz.func59 rfl (by simp [Tryz.ntmps59]) ?_; rw [Tryz.ntmps59])
  repeat' (first | (apply id_rw; first | ((with_reducible apply rx_callE (k := 61)); (case ha => rfl); (case h => exact hval); (case hp => (exact Pur.pf)); (case hN => rfl)) | ((with_reducible apply rx_callE (k := 106)); (case ha => rfl); (case h => exact hpt); (case hp => (exact Pur.pf)); (case hN => rfl)) | ((with_reducible apply rx_callE (k := 81) (d := 23)); (case ha => rfl); (case h => exact hfa); (case hp => (exact Pur.pf)); (case hN => rfl)) | ((with_reducible apply rx_callE (k := 81) (d := 25)); (case ha => rfl); (case h => exact hfm); (case hp => (exact Pur.pf)); (case hN => rfl)) | ((with_reducible apply rx_callE (k := 77)); (case ha => rfl); (case h => exact hlv); (case hp => (exact Pur.pf)); (case hN => rfl)) | ((with_reducible apply rx_callE (k := 75)); (case ha => rfl); (case h => exact hfl); (case hp => (exact Pur.pf)); (case hN => rfl)) | ((with_reducible apply rx_callE (k := 131)); (case ha => rfl); (case h => exact hrg); (case hp => (exact Pur.pf)); (case hN => rfl)) | (apply rx_loadA;rfl;rfl;(exact (rfl:_=[_, _]));rfl;rfl;rfl) | (apply rx_assign;rfl;rfl) | (apply rw_nil;kernel_rfl) | (apply rx_not;rfl;rfl) | (apply rx_box;rfl;rfl;rfl;rfl) | (apply rx_buildSlice;rfl;rfl;rfl;(rfl);rfl;rfl)) | (apply id_aw; first | apply aw_seq | apply aw_region | (apply aw_condF;rfl;(rfl)) | apply aw_block | apply aw_skip) | with_reducible apply tq_normal)
  refine aw_loopK (σ := Nat × List Iss × Nat) [1, 4, 5, 6, 7, 8, 9] [(1, _), (4, _), (5, _), (6, _), (7, _), (8, _), (9, _)] [0] [(0, some _)] (fun s => [(10, iv (s.1 : Int)), (3, .own 1 0 s.2.2 3)]) (fun s => [(1, some (flat cIss s.2.1))]) (fun s => s.1 ≤ (ptsF p).length ∧ s.2.1 = issF p.types (ptsF p) f.Aa f.Am f.Al (cst6 (ptsF p).length A) f.Ap s.1 ∧ s.2.2 = s.2.1.length ∧ s.2.2 ≤ 67 * s.1) (fun s => (ptsF p).length - s.1) (0, [], 0) ⟨Nat.zero_le _, rfl, rfl, Nat.le_refl _⟩ rfl rfl (by repeat' (first | exact trivial | refine And.intro rfl ?_)) (by repeat' (first | exact trivial | refine And.intro (.inr rfl) ?_)) ?_
  rintro ⟨i, L, m⟩ ⟨hi, hL, hm, hmb⟩
  dsimp only at hi hL hm hmb
  try dsimp only
  by_cases hin : i < (ptsF p).length
  · repeat' (first | (apply id_rw; first | (apply rx_move;rfl;rfl) | (apply rx_bin;rfl;rfl;rfl;rfl) | (apply rx_assign;rfl;rfl) | (apply rx_len;rfl;rfl;rfl) | (apply rw_nil;kernel_rfl)) | (apply id_aw; first | apply aw_seq | apply aw_region | (apply aw_cond;rfl;all_goals intro hc;have hq:=hc;(try simp only [bqs] at hq);try exfalso;omega) | apply aw_block | apply aw_skip) | with_reducible apply tq_normal)
    refine aw_loopK (σ := Nat × List Iss × Nat) [1, 4, 5, 6, 7, 8, 9, 10] [(1, _), (4, _), (5, _), (6, _), (7, _), (8, _), (9, _), (10, _)] [0] [(0, some _)] (fun s => [(11, iv (s.1 : Int)), (3, .own 1 0 s.2.2 3)]) (fun s => [(1, some (flat cIss s.2.1))]) (fun s => s.1 ≤ p.types.length ∧ s.2.1 = L ++ spV p.types (ptsF p) f.Aa i s.1 ∧ s.2.2 = s.2.1.length ∧ s.2.2 ≤ 67 * i + s.1) (fun s => p.types.length - s.1) (0, L, m) ⟨Nat.zero_le _, (List.append_nil L).symm, hm, hmb⟩ rfl rfl (by repeat' (first | exact trivial | refine And.intro rfl ?_)) (by repeat' (first | exact trivial | refine And.intro (.inr rfl) ?_)) ?_
    rintro ⟨v, L2, m2⟩ ⟨hv, hL2, hm2, hmb2⟩
    dsimp only at hv hL2 hm2 hmb2
    try dsimp only
    by_cases hvn : v < p.types.length
    · have hga := rowsB_get p.types.length (ptsF p).length f.Aa i v hin hvn
      have hgl : (rowsB p.types.length (ptsF p).length f.Aa)[i]!.length = p.types.length := by rw [rowsB_row _ _ _ _ hin]; simp
      repeat' (first | (apply id_rw; first | (apply rx_move;rfl;rfl) | (first | (apply rx_load1;rfl;rfl;rfl;rfl) | (apply rx_loadA;rfl;rfl;(exact (rfl:_=[_, _, _, _, _]));rfl;rfl;rfl)) | (apply rx_fieldAddr;rfl;rfl;rfl) | (first | (apply rx_guardY;rfl;rfl;rfl;(assumption)) | (apply rx_guardNs;rfl;rfl;rfl;(assumption)) | (apply rx_guardS; (case hj | hb | hN => rfl); all_goals (intro hg; have hq := hg; (try simp only [bqs] at hq); (try (exfalso; omega))))) | (first | (apply rx_add;rfl;rfl;omega;rfl) | (apply rx_bin;rfl;rfl;rfl;rfl)) | (apply rx_assign;rfl;rfl) | (first | (apply rx_pickT;rfl;(assumption);rfl;rfl) | (apply rx_pickF;rfl;(assumption);rfl;rfl)) | (apply rx_indexFN; (case hx | hi => rfl); (case hm => (first | assumption | omega)); (case hml => (rfl)); (case hα | hf | hg => infer_instance); (case hN => rfl)) | ((with_reducible apply rx_callE (k := 132)); (case ha => rfl); (case h => (apply l3Use_c <;> (omega))); (case hp => (exact Pur.pf)); (case hN => rfl)) | (first | (apply rx_len;rfl;rfl;rfl) | (apply rx_append;rfl;rfl;rfl;rfl;rfl;(rw [flat_length]; omega);(rfl);omega;omega;(exact app_iss (by (assumption)));rfl;rfl)) | (apply rw_nil;kernel_rfl) | (apply rx_buildK;rfl;(exact (rfl:_=some [_, _, _]));(exact (rfl:_=[_, _, _]));rfl) | (apply rx_not;rfl;rfl) | (apply rx_buildSlice;rfl;rfl;rfl;(exact (rfl:_=some [_, _, _]));rfl;rfl)) | (apply id_aw; first | apply aw_seq | apply aw_region | (apply aw_draw;kernel_rfl) | (apply aw_condF;rfl;(rfl)) | (apply aw_cond;rfl;all_goals intro hc;have hq:=hc;(try simp only [bqs] at hq);try exfalso;omega) | apply aw_block | apply aw_skip) | with_reducible apply tq_normal | with_reducible apply bq_normal)
      · (apply ex3 (v + 1, L2 ++ [⟨i, 1, v⟩], m2 + 1); focus (refine Le.ren [(0, 0), (1, 3)] rfl (by decide) ?_ ?_ <;> repeat' (first | exact trivial | refine And.intro ⟨_, rfl, ?_⟩ ?_ | refine And.intro ⟨_, _, rfl, rfl, ?_⟩ ?_ | exact Or.inr rfl | refine Or.inl ⟨?_, (by first | rfl | exact pur_sl _ _ | exact Pur.pf)⟩ | rfl)))
        · have hu : spU p.types (ptsF p) f.Aa i v = true := by
            unfold spU; rw [← hga, decide_eq_false (by assumption), (by assumption : (rowsB p.types.length (ptsF p).length f.Aa)[i]![v]! = false)]; rfl
          exact ⟨(by show v + 1 ≤ p.types.length; omega), (by show L2 ++ [⟨i, 1, v⟩] = _; rw [hL2, List.append_assoc, ← spV_hit hu]), (by show m2 + 1 = (L2 ++ [_]).length; rw [List.length_append, List.length_singleton, hm2]), (by show m2 + 1 ≤ 67 * i + (v + 1); omega)⟩
        · show p.types.length - (v + 1) < p.types.length - v; omega
      · (apply ex3 (v + 1, L2, m2); focus (refine Le.ren [(0, 0), (1, 1)] rfl (by decide) ?_ ?_ <;> repeat' (first | exact trivial | refine And.intro ⟨_, rfl, ?_⟩ ?_ | refine And.intro ⟨_, _, rfl, rfl, ?_⟩ ?_ | exact Or.inr rfl | refine Or.inl ⟨?_, (by first | rfl | exact pur_sl _ _ | exact Pur.pf)⟩ | rfl)))
        · have hu : spU p.types (ptsF p) f.Aa i v = false := by
            unfold spU; rw [← hga, (by assumption : (rowsB p.types.length (ptsF p).length f.Aa)[i]![v]! = true)]; simp
          exact ⟨(by show v + 1 ≤ p.types.length; omega), (by show L2 = _; rw [spV_skip hu]; exact hL2), hm2, (by show m2 ≤ 67 * i + (v + 1); omega)⟩
        · show p.types.length - (v + 1) < p.types.length - v; omega
      · (apply ex3 (v + 1, L2, m2); focus (refine Le.ren [(0, 0), (1, 1)] rfl (by decide) ?_ ?_ <;> repeat' (first | exact trivial | refine And.intro ⟨_, rfl, ?_⟩ ?_ | refine And.intro ⟨_, _, rfl, rfl, ?_⟩ ?_ | exact Or.inr rfl | refine Or.inl ⟨?_, (by first | rfl | exact pur_sl _ _ | exact Pur.pf)⟩ | rfl)))
        · have hu : spU p.types (ptsF p) f.Aa i v = false := by
            unfold spU; rw [decide_eq_true (by assumption)]; rfl
          exact ⟨(by show v + 1 ≤ p.types.length; omega), (by show L2 = _; rw [spV_skip hu]; exact hL2), hm2, (by show m2 ≤ 67 * i + (v + 1); omega)⟩
        · show p.types.length - (v + 1) < p.types.length - v; omega
    · have hvN : v = p.types.length := by omega
      have hset := w.set i hin
      have hy := w.y i hin
      have hfi : ((List.range (ptsF p).length).map (flB p.types.length (ptsF p).length f.Af f.Ap))[i]! = flB p.types.length (ptsF p).length f.Af f.Ap i := mapR_get _ _ _ hin
      have hgm : (rowsB p.types.length (ptsF p).length f.Am)[i]!.length = p.types.length := by rw [rowsB_row _ _ _ _ hin]; simp
      have hgl : (rowsB p.types.length (ptsF p).length f.Al)[i]!.length = p.types.length := by rw [rowsB_row _ _ _ _ hin]; simp
      have hf2 : (flB p.types.length (ptsF p).length f.Af f.Ap i).2.length = (ptsF p).length := by simp [flB]
      have hf4 : (((List.range (ptsF p).length).map (flB p.types.length (ptsF p).length f.Af f.Ap))[i]!.2).length = (ptsF p).length := by rw [hfi]; exact hf2
      have hacc := l4Accesses_c p.types (ptsF p)[i]! (rowsB p.types.length (ptsF p).length f.Am)[i]! htl hgm hset.1 hy
      have hlv := l4Live_c p.types (ptsF p)[i]! (rgB p.types.length (ptsF p).length A) ((List.range (ptsF p).length).map (flB p.types.length (ptsF p).length f.Af f.Ap))[i]!.2 (rowsB p.types.length (ptsF p).length f.Al)[i]! htl (by rw [hf4]; exact hpl) hgl (rgB_len _ _ _) (fun v hv => by rw [hf4]; exact rgB_row _ _ _ hv)
      have hlvl : (lvB p.types (ptsF p)[i]! (rgB p.types.length (ptsF p).length A) (rowsB p.types.length (ptsF p).length f.Al)[i]! ((List.range (ptsF p).length).map (flB p.types.length (ptsF p).length f.Af f.Ap))[i]!.2.length).length = (ptsF p).length := by unfold lvB; rw [List.length_map, List.length_range, hf4]
      have hcn := l4Conflicts_c (ptsF p) (accF p.types (ptsF p)[i]! (rowsB p.types.length (ptsF p).length f.Am)[i]![(setAt (ptsF p)[i]!).toNat]!) (rgB p.types.length (ptsF p).length A) ((List.range (ptsF p).length).map (flB p.types.length (ptsF p).length f.Af f.Ap))[i]!.2 (lvB p.types (ptsF p)[i]! (rgB p.types.length (ptsF p).length A) (rowsB p.types.length (ptsF p).length f.Al)[i]! ((List.range (ptsF p).length).map (flB p.types.length (ptsF p).length f.Af f.Ap))[i]!.2.length) hpl (by have := accF_len p.types (ptsF p)[i]! (rowsB p.types.length (ptsF p).length f.Am)[i]![(setAt (ptsF p)[i]!).toNat]!; omega) hf4 hlvl
      have hcf : cfB (ptsF p) (accF p.types (ptsF p)[i]! (rowsB p.types.length (ptsF p).length f.Am)[i]![(setAt (ptsF p)[i]!).toNat]!) ((List.range (ptsF p).length).map (flB p.types.length (ptsF p).length f.Af f.Ap))[i]!.2 (lvB p.types (ptsF p)[i]! (rgB p.types.length (ptsF p).length A) (rowsB p.types.length (ptsF p).length f.Al)[i]! ((List.range (ptsF p).length).map (flB p.types.length (ptsF p).length f.Af f.Ap))[i]!.2.length) = spC p.types (ptsF p) f.Am f.Al (cst6 (ptsF p).length A) f.Ap i := by
        rw [hfi, hf2, ← rgB_flB p.types.length (ptsF p).length A f.Ap hA6 htl hin]; rfl
      have hcl : (spC p.types (ptsF p) f.Am f.Al (cst6 (ptsF p).length A) f.Ap i).length = (ptsF p).length := by unfold spC; rw [cfB_len]
      repeat' (first | (apply id_rw; first | ((with_reducible apply rx_callE (k := 80)); (case ha => rfl); (case h => exact hacc); (case hp => (exact Pur.pf)); (case hN => rfl)) | ((with_reducible apply rx_callE (k := 76)); (case ha => rfl); (case h => exact hlv); (case hp => (exact Pur.pf)); (case hN => rfl)) | ((with_reducible apply rx_callE (k := 79)); (case ha => rfl); (case h => exact hcn); (case hp => (exact Pur.pf)); (case hN => rfl)) | (apply rx_store;rfl;rfl;rfl;rfl;rfl;(case hl => (simp; done));exact (rfl:_=[sl cBB (rgB p.types.length (ptsF p).length A), sl cB ((List.range (ptsF p).length).map (flB p.types.length (ptsF p).length f.Af f.Ap))[i]!.2])) | (with_reducible apply rw_stop (d := 14)) | (apply rx_move;rfl;rfl) | (first | (apply rx_load1;rfl;rfl;rfl;rfl) | (apply rx_loadA;rfl;rfl;(first | exact (rfl:_=[_, _]) | exact (rfl:_=[_, _, _, _, _]));rfl;rfl;rfl)) | (apply rx_fieldAddr;rfl;rfl;rfl) | (apply rx_bin;rfl;rfl;rfl;rfl) | (apply rx_assign;rfl;rfl) | (apply rx_indexFN; (case hx | hi => rfl); (case hm => (first | assumption | omega)); (case hml => (rfl)); (case hα | hf | hg => infer_instance); (case hN => rfl)) | (apply rx_len;rfl;rfl;rfl) | (apply rw_nil;kernel_rfl) | (apply rx_buildK;rfl;(exact (rfl:_=some [_, _]));(exact (rfl:_=[_, _]));rfl) | (apply rx_alloc;rfl;rfl)) | (apply id_aw; first | apply aw_seq | apply aw_region | (apply aw_draw;kernel_rfl) | (apply aw_cond;rfl;all_goals intro hc;have hq:=hc;(try simp only [bqs] at hq);try exfalso;omega) | apply aw_exit) | with_reducible apply tq_normal | with_reducible apply tq_exit | with_reducible apply bq_here)
      refine rw_go ?_
      rw [hcf]
      repeat' (first | (apply id_rw; first | (apply rx_assign;rfl;rfl) | (apply rw_nil;kernel_rfl)) | (apply id_aw; (apply aw_block)) | with_reducible apply tq_normal)
      refine aw_loopK (σ := Nat × List Iss × Nat) [1, 4, 5, 6, 7, 8, 9, 10, 13] [(1, _), (4, _), (5, _), (6, _), (7, _), (8, _), (9, _), (10, _), (13, _)] [0] [(0, some _)] (fun s => [(14, iv (s.1 : Int)), (3, .own 1 0 s.2.2 3)]) (fun s => [(1, some (flat cIss s.2.1))]) (fun s => s.1 ≤ (ptsF p).length ∧ s.2.1 = L2 ++ spL (ptsF p) (spC p.types (ptsF p) f.Am f.Al (cst6 (ptsF p).length A) f.Ap i) i s.1 ∧ s.2.2 = s.2.1.length ∧ s.2.2 ≤ 67 * i + 6 + s.1) (fun s => (ptsF p).length - s.1) (0, L2, m2) ⟨Nat.zero_le _, (List.append_nil L2).symm, hm2, by show m2 ≤ 67 * i + 6 + 0; omega⟩ rfl rfl (by repeat' (first | exact trivial | refine And.intro rfl ?_)) (by repeat' (first | exact trivial | refine And.intro (.inr rfl) ?_)) ?_
      rintro ⟨l, L3, m3⟩ ⟨hl, hL3, hm3, hmb3⟩
      dsimp only at hl hL3 hm3 hmb3
      try dsimp only
      by_cases hln : l < (ptsF p).length
      · repeat' (first | (apply id_rw; first | (apply rx_move;rfl;rfl) | (apply rx_load1;rfl;rfl;rfl;rfl) | (apply rx_fieldAddr;rfl;rfl;rfl) | (first | (apply rx_guardY;rfl;rfl;rfl;(assumption)) | (apply rx_guardNs;rfl;rfl;rfl;(assumption)) | (apply rx_guardS; (case hj | hb | hN => rfl); all_goals (intro hg; have hq := hg; (try simp only [bqs] at hq); (try (exfalso; omega))))) | (first | (apply rx_add;rfl;rfl;omega;rfl) | (apply rx_bin;rfl;rfl;rfl;rfl)) | (apply rx_assign;rfl;rfl) | (first | (apply rx_pickT;rfl;(assumption);rfl;rfl) | (apply rx_pickF;rfl;(assumption);rfl;rfl)) | (apply rx_indexFN; (case hx | hi => rfl); (case hm => (first | assumption | omega)); (case hml => (rfl)); (case hα | hf | hg => infer_instance); (case hN => rfl)) | (first | (apply rx_len;rfl;rfl;rfl) | (apply rx_append;rfl;rfl;rfl;rfl;rfl;(rw [flat_length]; omega);(rfl);omega;omega;(exact app_iss (by (assumption)));rfl;rfl)) | (apply rw_nil;kernel_rfl) | (apply rx_buildK;rfl;(exact (rfl:_=some [_, _, _]));(exact (rfl:_=[_, _, _]));rfl) | (apply rx_buildSlice;rfl;rfl;rfl;(exact (rfl:_=some [_, _, _]));rfl;rfl)) | (apply id_aw; first | apply aw_seq | apply aw_region | (apply aw_condT;rfl;(assumption)) | (apply aw_condF;rfl;(first | rfl | assumption)) | (apply aw_cond;rfl;all_goals intro hc;have hq:=hc;(try simp only [bqs] at hq);try exfalso;omega) | apply aw_block | apply aw_skip) | with_reducible apply tq_normal | with_reducible apply bq_normal)
        · (apply ex3 (l + 1, L3 ++ [⟨i, 3, l⟩], m3 + 1); focus (refine Le.ren [(0, 0), (1, 4)] rfl (by decide) ?_ ?_ <;> repeat' (first | exact trivial | refine And.intro ⟨_, rfl, ?_⟩ ?_ | refine And.intro ⟨_, _, rfl, rfl, ?_⟩ ?_ | exact Or.inr rfl | refine Or.inl ⟨?_, (by first | rfl | exact pur_sl _ _ | exact Pur.pf)⟩ | rfl)))
          · have hk : spK (ptsF p) l = 3 := by unfold spK; rw [if_pos (by assumption)]
            exact ⟨(by show l + 1 ≤ (ptsF p).length; omega), (by show L3 ++ [⟨i, 3, l⟩] = _; rw [hL3, List.append_assoc, ← hk, ← spL_hit (by assumption)]), (by show m3 + 1 = (L3 ++ [_]).length; rw [List.length_append, List.length_singleton, hm3]), (by show m3 + 1 ≤ 67 * i + 6 + (l + 1); omega)⟩
          · show (ptsF p).length - (l + 1) < (ptsF p).length - l; omega
        · (apply ex3 (l + 1, L3 ++ [⟨i, 2, l⟩], m3 + 1); focus (refine Le.ren [(0, 0), (1, 4)] rfl (by decide) ?_ ?_ <;> repeat' (first | exact trivial | refine And.intro ⟨_, rfl, ?_⟩ ?_ | refine And.intro ⟨_, _, rfl, rfl, ?_⟩ ?_ | exact Or.inr rfl | refine Or.inl ⟨?_, (by first | rfl | exact pur_sl _ _ | exact Pur.pf)⟩ | rfl)))
          · have hk : spK (ptsF p) l = 2 := by unfold spK; rw [if_neg (by assumption)]
            exact ⟨(by show l + 1 ≤ (ptsF p).length; omega), (by show L3 ++ [⟨i, 2, l⟩] = _; rw [hL3, List.append_assoc, ← hk, ← spL_hit (by assumption)]), (by show m3 + 1 = (L3 ++ [_]).length; rw [List.length_append, List.length_singleton, hm3]), (by show m3 + 1 ≤ 67 * i + 6 + (l + 1); omega)⟩
          · show (ptsF p).length - (l + 1) < (ptsF p).length - l; omega
        · (apply ex3 (l + 1, L3, m3); focus (refine Le.ren [(0, 0), (1, 1)] rfl (by decide) ?_ ?_ <;> repeat' (first | exact trivial | refine And.intro ⟨_, rfl, ?_⟩ ?_ | refine And.intro ⟨_, _, rfl, rfl, ?_⟩ ?_ | exact Or.inr rfl | refine Or.inl ⟨?_, (by first | rfl | exact pur_sl _ _ | exact Pur.pf)⟩ | rfl)))
          · exact ⟨(by show l + 1 ≤ (ptsF p).length; omega), (by show L3 = _; rw [spL_skip (by assumption)]; exact hL3), hm3, (by show m3 ≤ 67 * i + 6 + (l + 1); omega)⟩
          · show (ptsF p).length - (l + 1) < (ptsF p).length - l; omega
      · repeat' (first | (apply id_rw; first | (apply rx_move;rfl;rfl) | (first | (apply rx_add;rfl;rfl;omega;rfl) | (apply rx_bin;rfl;rfl;rfl;rfl)) | (apply rx_assign;rfl;rfl) | (apply rx_len;rfl;rfl;rfl) | (apply rw_nil;kernel_rfl)) | (apply id_aw; first | apply aw_seq | apply aw_region | (apply aw_cond;rfl;all_goals intro hc;have hq:=hc;(try simp only [bqs] at hq);try exfalso;omega) | apply aw_exit) | with_reducible apply tq_normal | with_reducible apply tq_exit | with_reducible apply bq_normal | with_reducible apply bq_here)
        (apply ex3 (i + 1, L3, m3); focus (refine Le.ren [(0, 0), (1, 1)] rfl (by decide) ?_ ?_ <;> repeat' (first | exact trivial | refine And.intro ⟨_, rfl, ?_⟩ ?_ | refine And.intro ⟨_, _, rfl, rfl, ?_⟩ ?_ | exact Or.inr rfl | refine Or.inl ⟨?_, (by first | rfl | exact pur_sl _ _ | exact Pur.pf)⟩ | rfl)))
        · refine ⟨(by show i + 1 ≤ (ptsF p).length; omega), ?_, hm3, (by show m3 ≤ 67 * (i + 1); omega)⟩
          show L3 = issF p.types (ptsF p) f.Aa f.Am f.Al (cst6 (ptsF p).length A) f.Ap (i + 1)
          rw [issF_succ, ← spP_eqA w f (cst6_len A hA6 _) hin, hL3, hL2, hL, hvN, show l = (ptsF p).length by omega, List.append_assoc]
          rfl
        · show (ptsF p).length - (i + 1) < (ptsF p).length - i; omega
  · repeat' (first | (apply id_rw; first | (apply rx_move;rfl;rfl) | (apply rx_bin;rfl;rfl;rfl;rfl) | (apply rx_assign;rfl;rfl) | (apply rx_len;rfl;rfl;rfl) | (apply rw_nil;kernel_rfl)) | (apply id_aw; first | apply aw_seq | apply aw_region | (apply aw_cond;rfl;all_goals intro hc;have hq:=hc;(try simp only [bqs] at hq);try exfalso;omega) | apply aw_exit | apply aw_ret) | with_reducible apply tq_normal | with_reducible apply tq_exit | with_reducible apply bq_here)
    have hiN : i = (ptsF p).length := by omega
    refine rq_le (Le.frzD (d := 2) (i := 1) rfl rfl) ?_
    refine rq_ret rfl ⟨?_, (by (exact pur_sl _ _))⟩
    simp only [oneOf]
    rw [hm, hL, hiN]; rfl
end Go.Proofs.YtejkbiijonnefaaGreat

namespace Go.Proofs.YtejkbiijonnefaaGreat
open Go.AL Go.RowKit

theorem check_reg (p : Prg) (hl : p.types.length ≤ 1000000) (hs : cntL p.body ≤ 1000000) : ∃ (L G : List Iss) (UN : List Int),
    PC Tryz.prog 21 [aPrg p] (fun r => r = sl cIss L) ∧ PC Tryz.prog 58 [aPrg p] (fun r => r = sl cIss G) ∧ PC Tryz.prog 59 [aPrg p] (fun r => r = sl cIss G) ∧ PC Tryz.prog 22 [aPrg p] (fun r => r = sl cI UN) ∧
    (∀ k, k < L.length → L[k]! ∈ G) ∧ L.length ≤ G.length ∧ (∀ k, k < G.length → G[k]!.kind = 1 → G[k]!.point ∈ UN) ∧ L.length ≤ 1000000 ∧ G.length ≤ 1000000 ∧ UN.length ≤ 1000000 := by
  cases hv : validF p
  · exact ⟨[], [], [], CheckI0_c p hv hl hs, CheckRI0_c p hv hl hs, CheckRS0_c p hv hl hs, UnsetNo_c p hv hl hs, fun k h => by simp at h, Nat.le_refl _, fun k h => by simp at h, by simp, by simp, by simp⟩
  · have w := WG.of_valid hv
    have t := WT.of_valid hv
    obtain ⟨f⟩ := Flows.ex w
    obtain ⟨A, hA⟩ := GoodG.exist w t
    have hpl := w.pl
    have e : chkF p f = f.iss := if_pos hv
    have hb := issF_bd (ts := p.types) (pts := ptsF p) f.Aa f.Am f.Al (cst6 (ptsF p).length A) f.Ap (ptsF p).length
    have hu : (unL p.types (ptsF p) f.Aa (ptsF p).length).length ≤ (ptsF p).length := by
      unfold unL; rw [List.length_map]; exact Nat.le_trans (List.length_filter_le _ _) (by simp)
    refine ⟨f.iss, regF p f A, unL p.types (ptsF p) f.Aa (ptsF p).length, by rw [← e]; exact CheckI_c p f hl hs, CheckRI_c p f A hA hv hl hs, CheckRS_c p f A hA hv hl hs, UnsetY_c p f hv hl hs,
      fun k hk => reg_sub w t f hA _ (getB_mem _ k hk), reg_len w t f hA _ (Nat.le_refl _), fun k hk h1 => un_of (getB_mem _ k hk) h1, Nat.le_trans (iss_len' w f) (by decide), Nat.le_trans hb (by omega), by omega⟩
theorem drawReg_c (bs : List UInt8) (hb : bs.length ≤ 1048576) : PC Tryz.prog 57 [sl cU bs] (fun r => ∃ q : Prg, r = aPrg q ∧ cntL q.body ≤ 20000 ∧ q.types.length ≤ 1000) := by
  (refine pc_of_aw Tryz.func57 rfl (by simp [Tryz.ntmps57]) ?_; rw [Tryz.ntmps57])
  repeat' (first | (apply id_rw; first | ((with_reducible apply rx_call (k := 31)); (case ha => rfl); (case h => exact drawCheck_c bs hb); (case hp => (exact Pur.pf)); (case hN => rfl); (rintro _ ⟨q, rfl, hq1, hq2⟩ _)) | (apply rx_move;rfl;rfl) | (apply rw_nil;kernel_rfl) | (apply rx_alloc;rfl;rfl) | (apply rx_store;rfl;rfl;rfl;rfl;rfl;(case hl => (simp;done));(exact (rfl:_=[_, _])))) | (apply id_aw; first | apply aw_seq | apply aw_region | apply aw_ret) | with_reducible apply tq_normal)
  exact rq_ret (l := [aPrg q]) rfl ⟨⟨q, rfl, hq1, hq2⟩, Pur.pf⟩
theorem FnCheckRegions_c (bs : List UInt8) : PC Tryz.prog 12 [sl cU bs] (fun r => r = bv true) := by
  rcases Nat.lt_or_ge 1048576 bs.length with hb | hb
  · (refine pc_of_aw Tryz.func12 rfl (by simp [Tryz.ntmps12]) ?_; rw [Tryz.ntmps12])
    repeat' (first | (apply id_rw; first | (apply rx_move;rfl;rfl) | (apply rx_bin;rfl;rfl;rfl;rfl) | (apply rx_assign;rfl;rfl) | (apply rx_len;rfl;rfl;rfl) | (apply rw_nil;kernel_rfl)) | (apply id_aw; first | apply aw_seq | apply aw_region | (apply aw_cond;rfl;all_goals intro hc;have hq:=hc;(try simp only [bqs] at hq);try exfalso;omega) | apply aw_ret) | with_reducible apply tq_normal | with_reducible apply tq_ret)
    exact rq_ret rfl ⟨rfl, rfl⟩
  (refine pc_of_aw Tryz.func12 rfl (by simp [Tryz.ntmps12]) ?_; rw [Tryz.ntmps12])
  repeat' (first | (apply id_rw; first | ((with_reducible apply rx_call (k := 57)); (case ha => rfl); (case h => exact drawReg_c bs hb); (case hp => (exact Pur.pf)); (case hN => rfl); (rintro _ ⟨q, rfl, hq1, hq2⟩ _)) | (with_reducible apply rw_stop (d := 14)) | (apply rx_move;rfl;rfl) | (apply rx_bin;rfl;rfl;rfl;rfl) | (apply rx_assign;rfl;rfl) | (apply rx_len;rfl;rfl;rfl) | (apply rw_nil;kernel_rfl) | (apply rx_alloc;rfl;rfl) | (apply rx_store;rfl;rfl;rfl;rfl;rfl;(case hl => (simp;done));(exact (rfl:_=[_, _])))) | (apply id_aw; first | apply aw_seq | apply aw_region | (apply aw_cond;rfl;all_goals intro hc;have hq:=hc;(try simp only [bqs] at hq);try exfalso;omega) | apply aw_skip) | with_reducible apply tq_normal)
  refine rw_go ?_
  obtain ⟨L, G, UN, h1, h2, h3, h4, e1, e2, e3, b1, b2, b3⟩ := check_reg q (by omega) (by omega)
  have v1 := bcIssues_c G b2
  have v2 := AcceptsI2_c q L (by omega) (by omega) h1
  have hval := validI_c q (by omega) (by omega)
  repeat' (first | (apply id_rw; first | ((with_reducible apply rx_callE (k := 58)); (case ha => rfl); (case h => exact h2); (case hp => (exact Pur.pf)); (case hN => rfl)) | ((with_reducible apply rx_callE (k := 59)); (case ha => rfl); (case h => exact h3); (case hp => (exact Pur.pf)); (case hN => rfl)) | ((with_reducible apply rx_callE (k := 32)); (case ha => rfl); (case h => exact v1); (case hp => (exact Pur.pf)); (case hN => rfl)) | ((with_reducible apply rx_callE (k := 21)); (case ha => rfl); (case h => exact h1); (case hp => (exact Pur.pf)); (case hN => rfl)) | (apply rx_move;rfl;rfl) | (apply rx_loadA;rfl;rfl;(exact (rfl:_=[_, _]));rfl;rfl;rfl) | (apply rx_assign;rfl;rfl) | (apply rw_nil;kernel_rfl) | (apply rx_not;rfl;rfl)) | (apply id_aw; first | apply aw_seq | apply aw_region | (apply aw_condF;rfl;(rfl)) | apply aw_block | apply aw_skip) | with_reducible apply tq_normal)
  refine aw_loopK (σ := Nat) [3, 4, 5] [(3, _), (4, _), (5, _)] [0] [(0, some _)] (fun s => [(6, iv (s : Int))]) (fun s => []) (fun s => s ≤ L.length) (fun s => L.length - s) (0) (by omega) rfl rfl (by repeat' (first | exact trivial | refine And.intro rfl ?_)) (by repeat' (exact trivial)) ?_
  intro i hi
  by_cases hin : i < L.length
  · have hmem := e1 i hin
    repeat' (first | (apply id_rw; first | (apply rx_move;rfl;rfl) | (apply rx_bin;rfl;rfl;rfl;rfl) | (apply rx_assign;rfl;rfl) | (apply rx_len;rfl;rfl;rfl) | (apply rw_nil;kernel_rfl)) | (apply id_aw; first | apply aw_seq | apply aw_region | (apply aw_cond;rfl;all_goals intro hc;have hq:=hc;(try simp only [bqs] at hq);try exfalso;omega) | apply aw_block | apply aw_skip) | with_reducible apply tq_normal)
    refine aw_loopK (σ := Nat × Bool) [3, 4, 5, 6] [(3, _), (4, _), (5, _), (6, _)] [0] [(0, some _)] (fun s => [(8, iv (s.1 : Int)), (7, bv s.2)]) (fun s => []) (fun s => s.1 ≤ G.length ∧ (s.2 = false → ∀ j, j < s.1 → eqI G[j]! L[i]! = false)) (fun s => G.length - s.1) (0, false) ⟨by omega, fun _ => by omega⟩ rfl rfl (by repeat' (first | exact trivial | refine And.intro rfl ?_)) (by repeat' (exact trivial)) ?_
    rintro ⟨k, b⟩ ⟨hk, hall⟩
    dsimp only at hk hall
    try dsimp only
    have heq : (G[k]!.point == L[i]!.point && (G[k]!.kind == L[i]!.kind && G[k]!.with_ == L[i]!.with_)) = eqI G[k]! L[i]! := rfl
    by_cases hkn : k < G.length
    · cases b with
      | true =>
        repeat' (first | (apply id_rw; first | (apply rx_move;rfl;rfl) | (apply rx_guardNs;rfl;rfl;rfl;(rfl)) | (first | (apply rx_add;rfl;rfl;omega;rfl) | (apply rx_bin;rfl;rfl;rfl;rfl)) | (apply rx_assign;rfl;rfl) | (apply rx_pickT;rfl;(rfl);rfl;rfl) | (apply rx_len;rfl;rfl;rfl) | (apply rw_nil;kernel_rfl)) | (apply id_aw; first | apply aw_seq | apply aw_region | (apply aw_draw;kernel_rfl) | (apply aw_cond;rfl;all_goals intro hc;have hq:=hc;(try simp only [bqs] at hq);try exfalso;omega) | apply aw_block | apply aw_skip) | with_reducible apply tq_normal | with_reducible apply bq_normal)
        (apply ex3 (k + 1, true); focus (refine Le.ren [(0, 0)] rfl (by decide) ?_ ?_ <;> repeat' (first | exact trivial | refine And.intro ⟨_, rfl, ?_⟩ ?_ | refine And.intro ⟨_, _, rfl, rfl, ?_⟩ ?_ | exact Or.inr rfl | refine Or.inl ⟨?_, (by first | rfl | exact pur_sl _ _ | exact Pur.pf)⟩ | rfl)))
        · exact ⟨by show k + 1 ≤ _; omega, fun h => by cases h⟩
        · show G.length - (k + 1) < G.length - k; omega
      | false =>
        repeat' (first | (apply id_rw; first | (apply rx_eq3;rfl;rfl;(rw [heq]; rfl);rfl) | (apply rx_move;rfl;rfl) | (apply rx_loadA;rfl;rfl;(exact (rfl:_=[_, _, _]));rfl;rfl;rfl) | (apply rx_guardY;rfl;rfl;rfl;(rfl)) | (first | (apply rx_add;rfl;rfl;omega;rfl) | (apply rx_bin;rfl;rfl;rfl;rfl)) | (apply rx_assign;rfl;rfl) | (apply rx_pickF;rfl;(rfl);rfl;rfl) | (apply rx_indexFN; (case hx | hi => rfl); (case hm => (assumption)); (case hml => (rfl)); (case hα | hf | hg => infer_instance); (case hN => rfl)) | (apply rx_len;rfl;rfl;rfl) | (apply rw_nil;kernel_rfl)) | (apply id_aw; first | apply aw_seq | apply aw_region | (apply aw_draw;kernel_rfl) | (apply aw_cond;rfl;all_goals intro hc;have hq:=hc;(try simp only [bqs] at hq);try exfalso;omega) | apply aw_block | apply aw_skip) | with_reducible apply tq_normal | with_reducible apply bq_normal)
        (apply ex3 (k + 1, eqI G[k]! L[i]!); focus (refine Le.ren [(0, 0)] rfl (by decide) ?_ ?_ <;> repeat' (first | exact trivial | refine And.intro ⟨_, rfl, ?_⟩ ?_ | refine And.intro ⟨_, _, rfl, rfl, ?_⟩ ?_ | exact Or.inr rfl | refine Or.inl ⟨?_, (by first | rfl | exact pur_sl _ _ | exact Pur.pf)⟩ | rfl)))
        · refine ⟨by show k + 1 ≤ _; omega, fun h j hj => ?_⟩
          by_cases e : j = k
          · subst e; exact h
          · exact hall rfl j (by omega)
        · show G.length - (k + 1) < G.length - k; omega
    · cases b with
      | false =>
        exfalso
        obtain ⟨j, hj, e⟩ := List.getElem_of_mem hmem
        have h := hall rfl j (by omega)
        rw [getB _ _ hj, e, (eqI_iff _ _).2 rfl] at h; cases h
      | true =>
        repeat' (first | (apply id_rw; first | (apply rx_move;rfl;rfl) | (first | (apply rx_add;rfl;rfl;omega;rfl) | (apply rx_bin;rfl;rfl;rfl;rfl)) | (apply rx_assign;rfl;rfl) | (apply rx_len;rfl;rfl;rfl) | (apply rw_nil;kernel_rfl) | (apply rx_not;rfl;rfl)) | (apply id_aw; first | apply aw_seq | apply aw_region | (apply aw_condF;rfl;(rfl)) | (apply aw_cond;rfl;all_goals intro hc;have hq:=hc;(try simp only [bqs] at hq);try exfalso;omega) | apply aw_skip | apply aw_exit) | with_reducible apply tq_normal | with_reducible apply tq_exit | with_reducible apply bq_normal | with_reducible apply bq_here)
        (apply ex3 (i + 1); focus (refine Le.ren [(0, 0)] rfl (by decide) ?_ ?_ <;> repeat' (first | exact trivial | refine And.intro ⟨_, rfl, ?_⟩ ?_ | refine And.intro ⟨_, _, rfl, rfl, ?_⟩ ?_ | exact Or.inr rfl | refine Or.inl ⟨?_, (by first | rfl | exact pur_sl _ _ | exact Pur.pf)⟩ | rfl)))
        · omega
        · omega
  · repeat' (first | (apply id_rw; first | ((with_reducible apply rx_callE (k := 56)); (case ha => rfl); (case h => exact hval); (case hp => (exact Pur.pf)); (case hN => rfl)) | ((with_reducible apply rx_callE (k := 19)); (case ha => rfl); (case h => exact v2); (case hp => (exact Pur.pf)); (case hN => rfl)) | (apply rx_move;rfl;rfl) | (apply rx_loadA;rfl;rfl;(exact (rfl:_=[_, _]));rfl;rfl;rfl) | (first | (apply rx_guardY;rfl;rfl;rfl;(assumption)) | (apply rx_guardNs;rfl;rfl;rfl;(first | rfl | assumption)) | (apply rx_guardS; (case hj | hb | hN => rfl); all_goals (intro hg; have hq := hg; (try simp only [bqs] at hq); (try (exfalso; omega))))) | (apply rx_bin;rfl;rfl;rfl;rfl) | (apply rx_assign;rfl;rfl) | (first | (apply rx_pickT;rfl;(first | rfl | assumption);rfl;rfl) | (apply rx_pickF;rfl;(assumption);rfl;rfl)) | (apply rx_len;rfl;rfl;rfl) | (apply rw_nil;kernel_rfl) | (apply rx_not;rfl;rfl)) | (apply id_aw; first | apply aw_seq | apply aw_region | (apply aw_cond;rfl;all_goals intro hc;have hq:=hc;(try simp only [bqs] at hq);try exfalso;omega) | apply aw_exit | apply aw_ret) | with_reducible apply tq_normal | with_reducible apply tq_exit | with_reducible apply bq_here)
    · refine rq_ret rfl ⟨?_, rfl⟩
      have hL : L = [] := List.eq_nil_of_length_eq_zero (by omega)
      simp only [oneOf]
      rw [(by assumption : validF q = true), hL]; rfl
    · exact rq_ret rfl ⟨rfl, rfl⟩
    · exact rq_ret rfl ⟨rfl, rfl⟩
theorem FnRegionsUnset_c (bs : List UInt8) : PC Tryz.prog 13 [sl cU bs] (fun r => r = bv true) := by
  rcases Nat.lt_or_ge 1048576 bs.length with hb | hb
  · (refine pc_of_aw Tryz.func13 rfl (by simp [Tryz.ntmps13]) ?_; rw [Tryz.ntmps13])
    repeat' (first | (apply id_rw; first | (apply rx_move;rfl;rfl) | (apply rx_bin;rfl;rfl;rfl;rfl) | (apply rx_assign;rfl;rfl) | (apply rx_len;rfl;rfl;rfl) | (apply rw_nil;kernel_rfl)) | (apply id_aw; first | apply aw_seq | apply aw_region | (apply aw_cond;rfl;all_goals intro hc;have hq:=hc;(try simp only [bqs] at hq);try exfalso;omega) | apply aw_ret) | with_reducible apply tq_normal | with_reducible apply tq_ret)
    exact rq_ret rfl ⟨rfl, rfl⟩
  (refine pc_of_aw Tryz.func13 rfl (by simp [Tryz.ntmps13]) ?_; rw [Tryz.ntmps13])
  repeat' (first | (apply id_rw; first | ((with_reducible apply rx_call (k := 57)); (case ha => rfl); (case h => exact drawReg_c bs hb); (case hp => (exact Pur.pf)); (case hN => rfl); (rintro _ ⟨q, rfl, hq1, hq2⟩ _)) | (with_reducible apply rw_stop (d := 11)) | (apply rx_move;rfl;rfl) | (apply rx_bin;rfl;rfl;rfl;rfl) | (apply rx_assign;rfl;rfl) | (apply rx_len;rfl;rfl;rfl) | (apply rw_nil;kernel_rfl) | (apply rx_alloc;rfl;rfl) | (apply rx_store;rfl;rfl;rfl;rfl;rfl;(case hl => (simp;done));(exact (rfl:_=[_, _])))) | (apply id_aw; first | apply aw_seq | apply aw_region | (apply aw_cond;rfl;all_goals intro hc;have hq:=hc;(try simp only [bqs] at hq);try exfalso;omega) | apply aw_skip) | with_reducible apply tq_normal)
  refine rw_go ?_
  obtain ⟨L, G, UN, h1, h2, h3, h4, e1, e2, e3, b1, b2, b3⟩ := check_reg q (by omega) (by omega)
  have v1 := bcIssues_c G b2
  repeat' (first | (apply id_rw; first | ((with_reducible apply rx_callE (k := 58)); (case ha => rfl); (case h => exact h2); (case hp => (exact Pur.pf)); (case hN => rfl)) | ((with_reducible apply rx_callE (k := 59)); (case ha => rfl); (case h => exact h3); (case hp => (exact Pur.pf)); (case hN => rfl)) | ((with_reducible apply rx_callE (k := 32)); (case ha => rfl); (case h => exact v1); (case hp => (exact Pur.pf)); (case hN => rfl)) | (apply rx_move;rfl;rfl) | (apply rx_loadA;rfl;rfl;(exact (rfl:_=[_, _]));rfl;rfl;rfl) | (apply rx_assign;rfl;rfl) | (apply rw_nil;kernel_rfl) | (apply rx_not;rfl;rfl)) | (apply id_aw; first | apply aw_seq | apply aw_region | (apply aw_condF;rfl;(rfl)) | apply aw_block | apply aw_skip) | with_reducible apply tq_normal)
  refine aw_loopK (σ := Nat) [3, 4] [(3, _), (4, _)] [0] [(0, some _)] (fun s => [(5, iv (s : Int))]) (fun s => []) (fun s => s ≤ G.length) (fun s => G.length - s) (0) (by omega) rfl rfl (by repeat' (first | exact trivial | refine And.intro rfl ?_)) (by repeat' (exact trivial)) ?_
  intro i hi
  have v2 := bcIn_c UN G[i]!.point (by omega)
  have h9 := e3 i
  repeat' (first | (apply id_rw; first | ((with_reducible apply rx_callE (k := 22)); (case ha => rfl); (case h => exact h4); (case hp => (exact Pur.pf)); (case hN => rfl)) | ((with_reducible apply rx_callE (k := 30)); (case ha => rfl); (case h => exact v2); (case hp => (exact Pur.pf)); (case hN => rfl)) | ((with_reducible apply rx_callE (k := 21)); (case ha => rfl); (case h => exact h1); (case hp => (exact Pur.pf)); (case hN => rfl)) | (apply rx_move;rfl;rfl) | (first | (apply rx_load1;rfl;rfl;rfl;rfl) | (apply rx_loadA;rfl;rfl;(exact (rfl:_=[_, _]));rfl;rfl;rfl)) | (apply rx_fieldAddr;rfl;rfl;rfl) | (first | (apply rx_guardY;rfl;rfl;rfl;(assumption)) | (apply rx_guardNs;rfl;rfl;rfl;(assumption)) | (apply rx_guardS; (case hj | hb | hN => rfl); all_goals (intro hg; have hq := hg; (try simp only [bqs] at hq); (try (exfalso; omega))))) | (first | (apply rx_add;rfl;rfl;omega;rfl) | (apply rx_bin;rfl;rfl;rfl;rfl)) | (apply rx_assign;rfl;rfl) | (first | (apply rx_pickT;rfl;(assumption);rfl;rfl) | (apply rx_pickF;rfl;(assumption);rfl;rfl)) | (apply rx_indexFN; (case hx | hi => rfl); (case hm => (omega)); (case hml => (rfl)); (case hα | hf | hg => infer_instance); (case hN => rfl)) | (apply rx_len;rfl;rfl;rfl) | (apply rw_nil;kernel_rfl) | (apply rx_not;rfl;rfl)) | (apply id_aw; first | apply aw_seq | apply aw_region | (apply aw_draw;kernel_rfl) | (apply aw_condF;rfl;(rfl)) | (apply aw_cond;rfl;all_goals intro hc;have hq:=hc;(try simp only [bqs] at hq);try exfalso;omega) | apply aw_block | apply aw_skip | apply aw_exit | apply aw_ret) | with_reducible apply tq_normal | with_reducible apply tq_ret | with_reducible apply tq_exit | with_reducible apply bq_normal | with_reducible apply bq_ret | with_reducible apply bq_here)
  · exact absurd (h9 (by omega) (by assumption)) (by assumption)
  · (apply ex3 (i + 1); focus (refine Le.ren [(0, 0)] rfl (by decide) ?_ ?_ <;> repeat' (first | exact trivial | refine And.intro ⟨_, rfl, ?_⟩ ?_ | refine And.intro ⟨_, _, rfl, rfl, ?_⟩ ?_ | exact Or.inr rfl | refine Or.inl ⟨?_, (by first | rfl | exact pur_sl _ _ | exact Pur.pf)⟩ | rfl)))
    · omega
    · omega
  · (apply ex3 (i + 1); focus (refine Le.ren [(0, 0)] rfl (by decide) ?_ ?_ <;> repeat' (first | exact trivial | refine And.intro ⟨_, rfl, ?_⟩ ?_ | refine And.intro ⟨_, _, rfl, rfl, ?_⟩ ?_ | exact Or.inr rfl | refine Or.inl ⟨?_, (by first | rfl | exact pur_sl _ _ | exact Pur.pf)⟩ | rfl)))
    · omega
    · omega
  · refine rq_ret rfl ⟨?_, rfl⟩
    simp only [oneOf]
    rw [decide_eq_true (by omega)]
end Go.Proofs.YtejkbiijonnefaaGreat
