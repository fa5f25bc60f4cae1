/-
  A part of the proofs over this program: rules and contracts of its functions (the contracts).
-/
import Derived.Test.YtejkbiijonnefaaGreatB01
set_option linter.unusedVariables false
set_option linter.unusedSimpArgs false
set_option maxHeartbeats 8000000
set_option maxRecDepth 4000
attribute [local irreducible] Go.AL.RW Go.AL.AW Go.AL.Stop
namespace Go.Proofs.YtejkbiijonnefaaGreat
open Go.AL Go.RowKit

theorem forwardA_c (ts : List Int) (bd : List AL.Stmt) (pts : List Pnt) (A : List Nat) (w : WG ts pts) (hA : GoodA ts pts A) : PC Tryz.prog 143 [aG ts bd pts, iv 0, bv true, .clos (.func 144) [aG ts bd pts] []] (fun r => r = .imm pts.length (flat cN A)) := by
  have hpl := w.pl
  have hp0 := w.p0
  have htl := w.tl
  have fl := flowA w
  (refine pc_of_aw Tryz.func143 rfl (by simp [Tryz.ntmps143]) ?_; rw [Tryz.ntmps143])
  repeat' (first | (apply id_rw; first | (apply rx_move;rfl;rfl) | (apply rx_load1;rfl;rfl;rfl;rfl) | (apply rx_fieldAddr;rfl;rfl;rfl) | (apply rx_assign;rfl;rfl) | (apply rx_len;rfl;rfl;rfl) | (apply rw_nil;kernel_rfl) | (apply rx_nil;rfl;rfl;rfl) | (apply rx_makeSliceE;rfl;rfl;rfl;omega;omega;(exact mk_nat);rfl;rfl)) | (apply id_aw; first | apply aw_seq | apply aw_region | (apply aw_condT;rfl;(rfl)) | apply aw_block) | with_reducible apply tq_normal)
  refine aw_loopK (σ := Nat × List Nat) [0, 1, 2, 3, 9, 26] [(0, _), (1, _), (2, _), (3, _), (9, _), (26, _)] [] [] (fun k => [(27, iv (k.1 : Int))]) (fun k => [(0, some (flat cN k.2))]) (fun k => k.1 ≤ pts.length ∧ k.2 = List.replicate k.1 (2 ^ ts.length - 1) ++ List.replicate (pts.length - k.1) 0) (fun k => pts.length - k.1) (0, List.replicate pts.length 0) ⟨by omega, by simp⟩ rfl rfl (by repeat' (first | exact trivial | refine And.intro rfl ?_)) (by repeat' (first | exact trivial | refine And.intro (.inr rfl) ?_)) ?_
  rintro ⟨k0, u0⟩ ⟨hk0, hu0⟩
  dsimp only at hk0 hu0 ⊢
  have hul0 : u0.length = pts.length := by rw [hu0]; simp; omega
  repeat' (first | (apply id_rw; first | (apply rx_move;rfl;rfl) | (first | (apply rx_add;rfl;rfl;omega;rfl) | (apply rx_bin;rfl;rfl;rfl;rfl)) | (apply rx_assign;rfl;rfl) | (apply rx_indexON;rfl;rfl;(first | assumption | omega);rfl) | ((with_reducible apply rx_callE (k := 182)); (case ha => rfl); (case h => (apply all_c <;> (assumption))); (case hp => (exact Pur.pf)); (case hN => rfl)) | (apply rw_nil;kernel_rfl) | (apply rx_store;rfl;rfl;rfl;rfl;rfl;(rw [flat_length]; simp only [lns] <;> omega);(exact st_nat (by (first | omega | (simp only [lns] <;> omega)))))) | (apply id_aw; first | apply aw_seq | apply aw_region | (apply aw_cond;rfl;all_goals intro hc;have hq:=hc;(try simp only [bqs] at hq);try exfalso;omega) | apply aw_block | apply aw_skip | apply aw_exit) | with_reducible apply tq_normal | with_reducible apply tq_exit | with_reducible apply bq_normal | with_reducible apply bq_here)
  · (apply ex3 (k0 + 1, _); focus (refine Le.ren [(0, 0)] rfl (by decide) ?_ ?_ <;> repeat' (first | exact trivial | refine And.intro ⟨_, rfl, ?_⟩ ?_ | refine And.intro ⟨_, _, rfl, rfl, ?_⟩ ?_ | exact Or.inr rfl | refine Or.inl ⟨?_, (by first | rfl | exact pur_sl _ _ | exact Pur.pf | exact PurV.pf)⟩ | rfl)))
    · dsimp only
      exact ⟨by omega, by rw [hu0]; exact rep_set (by omega)⟩
    · dsimp only; omega
  have hk1 : k0 = pts.length := by omega
  subst hk1
  rw [Nat.sub_self, List.replicate_zero, List.append_nil] at hu0
  refine aw_loopK (σ := List Nat × Bool) [0, 2, 3, 9] [(0, _), (2, _), (3, _), (9, _)] [] [] (fun s => [(11, bv s.2)]) (fun s => [(0, some (flat cN s.1))]) (fun s => SG pts (PpA ts pts) s.1 ∧ s.1[0]! = 0 ∧ (s.2 = false → ClosedG opI (fun i A => valF ts pts[i]! A) pts s.1)) (fun s => 2 * sumL (s.1.map (fun a => a)) + s.2.toNat) ((u0.set 0 0), true) ⟨(startA w hu0).1, (startA w hu0).2, fun h => by cases h⟩ rfl rfl (by repeat' (first | exact trivial | refine And.intro rfl ?_)) (by repeat' (first | exact trivial | refine And.intro (.inr rfl) ?_)) ?_
  rintro ⟨s, b⟩ ⟨hS, hE, hC⟩
  dsimp only at hS hE hC ⊢
  repeat' (first | (apply id_rw; first | (apply rx_move;rfl;rfl) | (apply rx_load1;rfl;rfl;rfl;rfl) | (apply rx_fieldAddr;rfl;rfl;rfl) | (apply rx_assign;rfl;rfl) | (apply rx_len;rfl;rfl;rfl) | (apply rw_nil;kernel_rfl) | (apply rx_nil;rfl;rfl;rfl)) | (apply id_aw; first | apply aw_seq | apply aw_region | (apply aw_cond;rfl;all_goals intro hc;have hq:=hc;(try simp only [bqs] at hq);try exfalso;omega) | apply aw_block | apply aw_skip | apply aw_exit | apply aw_ret) | with_reducible apply tq_normal | with_reducible apply tq_exit | with_reducible apply bq_here)
  · refine aw_loopK (σ := Nat × (List Nat × Bool)) [0, 2, 3, 9, 43, 44] [(0, _), (2, _), (3, _), (9, _), (43, _), (44, _)] [] [] (fun k => [(45, iv (k.1 : Int)), (11, bv k.2.2)]) (fun k => [(0, some (flat cN k.2.1))]) (fun k => k.1 ≤ pts.length ∧ k.2 = (List.range k.1).foldl (innG opI (fun i A => valF ts pts[i]! A) pts) (s, false) ∧ SG pts (PpA ts pts) k.2.1 ∧ k.2.1[0]! = 0) (fun k => pts.length - k.1) (0, (s, false)) ⟨by omega, rfl, hS, hE⟩ rfl rfl (by repeat' (first | exact trivial | refine And.intro rfl ?_)) (by repeat' (first | exact trivial | refine And.intro (.inr rfl) ?_)) ?_
    rintro ⟨k, u, c⟩ ⟨hk, hf, hS2, hE2⟩
    dsimp only at hk hf hS2 hE2 ⊢
    have hsm : ∀ z, Sm u[z]! := sm_all hS2 (fun i A h => h.1) htl
    have hul := hS2.1
    repeat' (first | (apply id_rw; first | (apply rx_move;rfl;rfl) | (first | (apply rx_loadF0; (case hx | hH => rfl); (case hf | hg | hα => infer_instance); (case hk => omega); (case hc | hN => rfl)) | (apply rx_load1;rfl;rfl;rfl;rfl) | (apply rx_loadA;rfl;rfl;(exact (rfl:_=[_, _, _, _, _]));rfl;rfl;rfl)) | (apply rx_fieldAddr;rfl;rfl;rfl) | (apply rx_bin;rfl;rfl;rfl;rfl) | (apply rx_assign;rfl;rfl) | (first | (apply rx_indexFN; (case hx | hi => rfl); (case hm => (omega)); (case hml => (rfl)); (case hα | hf | hg => infer_instance); (case hN => rfl)) | (apply rx_indexON;rfl;rfl;(omega);rfl)) | (apply rx_len;rfl;rfl;rfl) | ((with_reducible apply rx_callC); (case hx | hcl => rfl); (case hc => infer_instance); (case ha => rfl); (case h => (apply valued_c <;> (first | assumption | omega | infer_instance))); (case hp => (exact Pur.pf)); (case hN => rfl)) | (apply rw_nil;kernel_rfl) | (apply rx_alloc;rfl;rfl) | (apply rx_store;rfl;rfl;rfl;rfl;rfl;(case hl => (simp;done));(exact (rfl:_=[_, _, _, _, _])))) | (apply id_aw; first | apply aw_seq | apply aw_region | (apply aw_cond;rfl;all_goals intro hc;have hq:=hc;(try simp only [bqs] at hq);try exfalso;omega) | apply aw_block | apply aw_skip | apply aw_exit) | with_reducible apply tq_normal | with_reducible apply tq_exit | with_reducible apply bq_normal | with_reducible apply bq_here)
    · have hkn : k < pts.length := by omega
      have hv := valF_lt w hkn (hS2.2 k hkn).1
      have hvs : Sm (valF ts pts[k]! u[k]!) := ⟨Nat.lt_of_lt_of_le hv (Nat.pow_le_pow_right (by decide) (by omega))⟩
      have hvs' : Sm (valF ts pts[(k : Int).toNat]! u[k]!) := hvs
      have hnl := w.nl k hkn
      refine aw_loopK (σ := Nat × (List Nat × Bool)) [0, 2, 3, 9, 14, 43, 44, 45, 58, 59] [(0, _), (2, _), (3, _), (9, _), (14, _), (43, _), (44, _), (45, _), (58, _), (59, _)] [] [] (fun j => [(60, iv (j.1 : Int)), (11, bv j.2.2)]) (fun j => [(0, some (flat cN j.2.1))]) (fun j => j.1 ≤ pts[k]!.next.length ∧ j.2 = ((nxN pts k).take j.1).foldl (bstp opI (valF ts pts[k]! u[k]!)) (u, c) ∧ SG pts (PpA ts pts) j.2.1 ∧ j.2.1[0]! = 0) (fun j => pts[k]!.next.length - j.1) (0, (u, c)) ⟨by omega, rfl, hS2, hE2⟩ rfl rfl (by repeat' (first | exact trivial | refine And.intro rfl ?_)) (by repeat' (first | exact trivial | refine And.intro (.inr rfl) ?_)) ?_
      rintro ⟨j, u2, c2⟩ ⟨hj, hf2, hS3, hE3⟩
      dsimp only at hj hf2 hS3 hE3 ⊢
      have hsm2 : ∀ z, Sm u2[z]! := sm_all hS3 (fun i A h => h.1) htl
      have hul2 := hS3.1
      have hz : j < pts[k]!.next.length → 0 ≤ pts[k]!.next[j]! ∧ pts[k]!.next[j]! < pts.length := fun h => w.nx k hkn _ (getB_mem _ _ h)
      repeat' (first | (apply id_rw; first | (apply rx_move;rfl;rfl) | (first | (apply rx_loadF0; (case hx | hH => rfl); (case hf | hg | hα => infer_instance); (case hk => omega); (case hc | hN => rfl)) | (apply rx_load1;rfl;rfl;rfl;rfl)) | (first | (apply rx_orN;rfl;rfl;infer_instance;infer_instance;infer_instance;rfl) | (apply rx_andN;rfl;rfl;infer_instance;infer_instance;infer_instance;rfl) | (apply rx_add;rfl;rfl;omega;rfl) | (apply rx_bin;rfl;rfl;rfl;rfl)) | (apply rx_assign;rfl;rfl) | (first | (apply rx_indexFN; (case hx | hi => rfl); (case hm => (omega)); (case hml => (rfl)); (case hα | hf | hg => infer_instance); (case hN => rfl)) | (apply rx_indexO;rfl;rfl;(omega);rfl)) | (apply rw_nil;kernel_rfl) | (apply rx_store;rfl;rfl;rfl;rfl;rfl;(rw [flat_length]; simp only [lns] <;> omega);(exact st_nat (by (omega))))) | (apply id_aw; first | apply aw_seq | apply aw_region | (apply aw_condT;rfl;(rfl)) | (apply aw_cond;rfl;all_goals intro hc;have hq:=hc;(try simp only [bqs] at hq);try exfalso;omega) | apply aw_block | apply aw_skip | apply aw_exit) | with_reducible apply tq_normal | with_reducible apply tq_exit | with_reducible apply bq_normal | with_reducible apply bq_here)
      · have hzz := hz (by omega)
        have hed : edge pts k (pts[k]!.next[j]!).toNat := ⟨hkn, by rw [Int.toNat_of_nonneg hzz.1]; exact getB_mem _ _ (by omega)⟩
        have hne : opI u2[(pts[k]!.next[j]!).toNat]! (valF ts pts[k]! u[k]!) ≠ u2[(pts[k]!.next[j]!).toNat]! := fun h => hq (congrArg Int.ofNat h)
        (apply ex3 (j + 1, (_, true)); focus (refine Le.ren [(0, 0)] rfl (by decide) ?_ ?_ <;> repeat' (first | exact trivial | refine And.intro ⟨_, rfl, ?_⟩ ?_ | refine And.intro ⟨_, _, rfl, rfl, ?_⟩ ?_ | exact Or.inr rfl | refine Or.inl ⟨?_, (by first | rfl | exact pur_sl _ _ | exact Pur.pf | exact PurV.pf)⟩ | rfl)))
        · dsimp only
          refine ⟨by omega, ?_, SG_step fl w (hS2.2 k hkn) hed hS3, (by rw [getB_set _ _ _ _ (by rw [hS3.1]; exact edge_lt w hed)]; split <;> first | exact hE3 | (rename_i q; rw [← q, hE3]; exact Nat.zero_and _))⟩
          rw [bstp_take (by omega), ← hf2, bstp_1 hne]; rfl
        · dsimp only; omega
      · have hzz := hz (by omega)
        have hne : opI u2[(pts[k]!.next[j]!).toNat]! (valF ts pts[k]! u[k]!) = u2[(pts[k]!.next[j]!).toNat]! := Int.ofNat.inj hq
        (apply ex3 (j + 1, (u2, c2)); focus (refine Le.ren [(0, 0)] rfl (by decide) ?_ ?_ <;> repeat' (first | exact trivial | refine And.intro ⟨_, rfl, ?_⟩ ?_ | refine And.intro ⟨_, _, rfl, rfl, ?_⟩ ?_ | exact Or.inr rfl | refine Or.inl ⟨?_, (by first | rfl | exact pur_sl _ _ | exact Pur.pf | exact PurV.pf)⟩ | rfl)))
        · dsimp only
          refine ⟨by omega, ?_, hS3, hE3⟩
          rw [bstp_take (by omega), ← hf2, bstp_0 hne]
        · dsimp only; omega
      · (apply ex3 (k + 1, (u2, c2)); focus (refine Le.ren [(0, 0)] rfl (by decide) ?_ ?_ <;> repeat' (first | exact trivial | refine And.intro ⟨_, rfl, ?_⟩ ?_ | refine And.intro ⟨_, _, rfl, rfl, ?_⟩ ?_ | exact Or.inr rfl | refine Or.inl ⟨?_, (by first | rfl | exact pur_sl _ _ | exact Pur.pf | exact PurV.pf)⟩ | rfl)))
        · dsimp only
          refine ⟨by omega, ?_, hS3, hE3⟩
          rw [range_succ_foldl, ← hf, hf2, List.take_of_length_le (by rw [nxN_len]; omega)]; rfl
        · dsimp only; omega
    · have law := swpG_law w fl s false hS
      have hfull : (u, c) = swpG opI (fun i A => valF ts pts[i]! A) pts (s, false) := by
        rw [hf, show k = pts.length by omega]; rfl
      rw [show swpG (fun a s => opI a s) (fun i A => valF ts pts[i]! A) pts (s, false) = (u, c) from hfull.symm] at law
      (apply ex3 (u, c); focus (refine Le.ren [(0, 0)] rfl (by decide) ?_ ?_ <;> repeat' (first | exact trivial | refine And.intro ⟨_, rfl, ?_⟩ ?_ | refine And.intro ⟨_, _, rfl, rfl, ?_⟩ ?_ | exact Or.inr rfl | refine Or.inl ⟨?_, (by first | rfl | exact pur_sl _ _ | exact Pur.pf | exact PurV.pf)⟩ | rfl)))
      · dsimp only
        refine ⟨hS2, hE2, fun h => ?_⟩
        rcases law.2 with ⟨e1, e2⟩ | ⟨e1, _⟩
        · cases e1; exact e2
        · dsimp only at e1; rw [h] at e1; cases e1
      · dsimp only
        have hb : b = true := by assumption
        subst hb
        rcases law.2 with ⟨e1, e2⟩ | ⟨e1, e2⟩
        · cases e1; simp
        · dsimp only at e1 e2; subst e1; omega
  · have hb : b = false := by assumption
    refine rq_le (Le.frzD (d := 8) (i := 0) rfl rfl) ?_
    refine rq_ret rfl ⟨?_, (by (exact pur_sl _ _))⟩
    simp only [oneOf]
    rw [goodA_ext hA (goodA_of w hS hE (hC hb))]
end Go.Proofs.YtejkbiijonnefaaGreat

namespace Go.Proofs.YtejkbiijonnefaaGreat
open Go.AL Go.RowKit

theorem always_c (ts : List Int) (bd : List AL.Stmt) (pts : List Pnt) (A : List Nat) (w : WG ts pts) (hA : GoodA ts pts A) : PC Tryz.prog 89 [aG ts bd pts, iv 0] (fun r => r = .imm pts.length (flat cN A)) := by
  (refine pc_of_aw Tryz.func89 rfl (by simp [Tryz.ntmps89]) ?_; rw [Tryz.ntmps89])
  repeat' (first | (apply id_rw; first | ((with_reducible apply rx_callE (k := 143)); (case ha => rfl); (case h => exact forwardA_c ts bd pts A w hA); (case hp => exact Pur.pf); (case hN => rfl)) | (apply rx_move;rfl;rfl) | (apply rx_assign;rfl;rfl) | (apply rw_nil;kernel_rfl) | (apply rx_makeFunc;rfl;rfl;rfl)) | (apply id_aw; first | apply aw_seq | apply aw_region | apply aw_ret) | with_reducible apply tq_normal | ((with_reducible apply rq_ret); case hr => rfl))
  exact ⟨rfl, (by (exact pur_sl _ _))⟩
theorem maybe_c (ts : List Int) (bd : List AL.Stmt) (pts : List Pnt) (A : List Nat) (w : WG ts pts) (hA : GoodM ts pts A) : PC Tryz.prog 73 [aG ts bd pts] (fun r => r = .imm pts.length (flat cN A)) := by
  (refine pc_of_aw Tryz.func73 rfl (by simp [Tryz.ntmps73]) ?_; rw [Tryz.ntmps73])
  repeat' (first | (apply id_rw; first | ((with_reducible apply rx_callE (k := 143)); (case ha => rfl); (case h => exact forwardM_c ts bd pts A w hA); (case hp => exact Pur.pf); (case hN => rfl)) | (apply rx_move;rfl;rfl) | (apply rx_assign;rfl;rfl) | (apply rw_nil;kernel_rfl) | (apply rx_makeFunc;rfl;rfl;rfl)) | (apply id_aw; first | apply aw_seq | apply aw_region | apply aw_ret) | with_reducible apply tq_normal | ((with_reducible apply rq_ret); case hr => rfl))
  exact ⟨rfl, (by (exact pur_sl _ _))⟩
theorem after_c (ts : List Int) (bd : List AL.Stmt) (pts : List Pnt) (n : Nat) (B : List Nat) (i : Int) (w : WG ts pts) (hn : n = B.length) (hB : B.length = pts.length) (hs : ∀ z : Nat, Sm B[z]!) (hi : 0 ≤ i ∧ i < pts.length) : PC Tryz.prog 67 [aG ts bd pts, .imm n (flat cN B), iv i] (fun r => r = iv (afF pts B i.toNat : Nat)) := by
  subst hn
  have hin : i.toNat < pts.length := by omega
  have hnl := w.nl _ hin
  have hpl := w.pl
  (refine pc_of_aw Tryz.func67 rfl (by simp [Tryz.ntmps67]) ?_; rw [Tryz.ntmps67])
  repeat' (first | (apply id_rw; first | (apply rx_move;rfl;rfl) | (apply rx_load1;rfl;rfl;rfl;rfl) | (apply rx_fieldAddr;rfl;rfl;rfl) | (apply rx_assign;rfl;rfl) | (apply rx_indexF; (case hx | hi => rfl); (case hm => (assumption)); (case hml => (rfl)); (case hα | hf | hg => infer_instance); (case hN => rfl)) | (apply rx_len;rfl;rfl;rfl) | (apply rw_nil;kernel_rfl) | (apply rx_nil;rfl;rfl;rfl)) | (apply id_aw; first | apply aw_seq | apply aw_region | apply aw_block) | with_reducible apply tq_normal)
  refine aw_loopK (σ := Nat × Nat) [1, 17, 18] [(1, _), (17, _), (18, _)] [] [] (fun k => [(19, iv (k.1 : Int)), (7, iv (k.2 : Int))]) (fun k => []) (fun k => k.1 ≤ pts[i.toNat]!.next.length ∧ k.2 = ((nxN pts i.toNat).take k.1).foldl (fun a k => opU a B[k]!) 0 ∧ Sm k.2) (fun k => pts[i.toNat]!.next.length - k.1) (0, 0) ⟨by omega, rfl, inferInstance⟩ rfl rfl (by repeat' (first | exact trivial | refine And.intro rfl ?_)) (by repeat' (exact trivial)) ?_
  rintro ⟨k, a⟩ ⟨hk, ha, hsa⟩
  dsimp only at hk ha hsa ⊢
  have hz : k < pts[i.toNat]!.next.length → 0 ≤ pts[i.toNat]!.next[k]! ∧ pts[i.toNat]!.next[k]! < pts.length := fun h => w.nx _ hin _ (getB_mem _ _ h)
  repeat' (first | (apply id_rw; first | (apply rx_move;rfl;rfl) | (apply rx_load1;rfl;rfl;rfl;rfl) | (first | (apply rx_orN;rfl;rfl;infer_instance;infer_instance;infer_instance;rfl) | (apply rx_add;rfl;rfl;omega;rfl) | (apply rx_bin;rfl;rfl;rfl;rfl)) | (apply rx_assign;rfl;rfl) | (first | (apply rx_indexFN; (case hx | hi => rfl); (case hm => (omega)); (case hml => (rfl)); (case hα | hf | hg => infer_instance); (case hN => rfl)) | (apply rx_indexF; (case hx | hi => rfl); (case hm => (omega)); (case hml => (rfl)); (case hα | hf | hg => infer_instance); (case hN => rfl))) | (apply rw_nil;kernel_rfl)) | (apply id_aw; first | apply aw_seq | apply aw_region | (apply aw_cond;rfl;all_goals intro hc;have hq:=hc;(try simp only [bqs] at hq);try exfalso;omega) | apply aw_block | apply aw_skip | apply aw_exit | apply aw_ret) | with_reducible apply tq_normal | with_reducible apply tq_exit | with_reducible apply bq_normal | with_reducible apply bq_here | ((with_reducible apply rq_ret); case hr => rfl))
  · (apply ex3 (k + 1, _); focus (refine Le.ren [] rfl (by decide) ?_ ?_ <;> repeat' (first | exact trivial | refine And.intro ⟨_, rfl, ?_⟩ ?_ | refine Or.inl ⟨?_, (by first | rfl | exact pur_sl _ _)⟩ | rfl)))
    · dsimp only
      refine ⟨by omega, ?_, inferInstance⟩
      rw [foldl_take _ _ _ _ (by rw [nxN_len]; omega), nxN_get (by omega), ← ha]
    · dsimp only; omega
  · (refine ⟨?_, rfl⟩; simp only [oneOf, AV.v.injEq, Value.bool.injEq, Value.int.injEq, true_and])
    rw [ha, List.take_of_length_le (by rw [nxN_len]; omega)]; rfl
theorem needed_c (ts : List Int) (bd : List AL.Stmt) (pts : List Pnt) (A : List Nat) (w : WG ts pts) (hA : GoodN ts pts A) : PC Tryz.prog 68 [aG ts bd pts] (fun r => r = .imm pts.length (flat cN A)) := by
  have hpl := w.pl
  have hp0 := w.p0
  have htl := w.tl
  (refine pc_of_aw Tryz.func68 rfl (by simp [Tryz.ntmps68]) ?_; rw [Tryz.ntmps68])
  repeat' (first | (apply id_rw; first | (apply rx_move;rfl;rfl) | (apply rx_load1;rfl;rfl;rfl;rfl) | (apply rx_fieldAddr;rfl;rfl;rfl) | (apply rx_assign;rfl;rfl) | (apply rx_len;rfl;rfl;rfl) | (apply rw_nil;kernel_rfl) | (apply rx_nil;rfl;rfl;rfl) | (apply rx_makeSliceE;rfl;rfl;rfl;omega;omega;(exact mk_nat);rfl;rfl)) | (apply id_aw; first | apply aw_seq | apply aw_region | apply aw_block) | with_reducible apply tq_normal)
  refine aw_loopK (σ := List Nat × Bool) [0, 3] [(0, _), (3, _)] [] [] (fun s => [(4, bv s.2)]) (fun s => [(0, some (flat cN s.1))]) (fun s => SN ts pts s.1 ∧ (s.2 = false → ∀ i, i < pts.length → ndS ts pts s.1 i = s.1[i]!)) (fun s => 2 * sumL (s.1.map (fun a => 2 ^ ts.length - a)) + s.2.toNat) (List.replicate pts.length 0, true) ⟨SN_rep, fun h => by cases h⟩ rfl rfl (by repeat' (first | exact trivial | refine And.intro rfl ?_)) (by repeat' (first | exact trivial | refine And.intro (.inr rfl) ?_)) ?_
  rintro ⟨s, b⟩ ⟨hS, hC⟩
  dsimp only at hS hC ⊢
  repeat' (first | (apply id_rw; first | (apply rx_move;rfl;rfl) | (apply rx_load1;rfl;rfl;rfl;rfl) | (apply rx_fieldAddr;rfl;rfl;rfl) | (apply rx_sub;rfl;rfl;omega;rfl) | (apply rx_assign;rfl;rfl) | (apply rx_len;rfl;rfl;rfl) | (apply rw_nil;kernel_rfl) | (apply rx_nil;rfl;rfl;rfl)) | (apply id_aw; first | apply aw_seq | apply aw_region | (apply aw_cond;rfl;all_goals intro hc;have hq:=hc;(try simp only [bqs] at hq);try exfalso;omega) | apply aw_block | apply aw_skip | apply aw_exit | apply aw_ret) | with_reducible apply tq_normal | with_reducible apply tq_exit | with_reducible apply bq_here)
  · refine aw_loopK (σ := Nat × Int × (List Nat × Bool)) [0, 3] [(0, _), (3, _)] [] [] (fun k => [(5, iv k.2.1), (4, bv k.2.2.2)]) (fun k => [(0, some (flat cN k.2.2.1))]) (fun k => k.1 ≤ pts.length ∧ k.2.1 = (pts.length : Int) - 1 - k.1 ∧ k.2.2 = ((List.range pts.length).reverse.take k.1).foldl (ndStp ts pts) (s, false) ∧ SN ts pts k.2.2.1) (fun k => pts.length - k.1) (0, (pts.length : Int) - 1, (s, false)) ⟨by omega, by simp, rfl, hS⟩ rfl rfl (by repeat' (first | exact trivial | refine And.intro rfl ?_)) (by repeat' (first | exact trivial | refine And.intro (.inr rfl) ?_)) ?_
    rintro ⟨k, z, u, c⟩ ⟨hk, hz, hf, hS2⟩
    dsimp only at hk hz hf hS2 ⊢
    have hsm : ∀ z : Nat, Sm u[z]! := sm_all hS2.1 (fun i A h => h.1) htl
    have hul := hS2.1.1
    have hst := fun h : z.toNat < pts.length => (w.set z.toNat h).1
    have hst2 : setAt pts[z.toNat]! < 62 := by
      by_cases h : z.toNat < pts.length
      · have := hst h; omega
      · rw [getElem!_neg pts z.toNat h]; decide
    have hs1 : Sm (wS ts pts[z.toNat]! [1, 2, 3]) := mkBits_sm (by omega)
    have hs2 : Sm (sbit pts[z.toNat]!) := sbit_sm (by omega)
    have hs3 : Sm (afF pts u z.toNat) := by
      unfold afF
      have : ∀ (L : List Nat) (a : Nat), Sm a → Sm (L.foldl (fun a k => a ||| u[k]!) a) := by
        intro L; induction L with
        | nil => exact fun a h => h
        | cons x L ih => exact fun a h => ih _ (inferInstance : Sm (a ||| u[x]!))
      exact this _ _ inferInstance
    have hlaw := fun h : z.toNat < pts.length => ndStp_law w u c z.toNat h hS2
    repeat' (first | (apply id_rw; first | (apply rx_move;rfl;rfl) | (first | (apply rx_loadF0; (case hx | hH => rfl); (case hf | hg | hα => infer_instance); (case hk => omega); (case hc | hN => rfl)) | (apply rx_load1;rfl;rfl;rfl;rfl) | (apply rx_loadA;rfl;rfl;(exact (rfl:_=[_, _, _, _, _]));rfl;rfl;rfl)) | (apply rx_fieldAddr;rfl;rfl;rfl) | (first | (apply rx_orN;rfl;rfl;infer_instance;infer_instance;infer_instance;rfl) | (apply rx_anlN;rfl;rfl;infer_instance;infer_instance;infer_instance;rfl) | (apply rx_sub;rfl;rfl;omega;rfl) | (apply rx_bin;rfl;rfl;rfl;rfl)) | (apply rx_assign;rfl;rfl) | (first | (apply rx_indexF; (case hx | hi => rfl); (case hm => (omega)); (case hml => (rfl)); (case hα | hf | hg => infer_instance); (case hN => rfl)) | (apply rx_indexO;rfl;rfl;(omega);rfl)) | (first | ((with_reducible apply rx_lendE (k := 67)); (case ha => rfl); (case hl => (repeat' (first | exact lendL_nil | apply lendL_cons | exact lendV_v | exact lendV_own rfl inferInstance | exact lendV_iptr inferInstance))); (case h => (apply after_c <;> (first | assumption | omega))); (case hfr | hN => rfl); (case hmd => infer_instance)) | ((with_reducible apply rx_callE (k := 138)); (case ha => rfl); (case h => (apply used_c <;> (assumption))); (case hp => (exact Pur.pf)); (case hN => rfl)) | ((with_reducible apply rx_callE (k := 140)); (case ha => rfl); (case h => (apply setBit_c <;> (assumption))); (case hp => (exact Pur.pf)); (case hN => rfl))) | (apply rw_nil;kernel_rfl) | (apply rx_nil;rfl;rfl;rfl) | (apply rx_alloc;rfl;rfl) | (apply rx_store;rfl;rfl;rfl;rfl;rfl;(case hl => (first | (rw [flat_length]; simp only [lns] <;> omega) | (simp;done)));(first | exact st_nat (by (omega)) | exact (rfl:_=[_, _, _, _, _])))) | (apply id_aw; first | apply aw_seq | apply aw_region | (apply aw_draw;kernel_rfl) | (apply aw_cond;rfl;all_goals intro hc;have hq:=hc;(try simp only [bqs] at hq);try exfalso;omega) | apply aw_block | apply aw_skip | apply aw_exit) | with_reducible apply tq_normal | with_reducible apply tq_exit | with_reducible apply bq_normal | with_reducible apply bq_here)
    · have hzn : z.toNat < pts.length := by omega
      have hne : ndS ts pts u z.toNat ≠ u[z.toNat]! := fun h => hq (congrArg Int.ofNat h)
      have hl := hlaw hzn
      rw [ndStp_1 hne] at hl
      have hrg : (List.range pts.length).reverse[k]! = z.toNat := by rw [revR_get (by omega)]; omega
      (apply ex3 (k + 1, _, (_, true)); focus (refine Le.ren [(0, 0)] rfl (by decide) ?_ ?_ <;> repeat' (first | exact trivial | refine And.intro ⟨_, rfl, ?_⟩ ?_ | refine And.intro ⟨_, _, rfl, rfl, ?_⟩ ?_ | exact Or.inr rfl | refine Or.inl ⟨?_, (by first | rfl | exact pur_sl _ _ | exact Pur.pf)⟩ | rfl)))
      · dsimp only
        refine ⟨by omega, by omega, ?_, hl.1⟩
        rw [foldl_take _ _ _ _ (by simp; omega), ← hf, hrg, ndStp_1 hne]; rfl
      · dsimp only; omega
    · have hzn : z.toNat < pts.length := by omega
      have hne : ndS ts pts u z.toNat = u[z.toNat]! := Int.ofNat.inj hq
      have hrg : (List.range pts.length).reverse[k]! = z.toNat := by rw [revR_get (by omega)]; omega
      (apply ex3 (k + 1, _, (u, c)); focus (refine Le.ren [(0, 0)] rfl (by decide) ?_ ?_ <;> repeat' (first | exact trivial | refine And.intro ⟨_, rfl, ?_⟩ ?_ | refine And.intro ⟨_, _, rfl, rfl, ?_⟩ ?_ | exact Or.inr rfl | refine Or.inl ⟨?_, (by first | rfl | exact pur_sl _ _ | exact Pur.pf)⟩ | rfl)))
      · dsimp only
        refine ⟨by omega, by omega, ?_, hS2⟩
        rw [foldl_take _ _ _ _ (by simp; omega), ← hf, hrg, ndStp_0 hne]
      · dsimp only; omega
    · have law := ndSwp_law w s false hS
      have hfull : (u, c) = ndSwp ts pts (s, false) := by
        rw [hf, List.take_of_length_le (by simp; omega)]; rfl
      rw [← hfull] at law
      (apply ex3 (u, c); focus (refine Le.ren [(0, 0)] rfl (by decide) ?_ ?_ <;> repeat' (first | exact trivial | refine And.intro ⟨_, rfl, ?_⟩ ?_ | refine And.intro ⟨_, _, rfl, rfl, ?_⟩ ?_ | exact Or.inr rfl | refine Or.inl ⟨?_, (by first | rfl | exact pur_sl _ _ | exact Pur.pf)⟩ | rfl)))
      · dsimp only
        refine ⟨hS2, fun h => ?_⟩
        rcases law.2 with ⟨e1, e2⟩ | ⟨e1, _⟩
        · cases e1; exact e2
        · dsimp only at e1; rw [h] at e1; cases e1
      · dsimp only
        have hb : b = true := by assumption
        subst hb
        rcases law.2 with ⟨e1, e2⟩ | ⟨e1, e2⟩
        · cases e1; simp
        · dsimp only at e1 e2; subst e1; omega
  · have hb : b = false := by assumption
    refine rq_le (Le.frzD (d := 2) (i := 0) rfl rfl) ?_
    refine rq_ret rfl ⟨?_, (by (exact pur_sl _ _))⟩
    simp only [oneOf]
    rw [goodN_ext hA (goodN_of w hS (hC hb))]
theorem liveAfter_c (ts : List Int) (bd : List AL.Stmt) (pts : List Pnt) (B A : List Nat) (w : WG ts pts) (hB : GoodN ts pts B) (hA : GoodL ts pts A) : PC Tryz.prog 129 [aG ts bd pts] (fun r => r = .imm pts.length (flat cN A)) := by
  have hpl := w.pl
  have htl := w.tl
  have hBl := hB.1
  have hsm : ∀ z : Nat, Sm B[z]! := by
    intro z
    by_cases hz : z < pts.length
    · refine ⟨Nat.lt_of_lt_of_le (Nat.lt_pow_two_of_testBit _ (n := 6) fun v hv => ?_) (by decide)⟩
      cases hq : B[z]!.testBit v with
      | false => rfl
      | true => have := Nd_lt w ((hB.2 z hz v).1 hq); dsimp only at this; omega
    · rw [getElem!_neg B z (by rw [hBl]; exact hz)]; exact ⟨by decide⟩
  (refine pc_of_aw Tryz.func129 rfl (by simp [Tryz.ntmps129]) ?_; rw [Tryz.ntmps129])
  repeat' (first | (apply id_rw; first | (apply rx_move;rfl;rfl) | (apply rx_load1;rfl;rfl;rfl;rfl) | (apply rx_fieldAddr;rfl;rfl;rfl) | (apply rx_assign;rfl;rfl) | ((with_reducible apply rx_callE (k := 68)); (case ha => rfl); (case h => (apply needed_c <;> (assumption))); (case hp => (exact Pur.pf)); (case hN => rfl)) | (apply rx_len;rfl;rfl;rfl) | (apply rw_nil;kernel_rfl) | (apply rx_nil;rfl;rfl;rfl)) | (apply id_aw; first | apply aw_seq | apply aw_region | apply aw_block) | with_reducible apply tq_normal)
  refine AW.le ?_ (Le.nilOwn (d := 4) 1 rfl (by decide))
  refine aw_loopK (σ := Nat × List Nat) [0, 3, 12] [(0, _), (3, _), (12, _)] [] [] (fun k => [(13, iv (k.1 : Int)), (4, .own 0 0 k.1 1)]) (fun k => [(0, some (flat cN k.2))]) (fun k => k.1 ≤ pts.length ∧ k.2 = (List.range k.1).map (afF pts B)) (fun k => pts.length - k.1) (0, []) ⟨by omega, rfl⟩ rfl rfl (by repeat' (first | exact trivial | refine And.intro rfl ?_)) (by repeat' (first | exact trivial | refine And.intro (.inr rfl) ?_)) ?_
  rintro ⟨k, u⟩ ⟨hk, hu⟩
  dsimp only at hk hu ⊢
  have hul : u.length = k := by rw [hu]; simp
  repeat' (first | (apply id_rw; first | (apply rx_move;rfl;rfl) | (first | (apply rx_add;rfl;rfl;omega;rfl) | (apply rx_bin;rfl;rfl;rfl;rfl)) | (apply rx_assign;rfl;rfl) | ((with_reducible apply rx_callE (k := 67)); (case ha => rfl); (case h => (apply after_c <;> (first | assumption | omega))); (case hp => (exact Pur.pf)); (case hN => rfl)) | (apply rx_append;rfl;rfl;rfl;rfl;rfl;(rw [flat_length]; omega);(rfl);omega;omega;(exact app_nat (by (omega)));rfl;rfl) | (apply rw_nil;kernel_rfl) | ((apply rx_buildSliceI (t := _)); (case hze | hsm | hl => rfl); (case hfl => exact (rfl:_=some [_])); (case hM | hN => rfl))) | (apply id_aw; first | apply aw_seq | apply aw_region | (apply aw_cond;rfl;all_goals intro hc;have hq:=hc;(try simp only [bqs] at hq);try exfalso;omega) | apply aw_block | apply aw_skip | apply aw_exit | apply aw_ret) | with_reducible apply tq_normal | with_reducible apply tq_exit | with_reducible apply bq_normal | with_reducible apply bq_here)
  · (apply ex3 (k + 1, _); focus (refine Le.ren [(0, 2)] rfl (by decide) ?_ ?_ <;> repeat' (first | exact trivial | refine And.intro ⟨_, rfl, ?_⟩ ?_ | refine And.intro ⟨_, _, rfl, rfl, ?_⟩ ?_ | exact Or.inr rfl | refine Or.inl ⟨?_, (by first | rfl | exact pur_sl _ _ | exact Pur.pf)⟩ | rfl)))
    · dsimp only
      refine ⟨by omega, ?_⟩
      rw [hu, List.range_succ, List.map_append]; rfl
    · dsimp only; omega
  · refine rq_le (Le.frzD (d := 2) (i := 0) rfl rfl) ?_
    refine rq_ret rfl ⟨?_, (by (exact pur_sl _ _))⟩
    simp only [oneOf]
    have hkn : k = pts.length := by omega
    subst hkn
    rw [goodL_ext hA (goodL_of w hB), hu]
end Go.Proofs.YtejkbiijonnefaaGreat

namespace Go.Proofs.YtejkbiijonnefaaGreat
open Go.AL Go.RowKit

theorem bits_c (A : Nat) (hA : Sm A) : PC Tryz.prog 88 [iv (A : Int)] (fun r => r = sl cI (bitsI A)) := by
  (refine pc_of_aw Tryz.func88 rfl (by simp [Tryz.ntmps88]) ?_; rw [Tryz.ntmps88])
  repeat' (first | (apply id_rw; first | (apply rx_assign;rfl;rfl) | (apply rw_nil;kernel_rfl)) | (apply id_aw; first | apply aw_seq | apply aw_region | apply aw_block) | with_reducible apply tq_normal)
  refine AW.le ?_ (Le.nilOwn (d := 3) 1 rfl (by decide))
  refine aw_loopK (σ := Nat × List Int × Nat) [0] [(0, _)] [] [] (fun k => [(4, iv (k.1 : Int)), (3, .own 0 0 k.2.2 1)]) (fun k => [(0, some (flat cI k.2.1))]) (fun k => k.1 ≤ 62 ∧ k.2.1 = ((List.range k.1).filter (A.testBit ·)).map (fun v : Nat => (v : Int)) ∧ k.2.2 = k.2.1.length ∧ k.2.2 ≤ k.1) (fun k => 62 - k.1) (0, [], 0) ⟨by omega, rfl, rfl, Nat.le_refl _⟩ rfl rfl (by repeat' (first | exact trivial | refine And.intro rfl ?_)) (by repeat' (first | exact trivial | refine And.intro (.inr rfl) ?_)) ?_
  rintro ⟨k, u, m⟩ ⟨hk, hu, hm, hmk⟩
  dsimp only at hk hu hm hmk ⊢
  repeat' (first | (apply id_rw; first | (apply rx_move;rfl;rfl) | (first | (apply rx_and1;rfl;rfl;infer_instance;infer_instance;rfl) | (apply rx_shrN;rfl;rfl;infer_instance;infer_instance;omega;rfl) | (apply rx_add;rfl;rfl;omega;rfl) | (apply rx_bin;rfl;rfl;rfl;rfl)) | (apply rx_assign;rfl;rfl) | (apply rx_append;rfl;rfl;rfl;rfl;rfl;(rw [flat_length]; omega);(rfl);omega;omega;(exact app_int (by (assumption)));rfl;rfl) | (apply rw_nil;kernel_rfl) | ((apply rx_buildSliceI (t := _)); (case hze | hsm | hl => rfl); (case hfl => exact (rfl:_=some [_])); (case hM | hN => rfl))) | (apply id_aw; first | apply aw_seq | apply aw_region | (apply aw_cond;rfl;all_goals intro hc;have hq:=hc;(try simp only [bqs] at hq);try exfalso;omega) | apply aw_block | apply aw_skip | apply aw_exit | apply aw_ret) | with_reducible apply tq_normal | with_reducible apply tq_exit | with_reducible apply bq_normal | with_reducible apply bq_here)
  · have hlt := shr_pos hA (show 0 < ((A >>> k : Nat) : Int) by assumption)
    (apply ex3 (k + 1, _, _); focus (refine Le.ren [(0, 2)] rfl (by decide) ?_ ?_ <;> repeat' (first | exact trivial | refine And.intro ⟨_, rfl, ?_⟩ ?_ | refine And.intro ⟨_, _, rfl, rfl, ?_⟩ ?_ | exact Or.inr rfl | refine Or.inl ⟨?_, (by first | rfl | exact pur_sl _ _)⟩ | rfl)))
    · dsimp only
      exact ⟨by omega, filt_snoc hq hu, by simp; omega, by omega⟩
    · dsimp only; omega
  · have hlt := shr_pos hA (show 0 < ((A >>> k : Nat) : Int) by assumption)
    (apply ex3 (k + 1, u, m); focus (refine Le.ren [(0, 0)] rfl (by decide) ?_ ?_ <;> repeat' (first | exact trivial | refine And.intro ⟨_, rfl, ?_⟩ ?_ | refine And.intro ⟨_, _, rfl, rfl, ?_⟩ ?_ | exact Or.inr rfl | refine Or.inl ⟨?_, (by first | rfl | exact pur_sl _ _)⟩ | rfl)))
    · dsimp only
      exact ⟨by omega, filt_skip hq hu, hm, by omega⟩
    · dsimp only; omega
  · (refine rq_le (Le.frzD (d := 2) (i := 0) rfl rfl) ?_; refine rq_ret rfl ?_)
    refine ⟨?_, (by (exact pur_sl _ _))⟩
    simp only [oneOf, sl]
    rw [bitsI_pre (k := k) (fun v hv => shr_zero hq v hv) (by omega) hA, ← hu, ← hm]
theorem loanBits_c (A : Nat) (hA : Sm A) : PC Tryz.prog 71 [.v (.int .u64 (A : Int))] (fun r => r = sl cI (bitsI A)) := by
  (refine pc_of_aw Tryz.func71 rfl (by simp [Tryz.ntmps71]) ?_; rw [Tryz.ntmps71])
  repeat' (first | (apply id_rw; first | (apply rx_move;rfl;rfl) | (apply rx_assign;rfl;rfl) | (apply rw_nil;kernel_rfl)) | (apply id_aw; first | apply aw_seq | apply aw_region | apply aw_block) | with_reducible apply tq_normal)
  refine AW.le ?_ (Le.nilOwn (d := 3) 1 rfl (by decide))
  refine aw_loopK (σ := Nat × List Int × Nat) [0] [(0, _)] [] [] (fun k => [(5, iv (k.1 : Int)), (3, .own 0 0 k.2.2 1)]) (fun k => [(0, some (flat cI k.2.1))]) (fun k => k.1 ≤ 64 ∧ k.2.1 = ((List.range k.1).filter (A.testBit ·)).map (fun v : Nat => (v : Int)) ∧ k.2.2 = k.2.1.length ∧ k.2.2 ≤ k.1) (fun k => 64 - k.1) (0, [], 0) ⟨by omega, rfl, rfl, Nat.le_refl _⟩ rfl rfl (by repeat' (first | exact trivial | refine And.intro rfl ?_)) (by repeat' (first | exact trivial | refine And.intro (.inr rfl) ?_)) ?_
  rintro ⟨k, u, m⟩ ⟨hk, hu, hm, hmk⟩
  dsimp only at hk hu hm hmk ⊢
  repeat' (first | (apply id_rw; first | (apply rx_move;rfl;rfl) | (first | (apply rx_and1;rfl;rfl;infer_instance;infer_instance;rfl) | (apply rx_shrN;rfl;rfl;infer_instance;infer_instance;omega;rfl) | (apply rx_add;rfl;rfl;omega;rfl) | (apply rx_bin;rfl;rfl;rfl;rfl)) | (apply rx_assign;rfl;rfl) | (apply rx_append;rfl;rfl;rfl;rfl;rfl;(rw [flat_length]; omega);(rfl);omega;omega;(exact app_int (by (assumption)));rfl;rfl) | (apply rw_nil;kernel_rfl) | ((apply rx_buildSliceI (t := _)); (case hze | hsm | hl => rfl); (case hfl => exact (rfl:_=some [_])); (case hM | hN => rfl))) | (apply id_aw; first | apply aw_seq | apply aw_region | (apply aw_cond;rfl;all_goals intro hc;have hq:=hc;(try simp only [bqs] at hq);try exfalso;omega) | apply aw_block | apply aw_skip | apply aw_exit | apply aw_ret) | with_reducible apply tq_normal | with_reducible apply tq_exit | with_reducible apply bq_normal | with_reducible apply bq_here)
  · (apply ex3 (k + 1, _, _); focus (refine Le.ren [(0, 2)] rfl (by decide) ?_ ?_ <;> repeat' (first | exact trivial | refine And.intro ⟨_, rfl, ?_⟩ ?_ | refine And.intro ⟨_, _, rfl, rfl, ?_⟩ ?_ | exact Or.inr rfl | refine Or.inl ⟨?_, (by first | rfl | exact pur_sl _ _)⟩ | rfl)))
    · dsimp only
      exact ⟨by omega, filt_snoc hq hu, by simp; omega, by omega⟩
    · dsimp only; omega
  · (apply ex3 (k + 1, u, m); focus (refine Le.ren [(0, 0)] rfl (by decide) ?_ ?_ <;> repeat' (first | exact trivial | refine And.intro ⟨_, rfl, ?_⟩ ?_ | refine And.intro ⟨_, _, rfl, rfl, ?_⟩ ?_ | exact Or.inr rfl | refine Or.inl ⟨?_, (by first | rfl | exact pur_sl _ _)⟩ | rfl)))
    · dsimp only
      exact ⟨by omega, filt_skip hq hu, hm, by omega⟩
    · dsimp only; omega
  · (refine rq_le (Le.frzD (d := 2) (i := 0) rfl rfl) ?_; refine rq_ret rfl ?_)
    refine ⟨?_, (by (exact pur_sl _ _))⟩
    simp only [oneOf, sl]
    rw [bitsI_pre (k := k) (fun v hv => Nat.testBit_lt_two_pow (Nat.lt_of_lt_of_le hA.pf (Nat.pow_le_pow_right (by decide) (by omega)))) (by omega) hA, ← hu, ← hm]
theorem ofVars_c (ts : List Int) (bd : List AL.Stmt) (pts : List Pnt) (V : Nat) (w : WG ts pts) (hV : Sm V) : PC Tryz.prog 142 [aG ts bd pts, iv (V : Int)] (fun r => r = .v (.int .u64 (ofV pts V : Nat))) := by
  have hpl := w.pl
  have htl := w.tl
  (refine pc_of_aw Tryz.func142 rfl (by simp [Tryz.ntmps142]) ?_; rw [Tryz.ntmps142])
  repeat' (first | (apply id_rw; first | (apply rx_move;rfl;rfl) | (apply rx_load1;rfl;rfl;rfl;rfl) | (apply rx_fieldAddr;rfl;rfl;rfl) | (apply rx_assign;rfl;rfl) | (apply rx_len;rfl;rfl;rfl) | (apply rw_nil;kernel_rfl) | (apply rx_nil;rfl;rfl;rfl)) | (apply id_aw; first | apply aw_seq | apply aw_region | apply aw_block) | with_reducible apply tq_normal)
  refine aw_loopK (σ := Nat × Nat) [1, 11, 12] [(1, _), (11, _), (12, _)] [] [] (fun k => [(13, iv (k.1 : Int)), (5, .v (.int .u64 (k.2 : Int)))]) (fun k => []) (fun k => k.1 ≤ pts.length ∧ k.2 = mkBits (fun l => isLn pts[l]! && V.testBit (pts[l]!.y.toNat)) k.1) (fun k => pts.length - k.1) (0, 0) ⟨by omega, rfl⟩ rfl rfl (by repeat' (first | exact trivial | refine And.intro rfl ?_)) (by repeat' (exact trivial)) ?_
  rintro ⟨k, A⟩ ⟨hk, hA⟩
  dsimp only at hk hA ⊢
  have hsm : Sm A := hA ▸ mkBits_sm (by omega)
  cases hln : isLn pts[k]!
  · repeat' (first | (apply id_rw; first | (apply rx_move;rfl;rfl) | (apply rx_loadA;rfl;rfl;(exact (rfl:_=[_, _, _, _, _]));rfl;rfl;rfl) | (apply rx_guardNs;rfl;rfl;rfl;(assumption)) | (first | (apply rx_add;rfl;rfl;omega;rfl) | (apply rx_bin;rfl;rfl;rfl;rfl)) | (apply rx_assign;rfl;rfl) | (apply rx_pickF;rfl;(assumption);rfl;rfl) | (apply rx_indexFN; (case hx | hi => rfl); (case hm => (omega)); (case hml => (rfl)); (case hα | hf | hg => infer_instance); (case hN => rfl)) | ((with_reducible apply rx_callE (k := 60)); (case ha => rfl); (case h => (apply isLoan_c <;> (fail))); (case hp => (exact Pur.pf)); (case hN => rfl)) | (apply rw_nil;kernel_rfl) | (apply rx_alloc;rfl;rfl) | (apply rx_store;rfl;rfl;rfl;rfl;rfl;(case hl => (simp;done));(exact (rfl:_=[_, _, _, _, _])))) | (apply id_aw; first | apply aw_seq | apply aw_region | (apply aw_condF;rfl;(rfl)) | (apply aw_cond;rfl;all_goals intro hc;have hq:=hc;(try simp only [bqs] at hq);try exfalso;omega) | apply aw_block | apply aw_skip | apply aw_exit | apply aw_ret) | with_reducible apply tq_normal | with_reducible apply tq_exit | with_reducible apply bq_normal | with_reducible apply bq_here | ((with_reducible apply rq_ret); case hr => rfl))
    · (apply ex3 (k + 1, A); focus (refine Le.ren [] rfl (by decide) ?_ ?_ <;> repeat' (first | exact trivial | refine And.intro ⟨_, rfl, ?_⟩ ?_ | refine Or.inl ⟨?_, (by first | rfl | exact pur_sl _ _)⟩ | rfl)))
      · dsimp only
        exact ⟨by omega, by rw [hA]; exact mkBits_skip _ _ (by rw [hln]; rfl)⟩
      · dsimp only; omega
    · (refine ⟨?_, rfl⟩; simp only [oneOf, AV.v.injEq, Value.bool.injEq, Value.int.injEq, true_and])
      rw [hA, show k = pts.length by omega]; rfl
  · have hy := fun (h : k < pts.length) => isLn_y w h hln
    repeat' (first | (apply id_rw; first | (apply rx_move;rfl;rfl) | (first | (apply rx_load1;rfl;rfl;rfl;rfl) | (apply rx_loadA;rfl;rfl;(exact (rfl:_=[_, _, _, _, _]));rfl;rfl;rfl)) | (apply rx_fieldAddr;rfl;rfl;rfl) | (apply rx_guardY;rfl;rfl;rfl;(assumption)) | (first | (apply rx_orN;rfl;rfl;infer_instance;infer_instance;infer_instance;rfl) | (apply rx_and1;rfl;rfl;infer_instance;infer_instance;rfl) | (apply rx_shl1;rfl;rfl;infer_instance;omega;rfl; (case' kk => intro hsm)) | (apply rx_shrN;rfl;rfl;infer_instance;infer_instance;omega;rfl) | (apply rx_add;rfl;rfl;omega;rfl) | (apply rx_bin;rfl;rfl;rfl;rfl)) | (apply rx_assign;rfl;rfl) | (apply rx_pickT;rfl;(assumption);rfl;rfl) | (apply rx_indexFN; (case hx | hi => rfl); (case hm => (omega)); (case hml => (rfl)); (case hα | hf | hg => infer_instance); (case hN => rfl)) | ((with_reducible apply rx_callE (k := 60)); (case ha => rfl); (case h => (apply isLoan_c <;> (fail))); (case hp => (exact Pur.pf)); (case hN => rfl)) | (apply rw_nil;kernel_rfl) | (apply rx_alloc;rfl;rfl) | (apply rx_store;rfl;rfl;rfl;rfl;rfl;(case hl => (simp;done));(exact (rfl:_=[_, _, _, _, _])))) | (apply id_aw; first | apply aw_seq | apply aw_region | (apply aw_cond;rfl;all_goals intro hc;have hq:=hc;(try simp only [bqs] at hq);try exfalso;omega) | apply aw_block | apply aw_skip | apply aw_exit | apply aw_ret) | with_reducible apply tq_normal | with_reducible apply tq_exit | with_reducible apply bq_normal | with_reducible apply bq_here | ((with_reducible apply rq_ret); case hr => rfl))
    · (apply ex3 (k + 1, _); focus (refine Le.ren [] rfl (by decide) ?_ ?_ <;> repeat' (first | exact trivial | refine And.intro ⟨_, rfl, ?_⟩ ?_ | refine Or.inl ⟨?_, (by first | rfl | exact pur_sl _ _)⟩ | rfl)))
      · dsimp only
        exact ⟨by omega, by rw [hA]; exact mkBits_succ _ _ (by rw [hln, Bool.true_and]; exact (and1_iff _ _).1 hq)⟩
      · dsimp only; omega
    · (apply ex3 (k + 1, A); focus (refine Le.ren [] rfl (by decide) ?_ ?_ <;> repeat' (first | exact trivial | refine And.intro ⟨_, rfl, ?_⟩ ?_ | refine Or.inl ⟨?_, (by first | rfl | exact pur_sl _ _)⟩ | rfl)))
      · dsimp only
        exact ⟨by omega, by rw [hA]; exact mkBits_skip _ _ (by rw [hln, Bool.true_and]; cases hb : V.testBit (pts[k]!.y.toNat) with | false => rfl | true => exact absurd ((and1_iff _ _).2 hb) hq)⟩
      · dsimp only; omega
    · (refine ⟨?_, rfl⟩; simp only [oneOf, AV.v.injEq, Value.bool.injEq, Value.int.injEq, true_and])
      rw [hA, show k = pts.length by omega]; rfl
end Go.Proofs.YtejkbiijonnefaaGreat

namespace Go.Proofs.YtejkbiijonnefaaGreat
open Go.AL Go.RowKit

theorem placed_c (ts : List Int) (bd : List AL.Stmt) (pts : List Pnt) (A : List Nat) (w : WG ts pts) (hA : GoodP ts pts A) : PC Tryz.prog 70 [aG ts bd pts] (fun r => r = .imm pts.length (flat cW A)) := by
  have hpl := w.pl
  have hp0 := w.p0
  have htl := w.tl
  have fl := flowP w
  (refine pc_of_aw Tryz.func70 rfl (by simp [Tryz.ntmps70]) ?_; rw [Tryz.ntmps70])
  repeat' (first | (apply id_rw; first | (apply rx_move;rfl;rfl) | (apply rx_load1;rfl;rfl;rfl;rfl) | (apply rx_fieldAddr;rfl;rfl;rfl) | (apply rx_assign;rfl;rfl) | (apply rx_len;rfl;rfl;rfl) | (apply rw_nil;kernel_rfl) | (apply rx_nil;rfl;rfl;rfl) | (apply rx_makeSliceE;rfl;rfl;rfl;omega;omega;(exact mk_natW);rfl;rfl)) | (apply id_aw; first | apply aw_seq | apply aw_region | apply aw_block) | with_reducible apply tq_normal)
  refine aw_loopK (σ := List Nat × Bool) [0, 3] [(0, _), (3, _)] [] [] (fun s => [(4, bv s.2)]) (fun s => [(0, some (flat cW s.1))]) (fun s => SG pts (PpP ts pts) s.1 ∧ (s.2 = false → ClosedG opU (plF ts pts) pts s.1)) (fun s => 2 * sumL (s.1.map (fun a => 2 ^ pts.length - a)) + s.2.toNat) (List.replicate pts.length 0, true) ⟨SG_rep fun i hi => ⟨Nat.pow_pos (by decide), fun v h => by simp at h⟩, fun h => by cases h⟩ rfl rfl (by repeat' (first | exact trivial | refine And.intro rfl ?_)) (by repeat' (first | exact trivial | refine And.intro (.inr rfl) ?_)) ?_
  rintro ⟨s, b⟩ ⟨hS, hC⟩
  dsimp only at hS hC ⊢
  repeat' (first | (apply id_rw; first | (apply rx_move;rfl;rfl) | (apply rx_load1;rfl;rfl;rfl;rfl) | (apply rx_fieldAddr;rfl;rfl;rfl) | (apply rx_assign;rfl;rfl) | (apply rx_len;rfl;rfl;rfl) | (apply rw_nil;kernel_rfl) | (apply rx_nil;rfl;rfl;rfl)) | (apply id_aw; first | apply aw_seq | apply aw_region | (apply aw_cond;rfl;all_goals intro hc;have hq:=hc;(try simp only [bqs] at hq);try exfalso;omega) | apply aw_block | apply aw_skip | apply aw_exit | apply aw_ret) | with_reducible apply tq_normal | with_reducible apply tq_exit | with_reducible apply bq_here)
  · refine aw_loopK (σ := Nat × (List Nat × Bool)) [0, 3, 20, 21] [(0, _), (3, _), (20, _), (21, _)] [] [] (fun k => [(22, iv (k.1 : Int)), (4, bv k.2.2)]) (fun k => [(0, some (flat cW k.2.1))]) (fun k => k.1 ≤ pts.length ∧ k.2 = (List.range k.1).foldl (innG opU (plF ts pts) pts) (s, false) ∧ SG pts (PpP ts pts) k.2.1) (fun k => pts.length - k.1) (0, (s, false)) ⟨by omega, rfl, hS⟩ rfl rfl (by repeat' (first | exact trivial | refine And.intro rfl ?_)) (by repeat' (first | exact trivial | refine And.intro (.inr rfl) ?_)) ?_
    rintro ⟨k, u, c⟩ ⟨hk, hf, hS2⟩
    dsimp only at hk hf hS2 ⊢
    have hul := hS2.1
    by_cases hkn : k < pts.length
    · have hst := (w.set k hkn).1
      have hsm : ∀ z : Nat, Sm u[z]! := by
        intro z
        by_cases hz : z < pts.length
        · exact ⟨Nat.lt_of_lt_of_le (hS2.2 z hz).1 (Nat.pow_le_pow_right (by decide) (by omega))⟩
        · rw [getElem!_neg u z (by rw [hul]; exact hz)]; exact ⟨by decide⟩
      have hs1 : Sm (wS ts pts[k]! [2]) := mkBits_sm (by omega)
      have hs2 : Sm (sbit pts[k]!) := sbit_sm (by omega)
      have hs3 : ∀ V, Sm (ofV pts V) := fun V => ofV_sm w V
      have hnl := w.nl k hkn
      have e1 : isLn pts[k]! = true → anl u[k]! (ofV pts (wS ts pts[k]! [2] ||| sbit pts[k]!)) ||| 2 ^ (k : Int).toNat = plF ts pts k u[k]! := fun h => by unfold plF lnB; rw [if_pos h]; rfl
      have e0 : isLn pts[k]! = false → anl u[k]! (ofV pts (wS ts pts[k]! [2] ||| sbit pts[k]!)) = plF ts pts k u[k]! := fun h => by unfold plF lnB; rw [if_neg (by rw [h]; simp), Nat.or_zero]
      have hps : Sm (plF ts pts k u[k]!) := ⟨Nat.lt_of_lt_of_le (plF_lt w hkn (hS2.2 k hkn).1) (Nat.pow_le_pow_right (by decide) (by omega))⟩
      repeat' (first | (apply id_rw; first | (apply rx_move;rfl;rfl) | (first | (apply rx_loadF0; (case hx | hH => rfl); (case hf | hg | hα => infer_instance); (case hk => omega); (case hc | hN => rfl)) | (apply rx_load1;rfl;rfl;rfl;rfl) | (apply rx_loadA;rfl;rfl;(exact (rfl:_=[_, _, _, _, _]));rfl;rfl;rfl)) | (apply rx_fieldAddr;rfl;rfl;rfl) | (first | (apply rx_orN;rfl;rfl;infer_instance;infer_instance;infer_instance;rfl) | (apply rx_anlN;rfl;rfl;infer_instance;infer_instance;infer_instance;rfl) | (apply rx_shl1;rfl;rfl;infer_instance;omega;rfl; (case' kk => intro hsm)) | (apply rx_bin;rfl;rfl;rfl;rfl)) | (apply rx_assign;rfl;rfl) | (first | (apply rx_indexFN; (case hx | hi => rfl); (case hm => (assumption)); (case hml => (rfl)); (case hα | hf | hg => infer_instance); (case hN => rfl)) | (apply rx_indexON;rfl;rfl;(assumption);rfl)) | (first | ((with_reducible apply rx_callE (k := 60)); (case ha => rfl); (case h => (apply isLoan_c <;> (fail))); (case hp => (exact Pur.pf)); (case hN => rfl)) | ((with_reducible apply rx_callE (k := 139)); (case ha => rfl); (case h => (apply taken_c <;> (assumption))); (case hp => (exact Pur.pf)); (case hN => rfl)) | ((with_reducible apply rx_callE (k := 140)); (case ha => rfl); (case h => (apply setBit_c <;> (omega))); (case hp => (exact Pur.pf)); (case hN => rfl)) | ((with_reducible apply rx_callE (k := 142)); (case ha => rfl); (case h => (apply ofVars_c <;> (first | assumption | infer_instance))); (case hp => (exact Pur.pf)); (case hN => rfl))) | (apply rx_len;rfl;rfl;rfl) | (apply rw_nil;kernel_rfl) | (apply rx_alloc;rfl;rfl) | (apply rx_store;rfl;rfl;rfl;rfl;rfl;(case hl => (simp;done));(exact (rfl:_=[_, _, _, _, _])))) | (apply id_aw; first | apply aw_seq | apply aw_region | (apply aw_draw;kernel_rfl) | (apply aw_cond;rfl;all_goals intro hc;have hq:=hc;(try simp only [bqs] at hq);try exfalso;omega) | apply aw_block | apply aw_skip) | with_reducible apply tq_normal)
      all_goals first | rw [e1 (by assumption)] | rw [e0 (by assumption)]
      all_goals
        refine aw_loopK (σ := Nat × (List Nat × Bool)) [0, 3, 7, 20, 21, 22, 47, 48] [(0, _), (3, _), (7, _), (20, _), (21, _), (22, _), (47, _), (48, _)] [] [] (fun j => [(49, iv (j.1 : Int)), (4, bv j.2.2)]) (fun j => [(0, some (flat cW j.2.1))]) (fun j => j.1 ≤ pts[k]!.next.length ∧ j.2 = ((nxN pts k).take j.1).foldl (bstp opU (plF ts pts k u[k]!)) (u, c) ∧ SG pts (PpP ts pts) j.2.1) (fun j => pts[k]!.next.length - j.1) (0, (u, c)) ⟨by omega, rfl, hS2⟩ rfl rfl (by repeat' (first | exact trivial | refine And.intro rfl ?_)) (by repeat' (first | exact trivial | refine And.intro (.inr rfl) ?_)) ?_
        rintro ⟨j, u2, c2⟩ ⟨hj, hf2, hS3⟩
        dsimp only at hj hf2 hS3 ⊢
        have hul2 := hS3.1
        have hsm2 : ∀ z : Nat, Sm u2[z]! := by
          intro z
          by_cases hz : z < pts.length
          · exact ⟨Nat.lt_of_lt_of_le (hS3.2 z hz).1 (Nat.pow_le_pow_right (by decide) (by omega))⟩
          · rw [getElem!_neg u2 z (by rw [hul2]; exact hz)]; exact ⟨by decide⟩
        have hz : j < pts[k]!.next.length → 0 ≤ pts[k]!.next[j]! ∧ pts[k]!.next[j]! < pts.length := fun h => w.nx k hkn _ (getB_mem _ _ h)
        repeat' (first | (apply id_rw; first | (apply rx_move;rfl;rfl) | (first | (apply rx_loadF0; (case hx | hH => rfl); (case hf | hg | hα => infer_instance); (case hk => omega); (case hc | hN => rfl)) | (apply rx_load1;rfl;rfl;rfl;rfl)) | (first | (apply rx_orN;rfl;rfl;infer_instance;infer_instance;infer_instance;rfl) | (apply rx_add;rfl;rfl;omega;rfl) | (apply rx_bin;rfl;rfl;rfl;rfl)) | (apply rx_assign;rfl;rfl) | (first | (apply rx_indexFN; (case hx | hi => rfl); (case hm => (omega)); (case hml => (rfl)); (case hα | hf | hg => infer_instance); (case hN => rfl)) | (apply rx_indexO;rfl;rfl;(omega);rfl)) | (apply rw_nil;kernel_rfl) | (apply rx_store;rfl;rfl;rfl;rfl;rfl;(rw [flat_length]; simp only [lns] <;> omega);(exact st_natW (by (omega))))) | (apply id_aw; first | apply aw_seq | apply aw_region | (apply aw_draw;kernel_rfl) | (apply aw_cond;rfl;all_goals intro hc;have hq:=hc;(try simp only [bqs] at hq);try exfalso;omega) | apply aw_block | apply aw_skip | apply aw_exit) | with_reducible apply tq_normal | with_reducible apply tq_exit | with_reducible apply bq_normal | with_reducible apply bq_here)
        · have hzz := hz (by omega)
          have hed : edge pts k (pts[k]!.next[j]!).toNat := ⟨hkn, by rw [Int.toNat_of_nonneg hzz.1]; exact getB_mem _ _ (by omega)⟩
          have hne : opU u2[(pts[k]!.next[j]!).toNat]! (plF ts pts k u[k]!) ≠ u2[(pts[k]!.next[j]!).toNat]! := fun h => hq (congrArg Int.ofNat h)
          (apply ex3 (j + 1, (_, true)); focus (refine Le.ren [(0, 0)] rfl (by decide) ?_ ?_ <;> repeat' (first | exact trivial | refine And.intro ⟨_, rfl, ?_⟩ ?_ | refine And.intro ⟨_, _, rfl, rfl, ?_⟩ ?_ | exact Or.inr rfl | refine Or.inl ⟨?_, (by first | rfl | exact pur_sl _ _ | exact Pur.pf)⟩ | rfl)))
          · dsimp only
            refine ⟨by omega, ?_, SG_step fl w (hS2.2 k hkn) hed hS3⟩
            rw [bstp_take (by omega), ← hf2, bstp_1 hne]
          · dsimp only; omega
        · have hzz := hz (by omega)
          have hne : opU u2[(pts[k]!.next[j]!).toNat]! (plF ts pts k u[k]!) = u2[(pts[k]!.next[j]!).toNat]! := Int.ofNat.inj hq
          (apply ex3 (j + 1, (u2, c2)); focus (refine Le.ren [(0, 0)] rfl (by decide) ?_ ?_ <;> repeat' (first | exact trivial | refine And.intro ⟨_, rfl, ?_⟩ ?_ | refine And.intro ⟨_, _, rfl, rfl, ?_⟩ ?_ | exact Or.inr rfl | refine Or.inl ⟨?_, (by first | rfl | exact pur_sl _ _ | exact Pur.pf)⟩ | rfl)))
          · dsimp only
            refine ⟨by omega, ?_, hS3⟩
            rw [bstp_take (by omega), ← hf2, bstp_0 hne]
          · dsimp only; omega
        · (apply ex3 (k + 1, (u2, c2)); focus (refine Le.ren [(0, 0)] rfl (by decide) ?_ ?_ <;> repeat' (first | exact trivial | refine And.intro ⟨_, rfl, ?_⟩ ?_ | refine And.intro ⟨_, _, rfl, rfl, ?_⟩ ?_ | exact Or.inr rfl | refine Or.inl ⟨?_, (by first | rfl | exact pur_sl _ _ | exact Pur.pf)⟩ | rfl)))
          · dsimp only
            refine ⟨by omega, ?_, hS3⟩
            rw [range_succ_foldl, ← hf, hf2, List.take_of_length_le (by rw [nxN_len]; omega)]; rfl
          · dsimp only; omega
    · repeat' (first | (apply id_rw; first | (apply rx_bin;rfl;rfl;rfl;rfl) | (apply rw_nil;kernel_rfl)) | (apply id_aw; first | apply aw_seq | apply aw_region | (apply aw_cond;rfl;all_goals intro hc;have hq:=hc;(try simp only [bqs] at hq);try exfalso;omega) | apply aw_exit) | with_reducible apply tq_normal | with_reducible apply tq_exit | with_reducible apply bq_normal | with_reducible apply bq_here)
      have law := swpG_law w fl s false hS
      have hfull : (u, c) = swpG opU (plF ts pts) pts (s, false) := by
        rw [hf, show k = pts.length by omega]; rfl
      rw [← hfull] at law
      (apply ex3 (u, c); focus (refine Le.ren [(0, 0)] rfl (by decide) ?_ ?_ <;> repeat' (first | exact trivial | refine And.intro ⟨_, rfl, ?_⟩ ?_ | refine And.intro ⟨_, _, rfl, rfl, ?_⟩ ?_ | exact Or.inr rfl | refine Or.inl ⟨?_, (by first | rfl | exact pur_sl _ _ | exact Pur.pf)⟩ | rfl)))
      · dsimp only
        refine ⟨hS2, fun h => ?_⟩
        rcases law.2 with ⟨e1, e2⟩ | ⟨e1, _⟩
        · cases e1; exact e2
        · dsimp only at e1; rw [h] at e1; cases e1
      · dsimp only
        have hb : b = true := by assumption
        subst hb
        rcases law.2 with ⟨e1, e2⟩ | ⟨e1, e2⟩
        · cases e1; simp
        · dsimp only at e1 e2; subst e1; omega
  · have hb : b = false := by assumption
    refine rq_le (Le.frzD (d := 2) (i := 0) rfl rfl) ?_
    refine rq_ret rfl ⟨?_, (by (exact pur_sl _ _))⟩
    simp only [oneOf]
    rw [goodP_ext hA (goodP_of w hS (hC hb))]
end Go.Proofs.YtejkbiijonnefaaGreat

namespace Go.Proofs.YtejkbiijonnefaaGreat
open Go.AL Go.RowKit

theorem cameFrom_c (ts : List Int) (bd : List AL.Stmt) (pts : List Pnt) (i : Int) (f : List Nat) (w : WG ts pts) (hi : 0 ≤ i ∧ i < pts.length) (hf : f.length = 6) (hs : ∀ z : Nat, Sm f[z]!) : PC Tryz.prog 141 [aG ts bd pts, iv i, .agg (flat cW f)] (fun r => r = .agg (flat cW (cfF ts pts i.toNat f))) := by
  have hpl := w.pl
  have htl := w.tl
  have hin : i.toNat < pts.length := by omega
  have hst := (w.set i.toNat hin)
  have hy := w.y i.toNat hin
  have hbl := bitsI_len (wS ts pts[i.toNat]! [2])
  have hT : Sm (wS ts pts[i.toNat]! [2]) := mkBits_sm (by omega)
  (refine pc_of_aw Tryz.func141 rfl (by simp [Tryz.ntmps141]) ?_; rw [Tryz.ntmps141])
  repeat' (first | (apply id_rw; first | (apply rx_move;rfl;rfl) | (first | (apply rx_load1;rfl;rfl;rfl;rfl) | (apply rx_loadA;rfl;rfl;(first | exact (rfl:_=[_, _, _, _, _]) | rfl);rfl;rfl;rfl) | (apply rx_loadArr0;rfl;rfl;(assumption);rfl;rfl)) | (apply rx_fieldAddr;rfl;rfl;rfl) | (apply rx_indexF; (case hx | hi => rfl); (case hm => (assumption)); (case hml => (rfl)); (case hα | hf | hg => infer_instance); (case hN => rfl)) | (first | ((with_reducible apply rx_callE (k := 88)); (case ha => rfl); (case h => (apply bits_c <;> (assumption))); (case hp => (rfl)); (case hN => rfl)) | ((with_reducible apply rx_callE (k := 139)); (case ha => rfl); (case h => (apply taken_c <;> (assumption))); (case hp => (exact Pur.pf)); (case hN => rfl))) | (apply rx_len;rfl;rfl;rfl) | (apply rw_nil;kernel_rfl) | (apply rx_nil;rfl;rfl;rfl) | (apply rx_box;rfl;rfl;rfl;rfl) | (apply rx_alloc;rfl;rfl) | (apply rx_store;rfl;rfl;rfl;rfl;rfl;(case hl => (simp;done));(exact (rfl:_=[_, _, _, _, _]))) | (apply rx_storeArr;rfl;rfl;rfl;(assumption);(rfl))) | (apply id_aw; first | apply aw_seq | apply aw_region | apply aw_block) | with_reducible apply tq_normal)
  refine aw_loopK (σ := Nat × List Nat) [0, 1, 5, 6, 7, 8, 23, 24] [(0, _), (1, _), (5, _), (6, _), (7, _), (8, _), (23, _), (24, _)] [0, 1, 2] [(0, some _), (1, some _), (2, some _)] (fun k => [(25, iv (k.1 : Int))]) (fun k => [(3, some (flat cW k.2))]) (fun k => k.1 ≤ (bitsI (wS ts pts[i.toNat]! [2])).length ∧ k.2 = clrF ((bitsI (wS ts pts[i.toNat]! [2])).take k.1) f ∧ k.2.length = 6) (fun k => (bitsI (wS ts pts[i.toNat]! [2])).length - k.1) (0, f) ⟨by omega, rfl, hf⟩ rfl rfl (by repeat' (first | exact trivial | refine And.intro rfl ?_)) (by repeat' (first | exact trivial | refine And.intro (.inr rfl) ?_)) ?_
  rintro ⟨k, u⟩ ⟨hk, hu, hul⟩
  dsimp only at hk hu hul ⊢
  have hbb : k < (bitsI (wS ts pts[i.toNat]! [2])).length → 0 ≤ (bitsI (wS ts pts[i.toNat]! [2]))[k]! ∧ (bitsI (wS ts pts[i.toNat]! [2]))[k]! < ts.length := fun h => bitsI_bd (mkBits_lt (fun v => decide (useAt ts pts[i.toNat]! v ∈ [2])) ts.length) h
  have husm : ∀ z : Nat, Sm u[z]! := by intro z; rw [hu]; exact clr_sm hs z
  have hset : ∀ (k a : Nat) [Sm a] (z : Nat), Sm (u.set k a)[z]! := fun k a h z => set_sm husm h z
  have hset2 : ∀ (k a k2 a2 : Nat) [Sm a] [Sm a2] (z : Nat), Sm ((u.set k a).set k2 a2)[z]! := fun k a k2 a2 h h2 z => set_sm (set_sm husm h) h2 z
  by_cases hkn : k < (bitsI (wS ts pts[i.toNat]! [2])).length
  · have hbk := hbb hkn
    repeat' (first | (apply id_rw; first | (apply rx_move;rfl;rfl) | (apply rx_load1;rfl;rfl;rfl;rfl) | (first | (apply rx_add;rfl;rfl;omega;rfl) | (apply rx_bin;rfl;rfl;rfl;rfl)) | (apply rx_assign;rfl;rfl) | (first | (apply rx_indexFN; (case hx | hi => rfl); (case hm => (assumption)); (case hml => (rfl)); (case hα | hf | hg => infer_instance); (case hN => rfl)) | (apply rx_indexArr;rfl;rfl;(omega);rfl;rfl)) | (apply rw_nil;kernel_rfl) | (apply rx_store;rfl;rfl;rfl;rfl;rfl;(rw [flat_length]; simp only [lns] <;> omega);(exact st_natW (by (omega))))) | (apply id_aw; first | apply aw_seq | apply aw_region | (apply aw_cond;rfl;all_goals intro hc;have hq:=hc;(try simp only [bqs] at hq);try exfalso;omega) | apply aw_block | apply aw_skip) | with_reducible apply tq_normal | with_reducible apply bq_normal)
    (apply Exists.intro (k + 1, u.set ((bitsI (wS ts pts[i.toNat]! [2]))[k]!).toNat 0); refine And.intro ?_ (And.intro ?_ ?_); rotate_left 2; focus (refine Le.ren [(0, 0), (1, 1), (2, 2), (3, 3)] rfl (by decide) ?_ ?_ <;> repeat' (first | exact trivial | refine And.intro ⟨_, rfl, ?_⟩ ?_ | refine And.intro ⟨_, _, rfl, rfl, ?_⟩ ?_ | exact Or.inr rfl | refine Or.inl ⟨?_, (by first | rfl | exact pur_sl _ _ | exact Pur.pf)⟩ | rfl)))
    · dsimp only
      exact ⟨by omega, by rw [clrF_take hkn, ← hu], by simpa using hul⟩
    · dsimp only; omega
  · have hu' : u = clrF (bitsI (wS ts pts[i.toNat]! [2])) f := by rw [hu, List.take_of_length_le (by omega)]
    cases hln : isLn pts[i.toNat]!
    · repeat' (first | (apply id_rw; first | (apply rx_move;rfl;rfl) | (first | (apply rx_loadF0; (case hx | hH => rfl); (case hf | hg | hα => infer_instance); (case hk => omega); (case hc | hN => rfl)) | (apply rx_load1;rfl;rfl;rfl;rfl) | (apply rx_loadA;rfl;rfl;(first | exact (rfl:_=[_, _, _, _, _]) | rfl);rfl;rfl;rfl) | (apply rx_loadArr0;rfl;rfl;(first | assumption | (simp only [lns] <;> omega));rfl;rfl) | (apply rx_loadWq;rfl;rfl;(exact off1);(simp only [lns] <;> omega);rfl)) | (apply rx_fieldAddr;rfl;rfl;rfl) | (first | (apply rx_guardY;rfl;rfl;rfl;(rfl)) | (apply rx_guardNs;rfl;rfl;rfl;(assumption))) | (first | (apply rx_orN;rfl;rfl;infer_instance;infer_instance;infer_instance;rfl) | (apply rx_bin;rfl;rfl;rfl;rfl)) | (apply rx_assign;rfl;rfl) | (apply rx_pickF;rfl;(first | rfl | assumption);rfl;rfl) | (apply rx_indexArr;rfl;rfl;(omega);rfl;rfl) | (first | ((with_reducible apply rx_callE (k := 60)); (case ha => rfl); (case h => (apply isLoan_c <;> (fail))); (case hp => (exact Pur.pf)); (case hN => rfl)) | ((with_reducible apply rx_callE (k := 154)); (case ha => rfl); (case h => (apply sets_c <;> (fail))); (case hp => (exact Pur.pf)); (case hN => rfl))) | (apply rw_nil;kernel_rfl) | (apply rx_store;rfl;rfl;rfl;rfl;rfl;(rw [flat_length]; simp only [lns] <;> omega);(exact st_natW (by (first | omega | (simp only [lns] <;> omega))))) | (apply rx_storeArr;rfl;rfl;rfl;(first | assumption | (simp only [lns] <;> omega));(rfl))) | (apply id_aw; first | apply aw_seq | apply aw_region | (apply aw_draw;kernel_rfl) | (apply aw_condF;rfl;(assumption)) | (apply aw_cond;rfl;all_goals intro hc;have hq:=hc;(try simp only [bqs] at hq);try exfalso;omega) | apply aw_skip | apply aw_exit | apply aw_ret) | with_reducible apply tq_normal | with_reducible apply tq_ret | with_reducible apply tq_exit | with_reducible apply bq_here)
      all_goals (refine rq_ret (resL_cellW (z := 6) rfl rfl (by first | exact hul | (simp only [List.length_set]; exact hul)) (by decide)) ⟨?_, (by (exact pur_sl _ _))⟩)
      all_goals simp only [oneOf, cfF, ← hu', hln, Bool.false_eq_true, false_and, false_or, if_false]
      all_goals congr 2
      all_goals grind
    · have hop := isLn_op hln
      repeat' (first | (apply id_rw; first | (apply rx_move;rfl;rfl) | (first | (apply rx_loadF0; (case hx | hH => rfl); (case hf | hg | hα => infer_instance); (case hk => omega); (case hc | hN => rfl)) | (apply rx_load1;rfl;rfl;rfl;rfl) | (apply rx_loadA;rfl;rfl;(first | exact (rfl:_=[_, _, _, _, _]) | rfl);rfl;rfl;rfl) | (apply rx_loadArr0;rfl;rfl;(first | assumption | (simp only [lns] <;> omega));rfl;rfl) | (apply rx_loadWq;rfl;rfl;(exact off1);(simp only [lns] <;> omega);rfl)) | (apply rx_fieldAddr;rfl;rfl;rfl) | (first | (apply rx_guardY;rfl;rfl;rfl;(assumption)) | (apply rx_guardNs;rfl;rfl;rfl;(assumption)) | (apply rx_guardS; (case hj | hb | hN => rfl); all_goals (intro hg; have hq := hg; (try simp only [bqs] at hq); (try (exfalso; omega))))) | (first | (apply rx_orN;rfl;rfl;infer_instance;infer_instance;infer_instance;rfl) | (apply rx_shl1;rfl;rfl;infer_instance;omega;rfl; (case' kk => intro hsm)) | (apply rx_bin;rfl;rfl;rfl;rfl)) | (apply rx_assign;rfl;rfl) | (first | (apply rx_pickT;rfl;(assumption);rfl;rfl) | (apply rx_pickF;rfl;(assumption);rfl;rfl)) | (first | (apply rx_indexF; (case hx | hi => rfl); (case hm => (omega)); (case hml => (rfl)); (case hα | hf | hg => infer_instance); (case hN => rfl)) | (apply rx_indexArr;rfl;rfl;(omega);rfl;rfl)) | (first | ((with_reducible apply rx_callE (k := 60)); (case ha => rfl); (case h => (apply isLoan_c <;> (fail))); (case hp => (exact Pur.pf)); (case hN => rfl)) | ((with_reducible apply rx_callE (k := 154)); (case ha => rfl); (case h => (apply sets_c <;> (fail))); (case hp => (exact Pur.pf)); (case hN => rfl)) | ((with_reducible apply rx_callE (k := 181)); (case ha => rfl); (case h => (apply isRefI_c <;> (fail))); (case hp => (rfl)); (case hN => rfl))) | (apply rw_nil;kernel_rfl) | (apply rx_nil;rfl;rfl;rfl) | (apply rx_store;rfl;rfl;rfl;rfl;rfl;(rw [flat_length]; simp only [lns] <;> omega);(exact st_natW (by (first | omega | (simp only [lns] <;> omega))))) | (apply rx_storeArr;rfl;rfl;rfl;(first | assumption | (simp only [lns] <;> omega));(rfl))) | (apply id_aw; first | apply aw_seq | apply aw_region | (apply aw_draw;kernel_rfl) | (apply aw_condT;rfl;(first | rfl | assumption)) | (apply aw_cond;rfl;all_goals intro hc;have hq:=hc;(try simp only [bqs] at hq);try exfalso;omega) | apply aw_skip | apply aw_exit | apply aw_ret) | with_reducible apply tq_normal | with_reducible apply tq_ret | with_reducible apply tq_exit | with_reducible apply bq_here)
      all_goals (refine rq_ret (resL_cellW (z := 6) rfl rfl (by first | exact hul | (simp only [List.length_set]; exact hul)) (by decide)) ⟨?_, (by (exact pur_sl _ _))⟩)
      all_goals simp only [oneOf, cfF, ← hu', hln, true_and, if_true]
      all_goals congr 2
      all_goals grind
end Go.Proofs.YtejkbiijonnefaaGreat

namespace Go.Proofs.YtejkbiijonnefaaGreat
open Go.AL Go.RowKit

theorem loansIn_c (ts : List Int) (bd : List AL.Stmt) (pts : List Pnt) (A : List Nat) (w : WG ts pts) (hA : GoodF ts pts A) : PC Tryz.prog 69 [aG ts bd pts] (fun r => r = .imm pts.length (flat cW A)) := by
  have hpl := w.pl
  have hp0 := w.p0
  have htl := w.tl
  (refine pc_of_aw Tryz.func69 rfl (by simp [Tryz.ntmps69]) ?_; rw [Tryz.ntmps69])
  repeat' (first | (apply id_rw; first | (apply rx_move;rfl;rfl) | (apply rx_load1;rfl;rfl;rfl;rfl) | (apply rx_fieldAddr;rfl;rfl;rfl) | (apply rx_assign;rfl;rfl) | (apply rx_len;rfl;rfl;rfl) | (apply rw_nil;kernel_rfl) | (apply rx_nil;rfl;rfl;rfl) | (apply rx_makeSliceE;rfl;rfl;rfl;omega;omega;(exact mk_natW6);rfl;rfl)) | (apply id_aw; first | apply aw_seq | apply aw_region | apply aw_block) | with_reducible apply tq_normal)
  refine aw_loopK (σ := List Nat × Bool) [0, 3] [(0, _), (3, _)] [] [] (fun s => [(4, bv s.2)]) (fun s => [(0, some (flat cW s.1))]) (fun s => SF ts pts s.1 ∧ (s.2 = false → Closed6 ts pts s.1)) (fun s => 2 * sumL (s.1.map (fun x => 2 ^ pts.length - x)) + s.2.toNat) (List.replicate (pts.length * 6) 0, true) ⟨SF_rep, fun h => by cases h⟩ rfl rfl (by repeat' (first | exact trivial | refine And.intro rfl ?_)) (by repeat' (first | exact trivial | refine And.intro (.inr rfl) ?_)) ?_
  rintro ⟨s, b⟩ ⟨hS, hC⟩
  dsimp only at hS hC ⊢
  repeat' (first | (apply id_rw; first | (apply rx_move;rfl;rfl) | (apply rx_load1;rfl;rfl;rfl;rfl) | (apply rx_fieldAddr;rfl;rfl;rfl) | (apply rx_assign;rfl;rfl) | (apply rx_len;rfl;rfl;rfl) | (apply rw_nil;kernel_rfl) | (apply rx_nil;rfl;rfl;rfl)) | (apply id_aw; first | apply aw_seq | apply aw_region | (apply aw_cond;rfl;all_goals intro hc;have hq:=hc;(try simp only [bqs] at hq);try exfalso;omega) | apply aw_block | apply aw_skip | apply aw_exit | apply aw_ret) | with_reducible apply tq_normal | with_reducible apply tq_exit | with_reducible apply bq_here)
  · refine aw_loopK (σ := Nat × (List Nat × Bool)) [0, 3, 22, 23] [(0, _), (3, _), (22, _), (23, _)] [] [] (fun k => [(24, iv (k.1 : Int)), (4, bv k.2.2)]) (fun k => [(0, some (flat cW k.2.1))]) (fun k => k.1 ≤ pts.length ∧ k.2 = (List.range k.1).foldl (inn6 ts pts) (s, false) ∧ SF ts pts k.2.1) (fun k => pts.length - k.1) (0, (s, false)) ⟨by omega, rfl, hS⟩ rfl rfl (by repeat' (first | exact trivial | refine And.intro rfl ?_)) (by repeat' (first | exact trivial | refine And.intro (.inr rfl) ?_)) ?_
    rintro ⟨i, u, c⟩ ⟨hk, hf, hS2⟩
    dsimp only at hk hf hS2 ⊢
    have hul := hS2.1
    have hsm : ∀ z : Nat, Sm u[z]! := SF_sm w hS2
    by_cases hin : i < pts.length
    · have hnl := w.nl i hin
      have hrl : ((u.drop (i * 6)).take 6).length = 6 := row6_len hul hin
      have hrs : ∀ z : Nat, Sm ((u.drop (i * 6)).take 6)[z]! := by
        intro z
        by_cases hz : z < 6
        · have := row6_at hul hin hz; unfold row6 at this; rw [this]; exact hsm _
        · rw [getElem!_neg _ z (by rw [hrl]; exact hz)]; exact ⟨by decide⟩
      have hcl : (cfF ts pts (i : Int).toNat ((u.drop (i * 6)).take 6)).length = 6 := (cfF_len ts pts i ((u.drop (i * 6)).take 6)).trans hrl
      repeat' (first | (apply id_rw; first | (apply rx_move;rfl;rfl) | (first | (apply rx_load1;rfl;rfl;rfl;rfl) | (apply rx_loadA;rfl;rfl;(first | exact (rfl:_=[_, _, _, _, _]) | rfl);rfl;rfl;rfl) | (apply rx_loadArrK;rfl;rfl;(omega);rfl;rfl)) | (apply rx_fieldAddr;rfl;rfl;rfl) | (apply rx_bin;rfl;rfl;rfl;rfl) | (apply rx_assign;rfl;rfl) | (first | (apply rx_indexFN; (case hx | hi => rfl); (case hm => (assumption)); (case hml => (rfl)); (case hα | hf | hg => infer_instance); (case hN => rfl)) | (apply rx_indexON;rfl;rfl;(assumption);rfl)) | ((with_reducible apply rx_callE (k := 141)); (case ha => rfl); (case h => (apply cameFrom_c <;> (first | assumption | omega))); (case hp => (exact Pur.pf)); (case hN => rfl)) | (apply rx_len;rfl;rfl;rfl) | (apply rw_nil;kernel_rfl) | (apply rx_alloc;rfl;rfl) | (apply rx_store;rfl;rfl;rfl;rfl;rfl;(case hl => (simp;done));(exact (rfl:_=[_, _, _, _, _]))) | (apply rx_storeArr;rfl;rfl;rfl;(assumption);(rfl))) | (apply id_aw; first | apply aw_seq | apply aw_region | (apply aw_cond;rfl;all_goals intro hc;have hq:=hc;(try simp only [bqs] at hq);try exfalso;omega) | apply aw_block | apply aw_skip) | with_reducible apply tq_normal)
      generalize hcf : cfF ts pts (i : Int).toNat ((u.drop (i * 6)).take 6) = a at hcl
      have hcf' : cfF ts pts i (row6 u i) = a := hcf
      have hasnd : ∀ k, edge pts i k → ∀ v, v < 6 → PpF ts pts k v a[v]! := fun k e v hv => by rw [← hcf']; exact cfF_snd w hS2 e hv
      refine aw_loopK (σ := Nat × (List Nat × Bool)) [0, 3, 7, 22, 23, 24, 37, 38] [(0, _), (3, _), (7, _), (22, _), (23, _), (24, _), (37, _), (38, _)] [2] [(2, some _)] (fun j => [(39, iv (j.1 : Int)), (4, bv j.2.2)]) (fun j => [(0, some (flat cW j.2.1))]) (fun j => j.1 ≤ pts[i]!.next.length ∧ j.2 = ((nxN pts i).take j.1).foldl (mid6 a) (u, c) ∧ SF ts pts j.2.1) (fun j => pts[i]!.next.length - j.1) (0, (u, c)) ⟨by omega, rfl, hS2⟩ rfl rfl (by repeat' (first | exact trivial | refine And.intro rfl ?_)) (by repeat' (first | exact trivial | refine And.intro (.inr rfl) ?_)) ?_
      rintro ⟨j, u2, c2⟩ ⟨hj, hf2, hS3⟩
      dsimp only at hj hf2 hS3 ⊢
      have hul2 := hS3.1
      by_cases hjn : j < pts[i]!.next.length
      · have hzz : 0 ≤ pts[i]!.next[j]! ∧ pts[i]!.next[j]! < pts.length := w.nx i hin _ (getB_mem _ _ hjn)
        have hed : edge pts i (pts[i]!.next[j]!).toNat := ⟨hin, by rw [Int.toNat_of_nonneg hzz.1]; exact getB_mem _ _ hjn⟩
        have hap := hasnd _ hed
        have hasm : ∀ z : Nat, Sm a[z]! := by
          intro z
          by_cases hz : z < 6
          · exact ⟨Nat.lt_of_lt_of_le (hap z hz).1 (Nat.pow_le_pow_right (by decide) (by omega))⟩
          · rw [getElem!_neg a z (by rw [hcl]; exact hz)]; exact ⟨by decide⟩
        repeat' (first | (apply id_rw; first | (apply rx_move;rfl;rfl) | (first | (apply rx_load1;rfl;rfl;rfl;rfl) | (apply rx_loadArr0;rfl;rfl;(assumption);rfl;rfl)) | (apply rx_bin;rfl;rfl;rfl;rfl) | (apply rx_assign;rfl;rfl) | (apply rx_indexFN; (case hx | hi => rfl); (case hm => (assumption)); (case hml => (rfl)); (case hα | hf | hg => infer_instance); (case hN => rfl)) | (apply rw_nil;kernel_rfl)) | (apply id_aw; first | apply aw_seq | apply aw_region | (apply aw_cond;rfl;all_goals intro hc;have hq:=hc;(try simp only [bqs] at hq);try exfalso;omega) | apply aw_block | apply aw_skip) | with_reducible apply tq_normal)
        refine aw_loopK (σ := Nat × (List Nat × Bool)) [0, 3, 7, 9, 22, 23, 24, 37, 38, 39, 43] [(0, _), (3, _), (7, _), (9, _), (22, _), (23, _), (24, _), (37, _), (38, _), (39, _), (43, _)] [2] [(2, some _)] (fun v => [(44, iv (v.1 : Int)), (4, bv v.2.2)]) (fun v => [(0, some (flat cW v.2.1))]) (fun v => v.1 ≤ 6 ∧ v.2 = (List.range v.1).foldl (stp6 a (pts[i]!.next[j]!).toNat) (u2, c2) ∧ SF ts pts v.2.1) (fun v => 6 - v.1) (0, (u2, c2)) ⟨by omega, rfl, hS3⟩ rfl rfl (by repeat' (first | exact trivial | refine And.intro rfl ?_)) (by repeat' (first | exact trivial | refine And.intro (.inr rfl) ?_)) ?_
        rintro ⟨v, u3, c3⟩ ⟨hv, hf3, hS4⟩
        dsimp only at hv hf3 hS4 ⊢
        have hul3 := hS4.1
        have hsm3 : ∀ z : Nat, Sm u3[z]! := SF_sm w hS4
        by_cases hvn : v < 6
        · have hlaw := stp6_law (edge_lt w hed) hap u3 c3 v hvn hS4
          repeat' (first | (apply id_rw; first | (apply rx_move;rfl;rfl) | (apply rx_loadWq;rfl;rfl;(exact off6);(omega);rfl) | (first | (apply rx_orN;rfl;rfl;infer_instance;infer_instance;infer_instance;rfl) | (apply rx_add;rfl;rfl;omega;rfl) | (apply rx_bin;rfl;rfl;rfl;rfl)) | (apply rx_assign;rfl;rfl) | (first | (apply rx_indexO;rfl;rfl;(assumption);rfl) | (apply rx_indexArr;rfl;rfl;(omega);rfl;rfl)) | (apply rw_nil;kernel_rfl) | (apply rx_index1W;rfl;rfl;(assumption);omega;rfl) | (apply rx_store;rfl;rfl;rfl;rfl;rfl;(rw [flat_length]; simp only [lns] <;> omega);(exact st_natW6 (by (omega))))) | (apply id_aw; first | apply aw_seq | apply aw_region | (apply aw_draw;kernel_rfl) | (apply aw_cond;rfl;all_goals intro hc;have hq:=hc;(try simp only [bqs] at hq);try exfalso;omega) | apply aw_block | apply aw_skip) | with_reducible apply tq_normal | with_reducible apply bq_normal)
          · have hne : opU u3[(pts[i]!.next[j]!).toNat * 6 + v]! a[v]! ≠ u3[(pts[i]!.next[j]!).toNat * 6 + v]! := fun h => hq (congrArg Int.ofNat h)
            have e1 : stp6 a (pts[i]!.next[j]!).toNat (u3, c3) v = (u3.set ((pts[i]!.next[j]!).toNat * 6 + v) (opU u3[(pts[i]!.next[j]!).toNat * 6 + v]! a[v]!), true) := bstp_1 hne
            rw [e1] at hlaw
            (apply ex3 (v + 1, (_, true)); focus (refine Le.ren [(0, 0), (2, 2)] rfl (by decide) ?_ ?_ <;> repeat' (first | exact trivial | refine And.intro ⟨_, rfl, ?_⟩ ?_ | refine And.intro ⟨_, _, rfl, rfl, ?_⟩ ?_ | exact Or.inr rfl | refine Or.inl ⟨?_, (by first | rfl | exact pur_sl _ _ | exact Pur.pf)⟩ | rfl)))
            · dsimp only
              refine ⟨by omega, ?_, hlaw.1⟩
              rw [stp6_take, ← hf3, e1]; rfl
            · dsimp only; omega
          · have hne : opU u3[(pts[i]!.next[j]!).toNat * 6 + v]! a[v]! = u3[(pts[i]!.next[j]!).toNat * 6 + v]! := Int.ofNat.inj hq
            have e1 : stp6 a (pts[i]!.next[j]!).toNat (u3, c3) v = (u3, c3) := bstp_0 hne
            (apply ex3 (v + 1, (u3, c3)); focus (refine Le.ren [(0, 0), (2, 2)] rfl (by decide) ?_ ?_ <;> repeat' (first | exact trivial | refine And.intro ⟨_, rfl, ?_⟩ ?_ | refine And.intro ⟨_, _, rfl, rfl, ?_⟩ ?_ | exact Or.inr rfl | refine Or.inl ⟨?_, (by first | rfl | exact pur_sl _ _ | exact Pur.pf)⟩ | rfl)))
            · dsimp only
              refine ⟨by omega, ?_, hS4⟩
              rw [stp6_take, ← hf3, e1]
            · dsimp only; omega
        · have hv6 : v = 6 := by omega
          subst hv6
          repeat' (first | (apply id_rw; first | (apply rx_move;rfl;rfl) | (first | (apply rx_add;rfl;rfl;omega;rfl) | (apply rx_bin;rfl;rfl;rfl;rfl)) | (apply rw_nil;kernel_rfl)) | (apply id_aw; first | apply aw_seq | apply aw_region | (apply aw_condF;rfl;(rfl)) | apply aw_exit) | with_reducible apply tq_normal | with_reducible apply tq_exit | with_reducible apply bq_normal | with_reducible apply bq_here)
          (apply ex3 (j + 1, (u3, c3)); focus (refine Le.ren [(0, 0), (2, 2)] rfl (by decide) ?_ ?_ <;> repeat' (first | exact trivial | refine And.intro ⟨_, rfl, ?_⟩ ?_ | refine And.intro ⟨_, _, rfl, rfl, ?_⟩ ?_ | exact Or.inr rfl | refine Or.inl ⟨?_, (by first | rfl | exact pur_sl _ _ | exact Pur.pf)⟩ | rfl)))
          · dsimp only
            refine ⟨by omega, ?_, hS4⟩
            rw [mid6_take hjn, ← hf2, hf3]; rfl
          · dsimp only; omega
      · repeat' (first | (apply id_rw; first | (apply rx_move;rfl;rfl) | (first | (apply rx_add;rfl;rfl;omega;rfl) | (apply rx_bin;rfl;rfl;rfl;rfl)) | (apply rw_nil;kernel_rfl)) | (apply id_aw; first | apply aw_seq | apply aw_region | (apply aw_cond;rfl;all_goals intro hc;have hq:=hc;(try simp only [bqs] at hq);try exfalso;omega) | apply aw_exit) | with_reducible apply tq_normal | with_reducible apply tq_exit | with_reducible apply bq_normal | with_reducible apply bq_here)
        (apply ex3 (i + 1, (u2, c2)); focus (refine Le.ren [(0, 0)] rfl (by decide) ?_ ?_ <;> repeat' (first | exact trivial | refine And.intro ⟨_, rfl, ?_⟩ ?_ | refine And.intro ⟨_, _, rfl, rfl, ?_⟩ ?_ | exact Or.inr rfl | refine Or.inl ⟨?_, (by first | rfl | exact pur_sl _ _ | exact Pur.pf)⟩ | rfl)))
        · dsimp only
          refine ⟨by omega, ?_, hS3⟩
          rw [range_succ_foldl, ← hf, hf2, List.take_of_length_le (by rw [nxN_len]; omega), ← hcf']; rfl
        · dsimp only; omega
    · repeat' (first | (apply id_rw; first | (apply rx_bin;rfl;rfl;rfl;rfl) | (apply rw_nil;kernel_rfl)) | (apply id_aw; first | apply aw_seq | apply aw_region | (apply aw_cond;rfl;all_goals intro hc;have hq:=hc;(try simp only [bqs] at hq);try exfalso;omega) | apply aw_exit) | with_reducible apply tq_normal | with_reducible apply tq_exit | with_reducible apply bq_normal | with_reducible apply bq_here)
      have law := swp6_law w s false hS
      have hfull : (u, c) = swp6 ts pts (s, false) := by
        rw [hf, show i = pts.length by omega]; rfl
      rw [← hfull] at law
      (apply ex3 (u, c); focus (refine Le.ren [(0, 0)] rfl (by decide) ?_ ?_ <;> repeat' (first | exact trivial | refine And.intro ⟨_, rfl, ?_⟩ ?_ | refine And.intro ⟨_, _, rfl, rfl, ?_⟩ ?_ | exact Or.inr rfl | refine Or.inl ⟨?_, (by first | rfl | exact pur_sl _ _ | exact Pur.pf)⟩ | rfl)))
      · dsimp only
        refine ⟨hS2, fun h => ?_⟩
        rcases law.2 with ⟨e1, e2⟩ | ⟨e1, _⟩
        · cases e1; exact e2
        · dsimp only at e1; rw [h] at e1; cases e1
      · dsimp only
        have hb : b = true := by assumption
        subst hb
        rcases law.2 with ⟨e1, e2⟩ | ⟨e1, e2⟩
        · cases e1; simp
        · dsimp only at e1 e2; subst e1; omega
  · have hb : b = false := by assumption
    refine rq_le (Le.frzD (d := 2) (i := 0) rfl rfl) ?_
    refine rq_ret rfl ⟨?_, (by (exact pur_sl _ _))⟩
    simp only [oneOf]
    rw [goodF_ext hA (goodF_of w hS (hC hb))]
end Go.Proofs.YtejkbiijonnefaaGreat

namespace Go.Proofs.YtejkbiijonnefaaGreat
open Go.AL Go.RowKit

theorem kept_c (ts : List Int) (bd : List AL.Stmt) (pts : List Pnt) (i : Int) (lv : Nat) (f : List Nat) (w : WG ts pts) (hi : 0 ≤ i ∧ i < pts.length) (hlv : lv < 2 ^ ts.length) (hf : f.length = 6) (hs : ∀ z : Nat, Sm f[z]!) : PC Tryz.prog 66 [aG ts bd pts, iv i, iv (lv : Int), .agg (flat cW f)] (fun r => r = .v (.int .u64 (kpF ts pts[i.toNat]! lv f : Nat))) := by
  have hpl := w.pl
  have htl := w.tl
  have hin : i.toNat < pts.length := by omega
  have hst := (w.set i.toNat hin)
  have hsl : Sm lv := ⟨Nat.lt_of_lt_of_le hlv (Nat.pow_le_pow_right (by decide) (by omega))⟩
  have hT : Sm (wS ts pts[i.toNat]! [2]) := mkBits_sm (by omega)
  have hB : Sm (sbit pts[i.toNat]!) := sbit_sm (by omega)
  have hbl := bitsI_len (anl lv (wS ts pts[i.toNat]! [2] ||| sbit pts[i.toNat]!))
  have hlt : anl lv (wS ts pts[i.toNat]! [2] ||| sbit pts[i.toNat]!) < 2 ^ ts.length := Nat.xor_lt_two_pow hlv (Nat.lt_of_le_of_lt Nat.and_le_left hlv)
  (refine pc_of_aw Tryz.func66 rfl (by simp [Tryz.ntmps66]) ?_; rw [Tryz.ntmps66])
  repeat' (first | (apply id_rw; first | (apply rx_move;rfl;rfl) | (first | (apply rx_load1;rfl;rfl;rfl;rfl) | (apply rx_loadA;rfl;rfl;(exact (rfl:_=[_, _, _, _, _]));rfl;rfl;rfl)) | (apply rx_fieldAddr;rfl;rfl;rfl) | (first | (apply rx_orN;rfl;rfl;infer_instance;infer_instance;infer_instance;rfl) | (apply rx_anlN;rfl;rfl;infer_instance;infer_instance;infer_instance;rfl)) | (apply rx_assign;rfl;rfl) | (apply rx_indexF; (case hx | hi => rfl); (case hm => (assumption)); (case hml => (rfl)); (case hα | hf | hg => infer_instance); (case hN => rfl)) | (first | ((with_reducible apply rx_callE (k := 88)); (case ha => rfl); (case h => (apply bits_c <;> (infer_instance))); (case hp => (rfl)); (case hN => rfl)) | ((with_reducible apply rx_callE (k := 139)); (case ha => rfl); (case h => (apply taken_c <;> (assumption))); (case hp => (exact Pur.pf)); (case hN => rfl)) | ((with_reducible apply rx_callE (k := 140)); (case ha => rfl); (case h => (apply setBit_c <;> (omega))); (case hp => (exact Pur.pf)); (case hN => rfl))) | (apply rx_len;rfl;rfl;rfl) | (apply rw_nil;kernel_rfl) | (apply rx_nil;rfl;rfl;rfl) | (apply rx_box;rfl;rfl;rfl;rfl) | (apply rx_alloc;rfl;rfl) | (apply rx_store;rfl;rfl;rfl;rfl;rfl;(case hl => (simp;done));(exact (rfl:_=[_, _, _, _, _])))) | (apply id_aw; first | apply aw_seq | apply aw_region | (apply aw_draw;kernel_rfl) | apply aw_block) | with_reducible apply tq_normal)
  refine aw_loopK (σ := Nat × Nat) [7, 28, 29] [(7, _), (28, _), (29, _)] [0] [(0, some _)] (fun k => [(30, iv (k.1 : Int)), (10, .v (.int .u64 (k.2 : Int)))]) (fun k => []) (fun k => k.1 ≤ (bitsI (anl lv (wS ts pts[i.toNat]! [2] ||| sbit pts[i.toNat]!))).length ∧ k.2 = orL f ((bitsI (anl lv (wS ts pts[i.toNat]! [2] ||| sbit pts[i.toNat]!))).take k.1) 0 ∧ Sm k.2) (fun k => (bitsI (anl lv (wS ts pts[i.toNat]! [2] ||| sbit pts[i.toNat]!))).length - k.1) (0, 0) ⟨by omega, rfl, inferInstance⟩ rfl rfl (by repeat' (first | exact trivial | refine And.intro rfl ?_)) (by repeat' (exact trivial)) ?_
  rintro ⟨k, a⟩ ⟨hk, ha, hsa⟩
  dsimp only at hk ha hsa ⊢
  have hbb : k < (bitsI (anl lv (wS ts pts[i.toNat]! [2] ||| sbit pts[i.toNat]!))).length → 0 ≤ (bitsI (anl lv (wS ts pts[i.toNat]! [2] ||| sbit pts[i.toNat]!)))[k]! ∧ (bitsI (anl lv (wS ts pts[i.toNat]! [2] ||| sbit pts[i.toNat]!)))[k]! < ts.length := fun h => bitsI_bd hlt h
  repeat' (first | (apply id_rw; first | (apply rx_move;rfl;rfl) | (first | (apply rx_loadF0; (case hx | hH => rfl); (case hf | hg | hα => infer_instance); (case hk => omega); (case hc | hN => rfl)) | (apply rx_load1;rfl;rfl;rfl;rfl)) | (first | (apply rx_orN;rfl;rfl;infer_instance;infer_instance;infer_instance;rfl) | (apply rx_add;rfl;rfl;omega;rfl) | (apply rx_bin;rfl;rfl;rfl;rfl)) | (apply rx_assign;rfl;rfl) | (first | (apply rx_indexFN; (case hx | hi => rfl); (case hm => (omega)); (case hml => (rfl)); (case hα | hf | hg => infer_instance); (case hN => rfl)) | (apply rx_indexArr;rfl;rfl;(omega);rfl;rfl)) | (apply rw_nil;kernel_rfl)) | (apply id_aw; first | apply aw_seq | apply aw_region | (apply aw_cond;rfl;all_goals intro hc;have hq:=hc;(try simp only [bqs] at hq);try exfalso;omega) | apply aw_block | apply aw_skip | apply aw_exit | apply aw_ret) | with_reducible apply tq_normal | with_reducible apply tq_exit | with_reducible apply bq_normal | with_reducible apply bq_here)
  · (apply ex3 (k + 1, _); focus (refine Le.ren [(0, 0)] rfl (by decide) ?_ ?_ <;> repeat' (first | exact trivial | refine And.intro ⟨_, rfl, ?_⟩ ?_ | refine And.intro ⟨_, _, rfl, rfl, ?_⟩ ?_ | exact Or.inr rfl | refine Or.inl ⟨?_, (by first | rfl | exact pur_sl _ _)⟩ | rfl)))
    · dsimp only
      refine ⟨by omega, ?_, inferInstance⟩
      rw [ha]; unfold orL; rw [foldl_take _ _ _ _ (by omega)]
    · dsimp only; omega
  · refine rq_ret rfl ⟨?_, rfl⟩
    simp only [oneOf]
    rw [ha, List.take_of_length_le (by omega)]; rfl
theorem accesses_c (ts : List Int) (bd : List AL.Stmt) (pts : List Pnt) (x : Pnt) (mb : Nat) (htl : ts.length ≤ 6) (hmb : Sm mb) (hst : setAt x < ts.length) (hy : 0 ≤ x.y ∧ (3 ≤ x.op → x.op ≤ 7 → x.y < ts.length)) : PC Tryz.prog 82 [aG ts bd pts, aPnt x, iv (mb : Int)] (fun r => r = sl cAcc (accF ts x (mb.testBit (setAt x).toNat))) := by
  (refine pc_of_aw Tryz.func82 rfl (by simp [Tryz.ntmps82]) ?_; rw [Tryz.ntmps82])
  repeat' (first | (apply id_rw; first | ((apply rx_assignNil (d := 7) (e := 2)); (case hM | hN => rfl)) | (apply rx_move;rfl;rfl) | (first | (apply rx_load1;rfl;rfl;rfl;rfl) | (apply rx_loadA;rfl;rfl;(exact (rfl:_=[_, _, _, _, _]));rfl;rfl;rfl)) | (apply rx_fieldAddr;rfl;rfl;rfl) | (first | (apply rx_guardY;rfl;rfl;rfl;(assumption)) | (apply rx_guardNs;rfl;rfl;rfl;(first | rfl | assumption)) | (apply rx_guardS; (case hj | hb | hN => rfl); all_goals (intro hg; have hq := hg; (try simp only [bqs] at hq); (try (exfalso; omega))))) | (first | (apply rx_and1;rfl;rfl;infer_instance;infer_instance;rfl) | (apply rx_shrN;rfl;rfl;infer_instance;infer_instance;omega;rfl) | (apply rx_bin;rfl;rfl;rfl;rfl)) | (apply rx_assign;rfl;rfl) | (first | (apply rx_pickT;rfl;(assumption);rfl;rfl) | (apply rx_pickF;rfl;(first | rfl | assumption);rfl;rfl)) | (apply rx_indexF; (case hx | hi => rfl); (case hm => (omega)); (case hml => (rfl)); (case hα | hf | hg => infer_instance); (case hN => rfl)) | (first | ((with_reducible apply rx_callE (k := 153)); (case ha => rfl); (case h => (apply takes_c <;> (omega))); (case hp => (exact Pur.pf)); (case hN => rfl)) | ((with_reducible apply rx_callE (k := 154)); (case ha => rfl); (case h => (apply sets_c <;> (fail))); (case hp => (exact Pur.pf)); (case hN => rfl))) | (apply rx_append;rfl;rfl;rfl;rfl;rfl;(case hl => (simp [flat_length]; done));(rfl);omega;omega;(first | exact (rfl:_=[_, _]) | exact (rfl:_=[_, _, _, _]));rfl;rfl) | (apply rw_nil;kernel_rfl) | (apply rx_buildK;rfl;(exact (rfl:_=some [_, _]));(exact (rfl:_=[_, _]));rfl) | (apply rx_nil;rfl;rfl;rfl) | (apply rx_box;rfl;rfl;rfl;rfl) | (apply rx_buildSlice;rfl;rfl;rfl;(exact (rfl:_=some [_, _]));rfl;rfl)) | (apply id_aw; first | apply aw_seq | apply aw_region | (apply aw_condT;rfl;(assumption)) | (apply aw_condF;rfl;(rfl)) | (apply aw_cond;rfl;all_goals intro hc;have hq:=hc;(try simp only [bqs] at hq);try exfalso;omega) | apply aw_block | apply aw_skip | apply aw_ret) | with_reducible apply tq_normal | with_reducible apply bq_normal)
  all_goals first | refine rq_le (Le.frzD (d := 6) (i := 1) rfl rfl) ?_ | refine rq_le (Le.frzD (d := 6) (i := 3) rfl rfl) ?_ | refine rq_le (Le.frzD (d := 6) (i := 5) rfl rfl) ?_
  all_goals refine rq_ret rfl ⟨?_, (by (rfl))⟩
  all_goals simp only [oneOf, accF]
  all_goals have h1 := and1_iff mb (setAt x).toNat
  all_goals (try (rw [if_neg (show ¬ (0 ≤ setAt x ∧ ts[(setAt x).toNat]! = 2 ∧ mb.testBit (setAt x).toNat = true) from fun h => by omega)]))
  all_goals (simp_all <;> rfl)
end Go.Proofs.YtejkbiijonnefaaGreat

namespace Go.Proofs.YtejkbiijonnefaaGreat
open Go.AL Go.RowKit

theorem against_c (ts : List Int) (bd : List AL.Stmt) (pts : List Pnt) (i : Int) (mb loans : Nat) (w : WG ts pts) (hi : 0 ≤ i ∧ i < pts.length) (hmb : Sm mb) (hlo : loans < 2 ^ pts.length) : PC Tryz.prog 72 [aG ts bd pts, iv i, iv (mb : Int), .v (.int .u64 (loans : Int))] (fun r => r = .v (.int .u64 (agF pts loans (accF ts pts[i.toNat]! (mb.testBit (setAt pts[i.toNat]!).toNat)) 0 : Nat))) := by
  have hpl := w.pl
  have htl := w.tl
  have hin : i.toNat < pts.length := by omega
  have hst := (w.set i.toNat hin).1
  have hy := w.y i.toNat hin
  have hx := w.x i.toNat hin
  have hop := w.op i.toNat hin
  have hlsm : Sm loans := ⟨Nat.lt_of_lt_of_le hlo (Nat.pow_le_pow_right (by decide) (by omega))⟩
  have hacc := accF_ok (mb.testBit (setAt pts[i.toNat]!).toNat) w hin
  have hal := accF_len ts pts[i.toNat]! (mb.testBit (setAt pts[i.toNat]!).toNat)
  (refine pc_of_aw Tryz.func72 rfl (by simp [Tryz.ntmps72]) ?_; rw [Tryz.ntmps72])
  repeat' (first | (apply id_rw; first | (apply rx_move;rfl;rfl) | (first | (apply rx_load1;rfl;rfl;rfl;rfl) | (apply rx_loadA;rfl;rfl;(exact (rfl:_=[_, _, _, _, _]));rfl;rfl;rfl)) | (apply rx_fieldAddr;rfl;rfl;rfl) | (apply rx_assign;rfl;rfl) | (apply rx_indexF; (case hx | hi => rfl); (case hm => (assumption)); (case hml => (rfl)); (case hα | hf | hg => infer_instance); (case hN => rfl)) | ((with_reducible apply rx_callE (k := 82)); (case ha => rfl); (case h => (apply accesses_c <;> (assumption))); (case hp => (exact Pur.pf)); (case hN => rfl)) | (apply rx_len;rfl;rfl;rfl) | (apply rw_nil;kernel_rfl) | (apply rx_nil;rfl;rfl;rfl)) | (apply id_aw; first | apply aw_seq | apply aw_region | apply aw_block) | with_reducible apply tq_normal)
  generalize accF ts pts[i.toNat]! (mb.testBit (setAt pts[i.toNat]!).toNat) = acs at hacc hal
  refine aw_loopK (σ := Nat × Nat) [0, 3, 23, 24] [(0, _), (3, _), (23, _), (24, _)] [] [] (fun k => [(25, iv (k.1 : Int)), (9, .v (.int .u64 (k.2 : Int)))]) (fun k => []) (fun k => k.1 ≤ acs.length ∧ k.2 = agF pts loans (acs.take k.1) 0 ∧ k.2 < 2 ^ pts.length) (fun k => acs.length - k.1) (0, 0) ⟨by omega, rfl, Nat.pow_pos (by decide)⟩ rfl rfl (by repeat' (first | exact trivial | refine And.intro rfl ?_)) (by repeat' (exact trivial)) ?_
  rintro ⟨k, a⟩ ⟨hk, ha, hab⟩
  dsimp only at hk ha hab ⊢
  by_cases hkn : k < acs.length
  · have hcv := hacc _ (getB_mem acs k hkn)
    have hof : ∀ V, Sm (ofV pts V) := fun V => ofV_sm w V
    have hll := bitsI_len (loans &&& ofV pts (2 ^ (acs[k]!.var).toNat))
    have hlb : loans &&& ofV pts (2 ^ (acs[k]!.var).toNat) < 2 ^ pts.length := Nat.lt_of_le_of_lt Nat.and_le_left hlo
    have htk := foldl_take (fun a c => agA pts c.write (bitsI (loans &&& ofV pts (2 ^ c.var.toNat))) a) acs 0 k hkn
    repeat' (first | (apply id_rw; first | (apply rx_move;rfl;rfl) | (first | (apply rx_load1;rfl;rfl;rfl;rfl) | (apply rx_loadA;rfl;rfl;(exact (rfl:_=[_, _]));rfl;rfl;rfl)) | (apply rx_fieldAddr;rfl;rfl;rfl) | (first | (apply rx_andN;rfl;rfl;infer_instance;infer_instance;infer_instance;rfl) | (apply rx_shl1;rfl;rfl;infer_instance;omega;rfl; (case' kk => intro hsm)) | (apply rx_bin;rfl;rfl;rfl;rfl)) | (apply rx_indexFN; (case hx | hi => rfl); (case hm => (assumption)); (case hml => (rfl)); (case hα | hf | hg => infer_instance); (case hN => rfl)) | (first | ((with_reducible apply rx_callE (k := 71)); (case ha => rfl); (case h => (apply loanBits_c <;> (infer_instance))); (case hp => (rfl)); (case hN => rfl)) | ((with_reducible apply rx_callE (k := 142)); (case ha => rfl); (case h => (apply ofVars_c <;> (assumption))); (case hp => (exact Pur.pf)); (case hN => rfl))) | (apply rx_len;rfl;rfl;rfl) | (apply rw_nil;kernel_rfl) | (apply rx_alloc;rfl;rfl) | (apply rx_store;rfl;rfl;rfl;rfl;rfl;(case hl => (simp;done));(exact (rfl:_=[_, _])))) | (apply id_aw; first | apply aw_seq | apply aw_region | (apply aw_cond;rfl;all_goals intro hc;have hq:=hc;(try simp only [bqs] at hq);try exfalso;omega) | apply aw_block | apply aw_skip) | with_reducible apply tq_normal)
    refine aw_loopK (σ := Nat × Nat) [0, 3, 11, 23, 24, 25, 36, 37] [(0, _), (3, _), (11, _), (23, _), (24, _), (25, _), (36, _), (37, _)] [0] [(0, some _)] (fun j => [(38, iv (j.1 : Int)), (9, .v (.int .u64 (j.2 : Int)))]) (fun j => []) (fun j => j.1 ≤ (bitsI (loans &&& ofV pts (2 ^ (acs[k]!.var).toNat))).length ∧ j.2 = agA pts acs[k]!.write ((bitsI (loans &&& ofV pts (2 ^ (acs[k]!.var).toNat))).take j.1) a ∧ j.2 < 2 ^ pts.length) (fun j => (bitsI (loans &&& ofV pts (2 ^ (acs[k]!.var).toNat))).length - j.1) (0, a) ⟨by omega, rfl, hab⟩ rfl rfl (by repeat' (first | exact trivial | refine And.intro rfl ?_)) (by repeat' (exact trivial)) ?_
    rintro ⟨j, b⟩ ⟨hj, hb, hbb⟩
    dsimp only at hj hb hbb ⊢
    have hbsm : Sm b := ⟨Nat.lt_of_lt_of_le hbb (Nat.pow_le_pow_right (by decide) (by omega))⟩
    by_cases hjn : j < (bitsI (loans &&& ofV pts (2 ^ (acs[k]!.var).toNat))).length
    · have hlz := bitsI_bd hlb hjn
      have hstep : agA pts acs[k]!.write ((bitsI (loans &&& ofV pts (2 ^ (acs[k]!.var).toNat))).take (j + 1)) a = if acs[k]!.write = true ∨ pts[((bitsI (loans &&& ofV pts (2 ^ (acs[k]!.var).toNat)))[j]!).toNat]!.op = 5 then b ||| 2 ^ ((bitsI (loans &&& ofV pts (2 ^ (acs[k]!.var).toNat)))[j]!).toNat else b := by
        rw [hb]; unfold agA; rw [foldl_take _ _ _ _ hjn]
      have hb2 : b ||| 2 ^ ((bitsI (loans &&& ofV pts (2 ^ (acs[k]!.var).toNat)))[j]!).toNat < 2 ^ pts.length := Nat.or_lt_two_pow hbb (Nat.pow_lt_pow_right (by decide) (by omega))
      repeat' (first | (apply id_rw; first | (apply rx_move;rfl;rfl) | (apply rx_load1;rfl;rfl;rfl;rfl) | (apply rx_fieldAddr;rfl;rfl;rfl) | (first | (apply rx_guardY;rfl;rfl;rfl;(assumption)) | (apply rx_guardNs;rfl;rfl;rfl;(assumption)) | (apply rx_guardS; (case hj | hb | hN => rfl); all_goals (intro hg; have hq := hg; (try simp only [bqs] at hq); (try (exfalso; omega))))) | (first | (apply rx_orN;rfl;rfl;infer_instance;infer_instance;infer_instance;rfl) | (apply rx_shl1;rfl;rfl;infer_instance;omega;rfl; (case' kk => intro hsm)) | (apply rx_add;rfl;rfl;omega;rfl) | (apply rx_bin;rfl;rfl;rfl;rfl)) | (apply rx_assign;rfl;rfl) | (first | (apply rx_pickT;rfl;(assumption);rfl;rfl) | (apply rx_pickF;rfl;(assumption);rfl;rfl)) | (first | (apply rx_indexFN; (case hx | hi => rfl); (case hm => (assumption)); (case hml => (rfl)); (case hα | hf | hg => infer_instance); (case hN => rfl)) | (apply rx_indexF; (case hx | hi => rfl); (case hm => (assumption)); (case hml => (rfl)); (case hα | hf | hg => infer_instance); (case hN => rfl))) | (apply rw_nil;kernel_rfl) | (apply rx_nil;rfl;rfl;rfl)) | (apply id_aw; first | apply aw_seq | apply aw_region | (apply aw_condT;rfl;(rfl)) | (apply aw_cond;rfl;all_goals intro hc;have hq:=hc;(try simp only [bqs] at hq);try exfalso;omega) | apply aw_block | apply aw_skip) | with_reducible apply tq_normal | with_reducible apply bq_normal)
      all_goals first
        | ((apply Exists.intro (j + 1, b ||| 2 ^ ((bitsI (loans &&& ofV pts (2 ^ (acs[k]!.var).toNat)))[j]!).toNat); refine And.intro ?_ (And.intro ?_ ?_); rotate_left 2; focus (refine Le.ren [(0, 0)] rfl (by decide) ?_ ?_ <;> repeat' (first | exact trivial | refine And.intro ⟨_, rfl, ?_⟩ ?_ | refine And.intro ⟨_, _, rfl, rfl, ?_⟩ ?_ | exact Or.inr rfl | refine Or.inl ⟨?_, (by first | rfl | exact pur_sl _ _ | exact Pur.pf)⟩ | rfl)))
           · dsimp only
             refine ⟨by omega, ?_, hb2⟩
             rw [hstep, if_pos (by first | exact .inl (by assumption) | exact .inr (by assumption))]
           · dsimp only; omega)
        | ((apply ex3 (j + 1, b); focus (refine Le.ren [(0, 0)] rfl (by decide) ?_ ?_ <;> repeat' (first | exact trivial | refine And.intro ⟨_, rfl, ?_⟩ ?_ | refine And.intro ⟨_, _, rfl, rfl, ?_⟩ ?_ | exact Or.inr rfl | refine Or.inl ⟨?_, (by first | rfl | exact pur_sl _ _ | exact Pur.pf)⟩ | rfl)))
           · dsimp only
             refine ⟨by omega, ?_, hbb⟩
             rw [hstep, if_neg (fun h => h.elim (fun h1 => Bool.noConfusion (h1.symm.trans (by assumption : acs[k]!.write = false))) (fun h2 => absurd h2 (by assumption)))]
           · dsimp only; omega)
    · repeat' (first | (apply id_rw; first | (apply rx_move;rfl;rfl) | (first | (apply rx_add;rfl;rfl;omega;rfl) | (apply rx_bin;rfl;rfl;rfl;rfl)) | (apply rw_nil;kernel_rfl)) | (apply id_aw; first | apply aw_seq | apply aw_region | (apply aw_cond;rfl;all_goals intro hc;have hq:=hc;(try simp only [bqs] at hq);try exfalso;omega) | apply aw_exit) | with_reducible apply tq_normal | with_reducible apply tq_exit | with_reducible apply bq_normal | with_reducible apply bq_here)
      (apply ex3 (k + 1, b); focus (refine Le.ren [] rfl (by decide) ?_ ?_ <;> repeat' (first | exact trivial | refine And.intro ⟨_, rfl, ?_⟩ ?_ | refine Or.inl ⟨?_, (by first | rfl | exact pur_sl _ _ | exact Pur.pf)⟩ | rfl)))
      · dsimp only
        refine ⟨by omega, ?_, hbb⟩
        rw [hb, List.take_of_length_le (by omega), ha]; unfold agF; rw [htk]
      · dsimp only; omega
  · repeat' (first | (apply id_rw; first | (apply rx_move;rfl;rfl) | (apply rx_bin;rfl;rfl;rfl;rfl) | (apply rx_assign;rfl;rfl) | (apply rw_nil;kernel_rfl)) | (apply id_aw; first | apply aw_seq | apply aw_region | (apply aw_cond;rfl;all_goals intro hc;have hq:=hc;(try simp only [bqs] at hq);try exfalso;omega) | apply aw_exit | apply aw_ret) | with_reducible apply tq_normal | with_reducible apply tq_exit | with_reducible apply bq_here)
    refine rq_ret rfl ⟨?_, rfl⟩
    simp only [oneOf]
    rw [ha, List.take_of_length_le (by omega)]
end Go.Proofs.YtejkbiijonnefaaGreat

namespace Go.Proofs.YtejkbiijonnefaaGreat
open Go.AL Go.RowKit

theorem issues1_c (n : Nat) (A : List Nat) (i : Int) (hA : A.length = n * 6) (hi : 0 ≤ i ∧ i < n) : PC Tryz.prog 137 [iv i, .iptr [.imm n (flat cW A)]] (fun r => r = .agg (flat cW (row6 A i.toNat))) := by
  have h6 : ((A.drop (i.toNat * 6)).take 6).length = 6 := row6_len hA (by omega)
  (refine pc_of_aw Tryz.func137 rfl (by simp [Tryz.ntmps137]) ?_; rw [Tryz.ntmps137])
  repeat' (first | (apply id_rw; first | (apply rx_move;rfl;rfl) | (first | (apply rx_load1;rfl;rfl;rfl;rfl) | (apply rx_loadIArr;rfl;(simp only [lns, List.length_drop] <;> omega);rfl;rfl)) | (apply rx_indexW6;rfl;rfl;(omega);rfl) | (apply rw_nil;kernel_rfl) | (apply rx_alloc;rfl;rfl) | (apply rx_storeArr;rfl;rfl;rfl;(assumption);(rfl))) | (apply id_aw; first | apply aw_seq | apply aw_region | apply aw_ret) | with_reducible apply tq_normal)
  refine rq_ret (resL_cellW (z := 6) rfl rfl h6 (by decide)) ⟨rfl, (by (exact pur_sl _ _))⟩
theorem check_c (ts : List Int) (bd : List AL.Stmt) (pts : List Pnt) (Aa Am Al Af Ap : List Nat) (n : Nat) (w : WG ts pts) (ga : GoodA ts pts Aa) (gm : GoodM ts pts Am) (gl : GoodL ts pts Al) (gf : GoodF ts pts Af) (gp : GoodP ts pts Ap) (hn : n = pts.length) :
    PC Tryz.prog 128 [aG ts bd pts, .imm n (flat cN Al), .clos (.func 137) [] [.iptr [.imm n (flat cW Af)]]] (fun r => r = sl cIss (issF ts pts Aa Am Al Af Ap pts.length)) := by
  subst hn
  have hpl := w.pl
  have htl := w.tl
  have hla := ga.1
  have hlm := gm.1
  have hll := gl.1
  have hlf := gf.1
  have hlp := gp.1
  (refine pc_of_aw Tryz.func128 rfl (by simp [Tryz.ntmps128]) ?_; rw [Tryz.ntmps128])
  repeat' (first | (apply id_rw; first | ((apply rx_assignNil (d := 10) (e := 3)); (case hM | hN => rfl)) | (apply rx_move;rfl;rfl) | (apply rx_load1;rfl;rfl;rfl;rfl) | (apply rx_fieldAddr;rfl;rfl;rfl) | (apply rx_assign;rfl;rfl) | (first | ((with_reducible apply rx_callE (k := 70)); (case ha => rfl); (case h => (apply placed_c <;> (assumption))); (case hp => (exact Pur.pf)); (case hN => rfl)) | ((with_reducible apply rx_callE (k := 73)); (case ha => rfl); (case h => (apply maybe_c <;> (assumption))); (case hp => (exact Pur.pf)); (case hN => rfl)) | ((with_reducible apply rx_callE (k := 89)); (case ha => rfl); (case h => (apply always_c <;> (assumption))); (case hp => (exact Pur.pf)); (case hN => rfl))) | (apply rx_len;rfl;rfl;rfl) | (apply rw_nil;kernel_rfl) | (apply rx_nil;rfl;rfl;rfl)) | (apply id_aw; first | apply aw_seq | apply aw_region | apply aw_block) | with_reducible apply tq_normal)
  refine aw_loopK (σ := Nat × List Iss × Nat) [0, 1, 2, 7, 8, 9, 27, 28] [(0, _), (1, _), (2, _), (7, _), (8, _), (9, _), (27, _), (28, _)] [] [] (fun k => [(29, iv (k.1 : Int)), (10, .own 0 0 k.2.2 3)]) (fun k => [(0, some (flat cIss k.2.1))]) (fun k => k.1 ≤ pts.length ∧ k.2.1 = issF ts pts Aa Am Al Af Ap k.1 ∧ k.2.2 = k.2.1.length ∧ k.2.2 ≤ k.1 * 124) (fun k => pts.length - k.1) (0, [], 0) ⟨by omega, rfl, rfl, Nat.le_refl _⟩ rfl rfl (by repeat' (first | exact trivial | refine And.intro rfl ?_)) (by repeat' (first | exact trivial | refine And.intro (.inr rfl) ?_)) ?_
  rintro ⟨i, u, m⟩ ⟨hk, hu, hm, hmk⟩
  dsimp only at hk hu hm hmk ⊢
  by_cases hin : i < pts.length
  · have hst := w.set i hin
    have hsU : Sm (wS ts pts[i]! [1, 2, 3]) := mkBits_sm (by omega)
    have bl : ∀ {A : Nat} {n : Nat}, n ≤ 62 → (∀ v, A.testBit v = true → v < n) → A < 2 ^ n := fun _ hv => Nat.lt_pow_two_of_testBit _ fun v h => by
      cases hq : Nat.testBit _ v with
      | false => rfl
      | true => have := hv v hq; omega
    have hAa : Sm Aa[i]! := ⟨bl (n := 62) (by omega) fun v hv => by have := ((ga.2 i hin v).1 hv).1; omega⟩
    have hAm : Sm Am[i]! := ⟨bl (n := 62) (by omega) fun v hv => by have := Mb_lt w ((gm.2 i hin v).1 hv); dsimp only at this; omega⟩
    have hAl : Al[i]! < 2 ^ ts.length := bl (by omega) fun v hv => by obtain ⟨k, _, h⟩ := (gl.2 i hin v).1 hv; exact Nd_lt w h
    have hAl2 : Sm Al[i]! := ⟨Nat.lt_of_lt_of_le hAl (Nat.pow_le_pow_right (by decide) (by omega))⟩
    have hAp : Ap[i]! < 2 ^ pts.length := bl (by omega) fun v hv => (Pl_ln ((gp.2 i hin v).1 hv)).1
    have hAp2 : Sm Ap[i]! := ⟨Nat.lt_of_lt_of_le hAp (Nat.pow_le_pow_right (by decide) (by omega))⟩
    have hrl := row6_len hlf hin
    have hrs : ∀ z : Nat, Sm (row6 Af i)[z]! := by
      intro z
      by_cases hz : z < 6
      · rw [row6_at hlf hin hz]
        exact ⟨bl (n := 62) (by omega) fun v hv => by have := (Fr_lt w ((gf.2 i z hin hz v).1 hv)).2.2; dsimp only at this; omega⟩
      · rw [getElem!_neg _ z (by rw [hrl]; exact hz)]; exact ⟨by decide⟩
    have hkp : kpF ts pts[(i : Int).toNat]! Al[i]! (row6 Af (i : Int).toNat) < 2 ^ pts.length := by
      refine bl (by omega) fun v hv => ?_
      unfold kpF at hv
      rw [testBit_orL] at hv
      rcases hv with hv | ⟨z, hz, hv⟩
      · simp at hv
      · obtain ⟨q, h1, h2, rfl⟩ := mem_bitsI.1 hz
        rw [testBit_anl, Bool.and_eq_true] at h2
        have h3 := lt_of_bits hAl h2.1
        have h4 : q < 6 := by omega
        have h5 : (row6 Af i)[q]!.testBit v = true := hv
        rw [row6_at hlf hin h4] at h5
        exact (Fr_lt w ((gf.2 i q hin h4 v).1 h5)).2.2
    have hkp2 : Sm (kpF ts pts[(i : Int).toNat]! Al[i]! (row6 Af (i : Int).toNat)) := ⟨Nat.lt_of_lt_of_le hkp (Nat.pow_le_pow_right (by decide) (by omega))⟩
    have hlo : kpF ts pts[(i : Int).toNat]! Al[i]! (row6 Af (i : Int).toNat) &&& Ap[i]! < 2 ^ pts.length := Nat.and_lt_two_pow _ hAp
    have hcf := cfN_lt w (Am := Am) (Al := Al) (Af := Af) (i := i) hAp
    have hcf2 : Sm (cfN ts pts Am Al Af Ap i) := ⟨Nat.lt_of_lt_of_le hcf (Nat.pow_le_pow_right (by decide) (by omega))⟩
    have hcf3 : Sm (agF pts (kpF ts pts[(i : Int).toNat]! Al[i]! (row6 Af (i : Int).toNat) &&& Ap[i]!) (accF ts pts[(i : Int).toNat]! (Am[i]!.testBit (setAt pts[(i : Int).toNat]!).toNat)) 0) := hcf2
    have hb1 := bitsI_len (anl (wS ts pts[i]! [1, 2, 3]) Aa[i]!)
    have hb2 := bitsI_len (cfN ts pts Am Al Af Ap i)
    repeat' (first | (apply id_rw; first | (apply rx_move;rfl;rfl) | (first | (apply rx_load1;rfl;rfl;rfl;rfl) | (apply rx_loadA;rfl;rfl;(exact (rfl:_=[_, _, _, _, _]));rfl;rfl;rfl)) | (first | (apply rx_anlN;rfl;rfl;infer_instance;infer_instance;infer_instance;rfl) | (apply rx_bin;rfl;rfl;rfl;rfl)) | (apply rx_assign;rfl;rfl) | (apply rx_indexFN; (case hx | hi => rfl); (case hm => (assumption)); (case hml => (first | rfl | omega)); (case hα | hf | hg => infer_instance); (case hN => rfl)) | (first | ((with_reducible apply rx_callE (k := 88)); (case ha => rfl); (case h => (apply bits_c <;> (infer_instance))); (case hp => (rfl)); (case hN => rfl)) | ((with_reducible apply rx_callE (k := 138)); (case ha => rfl); (case h => (apply used_c <;> (assumption))); (case hp => (exact Pur.pf)); (case hN => rfl))) | (apply rx_len;rfl;rfl;rfl) | (apply rw_nil;kernel_rfl) | (apply rx_alloc;rfl;rfl) | (apply rx_store;rfl;rfl;rfl;rfl;rfl;(case hl => (simp;done));(exact (rfl:_=[_, _, _, _, _])))) | (apply id_aw; first | apply aw_seq | apply aw_region | (apply aw_draw;kernel_rfl) | (apply aw_cond;rfl;all_goals intro hc;have hq:=hc;(try simp only [bqs] at hq);try exfalso;omega) | apply aw_block | apply aw_skip) | with_reducible apply tq_normal)
    have hb1b : ∀ j, j < (bitsI (anl (wS ts pts[i]! [1, 2, 3]) Aa[i]!)).length → 0 ≤ (bitsI (anl (wS ts pts[i]! [1, 2, 3]) Aa[i]!))[j]! := fun j h => (bitsI_bd (inferInstance : Sm (anl (wS ts pts[i]! [1, 2, 3]) Aa[i]!)).pf h).1
    refine aw_loopK (σ := Nat × List Iss × Nat) [0, 1, 2, 7, 8, 9, 11, 27, 28, 29, 42, 43] [(0, _), (1, _), (2, _), (7, _), (8, _), (9, _), (11, _), (27, _), (28, _), (29, _), (42, _), (43, _)] [] [] (fun j => [(44, iv (j.1 : Int)), (10, .own 0 0 j.2.2 3)]) (fun j => [(0, some (flat cIss j.2.1))]) (fun j => j.1 ≤ (bitsI (anl (wS ts pts[i]! [1, 2, 3]) Aa[i]!)).length ∧ j.2.1 = u ++ issU i ((bitsI (anl (wS ts pts[i]! [1, 2, 3]) Aa[i]!)).take j.1) ∧ j.2.2 = j.2.1.length ∧ j.2.2 ≤ i * 124 + j.1) (fun j => (bitsI (anl (wS ts pts[i]! [1, 2, 3]) Aa[i]!)).length - j.1) (0, u, m) ⟨by omega, by simp [issU], hm, by omega⟩ rfl rfl (by repeat' (first | exact trivial | refine And.intro rfl ?_)) (by repeat' (first | exact trivial | refine And.intro (.inr rfl) ?_)) ?_
    rintro ⟨j, u2, m2⟩ ⟨hj, hu2, hm2, hmk2⟩
    dsimp only at hj hu2 hm2 hmk2 ⊢
    by_cases hjn : j < (bitsI (anl (wS ts pts[i]! [1, 2, 3]) Aa[i]!)).length
    · repeat' (first | (apply id_rw; first | (apply rx_move;rfl;rfl) | (apply rx_load1;rfl;rfl;rfl;rfl) | (first | (apply rx_add;rfl;rfl;omega;rfl) | (apply rx_bin;rfl;rfl;rfl;rfl)) | (apply rx_assign;rfl;rfl) | (apply rx_indexFN; (case hx | hi => rfl); (case hm => (assumption)); (case hml => (rfl)); (case hα | hf | hg => infer_instance); (case hN => rfl)) | (apply rx_append;rfl;rfl;rfl;rfl;rfl;(rw [flat_length]; omega);(rfl);omega;omega;(exact app_iss (by (assumption)));rfl;rfl) | (apply rw_nil;kernel_rfl) | (apply rx_buildK;rfl;(exact (rfl:_=some [_, _, _]));(exact (rfl:_=[_, _, _]));rfl) | ((apply rx_buildSliceI (t := _)); (case hze | hsm | hl => rfl); (case hfl => (exact (rfl:_=some [_, _, _]))); (case hM | hN => rfl))) | (apply id_aw; first | apply aw_seq | apply aw_region | (apply aw_cond;rfl;all_goals intro hc;have hq:=hc;(try simp only [bqs] at hq);try exfalso;omega) | apply aw_block | apply aw_skip) | with_reducible apply tq_normal | with_reducible apply bq_normal)
      (apply ex3 (j + 1, _, _); focus (refine Le.ren [(0, 3)] rfl (by decide) ?_ ?_ <;> repeat' (first | exact trivial | refine And.intro ⟨_, rfl, ?_⟩ ?_ | refine And.intro ⟨_, _, rfl, rfl, ?_⟩ ?_ | exact Or.inr rfl | refine Or.inl ⟨?_, (by first | rfl | exact pur_sl _ _ | exact Pur.pf)⟩ | rfl)))
      · dsimp only
        refine ⟨by omega, ?_, by simp; omega, by omega⟩
        rw [hu2]; unfold issU; rw [map_take_succ _ _ _ hjn, List.append_assoc]
      · dsimp only; omega
    · have hu3 : u2 = u ++ issU i (bitsI (anl (wS ts pts[i]! [1, 2, 3]) Aa[i]!)) := by rw [hu2, List.take_of_length_le (by omega)]
      repeat' (first | (apply id_rw; first | (apply rx_move;rfl;rfl) | (apply rx_load1;rfl;rfl;rfl;rfl) | (first | (apply rx_andN;rfl;rfl;infer_instance;infer_instance;infer_instance;rfl) | (apply rx_bin;rfl;rfl;rfl;rfl)) | (apply rx_indexFN; (case hx | hi => rfl); (case hm => (assumption)); (case hml => (omega)); (case hα | hf | hg => infer_instance); (case hN => rfl)) | (first | ((with_reducible apply rx_callE (k := 66)); (case ha => rfl); (case h => (apply kept_c <;> (first | assumption | omega))); (case hp => (exact Pur.pf)); (case hN => rfl)) | ((with_reducible apply rx_callE (k := 71)); (case ha => rfl); (case h => (apply loanBits_c <;> (assumption))); (case hp => (rfl)); (case hN => rfl)) | ((with_reducible apply rx_callE (k := 72)); (case ha => rfl); (case h => (apply against_c <;> (first | assumption | omega))); (case hp => (exact Pur.pf)); (case hN => rfl))) | (apply rx_len;rfl;rfl;rfl) | ((with_reducible apply rx_callC); (case hx | hcl => rfl); (case hc => infer_instance); (case ha => rfl); (case h => (apply issues1_c <;> (first | assumption | omega))); (case hp => (exact Pur.pf)); (case hN => rfl)) | (apply rw_nil;kernel_rfl)) | (apply id_aw; first | apply aw_seq | apply aw_region | (apply aw_draw;kernel_rfl) | (apply aw_cond;rfl;all_goals intro hc;have hq:=hc;(try simp only [bqs] at hq);try exfalso;omega) | apply aw_block | apply aw_exit) | with_reducible apply tq_normal | with_reducible apply tq_exit | with_reducible apply bq_here)
      generalize hL : bitsI (agF pts (kpF ts pts[(i : Int).toNat]! Al[i]! (row6 Af (i : Int).toNat) &&& Ap[i]!) (accF ts pts[(i : Int).toNat]! (Am[i]!.testBit (setAt pts[(i : Int).toNat]!).toNat)) 0) = L2
      have hL2 : bitsI (cfN ts pts Am Al Af Ap i) = L2 := hL
      have hbd : ∀ j, j < L2.length → 0 ≤ L2[j]! ∧ L2[j]! < pts.length := fun j h => by rw [← hL2] at h ⊢; exact bitsI_bd hcf h
      rw [hL2] at hb2
      refine aw_loopK (σ := Nat × List Iss × Nat) [0, 1, 2, 7, 8, 9, 11, 27, 28, 29, 77, 78] [(0, _), (1, _), (2, _), (7, _), (8, _), (9, _), (11, _), (27, _), (28, _), (29, _), (77, _), (78, _)] [] [] (fun l => [(79, iv (l.1 : Int)), (10, .own 0 0 l.2.2 3)]) (fun l => [(0, some (flat cIss l.2.1))]) (fun l => l.1 ≤ L2.length ∧ l.2.1 = u2 ++ issC pts i (L2.take l.1) ∧ l.2.2 = l.2.1.length ∧ l.2.2 ≤ i * 124 + 62 + l.1) (fun l => L2.length - l.1) (0, u2, m2) ⟨by omega, by simp [issC], hm2, Nat.le_trans hmk2 (by omega)⟩ rfl rfl (by repeat' (first | exact trivial | refine And.intro rfl ?_)) (by repeat' (first | exact trivial | refine And.intro (.inr rfl) ?_)) ?_
      rintro ⟨l, u4, m4⟩ ⟨hl, hu4, hm4, hmk4⟩
      dsimp only at hl hu4 hm4 hmk4 ⊢
      by_cases hln : l < L2.length
      · have hbl := hbd l hln
        repeat' (first | (apply id_rw; first | (apply rx_move;rfl;rfl) | (apply rx_load1;rfl;rfl;rfl;rfl) | (apply rx_fieldAddr;rfl;rfl;rfl) | (first | (apply rx_add;rfl;rfl;omega;rfl) | (apply rx_bin;rfl;rfl;rfl;rfl)) | (apply rx_assign;rfl;rfl) | (first | (apply rx_indexFN; (case hx | hi => rfl); (case hm => (assumption)); (case hml => (rfl)); (case hα | hf | hg => infer_instance); (case hN => rfl)) | (apply rx_indexF; (case hx | hi => rfl); (case hm => (assumption)); (case hml => (rfl)); (case hα | hf | hg => infer_instance); (case hN => rfl))) | (apply rx_append;rfl;rfl;rfl;rfl;rfl;(rw [flat_length]; omega);(rfl);omega;omega;(exact app_iss (by (assumption)));rfl;rfl) | (apply rw_nil;kernel_rfl) | (apply rx_buildK;rfl;(exact (rfl:_=some [_, _, _]));(exact (rfl:_=[_, _, _]));rfl) | (apply rx_nil;rfl;rfl;rfl) | ((apply rx_buildSliceI (t := _)); (case hze | hsm | hl => rfl); (case hfl => (exact (rfl:_=some [_, _, _]))); (case hM | hN => rfl))) | (apply id_aw; first | apply aw_seq | apply aw_region | (apply aw_cond;rfl;all_goals intro hc;have hq:=hc;(try simp only [bqs] at hq);try exfalso;omega) | apply aw_block | apply aw_skip) | with_reducible apply tq_normal | with_reducible apply bq_normal)
        · (apply ex3 (l + 1, _, _); focus (refine Le.ren [(0, 3)] rfl (by decide) ?_ ?_ <;> repeat' (first | exact trivial | refine And.intro ⟨_, rfl, ?_⟩ ?_ | refine And.intro ⟨_, _, rfl, rfl, ?_⟩ ?_ | exact Or.inr rfl | refine Or.inl ⟨?_, (by first | rfl | exact pur_sl _ _ | exact Pur.pf)⟩ | rfl)))
          · dsimp only
            refine ⟨by omega, ?_, by simp; omega, by omega⟩
            rw [hu4]; unfold issC; rw [map_take_succ _ _ _ hln, List.append_assoc, if_pos hq]
          · dsimp only; omega
        · (apply ex3 (l + 1, _, _); focus (refine Le.ren [(0, 3)] rfl (by decide) ?_ ?_ <;> repeat' (first | exact trivial | refine And.intro ⟨_, rfl, ?_⟩ ?_ | refine And.intro ⟨_, _, rfl, rfl, ?_⟩ ?_ | exact Or.inr rfl | refine Or.inl ⟨?_, (by first | rfl | exact pur_sl _ _ | exact Pur.pf)⟩ | rfl)))
          · dsimp only
            refine ⟨by omega, ?_, by simp; omega, by omega⟩
            rw [hu4]; unfold issC; rw [map_take_succ _ _ _ hln, List.append_assoc, if_neg hq]
          · dsimp only; omega
      · repeat' (first | (apply id_rw; first | (apply rx_move;rfl;rfl) | (first | (apply rx_add;rfl;rfl;omega;rfl) | (apply rx_bin;rfl;rfl;rfl;rfl)) | (apply rw_nil;kernel_rfl)) | (apply id_aw; first | apply aw_seq | apply aw_region | (apply aw_cond;rfl;all_goals intro hc;have hq:=hc;(try simp only [bqs] at hq);try exfalso;omega) | apply aw_exit) | with_reducible apply tq_normal | with_reducible apply tq_exit | with_reducible apply bq_normal | with_reducible apply bq_here)
        (apply ex3 (i + 1, u4, m4); focus (refine Le.ren [(0, 0)] rfl (by decide) ?_ ?_ <;> repeat' (first | exact trivial | refine And.intro ⟨_, rfl, ?_⟩ ?_ | refine And.intro ⟨_, _, rfl, rfl, ?_⟩ ?_ | exact Or.inr rfl | refine Or.inl ⟨?_, (by first | rfl | exact pur_sl _ _ | exact Pur.pf)⟩ | rfl)))
        · dsimp only
          refine ⟨by omega, ?_, hm4, by omega⟩
          rw [issF_succ, hu4, List.take_of_length_le (by omega), hu3, ← hL2, hu, List.append_assoc]; rfl
        · dsimp only; omega
  · repeat' (first | (apply id_rw; first | (apply rx_move;rfl;rfl) | (apply rx_bin;rfl;rfl;rfl;rfl) | (apply rx_assign;rfl;rfl) | (apply rw_nil;kernel_rfl)) | (apply id_aw; first | apply aw_seq | apply aw_region | (apply aw_cond;rfl;all_goals intro hc;have hq:=hc;(try simp only [bqs] at hq);try exfalso;omega) | apply aw_exit | apply aw_ret) | with_reducible apply tq_normal | with_reducible apply tq_exit | with_reducible apply bq_here)
    (refine rq_le (Le.frzD (d := 6) (i := 0) rfl rfl) ?_; refine rq_ret rfl ?_)
    refine ⟨?_, (by (exact pur_sl _ _))⟩
    simp only [oneOf, sl]
    rw [hm, hu, show i = pts.length by omega]
end Go.Proofs.YtejkbiijonnefaaGreat

namespace Go.Proofs.YtejkbiijonnefaaGreat
open Go.AL Go.RowKit

theorem issuesI_c (ts : List Int) (bd : List AL.Stmt) (pts : List Pnt) (w : WG ts pts) (f : Flows ts pts) : PC Tryz.prog 63 [aG ts bd pts] (fun r => r = sl cIss f.iss) := by
  have hpl := w.pl
  (refine pc_of_aw Tryz.func63 rfl (by simp [Tryz.ntmps63]) ?_; rw [Tryz.ntmps63])
  repeat' (first | (apply id_rw; first | (apply rx_makeFuncFrz;rfl;rfl;rfl) | ((with_reducible apply rx_callE (k := 69)); (case ha => rfl); (case h => exact loansIn_c ts bd pts f.Af w f.gf); (case hp => exact Pur.pf); (case hN => rfl)) | ((with_reducible apply rx_callE (k := 129)); (case ha => rfl); (case h => exact liveAfter_c ts bd pts f.An f.Al w f.gn f.gl); (case hp => exact Pur.pf); (case hN => rfl)) | ((with_reducible apply rx_callE (k := 128)); (case ha => rfl); (case h => exact check_c ts bd pts f.Aa f.Am f.Al f.Af f.Ap _ w f.ga f.gm f.gl f.gf f.gp rfl); (case hp => exact Pur.pf); (case hN => rfl)) | (apply rx_move;rfl;rfl) | (apply rx_assign;rfl;rfl) | (apply rw_nil;kernel_rfl) | (apply rx_alloc;rfl;rfl) | (apply rx_store;rfl;rfl;rfl;rfl;rfl;(case hl => (simp;done));(exact (rfl:_=[_])))) | (apply id_aw; first | apply aw_seq | apply aw_region | apply aw_ret) | with_reducible apply tq_normal)
  refine rq_ret rfl ⟨rfl, (by (exact pur_sl _ _))⟩
theorem graphOf_c (p : Prg) (hl : p.types.length ≤ 1000000) (hs : cntL p.body ≤ 1000000) : PC Tryz.prog 62 [aPrg p, .v (.slice none 0 0)] (fun r => r = if validF p = true then .tup [aG p.types p.body (ptsF p), bv true] else .tup [.v (.pointer none), bv false]) := by
  have hpl := ptsF_len p
  have hnl := npL_le p.body
  (refine pc_of_aw Tryz.func62 rfl (by simp [Tryz.ntmps62]) ?_; rw [Tryz.ntmps62])
  repeat' (first | (apply id_rw; first | (apply rx_move;rfl;rfl) | (apply rx_loadA;rfl;rfl;(exact (rfl:_=[_, _]));rfl;rfl;rfl) | (apply rx_assign;rfl;rfl) | (first | ((with_reducible apply rx_callE (k := 56)); (case ha => rfl); (case h => (apply validI_c <;> (first | assumption | omega))); (case hp => (exact Pur.pf)); (case hN => rfl)) | ((with_reducible apply rx_callE (k := 87)); (case ha => rfl); (case h => (apply points_c <;> (assumption))); (case hp => (exact Pur.pf)); (case hN => rfl))) | (apply rx_len;rfl;rfl;rfl) | (apply rw_nil;kernel_rfl) | (apply rx_buildK;rfl;(exact (rfl:_=some [_, _, _]));(exact (rfl:_=[_, _, _]));rfl) | (apply rx_not;rfl;rfl) | (apply rx_box;rfl;rfl;rfl;rfl)) | (apply id_aw; first | apply aw_seq | apply aw_region | (apply aw_draw;kernel_rfl) | (apply aw_cond;rfl;all_goals intro hc;have hq:=hc;(try simp only [bqs] at hq);try exfalso;omega) | apply aw_block | apply aw_skip | apply aw_ret) | with_reducible apply tq_normal | with_reducible apply tq_ret)
  · refine rq_ret rfl ⟨?_, (by (rfl))⟩
    rw [if_neg (by simp [hq])]; rfl
  · refine aw_loopK (σ := Unit) [6, 17, 18] [(6, _), (17, _), (18, _)] [1] [(1, some _)] (fun _u => [(19, iv 0)]) (fun _u => []) (fun _u => True) (fun _u => 0) () trivial rfl rfl (by repeat' (first | exact trivial | refine And.intro rfl ?_)) (by repeat' (exact trivial)) ?_
    intro _ _
    repeat' (first | (apply id_rw; first | (apply rx_move;rfl;rfl) | (apply rx_bin;rfl;rfl;rfl;rfl) | (apply rx_assign;rfl;rfl) | (apply rw_nil;kernel_rfl)) | (apply id_aw; first | apply aw_seq | apply aw_region | (apply aw_condF;rfl;(rfl)) | apply aw_exit | apply aw_ret) | with_reducible apply tq_normal | with_reducible apply tq_exit | with_reducible apply bq_here)
    refine rq_le (Le.frzP (d := 4) (i := 1) rfl rfl) ?_
    refine rq_ret rfl ⟨?_, (by show (AV.tup [aG p.types p.body (ptsF p), bv true]).pur = true; exact PurV.pf)⟩
    rw [if_pos hq]; rfl
def chkF (p : Prg) (f : Flows p.types (ptsF p)) : List Iss := if validF p = true then f.iss else []
theorem CheckI_c (p : Prg) (f : Flows p.types (ptsF p)) (hl : p.types.length ≤ 1000000) (hs : cntL p.body ≤ 1000000) : PC Tryz.prog 21 [aPrg p] (fun r => r = sl cIss (chkF p f)) := by
  unfold chkF
  cases hv : validF p
  · (refine pc_of_aw Tryz.func21 rfl (by simp [Tryz.ntmps21]) ?_; rw [Tryz.ntmps21])
    repeat' (first | (apply id_rw; first | ((with_reducible apply rx_callE (k := 62)); (case ha => rfl); (case h => exact (by have := graphOf_c p hl hs; rw [if_neg (by simp [hv])] at this; exact this)); (case hp => (exact Pur.pf)); (case hN => rfl)) | (apply rx_move;rfl;rfl) | (apply rx_loadA;rfl;rfl;(exact (rfl:_=[_, _]));rfl;rfl;rfl) | (apply rx_assign;rfl;rfl) | (apply rw_nil;kernel_rfl) | (apply rx_not;rfl;rfl) | (apply rx_box;rfl;rfl;rfl;rfl) | (apply rx_extract;rfl;rfl;rfl)) | (apply id_aw; first | apply aw_seq | apply aw_region | (apply aw_condT;rfl;(rfl)) | apply aw_ret) | with_reducible apply tq_normal | with_reducible apply tq_ret)
    (refine rq_le (Le.nilImm (d := 2) rfl) ?_; refine rq_ret rfl ?_)
    exact ⟨rfl, rfl⟩
  · have w := WG.of_valid hv
    (refine pc_of_aw Tryz.func21 rfl (by simp [Tryz.ntmps21]) ?_; rw [Tryz.ntmps21])
    repeat' (first | (apply id_rw; first | ((with_reducible apply rx_callE (k := 62)); (case ha => rfl); (case h => exact (by have := graphOf_c p hl hs; rw [if_pos hv] at this; exact this)); (case hp => (exact Pur.pf)); (case hN => rfl)) | ((with_reducible apply rx_callE (k := 63)); (case ha => rfl); (case h => exact issuesI_c p.types p.body (ptsF p) w f); (case hp => (exact Pur.pf)); (case hN => rfl)) | (apply rx_move;rfl;rfl) | (apply rx_loadA;rfl;rfl;(exact (rfl:_=[_, _]));rfl;rfl;rfl) | (apply rx_assign;rfl;rfl) | (apply rw_nil;kernel_rfl) | (apply rx_not;rfl;rfl) | (apply rx_box;rfl;rfl;rfl;rfl) | (apply rx_extract;rfl;rfl;rfl)) | (apply id_aw; first | apply aw_seq | apply aw_region | (apply aw_condF;rfl;(rfl)) | apply aw_skip | apply aw_ret) | with_reducible apply tq_normal)
    exact rq_ret rfl ⟨rfl, (by (exact pur_sl _ _))⟩
def fstF (l : List Iss) : Iss × Bool := match l with | [] => (⟨0, 0, 0⟩, false) | x :: _ => (x, true)
end Go.Proofs.YtejkbiijonnefaaGreat
