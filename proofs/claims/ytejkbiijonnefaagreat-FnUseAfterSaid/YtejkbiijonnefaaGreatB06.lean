/-
  A part of the proofs over this program: rules and contracts of its functions (the contracts).
-/
import Derived.Test.YtejkbiijonnefaaGreatB05
set_option linter.unusedVariables false
set_option linter.unusedSimpArgs false
set_option maxHeartbeats 8000000
set_option maxRecDepth 4000
attribute [local irreducible] Go.AL.RW Go.AL.AW Go.AL.Stop
namespace Go.Proofs.YtejkbiijonnefaaGreat
open Go.AL Go.RowKit

theorem graphOfL_c (p : Prg) (xs : List Int) (hl : p.types.length ≤ 1000000) (hs : cntL p.body ≤ 1000000) (hx : xs.length ≤ 10) : PC Tryz.prog 62 [aPrg p, sl cI xs] (fun r => r = if validF p = true ∧ (∀ j, j < xs.length → 0 ≤ xs[j]! ∧ xs[j]! < (ptsF p).length) then .tup [aG p.types p.body (ptsF p), bv true] else .tup [.v (.pointer none), bv false]) := by
  have hpl := ptsF_len p
  have hnl := npL_le p.body
  (refine pc_of_aw Tryz.func62 rfl (by simp [Tryz.ntmps62]) ?_; rw [Tryz.ntmps62])
  repeat' (first | (apply id_rw; first | (apply rx_move;rfl;rfl) | (apply rx_loadA;rfl;rfl;(exact (rfl:_=[_, _]));rfl;rfl;rfl) | (apply rx_assign;rfl;rfl) | (first | ((with_reducible apply rx_callE (k := 56)); (case ha => rfl); (case h => (apply validI_c <;> (first | assumption | omega))); (case hp => (exact Pur.pf)); (case hN => rfl)) | ((with_reducible apply rx_callE (k := 87)); (case ha => rfl); (case h => (apply points_c <;> (assumption))); (case hp => (exact Pur.pf)); (case hN => rfl))) | (apply rx_len;rfl;rfl;rfl) | (apply rw_nil;kernel_rfl) | (apply rx_buildK;rfl;(exact (rfl:_=some [_, _, _]));(exact (rfl:_=[_, _, _]));rfl) | (apply rx_not;rfl;rfl) | (apply rx_box;rfl;rfl;rfl;rfl)) | (apply id_aw; first | apply aw_seq | apply aw_region | (apply aw_draw;kernel_rfl) | (apply aw_cond; (case hc => rfl); all_goals (intro hc; have hq := hc; (try simp only [bqs] at hq); (try (exfalso; omega)))) | apply aw_block | apply aw_skip | apply aw_ret) | with_reducible apply tq_normal | with_reducible apply tq_ret)
  · refine rq_ret rfl ⟨?_, (by (rfl))⟩
    rw [if_neg (by simp [hq])]; rfl
  · refine aw_loopK (σ := Nat) [6, 17, 18] [(6, _), (17, _), (18, _)] [1] [(1, some _)] (fun k => [(19, iv (k : Int))]) (fun k => []) (fun k => k ≤ xs.length ∧ ∀ j, j < k → 0 ≤ xs[j]! ∧ xs[j]! < (ptsF p).length) (fun k => xs.length - k) (0) ⟨by omega, by omega⟩ rfl rfl (by repeat' (first | exact trivial | refine And.intro rfl ?_)) (by repeat' (exact trivial)) ?_
    rintro k ⟨hk, hall⟩
    repeat' (first | (apply id_rw; first | (apply rx_move;rfl;rfl) | (apply rx_load1;rfl;rfl;rfl;rfl) | (apply rx_fieldAddr;rfl;rfl;rfl) | (first | (apply rx_add;rfl;rfl;omega;rfl) | (apply rx_sub;rfl;rfl;omega;rfl) | (apply rx_bin;rfl;rfl;rfl;rfl)) | (apply rx_assign;rfl;rfl) | (apply rx_indexFN; (case hx | hi => rfl); (case hm => (omega)); (case hml => (rfl)); (case hα | hf | hg => infer_instance); (case hN => rfl)) | ((with_reducible apply rx_callE (k := 136)); (case ha => rfl); (case h => (apply within_c <;> (fail))); (case hp => (rfl)); (case hN => rfl)) | (apply rx_len;rfl;rfl;rfl) | (apply rw_nil;kernel_rfl) | (apply rx_not;rfl;rfl) | (apply rx_nil;rfl;rfl;rfl)) | (apply id_aw; first | apply aw_seq | apply aw_region | (apply aw_cond; (case hc => rfl); all_goals (intro hc; have hq := hc; (try simp only [bqs] at hq); (try (exfalso; omega)))) | apply aw_block | apply aw_skip | apply aw_exit | apply aw_ret) | with_reducible apply tq_normal | with_reducible apply tq_ret | with_reducible apply tq_exit | with_reducible apply bq_normal | with_reducible apply bq_ret | with_reducible apply bq_here)
    · refine rq_ret rfl ⟨?_, (by (rfl))⟩
      rw [if_neg (fun h => by have := h.2 k (by omega); omega)]; rfl
    · (apply Exists.intro (k + 1); refine And.intro ?_ (And.intro ?_ ?_); rotate_left 2; focus (refine Le.ren [(1, 1)] rfl (by decide) ?_ ?_ <;> repeat' (first | exact trivial | refine And.intro ⟨_, rfl, ?_⟩ ?_ | refine And.intro ⟨_, _, rfl, rfl, ?_⟩ ?_ | exact Or.inr rfl | refine Or.inl ⟨?_, (by first | rfl | exact pur_sl _ _)⟩ | refine Or.inr (All2.cons ?_ ?_) | refine All2.cons ?_ ?_ | exact All2.nil | rfl)))
      · exact ⟨by omega, fun j hj => by
          by_cases e : j = k
          · subst e; omega
          · exact hall j (by omega)⟩
      · omega
    · refine rq_le (Le.frzP (d := 4) (i := 1) rfl rfl) ?_
      refine rq_ret rfl ⟨?_, (by show (AV.tup [aG p.types p.body (ptsF p), bv true]).pur = true; exact PurV.pf)⟩
      rw [if_pos ⟨by assumption, fun j hj => hall j (by omega)⟩]; rfl
def OkAt (p : Prg) (i : Int) : Prop := validF p = true ∧ 0 ≤ i ∧ i < (ptsF p).length
theorem graphAt_c (p : Prg) (i : Int) (hl : p.types.length ≤ 1000000) (hs : cntL p.body ≤ 1000000) (h : OkAt p i) : PC Tryz.prog 62 [aPrg p, .imm 1 [iv i]] (fun r => r = .tup [aG p.types p.body (ptsF p), bv true]) := by
  have := graphOfL_c p [i] hl hs (by simp)
  rw [if_pos ⟨h.1, fun j hj => by obtain rfl : j = 0 := by simpa using hj
                                  exact h.2⟩] at this
  exact this
theorem graphNo_c (p : Prg) (i : Int) (hl : p.types.length ≤ 1000000) (hs : cntL p.body ≤ 1000000) (h : ¬ OkAt p i) : PC Tryz.prog 62 [aPrg p, .imm 1 [iv i]] (fun r => r = .tup [.v (.pointer none), bv false]) := by
  have := graphOfL_c p [i] hl hs (by simp)
  rw [if_neg (fun q => h ⟨q.1, q.2 0 (by simp)⟩)] at this
  exact this
theorem LiveLoansNo_c (p : Prg) (i : Int) (hl : p.types.length ≤ 1000000) (hs : cntL p.body ≤ 1000000) (h : ¬ OkAt p i) : PC Tryz.prog 27 [aPrg p, iv i] (fun r => r = sl cI []) := by
  have hg := graphNo_c p i hl hs h
  (refine pc_of_aw Tryz.func27 rfl (by simp [Tryz.ntmps27]) ?_; rw [Tryz.ntmps27])
  repeat' (first | (apply id_rw; first | ((with_reducible apply rx_callE (k := 62)); (case ha => rfl); (case h => exact hg); (case hp => (exact Pur.pf)); (case hN => rfl)) | (apply rx_move;rfl;rfl) | (apply rx_loadA;rfl;rfl;(exact (rfl:_=[_, _]));rfl;rfl;rfl) | (apply rx_assign;rfl;rfl) | (apply rw_nil;kernel_rfl) | (apply rx_not;rfl;rfl) | (apply rx_box;rfl;rfl;rfl;rfl) | (apply rx_extract;rfl;rfl;rfl) | ((apply rx_buildSliceI (t := _)); (case hze | hsm | hl => rfl); (case hfl => exact (rfl:_=some [_])); (case hM | hN => rfl))) | (apply id_aw; first | apply aw_seq | apply aw_region | (apply aw_condT;rfl;(rfl)) | apply aw_ret) | with_reducible apply tq_normal | with_reducible apply tq_ret)
  (refine rq_le (Le.nilImm (d := 4) rfl) ?_; refine rq_ret rfl ?_)
  exact ⟨rfl, rfl⟩
theorem LiveLoansY_c (p : Prg) (i : Int) (f : Flows p.types (ptsF p)) (hl : p.types.length ≤ 1000000) (hs : cntL p.body ≤ 1000000) (h : OkAt p i) : PC Tryz.prog 27 [aPrg p, iv i] (fun r => r = sl cI (bitsI (kpF p.types (ptsF p)[i.toNat]! f.Al[i.toNat]! (row6 f.Af i.toNat)))) := by
  have hg := graphAt_c p i hl hs h
  have w := WG.of_valid h.1
  have hpl := w.pl
  have htl := w.tl
  have hi : 0 ≤ i ∧ i < (ptsF p).length := h.2
  have hin : i.toNat < (ptsF p).length := by omega
  have b := f.bnd w
  have hbL := b.bL i.toNat
  have hrl := b.rl _ hin
  have hrs := b.rs _ hin
  have hkp := sm_bits (by omega) (b.kp _ hin)
  have hlf := f.gf.1
  have hafc := after_c p.types p.body (ptsF p) _ f.An i w b.ln.symm b.ln b.sN hi
  rw [b.af _ hin] at hafc
  (refine pc_of_aw Tryz.func27 rfl (by simp [Tryz.ntmps27]) ?_; rw [Tryz.ntmps27])
  repeat' (first | (apply id_rw; first | ((with_reducible apply rx_callE (k := 62)); (case ha => rfl); (case h => exact hg); (case hp => (exact Pur.pf)); (case hN => rfl)) | ((with_reducible apply rx_callE (k := 68)); (case ha => rfl); (case h => exact needed_c p.types p.body (ptsF p) f.An w f.gn); (case hp => (exact Pur.pf)); (case hN => rfl)) | ((with_reducible apply rx_callE (k := 67)); (case ha => rfl); (case h => exact hafc); (case hp => (exact Pur.pf)); (case hN => rfl)) | ((with_reducible apply rx_callE (k := 69)); (case ha => rfl); (case h => exact loansIn_c p.types p.body (ptsF p) f.Af w f.gf); (case hp => (exact Pur.pf)); (case hN => rfl)) | (apply rx_move;rfl;rfl) | (first | (apply rx_loadA;rfl;rfl;(first | exact (rfl:_=[_, _]) | rfl);rfl;rfl;rfl) | (apply rx_loadIArr;rfl;(simp only [lns, List.length_drop] <;> omega);rfl;rfl)) | (apply rx_assign;rfl;rfl) | (apply rx_indexW6;rfl;rfl;(omega);rfl) | (first | ((with_reducible apply rx_callE (k := 66)); (case ha => rfl); (case h => (apply kept_c <;> (assumption))); (case hp => (exact Pur.pf)); (case hN => rfl)) | ((with_reducible apply rx_callE (k := 71)); (case ha => rfl); (case h => (apply loanBits_c <;> (assumption))); (case hp => (rfl)); (case hN => rfl))) | (apply rw_nil;kernel_rfl) | (apply rx_not;rfl;rfl) | (apply rx_box;rfl;rfl;rfl;rfl) | (apply rx_extract;rfl;rfl;rfl) | ((apply rx_buildSliceI (t := _)); (case hze | hsm | hl => rfl); (case hfl => exact (rfl:_=some [_])); (case hM | hN => rfl))) | (apply id_aw; first | apply aw_seq | apply aw_region | (apply aw_condF;rfl;(rfl)) | apply aw_skip | apply aw_ret) | with_reducible apply tq_normal)
  refine rq_ret rfl ⟨rfl, (by (exact pur_sl _ _))⟩
theorem indices_c (xs : List Bool) (hl : xs.length ≤ 1000000) : PC Tryz.prog 99 [sl cB xs] (fun r => r = sl cI (ixB xs xs.length)) := by
  (refine pc_of_aw Tryz.func99 rfl (by simp [Tryz.ntmps99]) ?_; rw [Tryz.ntmps99])
  repeat' (first | (apply id_rw; first | (apply rx_move;rfl;rfl) | (apply rx_assign;rfl;rfl) | (apply rx_len;rfl;rfl;rfl) | (apply rw_nil;kernel_rfl)) | (apply id_aw; first | apply aw_seq | apply aw_region | apply aw_block) | with_reducible apply tq_normal)
  refine AW.le ?_ (Le.nilOwn (d := 3) 1 rfl (by decide))
  refine aw_loopK (σ := Nat × List Int × Nat) [6, 7] [(6, _), (7, _)] [] [] (fun k => [(8, iv (k.1 : Int)), (3, .own 0 0 k.2.2 1)]) (fun k => [(0, some (flat cI k.2.1))]) (fun k => k.1 ≤ xs.length ∧ k.2.1 = ixB xs k.1 ∧ k.2.2 = k.2.1.length ∧ k.2.2 ≤ k.1) (fun k => xs.length - k.1) (0, [], 0) ⟨by omega, rfl, rfl, Nat.le_refl _⟩ rfl rfl (by repeat' (first | exact trivial | refine And.intro rfl ?_)) (by repeat' (first | exact trivial | refine And.intro (.inr rfl) ?_)) ?_
  rintro ⟨k, u, m⟩ ⟨hk, hu, hm, hmk⟩
  dsimp only at hk hu hm hmk ⊢
  repeat' (first | (apply id_rw; first | (apply rx_move;rfl;rfl) | (apply rx_load1;rfl;rfl;rfl;rfl) | (first | (apply rx_add;rfl;rfl;omega;rfl) | (apply rx_bin;rfl;rfl;rfl;rfl)) | (apply rx_assign;rfl;rfl) | (apply rx_indexFN; (case hx | hi => rfl); (case hm => (omega)); (case hml => (rfl)); (case hα | hf | hg => infer_instance); (case hN => rfl)) | (apply rx_append;rfl;rfl;rfl;rfl;rfl;(rw [flat_length]; omega);(rfl);omega;omega;(exact app_int (by (assumption)));rfl;rfl) | (apply rw_nil;kernel_rfl) | ((apply rx_buildSliceI (t := _)); (case hze | hsm | hl => rfl); (case hfl => exact (rfl:_=some [_])); (case hM | hN => rfl))) | (apply id_aw; first | apply aw_seq | apply aw_region | (apply aw_cond; (case hc => rfl); all_goals (intro hc; have hq := hc; (try simp only [bqs] at hq); (try (exfalso; omega)))) | apply aw_block | apply aw_skip | apply aw_exit | apply aw_ret) | with_reducible apply tq_normal | with_reducible apply tq_exit | with_reducible apply bq_normal | with_reducible apply bq_here)
  · (apply Exists.intro (k + 1, u ++ [(k : Int)], m + 1); refine And.intro ?_ (And.intro ?_ ?_); rotate_left 2; focus (refine Le.ren [(0, 2)] rfl (by decide) ?_ ?_ <;> repeat' (first | exact trivial | refine And.intro ⟨_, rfl, ?_⟩ ?_ | refine And.intro ⟨_, _, rfl, rfl, ?_⟩ ?_ | exact Or.inr rfl | refine Or.inl ⟨?_, (by first | rfl | exact pur_sl _ _)⟩ | rfl)))
    · exact ⟨by dsimp only; omega, by dsimp only; rw [hu]; exact (ixB_hit (by assumption)).symm, by simp; omega, by dsimp only; omega⟩
    · dsimp only; omega
  · (apply Exists.intro (k + 1, u, m); refine And.intro ?_ (And.intro ?_ ?_); rotate_left 2; focus (refine Le.ren [(0, 0)] rfl (by decide) ?_ ?_ <;> repeat' (first | exact trivial | refine And.intro ⟨_, rfl, ?_⟩ ?_ | refine And.intro ⟨_, _, rfl, rfl, ?_⟩ ?_ | exact Or.inr rfl | refine Or.inl ⟨?_, (by first | rfl | exact pur_sl _ _)⟩ | rfl)))
    · exact ⟨by dsimp only; omega, by dsimp only; rw [hu]; exact (ixB_skip (by assumption)).symm, hm, by dsimp only; omega⟩
    · dsimp only; omega
  · (refine rq_le (Le.frzD (d := 2) (i := 0) rfl rfl) ?_; refine rq_ret rfl ?_)
    refine ⟨?_, (by (exact pur_sl _ _))⟩
    simp only [oneOf, sl]
    rw [hm, hu, show k = xs.length by omega]
end Go.Proofs.YtejkbiijonnefaaGreat

namespace Go.Proofs.YtejkbiijonnefaaGreat
open Go.AL Go.RowKit

theorem PointsOfS_c (p : Prg) (hl : p.types.length ≤ 1000000) (hs : cntL p.body ≤ 1000000) : PC Tryz.prog 74 [aPrg p] (fun r => r = sl cPnt (if validF p = true then ptsF p else [])) := by
  have hval := validS_c p hl (by omega)
  have h2 := l2Points_c p hs
  (refine pc_of_aw Tryz.func74 rfl (by simp [Tryz.ntmps74]) ?_; rw [Tryz.ntmps74])
  repeat' (first | (apply id_rw; first | ((with_reducible apply rx_callE (k := 61)); (case ha => rfl); (case h => exact hval); (case hp => (exact Pur.pf)); (case hN => rfl)) | ((with_reducible apply rx_callE (k := 106)); (case ha => rfl); (case h => exact h2); (case hp => (exact Pur.pf)); (case hN => rfl)) | (apply rx_loadA;rfl;rfl;(exact (rfl:_=[_, _]));rfl;rfl;rfl) | (apply rx_assign;rfl;rfl) | (apply rw_nil;kernel_rfl) | (apply rx_not;rfl;rfl) | (apply rx_box;rfl;rfl;rfl;rfl) | ((apply rx_buildSliceI (t := _)); (case hze | hsm | hl => rfl); (case hfl => (rfl)); (case hM | hN => rfl))) | (apply id_aw; first | apply aw_seq | apply aw_region | (apply aw_cond; (case hc => rfl); all_goals (intro hc; have hq := hc; (try simp only [bqs] at hq); (try (exfalso; omega)))) | apply aw_skip | apply aw_ret) | with_reducible apply tq_normal | with_reducible apply tq_ret)
  · refine rq_ret rfl ⟨?_, (by (rfl))⟩
    rw [if_neg (by simp [hq])]; rfl
  · refine rq_ret rfl ⟨?_, (by (exact pur_sl _ _))⟩
    rw [if_pos hq]; rfl
theorem bcIn_c (L : List Int) (n : Int) (hl : L.length ≤ 1000000) : PC Tryz.prog 30 [sl cI L, iv n] (fun r => r = bv (decide (n ∈ L))) := by
  (refine pc_of_aw Tryz.func30 rfl (by simp [Tryz.ntmps30]) ?_; rw [Tryz.ntmps30])
  repeat' (first | (apply id_rw; first | (apply rx_assign;rfl;rfl) | (apply rw_nil;kernel_rfl)) | (apply id_aw; first | apply aw_seq | apply aw_region | apply aw_block) | with_reducible apply tq_normal)
  refine aw_loopK (σ := Nat) [0, 1] [(0, _), (1, _)] [] [] (fun k => [(5, iv (k : Int))]) (fun k => []) (fun k => k ≤ L.length ∧ ∀ j, j < k → L[j]! ≠ n) (fun k => L.length - k) (0) ⟨by omega, by omega⟩ rfl rfl (by repeat' (first | exact trivial | refine And.intro rfl ?_)) (by repeat' (exact trivial)) ?_
  rintro k ⟨hk, hall⟩
  repeat' (first | (apply id_rw; first | (apply rx_move;rfl;rfl) | (apply rx_load1;rfl;rfl;rfl;rfl) | (first | (apply rx_add;rfl;rfl;omega;rfl) | (apply rx_bin;rfl;rfl;rfl;rfl)) | (apply rx_assign;rfl;rfl) | (apply rx_indexFN; (case hx | hi => rfl); (case hm => (omega)); (case hml => (rfl)); (case hα | hf | hg => infer_instance); (case hN => rfl)) | (apply rx_len;rfl;rfl;rfl) | (apply rw_nil;kernel_rfl)) | (apply id_aw; first | apply aw_seq | apply aw_region | (apply aw_cond; (case hc => rfl); all_goals (intro hc; have hq := hc; (try simp only [bqs] at hq); (try (exfalso; omega)))) | apply aw_block | apply aw_skip | apply aw_exit | apply aw_ret) | with_reducible apply tq_normal | with_reducible apply tq_ret | with_reducible apply tq_exit | with_reducible apply bq_normal | with_reducible apply bq_ret | with_reducible apply bq_here)
  · refine rq_ret rfl ⟨?_, rfl⟩
    simp only [oneOf]
    rw [decide_eq_true (by have h := getB_mem L k (by omega); rw [hq] at h; exact h)]
  · (apply Exists.intro (k + 1); refine And.intro ?_ (And.intro ?_ ?_); rotate_left 2; focus (refine Le.ren [] rfl (by decide) ?_ ?_ <;> repeat' (first | exact trivial | refine And.intro ⟨_, rfl, ?_⟩ ?_ | refine Or.inl ⟨?_, (by first | rfl | exact pur_sl _ _)⟩ | rfl)))
    · exact ⟨by omega, fun j hj => by
        by_cases e : j = k
        · subst e; exact hq
        · exact hall j (by omega)⟩
    · omega
  · refine rq_ret rfl ⟨?_, rfl⟩
    simp only [oneOf]
    rw [decide_eq_false (fun h => by
      obtain ⟨j, hj, e⟩ := List.getElem_of_mem h
      exact hall j (by omega) (by rw [getB _ _ hj]; exact e))]
end Go.Proofs.YtejkbiijonnefaaGreat

namespace Go.Proofs.YtejkbiijonnefaaGreat
open Go.AL Go.RowKit

end Go.Proofs.YtejkbiijonnefaaGreat

namespace Go.Proofs.YtejkbiijonnefaaGreat
open Go.AL Go.RowKit

theorem rx_rev {xs : List Int} {m : Nat} {N : Nat} {Q : Exit → AS → Prop} {all : Array Oper} {rest : List Oper} {tsl : List (Nat × AV)} {hsl : List (Nat × Option (List AV))} {nidl : Nat} {z0 : Lo} {md : Md} {d : Nat} {ty : TypeId} {pos : String} {af : Array Edge} {tys : Array TypeId} {x0 : Operand} {i0 : Nat} (ha0 : ev (lk tsl) x0 = some (.own i0 0 m 1)) (hH0 : lkH hsl i0 = some (flat cI xs)) (hmc : MC Tryz.prog 163 [.own 0 0 m 1] [(0, some (flat cI xs))] 1 (fun _ : Unit => True) (fun _ => .tup []) (fun _ => [(0, some (flat cI xs.reverse))])) (hM : Nat.ble (nidl + 0) big = true) (hN : Nat.blt d N = true) {md' : Md} [hmd : MdA md (rOs [x0] ++ [.inr i0]) (List.map Sum.inr (List.map Prod.fst ([(i0, some (flat cI xs.reverse))] : List (Nat × Option (List AV)))) ++ [.inl d]) md'] (kk : RW Tryz.prog N all Q md' rest ⟨(d, .tup []) :: tsl, wrH hsl [(i0, some (flat cI xs.reverse))], nidl + 0, z0⟩) : RW Tryz.prog N all Q md (⟨some d, .call ⟨.value (.func 163), #[x0], tys⟩, ty, pos, af, none⟩ :: rest) ⟨tsl, hsl, nidl, z0⟩ := by
  refine rx_mcallE [i0] 1 [(i0, some (flat cI xs.reverse))] hmc (avs := [.own i0 0 m 1]) ?_ rfl ?_ rfl ?_ (by simpa using hM) ?_ ?_ ?_ hN (md' := md') (hmd := hmd) kk
  · show evL (lk tsl) [x0] = _
    simp only [evL, ha0]
  · exact ⟨⟨_, _, rfl, hH0, by (repeat' (exact RnL.purI inferInstance))⟩, trivial⟩
  · (repeat' (first | exact RnL.purI inferInstance | exact RnV.own rfl | refine RnL.cons ?_ ?_))
  · (repeat' (exact RnV.purI inferInstance))
  · simp [wsAll]
  · (repeat' (first | exact trivial | (refine And.intro ⟨0, _, rfl, rfl, ?_⟩ ?_) | exact RnL.purI inferInstance))

theorem rev_c (xs : List Int) (m : Nat) (hm : m = xs.length) (hl : xs.length ≤ 1000000) : MC Tryz.prog 163 [.own 0 0 m 1] [(0, some (flat cI xs))] 1 (fun _ : Unit => True) (fun _ => .tup []) (fun _ => [(0, some (flat cI xs.reverse))]) := by
  subst hm
  (refine mc_of_aw Tryz.func163 rfl (by simp [Tryz.ntmps163]) ?_; rw [Tryz.ntmps163])
  repeat' (first | (apply id_rw; first | (apply rx_move;rfl;rfl) | (apply rx_sub;rfl;rfl;omega;rfl) | (apply rx_assign;rfl;rfl) | (apply rx_len;rfl;rfl;rfl) | (apply rw_nil;kernel_rfl)) | (apply id_aw; first | apply aw_seq | apply aw_region | apply aw_block) | with_reducible apply tq_normal)
  refine aw_loopK (σ := Nat × List Int × Int) [0] [(0, _)] [] [] (fun k => [(2, iv (k.1 : Int)), (3, iv k.2.2)]) (fun k => [(0, some (flat cI k.2.1))]) (fun k => 2 * k.1 ≤ xs.length ∧ k.2.1.length = xs.length ∧ (∀ l, l < xs.length → k.2.1[l]! = if l < k.1 ∨ xs.length ≤ l + k.1 then xs[xs.length - 1 - l]! else xs[l]!) ∧ k.2.2 = (xs.length : Int) - 1 - (k.1 : Int)) (fun k => xs.length - k.1) (0, xs, (xs.length : Int) - 1) ⟨by omega, rfl, fun l hl => by rw [if_neg (by omega)], by simp⟩ rfl rfl (by repeat' (first | exact trivial | refine And.intro rfl ?_)) (by repeat' (first | exact trivial | refine And.intro (.inr rfl) ?_)) ?_
  rintro ⟨k, u, z⟩ ⟨hk, hul, hu, hz⟩
  dsimp only at hk hul hu hz
  try dsimp only
  repeat' (first | (apply id_rw; first | (apply rx_move;rfl;rfl) | (apply rx_loadF0; (case hx | hH => rfl); (case hf | hg | hα => infer_instance); (case hk => omega); (case hc | hN => rfl)) | (first | (apply rx_add;rfl;rfl;omega;rfl) | (apply rx_sub;rfl;rfl;omega;rfl) | (apply rx_bin;rfl;rfl;rfl;rfl)) | (apply rx_assign;rfl;rfl) | (first | (apply rx_indexON;rfl;rfl;(omega);rfl) | (apply rx_indexO;rfl;rfl;(omega);rfl)) | (apply rw_nil;kernel_rfl) | (apply rx_store;rfl;rfl;rfl;rfl;rfl;(rw [flat_length]; simp only [lns] <;> omega);(exact st_int (by (first | omega | (simp only [lns] <;> omega)))))) | (apply id_aw; first | apply aw_seq | apply aw_region | (apply aw_draw;kernel_rfl) | (apply aw_cond; (case hc => rfl); all_goals (intro hc; have hq := hc; (try simp only [bqs] at hq); (try (exfalso; omega)))) | apply aw_block | apply aw_skip | apply aw_exit) | with_reducible apply tq_normal | with_reducible apply tq_exit | with_reducible apply bq_normal | with_reducible apply bq_here)
  · (apply Exists.intro (k + 1, _, _); refine And.intro ?_ (And.intro ?_ ?_); rotate_left 2; focus (refine Le.ren [] rfl (by decide) ?_ ?_ <;> repeat' (first | exact trivial | refine And.intro ⟨_, rfl, ?_⟩ ?_ | refine And.intro ⟨_, _, rfl, rfl, ?_⟩ ?_ | exact Or.inr rfl | refine Or.inl ⟨?_, (by first | rfl | exact pur_sl _ _)⟩ | rfl)))
    · dsimp only
      refine ⟨by omega, by rw [List.length_set, List.length_set]; exact hul, fun l hl => ?_, by omega⟩
      have h1 := hu l hl
      have h2 := hu k (by omega)
      have h3 := hu z.toNat (by omega)
      have e1 : xs.length - 1 - k = z.toNat := by omega
      have e2 : xs.length - 1 - z.toNat = k := by omega
      rw [if_neg (by omega)] at h2 h3
      rw [set_get, set_get, List.length_set]
      by_cases q1 : z.toNat = l
      · rw [if_pos ⟨q1, by omega⟩, if_pos (by omega), h2, ← q1, e2]
      · rw [if_neg (by omega)]
        by_cases q2 : k = l
        · rw [if_pos ⟨q2, by omega⟩, if_pos (by omega), h3, ← q2, e1]
        · rw [if_neg (by omega), h1]
          by_cases q3 : l < k ∨ xs.length ≤ l + k
          · rw [if_pos q3, if_pos (by omega)]
          · rw [if_neg q3, if_neg (by omega)]
    · dsimp only; omega
  · refine rq_end (l := []) rfl ?_
    refine mc_ret () trivial rfl ⟨.inr (Eq.trans (b := some _) rfl ?_), trivial⟩
    have e : u = xs.reverse := ext_get (by rw [List.length_reverse, hul]) fun l hl => by
      rw [hul] at hl
      rw [hu l hl, getB xs.reverse l (by simpa using hl), List.getElem_reverse, ← getB]
      split
      · rfl
      · congr 1; omega
    rw [e]
theorem rx_grow {m : Nat} {N : Nat} {Q : Exit → AS → Prop} {all : Array Oper} {rest : List Oper} {tsl : List (Nat × AV)} {hsl : List (Nat × Option (List AV))} {nidl : Nat} {z0 : Lo} {md : Md} {d : Nat} {ty : TypeId} {pos : String} {af : Array Edge} {tys : Array TypeId} {x0 x1 : Operand} (ha0 : ev (lk tsl) x0 = some (.v (.slice none 0 0))) (ha1 : ev (lk tsl) x1 = some (iv (m : Int))) (hmc : MC Tryz.prog 164 [.v (.slice none 0 0), iv (m : Int)] [] 0 (fun _ : Unit => True) (fun _ => .own 0 0 0 1) (fun _ => [(0, some (flat cI ([] : List Int)))])) (hM : Nat.ble (nidl + 1) big = true) (hN : Nat.blt d N = true) {md' : Md} [hmd : MdA md (rOs [x0, x1] ++ []) (List.map Sum.inr (List.map Prod.fst ([(nidl, some (flat cI ([] : List Int)))] : List (Nat × Option (List AV)))) ++ [.inl d]) md'] (kk : RW Tryz.prog N all Q md' rest ⟨(d, .own nidl 0 0 1) :: tsl, wrH hsl [(nidl, some (flat cI ([] : List Int)))], nidl + 1, z0⟩) : RW Tryz.prog N all Q md (⟨some d, .call ⟨.value (.func 164), #[x0, x1], tys⟩, ty, pos, af, none⟩ :: rest) ⟨tsl, hsl, nidl, z0⟩ := by
  refine rx_mcallE [] 1 [(nidl, some (flat cI ([] : List Int)))] hmc (avs := [.v (.slice none 0 0), iv (m : Int)]) ?_ rfl ?_ rfl ?_ (by simpa using hM) ?_ ?_ ?_ hN (md' := md') (hmd := hmd) kk
  · show evL (lk tsl) [x0, x1] = _
    simp only [evL, ha0, ha1]
  · exact trivial
  · (repeat' (exact RnL.purI inferInstance))
  · (repeat' (exact RnV.own rfl))
  · simp [wsAll]
  · (repeat' (first | exact trivial | (refine And.intro ⟨0, _, rfl, rfl, ?_⟩ ?_) | exact RnL.purI inferInstance))

theorem grow_c (m : Nat) (hm : m ≤ 1000000) : MC Tryz.prog 164 [.v (.slice none 0 0), iv (m : Int)] [] 0 (fun _ : Unit => True) (fun _ => .own 0 0 0 1) (fun _ => [(0, some (flat cI ([] : List Int)))]) := by
  (refine mc_of_aw Tryz.func164 rfl (by simp [Tryz.ntmps164]) ?_; rw [Tryz.ntmps164])
  repeat' (first | (apply id_rw; first | (apply rx_capNil;rfl;rfl) | ((apply rx_zeros (m := m) (k' := .i64)); (case htn => kernel_rfl); (case hx | hy => rfl); (case hzm => omega); (case hze | he0 => rfl); (case h0 => omega); (case hsm => omega); (case hmx => omega); (case hM | hN => rfl)) | ((apply rx_sliceHi (h := 0)); (case hx | hy => rfl); (case hz => (rfl)); (case hb => omega); (case hN => rfl)) | (apply rx_sliceNil;rfl;rfl;rfl) | (apply rx_move;rfl;rfl) | (first | (apply rx_sub;rfl;rfl;omega;rfl) | (apply rx_bin;rfl;rfl;rfl;rfl)) | (apply rx_assign;rfl;rfl) | (apply rx_len;rfl;rfl;rfl) | (apply rw_nil;kernel_rfl)) | (apply id_aw; first | apply aw_seq | apply aw_region | (apply aw_condF;rfl;(rfl)) | (apply aw_cond; (case hc => rfl); all_goals (intro hc; have hq := hc; (try simp only [bqs] at hq); (try (exfalso; omega)))) | apply aw_skip | apply aw_ret) | with_reducible apply tq_normal)
  ·
    refine rq_le (Le.cut (i := 0) 0 rfl) ?_
    refine rq_ret rfl ?_
    refine mc_ret () trivial ?_ ⟨.inr (Eq.trans (b := some _) rfl ?_), trivial⟩
    all_goals first | rfl | exact congrArg some (List.take_zero)
  · refine rq_le (Le.nilOwn (d := 4) 1 ?_ ?_) ?_
    · rfl
    · decide
    refine rq_ret rfl ?_
    refine mc_ret () trivial ?_ ⟨.inr (Eq.trans (b := some _) rfl ?_), trivial⟩
    all_goals rfl
theorem concat_c (Ls : List (List Int)) (hn : Ls.length ≤ 1000) (hl : Ls.flatten.length ≤ 1000000) : PC Tryz.prog 104 [sl cII Ls] (fun r => r = sl cI Ls.flatten) := by
  have hpre : ∀ k, (Ls.take k).flatten.length ≤ 1000000 := fun k => by
    have : Ls.flatten = (Ls.take k).flatten ++ (Ls.drop k).flatten := by rw [← List.flatten_append, List.take_append_drop]
    rw [this, List.length_append] at hl; omega
  have hst : ∀ k, k < Ls.length → (Ls.take (k + 1)).flatten = (Ls.take k).flatten ++ Ls[k]! := fun k hk => by rw [take_succB _ _ hk]; simp
  (refine pc_of_aw Tryz.func104 rfl (by simp [Tryz.ntmps104]) ?_; rw [Tryz.ntmps104])
  repeat' (first | (apply id_rw; first | (apply rx_move;rfl;rfl) | (apply rx_assign;rfl;rfl) | (apply rx_len;rfl;rfl;rfl) | (apply rw_nil;kernel_rfl)) | (apply id_aw; first | apply aw_seq | apply aw_region | apply aw_block) | with_reducible apply tq_normal)
  refine aw_loopK (σ := Nat × Int) [0, 9, 10] [(0, _), (9, _), (10, _)] [] [] (fun k => [(11, iv (k.1 : Int)), (3, iv k.2)]) (fun k => []) (fun k => k.1 ≤ Ls.length ∧ k.2 = ((Ls.take k.1).flatten.length : Int)) (fun k => Ls.length - k.1) (0, 0) ⟨by omega, rfl⟩ rfl rfl (by repeat' (first | exact trivial | refine And.intro rfl ?_)) (by repeat' (exact trivial)) ?_
  rintro ⟨k, z⟩ ⟨hk, hz⟩
  dsimp only at hk hz
  try dsimp only
  have hz2 := hpre k
  by_cases hkn : k < Ls.length
  · have h1 := hst k hkn
    have h2 := hpre (k + 1)
    rw [h1, List.length_append] at h2
    repeat' (first | (apply id_rw; first | (apply rx_move;rfl;rfl) | (apply rx_load1;rfl;rfl;rfl;rfl) | (first | (apply rx_add;rfl;rfl;omega;rfl) | (apply rx_bin;rfl;rfl;rfl;rfl)) | (apply rx_assign;rfl;rfl) | (apply rx_indexFN; (case hx | hi => rfl); (case hm => (assumption)); (case hml => (rfl)); (case hα | hf | hg => infer_instance); (case hN => rfl)) | (apply rx_len;rfl;rfl;rfl) | (apply rw_nil;kernel_rfl)) | (apply id_aw; first | apply aw_seq | apply aw_region | (apply aw_cond; (case hc => rfl); all_goals (intro hc; have hq := hc; (try simp only [bqs] at hq); (try (exfalso; omega)))) | apply aw_block | apply aw_skip) | with_reducible apply tq_normal | with_reducible apply bq_normal)
    (apply Exists.intro (k + 1, _); refine And.intro ?_ (And.intro ?_ ?_); rotate_left 2; focus (refine Le.ren [] rfl (by decide) ?_ ?_ <;> repeat' (first | exact trivial | refine And.intro ⟨_, rfl, ?_⟩ ?_ | refine Or.inl ⟨?_, (by first | rfl | exact pur_sl _ _)⟩ | rfl)))
    · exact ⟨by dsimp only; omega, by dsimp only; rw [h1, List.length_append]; omega⟩
    · dsimp only; omega
  · obtain ⟨z', rfl⟩ : ∃ z' : Nat, z = (z' : Int) := ⟨_, hz⟩
    repeat' (first | (apply id_rw; first | (apply rx_move;rfl;rfl) | (apply rx_bin;rfl;rfl;rfl;rfl) | (apply rx_assign;rfl;rfl) | (apply rx_grow;rfl;rfl;(apply grow_c <;> (omega));rfl;rfl) | (apply rx_len;rfl;rfl;rfl) | (apply rw_nil;kernel_rfl)) | (apply id_aw; first | apply aw_seq | apply aw_region | (apply aw_cond; (case hc => rfl); all_goals (intro hc; have hq := hc; (try simp only [bqs] at hq); (try (exfalso; omega)))) | apply aw_block | apply aw_exit) | with_reducible apply tq_normal | with_reducible apply tq_exit | with_reducible apply bq_here)
    refine aw_loopK (σ := Nat × List Int × Nat) [25, 26] [(25, _), (26, _)] [] [] (fun k => [(27, iv (k.1 : Int)), (6, .own 0 0 k.2.2 1)]) (fun k => [(0, some (flat cI k.2.1))]) (fun k => k.1 ≤ Ls.length ∧ k.2.1 = (Ls.take k.1).flatten ∧ k.2.2 = k.2.1.length) (fun k => Ls.length - k.1) (0, [], 0) ⟨by omega, rfl, rfl⟩ rfl rfl (by repeat' (first | exact trivial | refine And.intro rfl ?_)) (by repeat' (first | exact trivial | refine And.intro (.inr rfl) ?_)) ?_
    rintro ⟨k, u, m⟩ ⟨hk, hu, hm⟩
    dsimp only at hk hu hm
    try dsimp only
    have hu2 := hpre k
    rw [← hu] at hu2
    by_cases hkn : k < Ls.length
    · have h1 := hst k hkn
      have h2 := hpre (k + 1)
      rw [h1, List.length_append, ← hu] at h2
      repeat' (first | (apply id_rw; first | (apply rx_move;rfl;rfl) | (apply rx_load1;rfl;rfl;rfl;rfl) | (first | (apply rx_add;rfl;rfl;omega;rfl) | (apply rx_bin;rfl;rfl;rfl;rfl)) | (apply rx_assign;rfl;rfl) | (apply rx_indexFN; (case hx | hi => rfl); (case hm => (assumption)); (case hml => (rfl)); (case hα | hf | hg => infer_instance); (case hN => rfl)) | (apply rx_append;rfl;rfl;rfl;rfl;rfl;(rw [flat_length]; omega);(exact sC_imm (by (rfl)));omega;omega;(exact app_ints (by (assumption)));rfl;rfl) | (apply rw_nil;kernel_rfl)) | (apply id_aw; first | apply aw_seq | apply aw_region | (apply aw_cond; (case hc => rfl); all_goals (intro hc; have hq := hc; (try simp only [bqs] at hq); (try (exfalso; omega)))) | apply aw_block | apply aw_skip) | with_reducible apply tq_normal | with_reducible apply bq_normal)
      (apply Exists.intro (k + 1, _, _); refine And.intro ?_ (And.intro ?_ ?_); rotate_left 2; focus (refine Le.ren [(0, 1)] rfl (by decide) ?_ ?_ <;> repeat' (first | exact trivial | refine And.intro ⟨_, rfl, ?_⟩ ?_ | refine And.intro ⟨_, _, rfl, rfl, ?_⟩ ?_ | exact Or.inr rfl | refine Or.inl ⟨?_, (by first | rfl | exact pur_sl _ _)⟩ | rfl)))
      · exact ⟨by dsimp only; omega, by dsimp only; rw [h1, hu], by dsimp only; rw [List.length_append]; omega⟩
      · dsimp only; omega
    · repeat' (first | (apply id_rw; first | (apply rx_move;rfl;rfl) | (apply rx_bin;rfl;rfl;rfl;rfl) | (apply rx_assign;rfl;rfl) | (apply rw_nil;kernel_rfl)) | (apply id_aw; first | apply aw_seq | apply aw_region | (apply aw_cond; (case hc => rfl); all_goals (intro hc; have hq := hc; (try simp only [bqs] at hq); (try (exfalso; omega)))) | apply aw_exit | apply aw_ret) | with_reducible apply tq_normal | with_reducible apply tq_exit | with_reducible apply bq_here)
      refine rq_le (Le.frzD (d := 2) (i := 0) rfl rfl) ?_
      refine rq_ret rfl ⟨?_, (by (exact pur_sl _ _))⟩
      have e : u = Ls.flatten := by rw [hu, show k = Ls.length by omega, List.take_length]
      rw [← e]
      simp only [oneOf, sl, hm]
end Go.Proofs.YtejkbiijonnefaaGreat

namespace Go.Proofs.YtejkbiijonnefaaGreat
open Go.AL Go.RowKit

theorem shr_bit (A l : Nat) : decide (((A >>> l &&& 1 : Nat) : Int) = 1) = A.testBit l := by
  rw [Nat.testBit, Nat.and_comm]
  by_cases h : 1 &&& A >>> l = 1
  · rw [h]; rfl
  · have := Nat.and_le_left (n := 1) (m := A >>> l)
    have h0 : 1 &&& A >>> l = 0 := by omega
    rw [h0]; rfl
theorem fW_row {Af : List Nat} {n i v : Nat} (hA : Af.length = n * 6) (hi : i < n) (hv : v < 6) : (List.drop (v * 1) (flat cW (Af.drop (i * 6))))[0]? = some (.v (.int .u64 ((row6 Af i)[v]! : Nat))) := by
  rw [row6_at hA hi hv, Nat.mul_one]
  have e : flat cW (Af.drop (i * 6)) = (Af.drop (i * 6)).map (fun (x : Nat) => AV.v (.int .u64 (x : Int))) := by
    generalize Af.drop (i * 6) = l
    induction l with
    | nil => rfl
    | cons a l ih => rw [List.map_cons, ← ih]; rfl
  rw [e, List.getElem?_drop, List.getElem?_map, List.getElem?_drop, Nat.add_zero, List.getElem?_eq_getElem (by omega), getB Af _ (by omega)]; rfl
theorem useAfter1_c (v : Int) (n : Nat) (Af : List Nat) (i loan : Int) (hA : Af.length = n * 6) (hv : 0 ≤ v ∧ v < 6) (hi : 0 ≤ i ∧ i < n) (hl : 0 ≤ loan ∧ loan < 62) (hs : ∀ z : Nat, Sm (row6 Af i.toNat)[z]!) :
    PC Tryz.prog 160 [iv v, .iptr [.imm n (flat cW Af)], .iptr [iv i], .iptr [iv loan]] (fun r => r = bv ((row6 Af i.toNat)[v.toNat]!.testBit loan.toNat)) := by
  have hsv := hs v.toNat
  (refine pc_of_aw Tryz.func160 rfl (by simp [Tryz.ntmps160]) ?_; rw [Tryz.ntmps160])
  repeat' (first | (apply id_rw; first | (apply rx_load1;rfl;rfl;exact fW_row hA (by omega) (by omega);rfl) | (apply rx_move;rfl;rfl) | (apply rx_load1;rfl;rfl;rfl;rfl) | (first | (apply rx_and1;rfl;rfl;infer_instance;infer_instance;rfl) | (apply rx_shrN;rfl;rfl;infer_instance;infer_instance;omega;rfl) | (apply rx_bin;rfl;rfl;rfl;rfl)) | (apply rx_assign;rfl;rfl) | (first | (apply rx_indexArr;rfl;rfl;(omega);rfl;rfl) | (apply rx_indexW6;rfl;rfl;(omega);rfl)) | (apply rw_nil;kernel_rfl)) | (apply id_aw; first | apply aw_seq | apply aw_region | (apply aw_draw;kernel_rfl) | apply aw_ret) | with_reducible apply tq_normal)
  refine rq_ret rfl ⟨?_, rfl⟩
  exact congrArg bv (shr_bit _ _)
def idU (U : Int → Bool) (xs : List Int) : Int := match xs.findIdx? U with | some i => i | none => -1
def u1 (Af : List Nat) (i loan : Int) (v : Int) : Bool := (row6 Af i.toNat)[v.toNat]!.testBit loan.toNat
theorem idxU_c (xs : List Int) (n : Nat) (Af : List Nat) (i loan : Int) (hxl : xs.length ≤ 1000) (hx : ∀ v ∈ xs, 0 ≤ v ∧ v < 6) (hA : Af.length = n * 6) (hi : 0 ≤ i ∧ i < n) (hl : 0 ≤ loan ∧ loan < 62) (hs : ∀ z : Nat, Sm (row6 Af i.toNat)[z]!) :
    PC Tryz.prog 189 [sl cI xs, .clos (.func 160) [] [.iptr [.imm n (flat cW Af)], .iptr [iv i], .iptr [iv loan]]] (fun r => r = iv (idU (u1 Af i loan) xs)) := by
  (refine pc_of_aw Tryz.func189 rfl (by simp [Tryz.ntmps189]) ?_; rw [Tryz.ntmps189])
  repeat' (first | (apply id_rw; first | (apply rx_move;rfl;rfl) | (apply rx_assign;rfl;rfl) | (apply rx_len;rfl;rfl;rfl) | (apply rw_nil;kernel_rfl)) | (apply id_aw; first | apply aw_seq | apply aw_region | apply aw_block) | with_reducible apply tq_normal)
  refine aw_loopK (σ := Nat) [0, 1, 7] [(0, _), (1, _), (7, _)] [] [] (fun k => [(8, iv (k : Int))]) (fun k => []) (fun k => k ≤ xs.length ∧ ∀ j, j < k → u1 Af i loan xs[j]! = false) (fun k => xs.length - k) (0) ⟨by omega, by omega⟩ rfl rfl (by repeat' (first | exact trivial | refine And.intro rfl ?_)) (by repeat' (exact trivial)) ?_
  intro k ⟨hk, hall⟩
  by_cases hkn : k < xs.length
  · have hv := hx _ (getB_mem xs k hkn)
    have hcl := useAfter1_c xs[k]! n Af i loan hA hv hi hl hs
    have hu : (row6 Af i.toNat)[(xs[k]!).toNat]!.testBit loan.toNat = u1 Af i loan xs[k]! := rfl
    rw [hu] at hcl
    cases hb : u1 Af i loan xs[k]!
    · rw [hb] at hcl
      repeat' (first | (apply id_rw; first | (apply rx_move;rfl;rfl) | (apply rx_load1;rfl;rfl;rfl;rfl) | (first | (apply rx_add;rfl;rfl;omega;rfl) | (apply rx_bin;rfl;rfl;rfl;rfl)) | (apply rx_assign;rfl;rfl) | (apply rx_indexFN; (case hx | hi => rfl); (case hm => (assumption)); (case hml => (rfl)); (case hα | hf | hg => infer_instance); (case hN => rfl)) | ((with_reducible apply rx_callC); (case hx | hcl => rfl); (case hc => infer_instance); (case ha => rfl); (case h => (apply hcl <;> (fail))); (case hp => (exact Pur.pf)); (case hN => rfl)) | (apply rw_nil;kernel_rfl)) | (apply id_aw; first | apply aw_seq | apply aw_region | (apply aw_condF;rfl;(rfl)) | (apply aw_cond; (case hc => rfl); all_goals (intro hc; have hq := hc; (try simp only [bqs] at hq); (try (exfalso; omega)))) | apply aw_block | apply aw_skip) | with_reducible apply tq_normal | with_reducible apply bq_normal)
      (apply Exists.intro (k + 1); refine And.intro ?_ (And.intro ?_ ?_); rotate_left 2; focus (refine Le.ren [] rfl (by decide) ?_ ?_ <;> repeat' (first | exact trivial | refine And.intro ⟨_, rfl, ?_⟩ ?_ | refine Or.inl ⟨?_, (by first | rfl | exact pur_sl _ _ | exact Pur.pf)⟩ | rfl)))
      · refine ⟨by omega, fun j hj => ?_⟩
        by_cases e : j = k
        · subst e; exact hb
        · exact hall j (by omega)
      · omega
    · rw [hb] at hcl
      repeat' (first | (apply id_rw; first | (apply rx_move;rfl;rfl) | (apply rx_load1;rfl;rfl;rfl;rfl) | (apply rx_bin;rfl;rfl;rfl;rfl) | (apply rx_assign;rfl;rfl) | (apply rx_indexFN; (case hx | hi => rfl); (case hm => (assumption)); (case hml => (rfl)); (case hα | hf | hg => infer_instance); (case hN => rfl)) | ((with_reducible apply rx_callC); (case hx | hcl => rfl); (case hc => infer_instance); (case ha => rfl); (case h => (apply hcl <;> (fail))); (case hp => (exact Pur.pf)); (case hN => rfl)) | (apply rw_nil;kernel_rfl)) | (apply id_aw; first | apply aw_seq | apply aw_region | (apply aw_condT;rfl;(rfl)) | (apply aw_cond; (case hc => rfl); all_goals (intro hc; have hq := hc; (try simp only [bqs] at hq); (try (exfalso; omega)))) | apply aw_block | apply aw_skip | apply aw_ret) | with_reducible apply tq_normal | with_reducible apply tq_ret | with_reducible apply bq_ret)
      refine rq_ret rfl ⟨?_, rfl⟩
      have : xs.findIdx? (u1 Af i loan) = some k := by
        rw [List.findIdx?_eq_some_iff_getElem]
        refine ⟨hkn, by rw [← getB xs k hkn]; exact hb, fun j hj => ?_⟩
        have := hall j hj; rw [getB xs j (by omega)] at this; rw [this]; decide
      simp only [idU, this]; rfl
  · repeat' (first | (apply id_rw; first | (apply rx_bin;rfl;rfl;rfl;rfl) | (apply rx_assign;rfl;rfl) | (apply rw_nil;kernel_rfl)) | (apply id_aw; first | apply aw_seq | apply aw_region | (apply aw_cond; (case hc => rfl); all_goals (intro hc; have hq := hc; (try simp only [bqs] at hq); (try (exfalso; omega)))) | apply aw_exit | apply aw_ret) | with_reducible apply tq_normal | with_reducible apply tq_exit | with_reducible apply bq_here)
    refine rq_ret rfl ⟨?_, rfl⟩
    have : xs.findIdx? (u1 Af i loan) = none := by
      rw [List.findIdx?_eq_none_iff]
      intro x hx
      obtain ⟨j, hj, rfl⟩ := List.getElem_of_mem hx
      have := hall j (by omega); rw [getB xs j hj] at this; exact this
    simp only [idU, this]; rfl
theorem idU_ge (U : Int → Bool) (xs : List Int) : decide (0 ≤ idU U xs) = xs.any U := by
  unfold idU
  split
  · rename_i i h
    obtain ⟨h1, h2, _⟩ := List.findIdx?_eq_some_iff_getElem.1 h
    rw [List.any_eq_true.2 ⟨xs[i], List.getElem_mem h1, h2⟩]; simp
  · rename_i h
    rw [List.findIdx?_eq_none_iff] at h
    have : xs.any U = false := by rw [List.any_eq_false]; intro x hx; rw [h x hx]; decide
    rw [this]; rfl
theorem contU_c (xs : List Int) (n : Nat) (Af : List Nat) (i loan : Int) (hxl : xs.length ≤ 1000) (hx : ∀ v ∈ xs, 0 ≤ v ∧ v < 6) (hA : Af.length = n * 6) (hi : 0 ≤ i ∧ i < n) (hl : 0 ≤ loan ∧ loan < 62) (hs : ∀ z : Nat, Sm (row6 Af i.toNat)[z]!) :
    PC Tryz.prog 159 [sl cI xs, .clos (.func 160) [] [.iptr [.imm n (flat cW Af)], .iptr [iv i], .iptr [iv loan]]] (fun r => r = bv (xs.any (u1 Af i loan))) := by
  have hix := idxU_c xs n Af i loan hxl hx hA hi hl hs
  (refine pc_of_aw Tryz.func159 rfl (by simp [Tryz.ntmps159]) ?_; rw [Tryz.ntmps159])
  repeat' (first | (apply id_rw; first | ((with_reducible apply rx_callE (k := 189)); (case ha => rfl); (case h => exact hix); (case hp => (exact Pur.pf)); (case hN => rfl)) | (apply rx_move;rfl;rfl) | (apply rx_bin;rfl;rfl;rfl;rfl) | (apply rx_assign;rfl;rfl) | (apply rw_nil;kernel_rfl)) | (apply id_aw; first | apply aw_seq | apply aw_region | apply aw_ret) | with_reducible apply tq_normal)
  refine rq_ret rfl ⟨?_, rfl⟩
  exact congrArg bv (idU_ge _ _)
end Go.Proofs.YtejkbiijonnefaaGreat

namespace Go.Proofs.YtejkbiijonnefaaGreat
open Go.AL Go.RowKit

theorem repNI (n : Nat) : flat cN (List.replicate n 0) = flat cI (List.replicate n (0 : Int)) := by
  induction n with
  | zero => rfl
  | succ n ih => rw [List.replicate_succ, List.replicate_succ]; show cN 0 ++ flat cN _ = cI 0 ++ flat cI _; rw [ih]; rfl
theorem shortWay_c (ts : List Int) (bd : List AL.Stmt) (pts : List Pnt) (f t : Nat) (w : WG ts pts) (hf : f < pts.length) (ht : t < pts.length) :
    PC Tryz.prog 103 [aG ts bd pts, iv (f : Int), iv (t : Int)] (fun r => r = .tup [sl cI (cN' (wyW pts f t)), bv (decide (0 ≤ lkW (enW pts f) t))]) := by
  have hpl := w.pl
  have hbe : ∀ h, BI pts f (bfW pts f h) := bfW_I w.nx hf
  (refine pc_of_aw Tryz.func103 rfl (by simp [Tryz.ntmps103]) ?_; rw [Tryz.ntmps103])
  repeat' (first | (apply id_rw; first | (apply rx_move;rfl;rfl) | (apply rx_load1;rfl;rfl;rfl;rfl) | (apply rx_fieldAddr;rfl;rfl;rfl) | (apply rx_assign;rfl;rfl) | (apply rx_len;rfl;rfl;rfl) | (apply rw_nil;kernel_rfl) | (apply rx_nil;rfl;rfl;rfl) | (apply rx_makeSliceE;rfl;rfl;rfl;omega;omega;(exact mk_nat);rfl;rfl)) | (apply id_aw; first | apply aw_seq | apply aw_region | apply aw_block) | with_reducible apply tq_normal)
  rw [repNI]
  refine aw_loopK (σ := Nat × List Int) [0, 1, 2, 8, 23] [(0, _), (1, _), (2, _), (8, _), (23, _)] [] [] (fun k => [(24, iv (k.1 : Int))]) (fun k => [(0, some (flat cI k.2))]) (fun k => k.1 ≤ pts.length ∧ k.2.length = pts.length ∧ (∀ l, l < k.1 → k.2[l]! = -1)) (fun k => pts.length - k.1) (0, List.replicate pts.length 0) ⟨by omega, by simp, by omega⟩ rfl rfl (by repeat' (first | exact trivial | refine And.intro rfl ?_)) (by repeat' (first | exact trivial | refine And.intro (.inr rfl) ?_)) ?_
  rintro ⟨k, u⟩ ⟨hk, hul, hu⟩
  dsimp only at hk hul hu
  try dsimp only
  by_cases hkn : k < pts.length
  · repeat' (first | (apply id_rw; first | (apply rx_move;rfl;rfl) | (first | (apply rx_add;rfl;rfl;omega;rfl) | (apply rx_bin;rfl;rfl;rfl;rfl)) | (apply rx_assign;rfl;rfl) | (apply rx_indexON;rfl;rfl;(assumption);rfl) | (apply rw_nil;kernel_rfl) | (apply rx_store;rfl;rfl;rfl;rfl;rfl;(rw [flat_length]; simp only [lns] <;> omega);(exact st_int (by (omega))))) | (apply id_aw; first | apply aw_seq | apply aw_region | (apply aw_cond; (case hc => rfl); all_goals (intro hc; have hq := hc; (try simp only [bqs] at hq); (try (exfalso; omega)))) | apply aw_block | apply aw_skip) | with_reducible apply tq_normal | with_reducible apply bq_normal)
    (apply Exists.intro (k + 1, _); refine And.intro ?_ (And.intro ?_ ?_); rotate_left 2; focus (refine Le.ren [(0, 0)] rfl (by decide) ?_ ?_ <;> repeat' (first | exact trivial | refine And.intro ⟨_, rfl, ?_⟩ ?_ | refine And.intro ⟨_, _, rfl, rfl, ?_⟩ ?_ | exact Or.inr rfl | refine Or.inl ⟨?_, (by first | rfl | exact pur_sl _ _ | exact Pur.pf)⟩ | rfl)))
    · refine ⟨by omega, by dsimp only; rw [List.length_set]; exact hul, fun l hl => ?_⟩
      dsimp only at hl ⊢
      rw [set_get]
      by_cases e : k = l
      · rw [if_pos ⟨e, by omega⟩]
      · rw [if_neg (by omega)]; exact hu l (by omega)
    · dsimp only; omega
  · repeat' (first | (apply id_rw; first | (apply rx_move;rfl;rfl) | (apply rx_bin;rfl;rfl;rfl;rfl) | (apply rx_assign;rfl;rfl) | (apply rw_nil;kernel_rfl) | (apply rx_buildSlice;rfl;rfl;rfl;exact (rfl:_=some [_]);rfl;rfl)) | (apply id_aw; first | apply aw_seq | apply aw_region | (apply aw_cond; (case hc => rfl); all_goals (intro hc; have hq := hc; (try simp only [bqs] at hq); (try (exfalso; omega)))) | apply aw_block | apply aw_exit) | with_reducible apply tq_normal | with_reducible apply tq_exit | with_reducible apply bq_here)
    have hbk0 : u = bkW pts.length [] := ext_get (by rw [bkW_len, hul]) fun l hl => by rw [hu l (by omega), bkW_get (by omega)]; rfl
    subst hbk0
    refine aw_loopK (σ := Nat × List (Nat × Nat) × List Int × Nat) [0, 1, 2, 8] [(0, _), (1, _), (2, _), (8, _)] [] [] (fun s => [(10, .own 1 0 s.2.2.2 1)]) (fun s => [(0, some (flat cI (bkW pts.length s.2.1))), (1, some (flat cI s.2.2.1))]) (fun s => s.2.1 = bfW pts f s.1 ∧ s.2.2.1 = todoW f s.2.1 s.1 ∧ s.2.2.2 = s.2.2.1.length ∧ s.1 ≤ s.2.1.length + 1 ∧ (0 ≤ lkW s.2.1 t → 0 < s.2.2.2)) (fun s => pts.length + 1 - s.1) (0, [], [(f : Int)], 1) ⟨rfl, rfl, rfl, by dsimp only; omega, fun h => by dsimp only; omega⟩ rfl rfl (by repeat' (first | exact trivial | refine And.intro rfl ?_)) (by repeat' (first | exact trivial | refine And.intro (.inr rfl) ?_)) ?_
    rintro ⟨h, E, T, m⟩ ⟨hE, hT, hm, hh, hmt⟩
    dsimp only at hE hT hm hh hmt
    try dsimp only
    have I := hbe h
    rw [← hE] at I
    have hle := I.le w.nx
    have hbt : (bkW pts.length E)[t]! = lkW E t := bkW_get ht
    have hbl := bkW_len pts.length E
    by_cases hlk : lkW E t < 0
    by_cases hgo : 0 < T.length
    · have hlt : h < (quW f E).length := by
        have := todoW_len f E h; rw [quW_len]; rw [← hT] at this; omega
      have hcons := todoW_cons hlt
      have hqo := quW_of hlt
      obtain ⟨a, ha⟩ : ∃ a, a = (quW f E)[h]! := ⟨_, rfl⟩
      rw [← ha] at hcons hqo
      have hal : a < pts.length := by
        rcases hqo with e | e
        · rw [e]; exact hf
        · obtain ⟨x, hx, e⟩ := List.mem_map.1 e; rw [← e]; exact (hle.2 x hx).1
      rw [hcons] at hT
      subst hT
      simp only [List.length_cons] at hm
      repeat' (first | (apply id_rw; first | (with_reducible apply rw_stop (d := 10)) | (apply rx_sliceOw;rfl;rfl;omega;rfl) | (apply rx_move;rfl;rfl) | (apply rx_loadF0; (case hx | hH => rfl); (case hf | hg | hα => infer_instance); (case hk => omega); (case hc | hN => rfl)) | (first | (apply rx_guardY;rfl;rfl;rfl;(assumption)) | (apply rx_guardS; (case hj | hb | hN => rfl); all_goals (intro hg; have hq := hg; (try simp only [bqs] at hq); (try (exfalso; omega))))) | (apply rx_bin;rfl;rfl;rfl;rfl) | (apply rx_assign;rfl;rfl) | (apply rx_pickT;rfl;(assumption);rfl;rfl) | (first | (apply rx_indexON;rfl;rfl;(assumption);rfl) | (apply rx_indexO;rfl;rfl;(omega);rfl)) | (apply rx_len;rfl;rfl;rfl) | (apply rw_nil;kernel_rfl)) | (apply id_aw; first | apply aw_seq | apply aw_region | (apply aw_cond; (case hc => rfl); all_goals (intro hc; have hq := hc; (try simp only [bqs] at hq); (try (exfalso; omega)))) | apply aw_block | apply aw_skip) | with_reducible apply tq_normal)
      refine rw_go (rw_le ?_ (Le.mvO (d := 47) (i := 1) rfl rfl (by simp [flat_length]) (by decide)))
      have hnl := w.nl a hal
      have hpop : todoW f E (h + 1) = todoW f (adsW E a (pts[a]!.next.take 0)) (h + 1) := rfl
      have hnk := w.nx a hal
      have hek : ∀ k, BI pts f (adsW E a (pts[a]!.next.take k)) := fun k => adsW_I _ _ I hqo (fun z hz => ⟨hal, by have := hnk z (List.mem_of_mem_take hz); rw [Int.toNat_of_nonneg this.1]; exact List.mem_of_mem_take hz⟩)
      repeat' (first | (apply id_rw; first | (apply rx_move;rfl;rfl) | (apply rx_load1;rfl;rfl;rfl;rfl) | (apply rx_fieldAddr;rfl;rfl;rfl) | (apply rx_assign;rfl;rfl) | (apply rx_indexFN; (case hx | hi => rfl); (case hm => (assumption)); (case hml => (rfl)); (case hα | hf | hg => infer_instance); (case hN => rfl)) | (apply rx_len;rfl;rfl;rfl) | (apply rw_nil;kernel_rfl) | (apply rx_nil;rfl;rfl;rfl)) | (apply id_aw; first | apply aw_seq | apply aw_region | apply aw_block) | with_reducible apply tq_normal)
      refine aw_loopK (σ := Nat × List (Nat × Nat) × List Int × Nat) [0, 1, 2, 8, 55, 56] [(0, _), (1, _), (2, _), (8, _), (55, _), (56, _)] [] [] (fun s => [(57, iv (s.1 : Int)), (11, iv (a : Int)), (10, .own 2 0 s.2.2.2 1)]) (fun s => [(0, some (flat cI (bkW pts.length s.2.1))), (2, some (flat cI s.2.2.1))]) (fun s => s.1 ≤ pts[a]!.next.length ∧ s.2.1 = adsW E a (pts[a]!.next.take s.1) ∧ s.2.2.1 = todoW f s.2.1 (h + 1) ∧ s.2.2.2 = s.2.2.1.length) (fun s => pts[a]!.next.length - s.1) (0, E, todoW f E (h + 1), m - 1) ⟨by omega, rfl, hpop, by dsimp only; omega⟩ rfl rfl (by repeat' (first | exact trivial | refine And.intro rfl ?_)) (by repeat' (first | exact trivial | refine And.intro (.inr rfl) ?_)) ?_
      rintro ⟨k, E2, T2, m2⟩ ⟨hk, hE2, hT2, hm2⟩
      dsimp only at hk hE2 hT2 hm2
      try dsimp only
      have I2 := hek k
      rw [← hE2] at I2
      have hle2 := I2.le w.nx
      have hbl2 := bkW_len pts.length E2
      have htl2 := todoW_len f E2 (h + 1)
      rw [← hT2] at htl2
      by_cases hkn : k < pts[a]!.next.length
      · have hz := hnk _ (getB_mem _ _ hkn)
        have hbz : (bkW pts.length E2)[(pts[a]!.next[k]!).toNat]! = lkW E2 (pts[a]!.next[k]!).toNat := bkW_get (by omega)
        have hsu := adsW_succ E a pts[a]!.next k hkn
        rw [← hE2] at hsu
        have hql : h + 1 ≤ (quW f E2).length := by
          have h1 := adsW_pre a (pts[a]!.next.take k) E
          rw [← hE2] at h1
          have := h1.length_le
          rw [quW_len] at hlt ⊢; omega
        by_cases hlz : lkW E2 (pts[a]!.next[k]!).toNat < 0
        · repeat' (first | (apply id_rw; first | (apply rx_move;rfl;rfl) | (first | (apply rx_loadF0; (case hx | hH => rfl); (case hf | hg | hα => infer_instance); (case hk => omega); (case hc | hN => rfl)) | (apply rx_load1;rfl;rfl;rfl;rfl)) | (first | (apply rx_add;rfl;rfl;omega;rfl) | (apply rx_bin;rfl;rfl;rfl;rfl)) | (apply rx_assign;rfl;rfl) | (first | (apply rx_indexFN; (case hx | hi => rfl); (case hm => (assumption)); (case hml => (rfl)); (case hα | hf | hg => infer_instance); (case hN => rfl)) | (apply rx_indexO;rfl;rfl;(assumption);rfl)) | (apply rx_append;rfl;rfl;rfl;rfl;rfl;(rw [flat_length]; omega);(rfl);omega;omega;(exact app_int (by (assumption)));rfl;rfl) | (apply rw_nil;kernel_rfl) | ((apply rx_buildSliceI (t := _)); (case hze | hsm | hl => rfl); (case hfl => exact (rfl:_=some [_])); (case hM | hN => rfl)) | (apply rx_store;rfl;rfl;rfl;rfl;rfl;(rw [flat_length]; simp only [lns] <;> omega);(exact st_int (by (omega))))) | (apply id_aw; first | apply aw_seq | apply aw_region | (apply aw_cond; (case hc => rfl); all_goals (intro hc; have hq := hc; (try simp only [bqs] at hq); (try (exfalso; omega)))) | apply aw_block | apply aw_skip) | with_reducible apply tq_normal | with_reducible apply bq_normal)
          rw [bkW_set hlz (by omega)]
          (apply Exists.intro (k + 1, _, _, _); refine And.intro ?_ (And.intro ?_ ?_); rotate_left 2; focus (refine Le.ren [(0, 0), (2, 4)] rfl (by decide) ?_ ?_ <;> repeat' (first | exact trivial | refine And.intro ⟨_, rfl, ?_⟩ ?_ | refine And.intro ⟨_, _, rfl, rfl, ?_⟩ ?_ | exact Or.inr rfl | refine Or.inl ⟨?_, (by first | rfl | exact pur_sl _ _ | exact Pur.pf)⟩ | rfl)))
          · refine ⟨by dsimp only; omega, by dsimp only; rw [hsu, adW_new hlz], by dsimp only; rw [todoW_add hql, hT2, Int.toNat_of_nonneg hz.1], by dsimp only; rw [List.length_append]; simp; omega⟩
          · dsimp only; omega
        · repeat' (first | (apply id_rw; first | (apply rx_move;rfl;rfl) | (first | (apply rx_loadF0; (case hx | hH => rfl); (case hf | hg | hα => infer_instance); (case hk => omega); (case hc | hN => rfl)) | (apply rx_load1;rfl;rfl;rfl;rfl)) | (first | (apply rx_add;rfl;rfl;omega;rfl) | (apply rx_bin;rfl;rfl;rfl;rfl)) | (apply rx_assign;rfl;rfl) | (first | (apply rx_indexFN; (case hx | hi => rfl); (case hm => (assumption)); (case hml => (rfl)); (case hα | hf | hg => infer_instance); (case hN => rfl)) | (apply rx_indexO;rfl;rfl;(assumption);rfl)) | (apply rw_nil;kernel_rfl)) | (apply id_aw; first | apply aw_seq | apply aw_region | (apply aw_cond; (case hc => rfl); all_goals (intro hc; have hq := hc; (try simp only [bqs] at hq); (try (exfalso; omega)))) | apply aw_block | apply aw_skip) | with_reducible apply tq_normal | with_reducible apply bq_normal)
          (apply Exists.intro (k + 1, E2, T2, m2); refine And.intro ?_ (And.intro ?_ ?_); rotate_left 2; focus (refine Le.ren [(0, 0), (2, 2)] rfl (by decide) ?_ ?_ <;> repeat' (first | exact trivial | refine And.intro ⟨_, rfl, ?_⟩ ?_ | refine And.intro ⟨_, _, rfl, rfl, ?_⟩ ?_ | exact Or.inr rfl | refine Or.inl ⟨?_, (by first | rfl | exact pur_sl _ _ | exact Pur.pf)⟩ | rfl)))
          · refine ⟨by dsimp only; omega, by dsimp only; rw [hsu, adW_old (by omega)], hT2, hm2⟩
          · dsimp only; omega
      · repeat' (first | (apply id_rw; first | (apply rx_bin;rfl;rfl;rfl;rfl) | (apply rw_nil;kernel_rfl)) | (apply id_aw; first | apply aw_seq | apply aw_region | (apply aw_cond; (case hc => rfl); all_goals (intro hc; have hq := hc; (try simp only [bqs] at hq); (try (exfalso; omega)))) | apply aw_exit) | with_reducible apply tq_normal | with_reducible apply tq_exit | with_reducible apply bq_normal | with_reducible apply bq_here)
        have hkl : k = pts[a]!.next.length := by omega
        rw [hkl, List.take_length] at hE2
        have hpre : E <+: E2 := by rw [hE2]; exact adsW_pre _ _ _
        have hple := hpre.length_le
        rw [quW_len] at hlt
        (apply Exists.intro (h + 1, E2, T2, m2); refine And.intro ?_ (And.intro ?_ ?_); rotate_left 2; focus (refine Le.ren [(0, 0), (1, 2)] rfl (by decide) ?_ ?_ <;> repeat' (first | exact trivial | refine And.intro ⟨_, rfl, ?_⟩ ?_ | refine And.intro ⟨_, _, rfl, rfl, ?_⟩ ?_ | exact Or.inr rfl | refine Or.inl ⟨?_, (by first | rfl | exact pur_sl _ _ | exact Pur.pf)⟩ | rfl)))
        · refine ⟨?_, hT2, hm2, by dsimp only; omega, fun hl => ?_⟩
          · dsimp only; rw [hE2, bfW, ← hE, if_pos (by rw [quW_len]; exact hlt), ← ha]
          · dsimp only at hl ⊢
            have : E.length ≠ E2.length := fun e => by
              have := hpre.eq_of_length e
              rw [this] at hlk; omega
            omega
        · dsimp only; omega
    · have hT0 : T = [] := List.eq_nil_of_length_eq_zero (by omega)
      have hee : E = enW pts f := by
        rw [hE]; exact bfW_end w.nx hf (by rw [← hE]; rw [hT] at hT0; exact todoW_nil.1 hT0)
      have hm0 : m = 0 := by omega
      repeat' (first | (apply id_rw; first | (apply rx_move;rfl;rfl) | (apply rx_loadF0; (case hx | hH => rfl); (case hf | hg | hα => infer_instance); (case hk => omega); (case hc | hN => rfl)) | (first | (apply rx_guardNs;rfl;rfl;rfl;(assumption)) | (apply rx_guardS; (case hj | hb | hN => rfl); all_goals (intro hg; have hq := hg; (try simp only [bqs] at hq); (try (exfalso; omega))))) | (apply rx_bin;rfl;rfl;rfl;rfl) | (apply rx_assign;rfl;rfl) | (apply rx_pickF;rfl;(assumption);rfl;rfl) | (apply rx_indexON;rfl;rfl;(assumption);rfl) | (apply rx_len;rfl;rfl;rfl) | (apply rw_nil;kernel_rfl)) | (apply id_aw; first | apply aw_seq | apply aw_region | (apply aw_condF;rfl;(rfl)) | (apply aw_cond; (case hc => rfl); all_goals (intro hc; have hq := hc; (try simp only [bqs] at hq); (try (exfalso; omega)))) | apply aw_exit | apply aw_ret) | with_reducible apply tq_normal | with_reducible apply tq_ret | with_reducible apply tq_exit | with_reducible apply bq_here)
      (refine rq_le (Le.nilImm (d := 6) rfl) ?_; refine rq_ret rfl ?_)
      refine ⟨?_, (by (rfl))⟩
      have e1 : wyW pts f t = [] := by unfold wyW; rw [← hee, if_neg (by omega)]
      rw [e1, ← hee, decide_eq_false (by omega)]
      rfl
    · have hm1 := hmt (by omega)
      repeat' (first | (apply id_rw; first | (apply rx_move;rfl;rfl) | (apply rx_loadF0; (case hx | hH => rfl); (case hf | hg | hα => infer_instance); (case hk => omega); (case hc | hN => rfl)) | (first | (apply rx_guardY;rfl;rfl;rfl;(assumption)) | (apply rx_guardS; (case hj | hb | hN => rfl); all_goals (intro hg; have hq := hg; (try simp only [bqs] at hq); (try (exfalso; omega))))) | (apply rx_bin;rfl;rfl;rfl;rfl) | (apply rx_assign;rfl;rfl) | (apply rx_pickT;rfl;(assumption);rfl;rfl) | (apply rx_indexON;rfl;rfl;(assumption);rfl) | (apply rx_len;rfl;rfl;rfl) | (apply rw_nil;kernel_rfl) | (apply rx_buildSlice;rfl;rfl;rfl;exact (rfl:_=some [_]);rfl;rfl)) | (apply id_aw; first | apply aw_seq | apply aw_region | (apply aw_condF;rfl;(assumption)) | (apply aw_cond; (case hc => rfl); all_goals (intro hc; have hq := hc; (try simp only [bqs] at hq); (try (exfalso; omega)))) | apply aw_block | apply aw_skip | apply aw_exit) | with_reducible apply tq_normal | with_reducible apply tq_exit | with_reducible apply bq_here)
      have hwt : pts.length ≤ 61 := hpl
      have hlk0 : 0 ≤ lkW E t := by omega
      have hpre : E <+: enW pts f := by rw [hE]; exact bfW_enW (h := h) (by omega)
      obtain ⟨_, a0, R0, hx0, hcs0⟩ := CS.start w.nx hf hpre hlk0
      have hen : lkW (enW pts f) t = lkW E t := (chW_pre (f := f) hpre (hbe _).nd (lkW_some.1 hlk0)).2
      have hbt0 : (bkW pts.length E)[t]! = (a0 : Int) := by rw [hbt, hx0]
      rw [hbt0]
      refine aw_loopK (σ := Nat × List (Nat × Nat) × List Int × Nat) [1, 8] [(1, _), (8, _)] [0] [(0, some _)] (fun s => [(15, iv (s.1 : Int)), (14, .own 2 0 s.2.2.2 1)]) (fun s => [(2, some (flat cI s.2.2.1))]) (fun s => CS pts f t E s.1 s.2.1 s.2.2.1.reverse ∧ s.2.2.2 = s.2.2.1.length) (fun s => s.2.1.length) (a0, R0, [(t : Int)], 1) ⟨hcs0, rfl⟩ rfl rfl (by repeat' (first | exact trivial | refine And.intro rfl ?_)) (by repeat' (first | exact trivial | refine And.intro (.inr rfl) ?_)) ?_
      rintro ⟨x, R, u, m3⟩ ⟨hcs, hm3⟩
      dsimp only at hcs hm3
      try dsimp only
      have hcl := hcs.len
      rw [List.length_reverse] at hcl
      have hxl := hcs.xl
      have hbx : (bkW pts.length E)[x]! = lkW E x := bkW_get hxl
      by_cases hxf : x = f
      · have hcs2 := hcs
        rw [hxf] at hcs2
        have hfin := hcs2.fin
        repeat' (first | (apply id_rw; first | (apply rx_move;rfl;rfl) | (apply rx_bin;rfl;rfl;rfl;rfl) | (apply rx_assign;rfl;rfl) | (apply rx_rev;rfl;(rfl);(apply rev_c <;> (simp only [lns] <;> omega));rfl;rfl) | (apply rx_append;rfl;rfl;rfl;rfl;rfl;(rw [flat_length]; omega);(rfl);omega;omega;(exact app_int (by (assumption)));rfl;rfl) | (apply rw_nil;kernel_rfl) | ((apply rx_buildSliceI (t := _)); (case hze | hsm | hl => rfl); (case hfl => exact (rfl:_=some [_])); (case hM | hN => rfl))) | (apply id_aw; first | apply aw_seq | apply aw_region | (apply aw_cond; (case hc => rfl); all_goals (intro hc; have hq := hc; (try simp only [bqs] at hq); (try (exfalso; omega)))) | apply aw_block | apply aw_exit | apply aw_ret) | with_reducible apply tq_normal | with_reducible apply tq_exit | with_reducible apply bq_here | ((with_reducible apply bq_out); (case hij => decide)))
        refine rq_le (Le.frzD (d := 6) (i := 4) rfl rfl) ?_
        refine rq_ret rfl ⟨?_, (by (exact Pur.pf))⟩
        rw [hfin, hen, decide_eq_true hlk0, List.reverse_append, hxf, hm3]
        simp [oneOf, sl]
      · obtain ⟨a, R', h1, h2, h3⟩ := hcs.step w.nx hf I hxf
        rw [h1] at hbx
        repeat' (first | (apply id_rw; first | (apply rx_move;rfl;rfl) | (apply rx_loadF0; (case hx | hH => rfl); (case hf | hg | hα => infer_instance); (case hk => omega); (case hc | hN => rfl)) | (apply rx_bin;rfl;rfl;rfl;rfl) | (apply rx_assign;rfl;rfl) | (apply rx_indexON;rfl;rfl;(assumption);rfl) | (apply rx_append;rfl;rfl;rfl;rfl;rfl;(rw [flat_length]; omega);(rfl);omega;omega;(exact app_int (by (assumption)));rfl;rfl) | (apply rw_nil;kernel_rfl) | ((apply rx_buildSliceI (t := _)); (case hze | hsm | hl => rfl); (case hfl => exact (rfl:_=some [_])); (case hM | hN => rfl))) | (apply id_aw; first | apply aw_seq | apply aw_region | (apply aw_cond; (case hc => rfl); all_goals (intro hc; have hq := hc; (try simp only [bqs] at hq); (try (exfalso; omega)))) | apply aw_block | apply aw_skip) | with_reducible apply tq_normal | with_reducible apply bq_normal)
        rw [hbx]
        (apply Exists.intro (a, R', _, _); refine And.intro ?_ (And.intro ?_ ?_); rotate_left 2; focus (refine Le.ren [(0, 0), (2, 4)] rfl (by decide) ?_ ?_ <;> repeat' (first | exact trivial | refine And.intro ⟨_, rfl, ?_⟩ ?_ | refine And.intro ⟨_, _, rfl, rfl, ?_⟩ ?_ | exact Or.inr rfl | refine Or.inl ⟨?_, (by first | rfl | exact pur_sl _ _)⟩ | rfl)))
        · exact ⟨by dsimp only; rw [List.reverse_append]; exact h2, by dsimp only; rw [List.length_append, hm3]; rfl⟩
        · dsimp only; omega
end Go.Proofs.YtejkbiijonnefaaGreat

namespace Go.Proofs.YtejkbiijonnefaaGreat
open Go.AL Go.RowKit

theorem useAfter_c (ts : List Int) (bd : List AL.Stmt) (pts : List Pnt) (f : Flows ts pts) (w : WG ts pts) (a l : Nat) (ha : a < pts.length) (hl : l < pts.length) :
    PC Tryz.prog 95 [aG ts bd pts, iv (a : Int), iv (l : Int)] (fun r => r = .tup [iv (bsW (wyW pts a) (useW ts pts f.Af l) pts.length).1, bv (decide (0 ≤ (bsW (wyW pts a) (useW ts pts f.Af l) pts.length).1))]) := by
  have hpl := w.pl
  have htl := w.tl
  have b := f.bnd w
  have hli := loansIn_c ts bd pts f.Af w f.gf
  (refine pc_of_aw Tryz.func95 rfl (by simp [Tryz.ntmps95]) ?_; rw [Tryz.ntmps95])
  repeat' (first | (apply id_rw; first | ((with_reducible apply rx_callE (k := 69)); (case ha => rfl); (case h => exact hli); (case hp => (exact Pur.pf)); (case hN => rfl)) | (apply rx_move;rfl;rfl) | (apply rx_load1;rfl;rfl;rfl;rfl) | (apply rx_fieldAddr;rfl;rfl;rfl) | (apply rx_assign;rfl;rfl) | (apply rx_len;rfl;rfl;rfl) | (apply rw_nil;kernel_rfl) | (apply rx_nil;rfl;rfl;rfl) | (apply rx_box;rfl;rfl;rfl;rfl) | (apply rx_alloc;rfl;rfl) | (apply rx_store;rfl;rfl;rfl;rfl;rfl;(case hl => (simp;done));(exact (rfl:_=[_])))) | (apply id_aw; first | apply aw_seq | apply aw_region | apply aw_block) | with_reducible apply tq_normal)
  refine AW.le ?_ (Le.frzP (d := 5) (i := 0) rfl rfl)
  refine AW.le ?_ (Le.frzP (d := 8) (i := 1) rfl rfl)
  refine aw_loopK (σ := Nat × Int × Nat) [0, 1, 5, 8, 21, 22] [(0, _), (1, _), (5, _), (8, _), (21, _), (22, _)] [] [] (fun s => [(23, iv (s.1 : Int)), (9, iv s.2.1), (10, iv (s.2.2 : Int))]) (fun s => []) (fun s => s.1 ≤ pts.length ∧ s.2.1 = (bsW (wyW pts a) (useW ts pts f.Af l) s.1).1 ∧ s.2.2 = (bsW (wyW pts a) (useW ts pts f.Af l) s.1).2.length) (fun s => pts.length - s.1) (0, -1, 0) ⟨by omega, rfl, rfl⟩ rfl rfl (by repeat' (first | exact trivial | refine And.intro rfl ?_)) (by repeat' (exact trivial)) ?_
  rintro ⟨i, bi, li⟩ ⟨hi, hbi, hli2⟩
  dsimp only at hi hbi hli2
  try dsimp only
  by_cases hin : i < pts.length
  · have hus := used_c ts bd pts pts[i]! htl
    have hsm : Sm (wS ts pts[i]! [1, 2, 3]) := mkBits_sm (by omega)
    have hmem : ∀ v ∈ bitsI (wS ts pts[i]! [1, 2, 3]), 0 ≤ v ∧ v < 6 := fun v hv => by
      obtain ⟨v', h3, h4, rfl⟩ := mem_bitsI.1 hv
      rw [testBit_wS, Bool.and_eq_true, decide_eq_true_eq] at h4
      omega
    have hco := contU_c (bitsI (wS ts pts[i]! [1, 2, 3])) pts.length f.Af (i : Int) (l : Int) (by unfold bitsI; rw [List.length_map]; exact Nat.le_trans (List.length_filter_le _ _) (by simp)) hmem f.gf.1 (by omega) (by omega) (b.rs i hin)
    have hU : (bitsI (wS ts pts[i]! [1, 2, 3])).any (u1 f.Af (i : Int) (l : Int)) = useW ts pts f.Af l i := useW_any ts pts f.Af l i htl
    rw [hU] at hco
    have hsw := shortWay_c ts bd pts a i w ha hin
    have hwl := wyW_len (x := i) w.nx ha
    rw [← cN'_len] at hwl
    repeat' (first | (apply id_rw; first | ((apply rx_makeFuncFrzN 11); (case hx | hH | hc | hN => rfl)) | ((with_reducible apply rx_callE (k := 159)); (case ha => rfl); (case h => exact hco); (case hp => (exact Pur.pf)); (case hN => rfl)) | ((with_reducible apply rx_callE (k := 103)); (case ha => rfl); (case h => exact hsw); (case hp => (exact Pur.pf)); (case hN => rfl)) | (apply rx_move;rfl;rfl) | (first | (apply rx_load1;rfl;rfl;rfl;rfl) | (apply rx_loadA;rfl;rfl;(exact (rfl:_=[_, _, _, _, _]));rfl;rfl;rfl)) | (first | (apply rx_guardU;rfl;rfl;rfl) | (apply rx_guardY;rfl;rfl;rfl;(assumption)) | (apply rx_guardNs;rfl;rfl;rfl;(assumption)) | (apply rx_guardS; (case hj | hb | hN => rfl); all_goals (intro hg; have hq := hg; (try simp only [bqs] at hq); (try (exfalso; omega))))) | (first | (apply rx_add;rfl;rfl;omega;rfl) | (apply rx_bin;rfl;rfl;rfl;rfl)) | (apply rx_assign;rfl;rfl) | (first | (apply rx_pickT;rfl;(assumption);rfl;rfl) | (apply rx_pickF;rfl;(assumption);rfl;rfl)) | (apply rx_indexFN; (case hx | hi => rfl); (case hm => (assumption)); (case hml => (rfl)); (case hα | hf | hg => infer_instance); (case hN => rfl)) | (first | ((with_reducible apply rx_callE (k := 88)); (case ha => rfl); (case h => (apply bits_c <;> (assumption))); (case hp => (rfl)); (case hN => rfl)) | ((with_reducible apply rx_callE (k := 138)); (case ha => rfl); (case h => (apply used_c <;> (assumption))); (case hp => (exact Pur.pf)); (case hN => rfl))) | (apply rx_len;rfl;rfl;rfl) | (apply rw_nil;kernel_rfl) | (apply rx_not;rfl;rfl) | (apply rx_alloc;rfl;rfl) | (apply rx_extract;rfl;rfl;rfl) | (apply rx_store;rfl;rfl;rfl;rfl;rfl;(case hl => (simp;done));(first | exact (rfl:_=[_]) | exact (rfl:_=[_, _, _, _, _])))) | (apply id_aw; first | apply aw_seq | apply aw_region | (apply aw_condT;rfl;(rfl)) | (apply aw_condF;rfl;(rfl)) | (apply aw_cond; (case hc => rfl); all_goals (intro hc; have hq := hc; (try simp only [bqs] at hq); (try (exfalso; omega)))) | apply aw_block | apply aw_skip | apply aw_exit) | with_reducible apply tq_normal | with_reducible apply tq_exit | with_reducible apply bq_normal | with_reducible apply bq_here)
    · have hb := bsW_no (W := wyW pts a) (U := useW ts pts f.Af l) (i := i) (.inl (by assumption))
      (apply Exists.intro (i + 1, bi, li); refine And.intro ?_ (And.intro ?_ ?_); rotate_left 2; focus (refine Le.ren [] rfl (by decide) ?_ ?_ <;> repeat' (first | exact trivial | refine And.intro ⟨_, rfl, ?_⟩ ?_ | refine Or.inl ⟨?_, (by first | rfl | exact pur_sl _ _ | exact Pur.pf)⟩ | rfl)))
      · exact ⟨by dsimp only; omega, by dsimp only; rw [hb, hbi], by dsimp only; rw [hb, hli2]⟩
      · dsimp only; omega
    · have hu : useW ts pts f.Af l i = true := by assumption
      have hW := wyW_pos w.nx ha (by assumption : 0 ≤ lkW (enW pts a) i)
      have hb := bsW_new (W := wyW pts a) (U := useW ts pts f.Af l) hu hW (by rw [cN'_len] at *; omega)
      (apply Exists.intro (i + 1, _, _); refine And.intro ?_ (And.intro ?_ ?_); rotate_left 2; focus (refine Le.ren [] rfl (by decide) ?_ ?_ <;> repeat' (first | exact trivial | refine And.intro ⟨_, rfl, ?_⟩ ?_ | refine Or.inl ⟨?_, (by first | rfl | exact pur_sl _ _ | exact Pur.pf)⟩ | rfl)))
      · exact ⟨by dsimp only; omega, by dsimp only; rw [hb], by dsimp only; rw [hb, cN'_len]⟩
      · dsimp only; omega
    · have hb := bsW_old (W := wyW pts a) (U := useW ts pts f.Af l) (i := i) (by omega) (by rw [cN'_len] at *; omega)
      (apply Exists.intro (i + 1, bi, li); refine And.intro ?_ (And.intro ?_ ?_); rotate_left 2; focus (refine Le.ren [] rfl (by decide) ?_ ?_ <;> repeat' (first | exact trivial | refine And.intro ⟨_, rfl, ?_⟩ ?_ | refine Or.inl ⟨?_, (by first | rfl | exact pur_sl _ _ | exact Pur.pf)⟩ | rfl)))
      · exact ⟨by dsimp only; omega, by dsimp only; rw [hb, hbi], by dsimp only; rw [hb, hli2]⟩
      · dsimp only; omega
    · have hu : useW ts pts f.Af l i = true := by assumption
      have hW := wyW_pos w.nx ha (by assumption : 0 ≤ lkW (enW pts a) i)
      have hb := bsW_new (W := wyW pts a) (U := useW ts pts f.Af l) hu hW (by rw [cN'_len] at *; omega)
      (apply Exists.intro (i + 1, _, _); refine And.intro ?_ (And.intro ?_ ?_); rotate_left 2; focus (refine Le.ren [] rfl (by decide) ?_ ?_ <;> repeat' (first | exact trivial | refine And.intro ⟨_, rfl, ?_⟩ ?_ | refine Or.inl ⟨?_, (by first | rfl | exact pur_sl _ _ | exact Pur.pf)⟩ | rfl)))
      · exact ⟨by dsimp only; omega, by dsimp only; rw [hb], by dsimp only; rw [hb, cN'_len]⟩
      · dsimp only; omega
    · have hb := bsW_no (W := wyW pts a) (U := useW ts pts f.Af l) (i := i) (.inr (wyW_neg (by assumption)))
      (apply Exists.intro (i + 1, bi, li); refine And.intro ?_ (And.intro ?_ ?_); rotate_left 2; focus (refine Le.ren [] rfl (by decide) ?_ ?_ <;> repeat' (first | exact trivial | refine And.intro ⟨_, rfl, ?_⟩ ?_ | refine Or.inl ⟨?_, (by first | rfl | exact pur_sl _ _ | exact Pur.pf)⟩ | rfl)))
      · exact ⟨by dsimp only; omega, by dsimp only; rw [hb, hbi], by dsimp only; rw [hb, hli2]⟩
      · dsimp only; omega
  · repeat' (first | (apply id_rw; first | (apply rx_move;rfl;rfl) | (apply rx_bin;rfl;rfl;rfl;rfl) | (apply rx_assign;rfl;rfl) | (apply rw_nil;kernel_rfl)) | (apply id_aw; first | apply aw_seq | apply aw_region | (apply aw_cond; (case hc => rfl); all_goals (intro hc; have hq := hc; (try simp only [bqs] at hq); (try (exfalso; omega)))) | apply aw_exit | apply aw_ret) | with_reducible apply tq_normal | with_reducible apply tq_exit | with_reducible apply bq_here)
    refine rq_ret rfl ⟨?_, rfl⟩
    rw [show pts.length = i by omega, ← hbi]; rfl
theorem UseAfterNo_c (p : Prg) (i l : Int) (hl : p.types.length ≤ 1000000) (hs : cntL p.body ≤ 1000000) (h : ¬ (OkAt p i ∧ OkAt p l)) : PC Tryz.prog 38 [aPrg p, iv i, iv l] (fun r => r = .tup [iv 0, bv false]) := by
  have hg := graphOfL_c p [i, l] hl hs (by simp)
  rw [if_neg (fun q => h ⟨⟨q.1, q.2 0 (by simp)⟩, ⟨q.1, q.2 1 (by simp)⟩⟩)] at hg
  (refine pc_of_aw Tryz.func38 rfl (by simp [Tryz.ntmps38]) ?_; rw [Tryz.ntmps38])
  repeat' (first | (apply id_rw; first | ((with_reducible apply rx_callE (k := 62)); (case ha => rfl); (case h => exact hg); (case hp => (exact Pur.pf)); (case hN => rfl)) | (apply rx_move;rfl;rfl) | (apply rx_loadA;rfl;rfl;(exact (rfl:_=[_, _]));rfl;rfl;rfl) | (apply rx_assign;rfl;rfl) | (apply rw_nil;kernel_rfl) | (apply rx_not;rfl;rfl) | (apply rx_box;rfl;rfl;rfl;rfl) | (apply rx_extract;rfl;rfl;rfl) | ((apply rx_buildSliceI (t := _)); (case hze | hsm | hl => rfl); (case hfl => (exact (rfl:_=some [_, _]))); (case hM | hN => rfl))) | (apply id_aw; first | apply aw_seq | apply aw_region | (apply aw_condT;rfl;(rfl)) | apply aw_ret) | with_reducible apply tq_normal | with_reducible apply tq_ret)
  exact rq_ret rfl ⟨rfl, rfl⟩
theorem UseAfterY_c (p : Prg) (a l : Nat) (f : Flows p.types (ptsF p)) (hl : p.types.length ≤ 1000000) (hs : cntL p.body ≤ 1000000) (hv : validF p = true) (ha : a < (ptsF p).length) (hll : l < (ptsF p).length) :
    PC Tryz.prog 38 [aPrg p, iv (a : Int), iv (l : Int)] (fun r => r = if 0 ≤ (bsW (wyW (ptsF p) a) (useW p.types (ptsF p) f.Af l) (ptsF p).length).1 then .tup [iv (bsW (wyW (ptsF p) a) (useW p.types (ptsF p) f.Af l) (ptsF p).length).1, bv true] else .tup [iv 0, bv false]) := by
  have hg := graphOfL_c p [(a : Int), (l : Int)] hl hs (by simp)
  rw [if_pos ⟨hv, fun j hj => by
    obtain rfl | rfl : j = 0 ∨ j = 1 := by simp at hj; omega
    · exact ⟨by simp, by simpa using ha⟩
    · exact ⟨by simp, by simpa using hll⟩⟩] at hg
  have hu := useAfter_c p.types p.body (ptsF p) f (WG.of_valid hv) a l ha hll
  (refine pc_of_aw Tryz.func38 rfl (by simp [Tryz.ntmps38]) ?_; rw [Tryz.ntmps38])
  repeat' (first | (apply id_rw; first | ((with_reducible apply rx_callE (k := 62)); (case ha => rfl); (case h => exact hg); (case hp => (exact Pur.pf)); (case hN => rfl)) | ((with_reducible apply rx_callE (k := 95)); (case ha => rfl); (case h => exact hu); (case hp => (exact Pur.pf)); (case hN => rfl)) | (apply rx_move;rfl;rfl) | (apply rx_loadA;rfl;rfl;(exact (rfl:_=[_, _]));rfl;rfl;rfl) | (apply rx_assign;rfl;rfl) | (apply rw_nil;kernel_rfl) | (apply rx_not;rfl;rfl) | (apply rx_box;rfl;rfl;rfl;rfl) | (apply rx_extract;rfl;rfl;rfl) | ((apply rx_buildSliceI (t := _)); (case hze | hsm | hl => rfl); (case hfl => (exact (rfl:_=some [_, _]))); (case hM | hN => rfl))) | (apply id_aw; first | apply aw_seq | apply aw_region | (apply aw_condF;rfl;(rfl)) | (apply aw_cond; (case hc => rfl); all_goals (intro hc; have hq := hc; (try simp only [bqs] at hq); (try (exfalso; omega)))) | apply aw_skip | apply aw_ret) | with_reducible apply tq_normal | with_reducible apply tq_ret)
  · exact rq_ret rfl ⟨by rw [if_neg (by omega)]; rfl, rfl⟩
  · exact rq_ret rfl ⟨by rw [if_pos (by omega)]; rfl, rfl⟩
end Go.Proofs.YtejkbiijonnefaaGreat

namespace Go.Proofs.YtejkbiijonnefaaGreat
open Go.AL Go.RowKit

theorem from_c (ts : List Int) (bd : List AL.Stmt) (pts : List Pnt) (a : Nat) (F0 : List Bool) (w : WG ts pts) (ha : a < pts.length) (hF0 : GoodR pts a F0) : PC Tryz.prog 100 [aG ts bd pts, iv (a : Int)] (fun r => r = sl cB F0) := by
  have hpl := w.pl
  have hnl := w.nl a ha
  have hst := RI.start w.nx ha
  have hmu := muR_start hpl hnl
  (refine pc_of_aw Tryz.func100 rfl (by simp [Tryz.ntmps100]) ?_; rw [Tryz.ntmps100])
  repeat' (first | (apply id_rw; first | (apply rx_move;rfl;rfl) | (apply rx_load1;rfl;rfl;rfl;rfl) | (apply rx_fieldAddr;rfl;rfl;rfl) | (apply rx_assign;rfl;rfl) | (apply rx_indexFN; (case hx | hi => rfl); (case hm => (assumption)); (case hml => (rfl)); (case hα | hf | hg => infer_instance); (case hN => rfl)) | (apply rx_len;rfl;rfl;rfl) | (apply rw_nil;kernel_rfl) | (apply rx_nil;rfl;rfl;rfl) | (apply rx_makeSliceE;rfl;rfl;rfl;omega;omega;(exact mk_bool);rfl;rfl)) | (apply id_aw; first | apply aw_seq | apply aw_region | apply aw_block) | with_reducible apply tq_normal)
  refine aw_loopK (σ := List Bool × List Int) [0, 5] [(0, _), (5, _)] [] [] (fun s => [(6, sl cI s.2)]) (fun s => [(0, some (flat cB s.1))]) (fun s => RI pts a s.1 s.2 ∧ muR s.1 s.2 ≤ 200) (fun s => muR s.1 s.2) (List.replicate pts.length false, pts[a]!.next) ⟨hst, hmu⟩ rfl rfl (by repeat' (first | exact trivial | refine And.intro rfl ?_)) (by repeat' (first | exact trivial | refine And.intro (.inr rfl) ?_)) ?_
  rintro ⟨F, T⟩ ⟨I, hm⟩
  dsimp only at I hm
  try dsimp only
  have hFl := I.len
  have hTl := muR_len F T
  by_cases hT : 0 < T.length
  · obtain ⟨k, T1, rfl⟩ : ∃ k T1, T = k :: T1 := by cases T with | nil => simp at hT | cons k T1 => exact ⟨k, T1, rfl⟩
    have hcl : (k :: T1).length = T1.length + 1 := rfl
    have hk := I.tw k List.mem_cons_self
    have hnk := w.nl k.toNat (by omega)
    have hmc := muR_cons F T1 k
    have et : List.take ((k :: T1).length - Int.toNat 1) (List.drop (Int.toNat 1) (k :: T1)) = T1 := by
      show List.take T1.length T1 = T1
      exact List.take_length
    have e0 : (k :: T1)[Int.toNat 0]! = k := rfl
    have hk1 : 0 ≤ k ∧ k < pts.length := ⟨hk.1, hk.2.1⟩
    by_cases hv : F[k.toNat]! = true
    · repeat' (first | (apply id_rw; first | (with_reducible apply rw_stop (d := 30)) | (apply rx_move;rfl;rfl) | (apply rx_load1;rfl;rfl;rfl;rfl) | (apply rx_bin;rfl;rfl;rfl;rfl) | (apply rx_assign;rfl;rfl) | (apply rx_indexFN; (case hx | hi => rfl); (case hm => (assumption)); (case hml => (rfl)); (case hα | hf | hg => infer_instance); (case hN => rfl)) | (apply rx_len;rfl;rfl;rfl) | (apply rw_nil;kernel_rfl) | (apply rx_sliceF;rfl;infer_instance;rfl;rfl;(omega);rfl)) | (apply id_aw; first | apply aw_seq | apply aw_region | (apply aw_cond; (case hc => rfl); all_goals (intro hc; have hq := hc; (try simp only [bqs] at hq); (try (exfalso; omega)))) | apply aw_block | apply aw_skip) | with_reducible apply tq_normal)
      simp only [Int.toNat_one, List.drop_one, List.tail_cons, List.getElem!_cons_zero, List.length_cons, Nat.add_sub_cancel, List.take_length]
      refine rw_go ?_
      repeat' (first | (apply id_rw; first | (apply rx_move;rfl;rfl) | (first | (apply rx_loadF0; (case hx | hH => rfl); (case hf | hg | hα => infer_instance); (case hk => omega); (case hc | hN => rfl)) | (apply rx_load1;rfl;rfl;rfl;rfl)) | (apply rx_fieldAddr;rfl;rfl;rfl) | (first | (apply rx_indexF; (case hx | hi => rfl); (case hm => (assumption)); (case hml => (rfl)); (case hα | hf | hg => infer_instance); (case hN => rfl)) | (apply rx_indexO;rfl;rfl;(assumption);rfl)) | (apply rw_nil;kernel_rfl) | (apply rx_not;rfl;rfl) | (apply rx_nil;rfl;rfl;rfl) | ((apply rx_buildSliceI (t := _)); (case hze | hsm | hl => rfl); (case hfl => (exact (rfl:_=some [_, _]))); (case hM | hN => rfl)) | (apply rx_store;rfl;rfl;rfl;rfl;rfl;(rw [flat_length]; simp only [lns] <;> omega);(exact st_bool (by (omega))))) | (apply id_aw; first | apply aw_seq | apply aw_region | (apply aw_cond; (case hc => rfl); all_goals (intro hc; have hq := hc; (try simp only [bqs] at hq); (try (exfalso; omega)))) | apply aw_skip) | with_reducible apply tq_normal | with_reducible apply bq_normal)
      all_goals try exact absurd (hv.symm.trans (by assumption : F[k.toNat]! = false)) (by decide)
      (apply Exists.intro (F, _); refine And.intro ?_ (And.intro ?_ ?_); rotate_left 2; focus (refine Le.ren [(0, 0)] rfl (by decide) ?_ ?_ <;> repeat' (first | exact trivial | refine And.intro ⟨_, rfl, ?_⟩ ?_ | refine And.intro ⟨_, _, rfl, rfl, ?_⟩ ?_ | exact Or.inr rfl | refine Or.inl ⟨?_, (by first | exact pur_sl _ _ | exact Pur.pf)⟩ | rfl)))
      · exact ⟨I.vis (fun x hx => List.mem_cons.1 hx) (fun x hx => List.mem_cons_of_mem _ hx) hv, by dsimp only; omega⟩
      · dsimp only; omega
    · rw [Bool.not_eq_true] at hv
      have hco := concat_c [T1, pts[k.toNat]!.next] (by simp) (by
        show (T1 ++ (pts[k.toNat]!.next ++ [])).length ≤ 1000000
        rw [List.length_append, List.append_nil]; omega)
      have hms := muR_set (F := F) (k := k.toNat) (by omega) hv T1
      have hma := muR_app (F.set k.toNat true) T1 pts[k.toNat]!.next
      have ef : [T1, pts[k.toNat]!.next].flatten = T1 ++ pts[k.toNat]!.next := by
        show T1 ++ (pts[k.toNat]!.next ++ []) = _
        rw [List.append_nil]
      rw [ef] at hco
      repeat' (first | (apply id_rw; first | (with_reducible apply rw_stop (d := 30)) | (apply rx_move;rfl;rfl) | (apply rx_load1;rfl;rfl;rfl;rfl) | (apply rx_bin;rfl;rfl;rfl;rfl) | (apply rx_assign;rfl;rfl) | (apply rx_indexFN; (case hx | hi => rfl); (case hm => (assumption)); (case hml => (rfl)); (case hα | hf | hg => infer_instance); (case hN => rfl)) | (apply rx_len;rfl;rfl;rfl) | (apply rw_nil;kernel_rfl) | (apply rx_sliceF;rfl;infer_instance;rfl;rfl;(omega);rfl)) | (apply id_aw; first | apply aw_seq | apply aw_region | (apply aw_cond; (case hc => rfl); all_goals (intro hc; have hq := hc; (try simp only [bqs] at hq); (try (exfalso; omega)))) | apply aw_block | apply aw_skip) | with_reducible apply tq_normal)
      simp only [Int.toNat_one, List.drop_one, List.tail_cons, List.getElem!_cons_zero, List.length_cons, Nat.add_sub_cancel, List.take_length]
      refine rw_go ?_
      repeat' (first | (apply id_rw; first | ((with_reducible apply rx_callE (k := 104)); (case ha => rfl); (case h => exact hco); (case hp => (exact Pur.pf)); (case hN => rfl)) | (apply rx_move;rfl;rfl) | (first | (apply rx_loadF0; (case hx | hH => rfl); (case hf | hg | hα => infer_instance); (case hk => omega); (case hc | hN => rfl)) | (apply rx_load1;rfl;rfl;rfl;rfl)) | (apply rx_fieldAddr;rfl;rfl;rfl) | (apply rx_assign;rfl;rfl) | (first | (apply rx_indexF; (case hx | hi => rfl); (case hm => (assumption)); (case hml => (rfl)); (case hα | hf | hg => infer_instance); (case hN => rfl)) | (apply rx_indexO;rfl;rfl;(assumption);rfl)) | (apply rw_nil;kernel_rfl) | (apply rx_not;rfl;rfl) | (apply rx_nil;rfl;rfl;rfl) | ((apply rx_buildSliceI (t := _)); (case hze | hsm | hl => rfl); (case hfl => (exact (rfl:_=some [_, _]))); (case hM | hN => rfl)) | (apply rx_store;rfl;rfl;rfl;rfl;rfl;(rw [flat_length]; simp only [lns] <;> omega);(exact st_bool (by (omega))))) | (apply id_aw; first | apply aw_seq | apply aw_region | (apply aw_cond; (case hc => rfl); all_goals (intro hc; have hq := hc; (try simp only [bqs] at hq); (try (exfalso; omega)))) | apply aw_skip) | with_reducible apply tq_normal | with_reducible apply bq_normal)
      all_goals try exact absurd (hv.symm.trans (by assumption : F[k.toNat]! = true)) (by decide)
      (apply Exists.intro (F.set k.toNat true, _); refine And.intro ?_ (And.intro ?_ ?_); rotate_left 2; focus (refine Le.ren [(0, 0)] rfl (by decide) ?_ ?_ <;> repeat' (first | exact trivial | refine And.intro ⟨_, rfl, ?_⟩ ?_ | refine And.intro ⟨_, _, rfl, rfl, ?_⟩ ?_ | exact Or.inr rfl | refine Or.inl ⟨?_, (by first | exact pur_sl _ _ | exact Pur.pf)⟩ | rfl)))
      · exact ⟨I.new w.nx List.mem_cons_self (fun x hx => by
          rcases List.mem_cons.1 hx with h | h
          · exact .inl h
          · exact .inr (List.mem_append_left _ h)) (fun x hx => List.mem_append_right _ hx) (fun x hx => by
          rcases List.mem_append.1 hx with h | h
          · exact .inl (List.mem_cons_of_mem _ h)
          · exact .inr h), by dsimp only; omega⟩
      · dsimp only; omega
  · obtain rfl : T = [] := List.eq_nil_of_length_eq_zero (by omega)
    have hT2 : ([] : List Int).length = 0 := rfl
    repeat' (first | (apply id_rw; first | (apply rx_move;rfl;rfl) | (apply rx_bin;rfl;rfl;rfl;rfl) | (apply rx_assign;rfl;rfl) | (apply rx_len;rfl;rfl;rfl) | (apply rw_nil;kernel_rfl)) | (apply id_aw; first | apply aw_seq | apply aw_region | (apply aw_condF;rfl;(rfl)) | apply aw_exit | apply aw_ret) | with_reducible apply tq_normal | with_reducible apply tq_exit | with_reducible apply bq_here)
    refine rq_le (Le.frzD (d := 4) (i := 0) rfl rfl) ?_
    refine rq_ret rfl ⟨?_, (by (exact pur_sl _ _))⟩
    have e := I.fin hF0 w.nx
    rw [← e]
    simp only [oneOf, sl, hFl]
theorem PathsFromNo_c (p : Prg) (i : Int) (hl : p.types.length ≤ 1000000) (hs : cntL p.body ≤ 1000000) (h : ¬ OkAt p i) : PC Tryz.prog 40 [aPrg p, iv i] (fun r => r = sl cI []) := by
  have hg := graphNo_c p i hl hs h
  (refine pc_of_aw Tryz.func40 rfl (by simp [Tryz.ntmps40]) ?_; rw [Tryz.ntmps40])
  repeat' (first | (apply id_rw; first | ((with_reducible apply rx_callE (k := 62)); (case ha => rfl); (case h => exact hg); (case hp => (exact Pur.pf)); (case hN => rfl)) | (apply rx_move;rfl;rfl) | (apply rx_loadA;rfl;rfl;(exact (rfl:_=[_, _]));rfl;rfl;rfl) | (apply rx_assign;rfl;rfl) | (apply rw_nil;kernel_rfl) | (apply rx_not;rfl;rfl) | (apply rx_box;rfl;rfl;rfl;rfl) | (apply rx_extract;rfl;rfl;rfl) | ((apply rx_buildSliceI (t := _)); (case hze | hsm | hl => rfl); (case hfl => exact (rfl:_=some [_])); (case hM | hN => rfl))) | (apply id_aw; first | apply aw_seq | apply aw_region | (apply aw_condT;rfl;(rfl)) | apply aw_ret) | with_reducible apply tq_normal | with_reducible apply tq_ret)
  (refine rq_le (Le.nilImm (d := 4) rfl) ?_; refine rq_ret rfl ?_)
  exact ⟨rfl, rfl⟩
theorem PathsFromY_c (p : Prg) (a : Nat) (F0 : List Bool) (hl : p.types.length ≤ 1000000) (hs : cntL p.body ≤ 1000000) (h : OkAt p a) (hF0 : GoodR (ptsF p) a F0) : PC Tryz.prog 40 [aPrg p, iv (a : Int)] (fun r => r = sl cI (ixB F0 F0.length)) := by
  have hg := graphAt_c p a hl hs h
  have w := WG.of_valid h.1
  have hpl := w.pl
  have hfl := hF0.l
  have ha : a < (ptsF p).length := by have := h.2; omega
  have hfr := from_c p.types p.body (ptsF p) a F0 w ha hF0
  (refine pc_of_aw Tryz.func40 rfl (by simp [Tryz.ntmps40]) ?_; rw [Tryz.ntmps40])
  repeat' (first | (apply id_rw; first | ((with_reducible apply rx_callE (k := 62)); (case ha => rfl); (case h => exact hg); (case hp => (exact Pur.pf)); (case hN => rfl)) | ((with_reducible apply rx_callE (k := 100)); (case ha => rfl); (case h => exact hfr); (case hp => (exact Pur.pf)); (case hN => rfl)) | (apply rx_move;rfl;rfl) | (apply rx_loadA;rfl;rfl;(exact (rfl:_=[_, _]));rfl;rfl;rfl) | (apply rx_assign;rfl;rfl) | ((with_reducible apply rx_callE (k := 99)); (case ha => rfl); (case h => (apply indices_c <;> (omega))); (case hp => (exact Pur.pf)); (case hN => rfl)) | (apply rw_nil;kernel_rfl) | (apply rx_not;rfl;rfl) | (apply rx_box;rfl;rfl;rfl;rfl) | (apply rx_extract;rfl;rfl;rfl) | ((apply rx_buildSliceI (t := _)); (case hze | hsm | hl => rfl); (case hfl => exact (rfl:_=some [_])); (case hM | hN => rfl))) | (apply id_aw; first | apply aw_seq | apply aw_region | (apply aw_condF;rfl;(rfl)) | apply aw_skip | apply aw_ret) | with_reducible apply tq_normal)
  exact rq_ret rfl ⟨rfl, (by (exact pur_sl _ _))⟩
end Go.Proofs.YtejkbiijonnefaaGreat

namespace Go.Proofs.YtejkbiijonnefaaGreat
open Go.AL Go.RowKit

theorem l13Back_c (ts : List Int) (pts : List Pnt) (f t : Nat) (E : List (Nat × Nat)) (w : WG ts pts) (hf : f < pts.length) (ht : t < pts.length) (hE : E <+: enW pts f) (hlk : 0 ≤ lkW E t) :
    PC Tryz.prog 161 [sl cI (bkW pts.length E), iv (f : Int), iv (t : Int)] (fun r => r = sl cI (cN' (wyW pts f t))) := by
  have hpl := w.pl
  have hbl := bkW_len pts.length E
  have hbt : (bkW pts.length E)[t]! = lkW E t := bkW_get ht
  obtain ⟨I, a0, R0, hx0, hcs0⟩ := CS.start w.nx hf hE hlk
  have hle := I.le w.nx
  rw [hx0] at hbt
  (refine pc_of_aw Tryz.func161 rfl (by simp [Tryz.ntmps161]) ?_; rw [Tryz.ntmps161])
  repeat' (first | (apply id_rw; first | (apply rx_move;rfl;rfl) | (apply rx_load1;rfl;rfl;rfl;rfl) | (apply rx_assign;rfl;rfl) | (apply rx_indexFN; (case hx | hi => rfl); (case hm => (omega)); (case hml => (rfl)); (case hα | hf | hg => infer_instance); (case hN => rfl)) | (apply rw_nil;kernel_rfl) | (apply rx_buildSlice;rfl;rfl;rfl;exact (rfl:_=some [_]);rfl;rfl)) | (apply id_aw; first | apply aw_seq | apply aw_region | apply aw_block) | with_reducible apply tq_normal)
  rw [hbt]
  refine aw_loopK (σ := Nat × List (Nat × Nat) × List Int × Nat) [0, 1] [(0, _), (1, _)] [] [] (fun s => [(8, iv (s.1 : Int)), (7, .own 0 0 s.2.2.2 1)]) (fun s => [(0, some (flat cI s.2.2.1))]) (fun s => CS pts f t E s.1 s.2.1 s.2.2.1 ∧ s.2.2.2 = s.2.2.1.length) (fun s => s.2.1.length) (a0, R0, [(t : Int)], 1) ⟨hcs0, rfl⟩ rfl rfl (by repeat' (first | exact trivial | refine And.intro rfl ?_)) (by repeat' (first | exact trivial | refine And.intro (.inr rfl) ?_)) ?_
  rintro ⟨x, R, u, m⟩ ⟨hcs, hm⟩
  dsimp only at hcs hm
  try dsimp only
  have hcl := hcs.len
  have hxl := hcs.xl
  have hbx : (bkW pts.length E)[x]! = lkW E x := bkW_get hxl
  by_cases hxf : x = f
  · have hcs2 := hcs
    rw [hxf] at hcs2
    have hfin := hcs2.fin
    repeat' (first | (apply id_rw; first | (apply rx_append;rfl;rfl;rfl;rfl;rfl;exact Nat.le_refl _;exact sC_own rfl hm;omega;omega;exact (rfl:_=flat cI (_ :: u));rfl;rfl) | (apply rx_move;rfl;rfl) | (apply rx_bin;rfl;rfl;rfl;rfl) | (apply rx_assign;rfl;rfl) | (apply rw_nil;kernel_rfl) | (apply rx_buildSlice;rfl;rfl;rfl;exact (rfl:_=some [_]);rfl;rfl)) | (apply id_aw; first | apply aw_seq | apply aw_region | (apply aw_cond; (case hc => rfl); all_goals (intro hc; have hq := hc; (try simp only [bqs] at hq); (try (exfalso; omega)))) | apply aw_exit | apply aw_ret) | with_reducible apply tq_normal | with_reducible apply tq_exit | with_reducible apply bq_here)
    refine rq_le (Le.frzD (d := 6) (i := 2) rfl rfl) ?_
    refine rq_ret rfl ⟨?_, (by (exact pur_sl _ _))⟩
    rw [hfin, hm, Nat.add_comm]
    rfl
  · obtain ⟨a, R', h1, h2, h3⟩ := hcs.step w.nx hf I hxf
    rw [h1] at hbx
    repeat' (first | (apply id_rw; first | (apply rx_append;rfl;rfl;rfl;rfl;rfl;exact Nat.le_refl _;exact sC_own rfl hm;omega;omega;exact (rfl:_=flat cI (_ :: u));rfl;rfl) | (apply rx_move;rfl;rfl) | (apply rx_load1;rfl;rfl;rfl;rfl) | (apply rx_bin;rfl;rfl;rfl;rfl) | (apply rx_assign;rfl;rfl) | (apply rx_indexFN; (case hx | hi => rfl); (case hm => (omega)); (case hml => (rfl)); (case hα | hf | hg => infer_instance); (case hN => rfl)) | (apply rw_nil;kernel_rfl) | (apply rx_buildSlice;rfl;rfl;rfl;exact (rfl:_=some [_]);rfl;rfl)) | (apply id_aw; first | apply aw_seq | apply aw_region | (apply aw_cond; (case hc => rfl); all_goals (intro hc; have hq := hc; (try simp only [bqs] at hq); (try (exfalso; omega)))) | apply aw_block | apply aw_skip) | with_reducible apply tq_normal | with_reducible apply bq_normal)
    rw [hbx]
    (apply Exists.intro (a, R', _, _); refine And.intro ?_ (And.intro ?_ ?_); rotate_left 2; focus (refine Le.ren [(0, 2)] rfl (by decide) ?_ ?_ <;> repeat' (first | exact trivial | refine And.intro ⟨_, rfl, ?_⟩ ?_ | refine And.intro ⟨_, _, rfl, rfl, ?_⟩ ?_ | exact Or.inr rfl | refine Or.inl ⟨?_, (by first | rfl | exact pur_sl _ _)⟩ | rfl)))
    · exact ⟨h2, by dsimp only; rw [List.length_cons]; omega⟩
    · dsimp only; omega
end Go.Proofs.YtejkbiijonnefaaGreat

namespace Go.Proofs.YtejkbiijonnefaaGreat
open Go.AL Go.RowKit

theorem l13Way_c (ts : List Int) (pts : List Pnt) (f t : Nat) (w : WG ts pts) (hf : f < pts.length) (ht : t < pts.length) :
    PC Tryz.prog 98 [sl cPnt pts, iv (f : Int), iv (t : Int)] (fun r => r = .tup [sl cI (cN' (wyW pts f t)), bv (decide (0 ≤ lkW (enW pts f) t))]) := by
  have hpl := w.pl
  have hbe : ∀ h, BI pts f (bfW pts f h) := bfW_I w.nx hf
  (refine pc_of_aw Tryz.func98 rfl (by simp [Tryz.ntmps98]) ?_; rw [Tryz.ntmps98])
  repeat' (first | (apply id_rw; first | (apply rx_move;rfl;rfl) | (apply rx_assign;rfl;rfl) | (apply rx_len;rfl;rfl;rfl) | (apply rw_nil;kernel_rfl) | (apply rx_makeSliceE;rfl;rfl;rfl;omega;omega;(exact mk_nat);rfl;rfl)) | (apply id_aw; first | apply aw_seq | apply aw_region | apply aw_block) | with_reducible apply tq_normal)
  rw [repNI]
  refine aw_loopK (σ := Nat × List Int) [0, 1, 2, 8] [(0, _), (1, _), (2, _), (8, _)] [] [] (fun k => [(9, iv (k.1 : Int))]) (fun k => [(0, some (flat cI k.2))]) (fun k => k.1 ≤ pts.length ∧ k.2.length = pts.length ∧ (∀ l, l < k.1 → k.2[l]! = -1)) (fun k => pts.length - k.1) (0, List.replicate pts.length 0) ⟨by omega, by simp, by omega⟩ rfl rfl (by repeat' (first | exact trivial | refine And.intro rfl ?_)) (by repeat' (first | exact trivial | refine And.intro (.inr rfl) ?_)) ?_
  rintro ⟨k, u⟩ ⟨hk, hul, hu⟩
  dsimp only at hk hul hu
  try dsimp only
  by_cases hkn : k < pts.length
  · repeat' (first | (apply id_rw; first | (apply rx_move;rfl;rfl) | (first | (apply rx_add;rfl;rfl;omega;rfl) | (apply rx_bin;rfl;rfl;rfl;rfl)) | (apply rx_assign;rfl;rfl) | (apply rx_indexON;rfl;rfl;(assumption);rfl) | (apply rx_len;rfl;rfl;rfl) | (apply rw_nil;kernel_rfl) | (apply rx_store;rfl;rfl;rfl;rfl;rfl;(rw [flat_length]; simp only [lns] <;> omega);(exact st_int (by (omega))))) | (apply id_aw; first | apply aw_seq | apply aw_region | (apply aw_cond; (case hc => rfl); all_goals (intro hc; have hq := hc; (try simp only [bqs] at hq); (try (exfalso; omega)))) | apply aw_block | apply aw_skip) | with_reducible apply tq_normal | with_reducible apply bq_normal)
    (apply Exists.intro (k + 1, _); refine And.intro ?_ (And.intro ?_ ?_); rotate_left 2; focus (refine Le.ren [(0, 0)] rfl (by decide) ?_ ?_ <;> repeat' (first | exact trivial | refine And.intro ⟨_, rfl, ?_⟩ ?_ | refine And.intro ⟨_, _, rfl, rfl, ?_⟩ ?_ | exact Or.inr rfl | refine Or.inl ⟨?_, (by first | rfl | exact pur_sl _ _)⟩ | rfl)))
    · refine ⟨by omega, by dsimp only; rw [List.length_set]; exact hul, fun l hl => ?_⟩
      dsimp only at hl ⊢
      rw [set_get]
      by_cases e : k = l
      · rw [if_pos ⟨e, by omega⟩]
      · rw [if_neg (by omega)]; exact hu l (by omega)
    · dsimp only; omega
  · repeat' (first | (apply id_rw; first | (apply rx_move;rfl;rfl) | (apply rx_bin;rfl;rfl;rfl;rfl) | (apply rx_assign;rfl;rfl) | (apply rx_len;rfl;rfl;rfl) | (apply rw_nil;kernel_rfl) | (apply rx_buildSlice;rfl;rfl;rfl;exact (rfl:_=some [_]);rfl;rfl)) | (apply id_aw; first | apply aw_seq | apply aw_region | (apply aw_cond; (case hc => rfl); all_goals (intro hc; have hq := hc; (try simp only [bqs] at hq); (try (exfalso; omega)))) | apply aw_block | apply aw_exit) | with_reducible apply tq_normal | with_reducible apply tq_exit | with_reducible apply bq_here)
    have hbk0 : u = bkW pts.length [] := ext_get (by rw [bkW_len, hul]) fun l hl => by rw [hu l (by omega), bkW_get (by omega)]; rfl
    subst hbk0
    refine aw_loopK (σ := Nat × List (Nat × Nat) × List Int × Nat) [0, 1, 2, 8] [(0, _), (1, _), (2, _), (8, _)] [] [] (fun s => [(10, .own 1 0 s.2.2.2 1)]) (fun s => [(0, some (flat cI (bkW pts.length s.2.1))), (1, some (flat cI s.2.2.1))]) (fun s => s.2.1 = bfW pts f s.1 ∧ s.2.2.1 = todoW f s.2.1 s.1 ∧ s.2.2.2 = s.2.2.1.length ∧ s.1 ≤ s.2.1.length + 1 ∧ lkW s.2.1 t < 0) (fun s => pts.length + 1 - s.1) (0, [], [(f : Int)], 1) ⟨rfl, rfl, rfl, by dsimp only; omega, (by show (-1 : Int) < 0; decide)⟩ rfl rfl (by repeat' (first | exact trivial | refine And.intro rfl ?_)) (by repeat' (first | exact trivial | refine And.intro (.inr rfl) ?_)) ?_
    rintro ⟨h, E, T, m⟩ ⟨hE, hT, hm, hh, hlk⟩
    dsimp only at hE hT hm hh hlk
    try dsimp only
    have I := hbe h
    rw [← hE] at I
    have hle := I.le w.nx
    have hbl := bkW_len pts.length E
    by_cases hgo : 0 < T.length
    · have hlt : h < (quW f E).length := by
        have := todoW_len f E h; rw [quW_len]; rw [← hT] at this; omega
      have hcons := todoW_cons hlt
      have hqo := quW_of hlt
      obtain ⟨a, ha⟩ : ∃ a, a = (quW f E)[h]! := ⟨_, rfl⟩
      rw [← ha] at hcons hqo
      have hal : a < pts.length := by
        rcases hqo with e | e
        · rw [e]; exact hf
        · obtain ⟨x, hx, e⟩ := List.mem_map.1 e; rw [← e]; exact (hle.2 x hx).1
      have hbs : bfW pts f (h + 1) = adsW E a pts[a]!.next := by rw [hE] at hlt ha ⊢; exact bfW_step hlt ha
      rw [hcons] at hT
      subst hT
      simp only [List.length_cons] at hm
      repeat' (first | (apply id_rw; first | (with_reducible apply rw_stop (d := 10)) | (apply rx_sliceOw;rfl;rfl;omega;rfl) | (apply rx_move;rfl;rfl) | (apply rx_loadF0; (case hx | hH => rfl); (case hf | hg | hα => infer_instance); (case hk => omega); (case hc | hN => rfl)) | (apply rx_bin;rfl;rfl;rfl;rfl) | (apply rx_assign;rfl;rfl) | (apply rx_indexO;rfl;rfl;(omega);rfl) | (apply rx_len;rfl;rfl;rfl) | (apply rw_nil;kernel_rfl)) | (apply id_aw; first | apply aw_seq | apply aw_region | (apply aw_cond; (case hc => rfl); all_goals (intro hc; have hq := hc; (try simp only [bqs] at hq); (try (exfalso; omega)))) | apply aw_block | apply aw_skip) | with_reducible apply tq_normal)
      refine rw_go (rw_le ?_ (Le.mvO (d := 35) (i := 1) rfl rfl (by simp [flat_length]) (by decide)))
      have hnl := w.nl a hal
      have hpop : todoW f E (h + 1) = todoW f (adsW E a (pts[a]!.next.take 0)) (h + 1) := rfl
      have hnk := w.nx a hal
      have hek : ∀ k, BI pts f (adsW E a (pts[a]!.next.take k)) := fun k => adsW_I _ _ I hqo (fun z hz => ⟨hal, by have := hnk z (List.mem_of_mem_take hz); rw [Int.toNat_of_nonneg this.1]; exact List.mem_of_mem_take hz⟩)
      repeat' (first | (apply id_rw; first | (apply rx_assign;rfl;rfl) | (apply rw_nil;kernel_rfl)) | (apply id_aw; first | apply aw_seq | apply aw_region | apply aw_block) | with_reducible apply tq_normal)
      refine aw_loopK (σ := Nat × List (Nat × Nat) × List Int × Nat) [0, 1, 2, 8] [(0, _), (1, _), (2, _), (8, _)] [] [] (fun s => [(12, iv (s.1 : Int)), (11, iv (a : Int)), (10, .own 2 0 s.2.2.2 1)]) (fun s => [(0, some (flat cI (bkW pts.length s.2.1))), (2, some (flat cI s.2.2.1))]) (fun s => s.1 ≤ pts[a]!.next.length ∧ s.2.1 = adsW E a (pts[a]!.next.take s.1) ∧ s.2.2.1 = todoW f s.2.1 (h + 1) ∧ s.2.2.2 = s.2.2.1.length ∧ lkW s.2.1 t < 0) (fun s => pts[a]!.next.length - s.1) (0, E, todoW f E (h + 1), m - 1) ⟨by omega, rfl, hpop, by dsimp only; omega, hlk⟩ rfl rfl (by repeat' (first | exact trivial | refine And.intro rfl ?_)) (by repeat' (first | exact trivial | refine And.intro (.inr rfl) ?_)) ?_
      rintro ⟨k, E2, T2, m2⟩ ⟨hk, hE2, hT2, hm2, hlk2⟩
      dsimp only at hk hE2 hT2 hm2 hlk2
      try dsimp only
      have I2 := hek k
      rw [← hE2] at I2
      have hle2 := I2.le w.nx
      have hbl2 := bkW_len pts.length E2
      have htl2 := todoW_len f E2 (h + 1)
      rw [← hT2] at htl2
      by_cases hkn : k < pts[a]!.next.length
      · have hz := hnk _ (getB_mem _ _ hkn)
        have hbz : (bkW pts.length E2)[(pts[a]!.next[k]!).toNat]! = lkW E2 (pts[a]!.next[k]!).toNat := bkW_get (by omega)
        have hsu := adsW_succ E a pts[a]!.next k hkn
        rw [← hE2] at hsu
        have hql : h + 1 ≤ (quW f E2).length := by
          have h1 := adsW_pre a (pts[a]!.next.take k) E
          rw [← hE2] at h1
          have := h1.length_le
          rw [quW_len] at hlt ⊢; omega
        by_cases hlz : lkW E2 (pts[a]!.next[k]!).toNat < 0
        · have hnew := adW_new (a := a) hlz
          by_cases hzt : pts[a]!.next[k]! = (t : Int)
          · have hE3 : E2 ++ [((pts[a]!.next[k]!).toNat, a)] <+: enW pts f := by
              rw [← hnew, ← hsu]
              exact (adsW_take _ _ _ _).trans (by rw [← hbs]; exact bfW_enW (h := h + 1) (by have := quW_len f E; omega))
            have hl3 : 0 ≤ lkW (E2 ++ [((pts[a]!.next[k]!).toNat, a)]) t := by
              rw [lkW_app hlz, if_pos (by omega)]; omega
            have hbk := l13Back_c ts pts f t _ w hf ht hE3 hl3
            have hl4 : 0 ≤ lkW (enW pts f) t := by rw [(chW_pre (f := f) hE3 (hbe _).nd (lkW_some.1 hl3)).2]; exact hl3
            rw [← bkW_set hlz (by omega), show sl cI ((bkW pts.length E2).set (pts[a]!.next[k]!).toNat (a : Int)) = AV.imm pts.length (flat cI ((bkW pts.length E2).set (pts[a]!.next[k]!).toNat (a : Int))) from by unfold sl; rw [List.length_set, bkW_len]] at hbk
            repeat' (first | (apply id_rw; first | (with_reducible apply rw_stop (d := 66)) | (apply rx_move;rfl;rfl) | (first | (apply rx_loadF0; (case hx | hH => rfl); (case hf | hg | hα => infer_instance); (case hk => omega); (case hc | hN => rfl)) | (apply rx_load1;rfl;rfl;rfl;rfl)) | (apply rx_fieldAddr;rfl;rfl;rfl) | (apply rx_bin;rfl;rfl;rfl;rfl) | (apply rx_assign;rfl;rfl) | (first | (apply rx_indexFN; (case hx | hi => rfl); (case hm => (assumption)); (case hml => (rfl)); (case hα | hf | hg => infer_instance); (case hN => rfl)) | (apply rx_indexO;rfl;rfl;(assumption);rfl)) | (apply rx_len;rfl;rfl;rfl) | (apply rw_nil;kernel_rfl) | (apply rx_store;rfl;rfl;rfl;rfl;rfl;(rw [flat_length]; simp only [lns] <;> omega);(exact st_int (by (omega))))) | (apply id_aw; first | apply aw_seq | apply aw_region | (apply aw_cond; (case hc => rfl); all_goals (intro hc; have hq := hc; (try simp only [bqs] at hq); (try (exfalso; omega)))) | apply aw_block | apply aw_skip) | with_reducible apply tq_normal)
            refine rw_go (rw_le ?_ (Le.frzD (d := 8) (i := 0) rfl rfl))
            repeat' (first | (apply id_rw; first | ((with_reducible apply rx_callE (k := 161)); (case ha => rfl); (case h => exact hbk); (case hp => (exact Pur.pf)); (case hN => rfl)) | (apply rx_move;rfl;rfl) | (apply rx_assign;rfl;rfl) | (apply rw_nil;kernel_rfl)) | (apply id_aw; (apply aw_ret)) | with_reducible apply tq_normal | with_reducible apply tq_ret | with_reducible apply bq_ret)
            refine rq_ret rfl ⟨?_, (by (exact Pur.pf))⟩
            rw [decide_eq_true hl4]
            rfl
          · repeat' (first | (apply id_rw; first | (apply rx_move;rfl;rfl) | (first | (apply rx_loadF0; (case hx | hH => rfl); (case hf | hg | hα => infer_instance); (case hk => omega); (case hc | hN => rfl)) | (apply rx_load1;rfl;rfl;rfl;rfl)) | (apply rx_fieldAddr;rfl;rfl;rfl) | (first | (apply rx_add;rfl;rfl;omega;rfl) | (apply rx_bin;rfl;rfl;rfl;rfl)) | (apply rx_assign;rfl;rfl) | (first | (apply rx_indexFN; (case hx | hi => rfl); (case hm => (assumption)); (case hml => (rfl)); (case hα | hf | hg => infer_instance); (case hN => rfl)) | (apply rx_indexO;rfl;rfl;(assumption);rfl)) | (first | (apply rx_len;rfl;rfl;rfl) | (apply rx_append;rfl;rfl;rfl;rfl;rfl;(rw [flat_length]; omega);(rfl);omega;omega;(exact app_int (by (assumption)));rfl;rfl)) | (apply rw_nil;kernel_rfl) | ((apply rx_buildSliceI (t := _)); (case hze | hsm | hl => rfl); (case hfl => exact (rfl:_=some [_])); (case hM | hN => rfl)) | (apply rx_store;rfl;rfl;rfl;rfl;rfl;(rw [flat_length]; simp only [lns] <;> omega);(exact st_int (by (omega))))) | (apply id_aw; first | apply aw_seq | apply aw_region | (apply aw_cond; (case hc => rfl); all_goals (intro hc; have hq := hc; (try simp only [bqs] at hq); (try (exfalso; omega)))) | apply aw_block | apply aw_skip) | with_reducible apply tq_normal | with_reducible apply bq_normal)
            rw [bkW_set hlz (by omega)]
            (apply Exists.intro (k + 1, _, _, _); refine And.intro ?_ (And.intro ?_ ?_); rotate_left 2; focus (refine Le.ren [(0, 0), (2, 4)] rfl (by decide) ?_ ?_ <;> repeat' (first | exact trivial | refine And.intro ⟨_, rfl, ?_⟩ ?_ | refine And.intro ⟨_, _, rfl, rfl, ?_⟩ ?_ | exact Or.inr rfl | refine Or.inl ⟨?_, (by first | rfl | exact pur_sl _ _)⟩ | rfl)))
            · refine ⟨by dsimp only; omega, by dsimp only; rw [hsu, adW_new hlz], by dsimp only; rw [todoW_add hql, hT2, Int.toNat_of_nonneg hz.1], by dsimp only; rw [List.length_append]; simp; omega, ?_⟩
              dsimp only; rw [lkW_app hlz, if_neg (by omega)]; exact hlk2
            · dsimp only; omega
        · repeat' (first | (apply id_rw; first | (apply rx_move;rfl;rfl) | (first | (apply rx_loadF0; (case hx | hH => rfl); (case hf | hg | hα => infer_instance); (case hk => omega); (case hc | hN => rfl)) | (apply rx_load1;rfl;rfl;rfl;rfl)) | (apply rx_fieldAddr;rfl;rfl;rfl) | (first | (apply rx_add;rfl;rfl;omega;rfl) | (apply rx_bin;rfl;rfl;rfl;rfl)) | (apply rx_assign;rfl;rfl) | (first | (apply rx_indexFN; (case hx | hi => rfl); (case hm => (assumption)); (case hml => (rfl)); (case hα | hf | hg => infer_instance); (case hN => rfl)) | (apply rx_indexO;rfl;rfl;(assumption);rfl)) | (apply rx_len;rfl;rfl;rfl) | (apply rw_nil;kernel_rfl)) | (apply id_aw; first | apply aw_seq | apply aw_region | (apply aw_cond; (case hc => rfl); all_goals (intro hc; have hq := hc; (try simp only [bqs] at hq); (try (exfalso; omega)))) | apply aw_block | apply aw_skip | apply aw_exit) | with_reducible apply tq_normal | with_reducible apply tq_exit | with_reducible apply bq_here)
          (apply Exists.intro (k + 1, E2, T2, m2); refine And.intro ?_ (And.intro ?_ ?_); rotate_left 2; focus (refine Le.ren [(0, 0), (2, 2)] rfl (by decide) ?_ ?_ <;> repeat' (first | exact trivial | refine And.intro ⟨_, rfl, ?_⟩ ?_ | refine And.intro ⟨_, _, rfl, rfl, ?_⟩ ?_ | exact Or.inr rfl | refine Or.inl ⟨?_, (by first | rfl | exact pur_sl _ _)⟩ | rfl)))
          · refine ⟨by dsimp only; omega, by dsimp only; rw [hsu, adW_old (by omega)], hT2, hm2, hlk2⟩
          · dsimp only; omega
      · repeat' (first | (apply id_rw; first | (apply rx_move;rfl;rfl) | (apply rx_load1;rfl;rfl;rfl;rfl) | (apply rx_fieldAddr;rfl;rfl;rfl) | (apply rx_bin;rfl;rfl;rfl;rfl) | (apply rx_indexFN; (case hx | hi => rfl); (case hm => (assumption)); (case hml => (rfl)); (case hα | hf | hg => infer_instance); (case hN => rfl)) | (apply rx_len;rfl;rfl;rfl) | (apply rw_nil;kernel_rfl)) | (apply id_aw; first | apply aw_seq | apply aw_region | (apply aw_cond; (case hc => rfl); all_goals (intro hc; have hq := hc; (try simp only [bqs] at hq); (try (exfalso; omega)))) | apply aw_exit) | with_reducible apply tq_normal | with_reducible apply tq_exit | with_reducible apply bq_normal | with_reducible apply bq_here)
        have hkl : k = pts[a]!.next.length := by omega
        rw [hkl, List.take_length] at hE2
        have hpre : E <+: E2 := by rw [hE2]; exact adsW_pre _ _ _
        have hple := hpre.length_le
        rw [quW_len] at hlt
        (apply Exists.intro (h + 1, E2, T2, m2); refine And.intro ?_ (And.intro ?_ ?_); rotate_left 2; focus (refine Le.ren [(0, 0), (1, 2)] rfl (by decide) ?_ ?_ <;> repeat' (first | exact trivial | refine And.intro ⟨_, rfl, ?_⟩ ?_ | refine And.intro ⟨_, _, rfl, rfl, ?_⟩ ?_ | exact Or.inr rfl | refine Or.inl ⟨?_, (by first | rfl | exact pur_sl _ _)⟩ | rfl)))
        · exact ⟨by dsimp only; rw [hbs, hE2], hT2, hm2, by dsimp only; omega, hlk2⟩
        · dsimp only; omega
    · have hT0 : T = [] := List.eq_nil_of_length_eq_zero (by omega)
      have hee : E = enW pts f := by
        rw [hE]; exact bfW_end w.nx hf (by rw [← hE]; rw [hT] at hT0; exact todoW_nil.1 hT0)
      have hm0 : m = 0 := by omega
      repeat' (first | (apply id_rw; first | (apply rx_move;rfl;rfl) | (apply rx_bin;rfl;rfl;rfl;rfl) | (apply rx_assign;rfl;rfl) | (apply rx_len;rfl;rfl;rfl) | (apply rw_nil;kernel_rfl) | ((apply rx_buildSliceI (t := _)); (case hze | hsm | hl => rfl); (case hfl => (rfl)); (case hM | hN => rfl))) | (apply id_aw; first | apply aw_seq | apply aw_region | (apply aw_cond; (case hc => rfl); all_goals (intro hc; have hq := hc; (try simp only [bqs] at hq); (try (exfalso; omega)))) | apply aw_exit | apply aw_ret) | with_reducible apply tq_normal | with_reducible apply tq_exit | with_reducible apply bq_here)
      refine rq_ret rfl ⟨?_, (by (rfl))⟩
      rw [wyW_neg (by rw [← hee]; exact hlk), ← hee, decide_eq_false (by omega)]
      rfl
end Go.Proofs.YtejkbiijonnefaaGreat
