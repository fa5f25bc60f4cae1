/-
  A part of the proofs over this program: rules and contracts of its functions (the contracts).
-/
import Derived.Test.YtejkbiijonnefaaGreatB05
import Derived.Test.YtejkbiijonnefaaGreatRows
import Derived.WalkKit
import Derived.ProofKit
import Derived.OpenShut
import Derived.Carry
import Derived.ChangeSlices
set_option linter.unusedVariables false
set_option linter.unusedSimpArgs false
set_option maxHeartbeats 8000000
set_option maxRecDepth 4000
attribute [local irreducible] Go.AL.RW Go.AL.AW Go.AL.Stop
namespace Go.Proofs.YtejkbiijonnefaaGreat
open Go.AL Go.ChangeShapes Go.WideShapes Go.ChangeAt Go.RowKit
theorem RdC_bytes {w : World} {bad : Nat → Prop} {ι : Pl} {b : Nat} : ∀ (bs : List UInt8) (o : Nat), ¬ bad b → (∀ j, j < bs.length → w.cell? ⟨b, o + j, none⟩ = some (.int .u8 ((bs[j]!).toNat : Int))) → RdC w bad ι (flat cU bs) b o
  | [], _, _, _ => by simp only [flat, List.flatMap_nil, RdC]
  | x :: bs, o, hb, h => by
    have h0 := h 0 (by simp)
    have e : flat cU (x :: bs) = .v (.int .u8 (x.toNat : Int)) :: flat cU bs := rfl
    rw [e]
    simp only [RdC]
    refine ⟨⟨.int .u8 (x.toNat : Int), by simpa using h0, rfl, by simp only [Rd]⟩, RdC_bytes bs (o + 1) hb fun j hj => ?_⟩
    have := h (j + 1) (by simpa using hj)
    rw [show o + 1 + j = o + (j + 1) from by omega]
    simpa using this
theorem calls_of_pc {P : Program} {k : FuncId} {bs : List UInt8} (h : PC P k [sl cU bs] (fun r => r = bv true)) {W : World} {v : Value} (hv : Rd W (fun _ => False) (fun _ => none) (sl cU bs) v) :
    Calls P k #[v] W fun e W' => e = .returned (.bool true) ∧ Below W.heap.size W W' := by
  let C : Ctx := { N := 0, w0 := W, W0 := fun _ => False, X := fun _ => False, ι0 := fun _ => none, xlt := fun _ h => h.elim }
  have hbad : ∀ b, ¬ badOf C.X (fun _ => none) (lkH []) b := by
    rintro b (h | ⟨id, cs, β, h1, h2⟩)
    · exact h
    · cases h2
  have g : HG C (fun _ => none) (fun j => 0 ≤ j) (lkH []) W :=
    ⟨fun id cs h => by simp [lkH] at h, fun id id' cs cs' b β β' h => by simp [lkH] at h, Fr.refl _ _, fun _ _ h => h, fun _ _ => rfl⟩
  have hcar : Carry W (fun _ => False) (fun _ => none) W (badOf C.X (fun _ => none) (lkH [])) (fun _ => none) := ⟨fun b o x _ h2 => ⟨hbad b, h2⟩, fun _ _ h => h, fun _ => Nat.le_refl _⟩
  have ha : RdV W (badOf C.X (fun _ => none) (lkH [])) (fun _ => none) [sl cU bs] [v] := by
    simp only [RdV]
    exact ⟨v, [], rfl, Rd.carry hcar _ _ hv, rfl⟩
  refine (h C _ W [v] rfl rfl g ha).mono ?_
  rintro e W' ⟨v', r, H', ι', rfl, ⟨rfl, _⟩, h4, h5⟩
  simp only [Rd] at h4
  subst h4
  have f := h5.fr
  exact ⟨rfl, f.os, f.tape, f.output, f.size, fun b hb => f.block b hb (fun h => h)⟩
theorem laid : laidOutB Tryz.prog = true := by kernel_rfl
theorem cells5 : Tryz.prog.cellsOf 5 = 1 := by kernel_rfl
theorem bytes_in {H : Type} {enc : TypeId × Value → H} {W : World} {base : Nat} {v0 : Value} {d0 : DataW H} {p : List MemPlace} (hval : Value.okWide Tryz.prog W .any base 22 v0) (h0 : DataW.Trod enc Tryz.prog W 0 (fun _ => true) true 22 v0 d0 p) :
    ∃ bs : List UInt8, Rd W (fun _ => False) (fun _ => none) (sl cU bs) v0 := by
  obtain ⟨a0, len, cap, rfl⟩ := okWide_slice Tryz.underlying22 hval
  obtain ⟨fuel, hf⟩ := h0
  rcases open_ints Tryz.underlying22 Tryz.underlying5 cells5 hf with ⟨hcs, hx⟩ | ⟨a, len', cap', zs, hcs, _, hl, hm, hz, hx, hcell, hwz⟩
  · simp [Value.cells] at hcs
    obtain ⟨rfl, rfl, rfl⟩ := hcs
    refine ⟨[], ?_⟩
    simp only [Rd]
    exact ⟨none, 0, rfl, .inl rfl⟩
  · simp [Value.cells] at hcs
    obtain ⟨rfl, rfl, rfl⟩ := hcs
    simp only [if_true] at hz
    refine ⟨(zs.take len).map fun n => UInt8.ofNat n.toNat, ?_⟩
    have hlen : ((zs.take len).map fun n => UInt8.ofNat n.toNat).length = len := by simp; omega
    simp only [Rd]
    refine ⟨some a, cap, by rw [hlen], ?_⟩
    by_cases h00 : len = 0
    · exact .inl (by rw [hlen]; exact h00)
    · obtain ⟨b, off, spot⟩ := a
      have hspot : spot = none := by simpa [Addr.add] using World.cell?_spot (hcell 0 (by omega))
      subst hspot
      refine .inr ⟨b, off, by rw [hlen]; exact hl, rfl, .inr ⟨fun h => h, RdC_bytes _ _ (fun h => h) fun j hj => ?_⟩⟩
      rw [hlen] at hj
      have hcj := hcell j (by omega)
      rw [Addr.add_lit] at hcj
      rw [hcj]
      have e : zs.getD j 0 = zs[j]'(by omega) := by simp [List.getD, List.getElem?_eq_getElem (show j < zs.length by omega)]
      have hw := hwz (zs[j]'(by omega)) (List.getElem_mem _)
      have hr : 0 ≤ zs[j]'(by omega) ∧ zs[j]'(by omega) ≤ 255 := by simpa [Lit.wf, IntKind.min, IntKind.max, IntKind.signed, IntKind.bits] using hw
      rw [e, getB _ _ (by rw [hlen]; exact hj)]
      simp only [List.getElem_map, List.getElem_take]
      congr 2
      simp only [UInt8.toNat_ofNat']
      omega
end Go.Proofs.YtejkbiijonnefaaGreat

namespace Go.Proofs.YtejkbiijonnefaaGreat
open Go.AL Go.RowKit

end Go.Proofs.YtejkbiijonnefaaGreat

namespace Go.Proofs.YtejkbiijonnefaaGreat
open Go.AL Go.RowKit

theorem bcInts_c (L : List Int) (hl : L.length ≤ 1000000) : PC Tryz.prog 25 [sl cI L, sl cI L] (fun r => r = bv true) := by
  (refine pc_of_aw Tryz.func25 rfl (by simp [Tryz.ntmps25]) ?_; rw [Tryz.ntmps25])
  repeat' (first | (apply id_rw; first | (apply rx_move;rfl;rfl) | (apply rx_bin;rfl;rfl;rfl;rfl) | (apply rx_assign;rfl;rfl) | (apply rx_len;rfl;rfl;rfl) | (apply rw_nil;kernel_rfl)) | (apply id_aw; first | apply aw_seq | apply aw_region | (apply aw_cond;rfl;all_goals intro hc;have hq:=hc;(try simp only [bqs] at hq);try exfalso;omega) | apply aw_block | apply aw_skip | apply aw_ret) | with_reducible apply tq_normal | with_reducible apply tq_ret)
  · exact (hq trivial).elim
  refine aw_loopK (σ := Nat) [0, 1] [(0, _), (1, _)] [] [] (fun k => [(5, iv (k : Int))]) (fun k => []) (fun k => k ≤ L.length) (fun k => L.length - k) (0) (by omega) rfl rfl (by repeat' (first | exact trivial | refine And.intro rfl ?_)) (by repeat' (exact trivial)) ?_
  rintro k hk
  repeat' (first | (apply id_rw; first | (apply rx_move;rfl;rfl) | (apply rx_load1;rfl;rfl;rfl;rfl) | (first | (apply rx_add;rfl;rfl;omega;rfl) | (apply rx_bin;rfl;rfl;rfl;rfl)) | (apply rx_assign;rfl;rfl) | (apply rx_indexFN; (case hx | hi => rfl); (case hm => (omega)); (case hml => (rfl)); (case hα | hf | hg => infer_instance); (case hN => rfl)) | (apply rx_len;rfl;rfl;rfl) | (apply rw_nil;kernel_rfl)) | (apply id_aw; first | apply aw_seq | apply aw_region | (apply aw_draw;kernel_rfl) | (apply aw_cond;rfl;all_goals intro hc;have hq:=hc;(try simp only [bqs] at hq);try exfalso;omega) | apply aw_block | apply aw_skip | apply aw_exit | apply aw_ret) | with_reducible apply tq_normal | with_reducible apply tq_ret | with_reducible apply tq_exit | with_reducible apply bq_normal | with_reducible apply bq_ret | with_reducible apply bq_here)
  · exfalso
    simp at hq
  · (apply ex3 (k + 1); focus (refine Le.ren [] rfl (by decide) ?_ ?_ <;> repeat' (first | exact trivial | refine And.intro ⟨_, rfl, ?_⟩ ?_ | refine Or.inl ⟨?_, (by first | rfl | exact pur_sl _ _)⟩ | rfl)))
    · omega
    · omega
  · exact rq_ret rfl ⟨rfl, rfl⟩
theorem bcIn_c (L : List Int) (n : Int) (hl : L.length ≤ 1000000) : PC Tryz.prog 30 [sl cI L, iv n] (fun r => r = bv (decide (n ∈ L))) := by
  (refine pc_of_aw Tryz.func30 rfl (by simp [Tryz.ntmps30]) ?_; rw [Tryz.ntmps30])
  repeat' (first | (apply id_rw; first | (apply rx_assign;rfl;rfl) | (apply rw_nil;kernel_rfl)) | (apply id_aw; first | apply aw_seq | apply aw_region | apply aw_block) | with_reducible apply tq_normal)
  refine aw_loopK (σ := Nat) [0, 1] [(0, _), (1, _)] [] [] (fun k => [(5, iv (k : Int))]) (fun k => []) (fun k => k ≤ L.length ∧ ∀ j, j < k → L[j]! ≠ n) (fun k => L.length - k) (0) ⟨by omega, by omega⟩ rfl rfl (by repeat' (first | exact trivial | refine And.intro rfl ?_)) (by repeat' (exact trivial)) ?_
  rintro k ⟨hk, hall⟩
  repeat' (first | (apply id_rw; first | (apply rx_move;rfl;rfl) | (apply rx_load1;rfl;rfl;rfl;rfl) | (first | (apply rx_add;rfl;rfl;omega;rfl) | (apply rx_bin;rfl;rfl;rfl;rfl)) | (apply rx_assign;rfl;rfl) | (apply rx_indexFN; (case hx | hi => rfl); (case hm => (omega)); (case hml => (rfl)); (case hα | hf | hg => infer_instance); (case hN => rfl)) | (apply rx_len;rfl;rfl;rfl) | (apply rw_nil;kernel_rfl)) | (apply id_aw; first | apply aw_seq | apply aw_region | (apply aw_cond;rfl;all_goals intro hc;have hq:=hc;(try simp only [bqs] at hq);try exfalso;omega) | apply aw_block | apply aw_skip | apply aw_exit | apply aw_ret) | with_reducible apply tq_normal | with_reducible apply tq_ret | with_reducible apply tq_exit | with_reducible apply bq_normal | with_reducible apply bq_ret | with_reducible apply bq_here)
  · refine rq_ret rfl ⟨?_, rfl⟩
    simp only [oneOf]
    rw [decide_eq_true (by have h := getB_mem L k (by omega); rw [hq] at h; exact h)]
  · (apply ex3 (k + 1); focus (refine Le.ren [] rfl (by decide) ?_ ?_ <;> repeat' (first | exact trivial | refine And.intro ⟨_, rfl, ?_⟩ ?_ | refine Or.inl ⟨?_, (by first | rfl | exact pur_sl _ _)⟩ | rfl)))
    · exact ⟨by omega, fun j hj => by
        by_cases e : j = k
        · subst e; exact hq
        · exact hall j (by omega)⟩
    · omega
  · refine rq_ret rfl ⟨?_, rfl⟩
    simp only [oneOf]
    rw [decide_eq_false (fun h => by
      obtain ⟨j, hj, e⟩ := List.getElem_of_mem h
      exact hall j (by omega) (by rw [getB _ _ hj]; exact e))]
end Go.Proofs.YtejkbiijonnefaaGreat

namespace Go.Proofs.YtejkbiijonnefaaGreat
open Go.AL Go.RowKit

theorem cloneI_c (xs : List Int) (hl : xs.length ≤ 1000000) : PC Tryz.prog 169 [sl cI xs] (fun r => r = sl cI xs) := by
  (refine pc_of_aw Tryz.func169 rfl (by simp [Tryz.ntmps169]) ?_; rw [Tryz.ntmps169])
  repeat' (first | (apply id_rw; first | (apply rx_eqNil;rfl;rfl; (intro b hb)) | (apply rx_move;rfl;rfl) | (apply rx_assign;rfl;rfl) | (apply rx_append;rfl;rfl;rfl;rfl;rfl;(case hl => (simp [flat_length]; done));(exact sC_imm (by (rfl)));omega;omega;(exact app_nilF (by (omega)));rfl;rfl) | (apply rw_nil;kernel_rfl) | (apply rx_buildSlice;rfl;rfl;rfl;(rfl);rfl;rfl)) | (apply id_aw; first | apply aw_seq | apply aw_region | (apply aw_cond;rfl;all_goals intro hc;have hq:=hc;(try simp only [bqs] at hq);try exfalso;omega) | apply aw_skip | apply aw_ret) | with_reducible apply tq_normal | with_reducible apply tq_ret)
  · have h0 : xs = [] := List.eq_nil_of_length_eq_zero (hb (by assumption))
    subst h0
    (refine rq_le (Le.nilImm (d := 2) rfl) ?_; refine rq_ret rfl ?_)
    exact ⟨rfl, rfl⟩
  · (refine rq_le (Le.frzD (d := 2) (i := 1) rfl rfl) ?_; refine rq_ret rfl ?_)
    refine ⟨?_, (by (exact pur_sl _ _))⟩
    simp only [oneOf, sl, Nat.zero_add]

theorem own_c0 (mm : Nat) (hmm : mm ≤ 1000000) (own_ih : ∀ l, cntL l < mm → PC Tryz.prog 170 [sl cStmt l] (fun r => r = sl cStmt l)) (l : List AL.Stmt) (hs : cntL l ≤ mm) : PC Tryz.prog 170 [sl cStmt l] (fun r => r = sl cStmt l) := by
  have hlen := cntL_len l
  (refine pc_of_aw Tryz.func170 rfl (by simp [Tryz.ntmps170]) ?_; rw [Tryz.ntmps170])
  repeat' (first | (apply id_rw; first | ((apply rx_assignNil (d := 3) (e := 6)); (case hM | hN => rfl)) | (apply rx_move;rfl;rfl) | (apply rx_assign;rfl;rfl) | (apply rx_len;rfl;rfl;rfl) | (apply rw_nil;kernel_rfl)) | (apply id_aw; first | apply aw_seq | apply aw_region | apply aw_block) | with_reducible apply tq_normal)
  refine aw_loopK (σ := Nat × List AL.Stmt) [6, 7] [(6, _), (7, _)] [] [] (fun k => [(8, iv (k.1 : Int)), (3, .own 0 0 k.1 6)]) (fun k => [(0, some (flat cStmt k.2))]) (fun k => k.1 ≤ l.length ∧ k.2 = l.take k.1) (fun k => l.length - k.1) (0, []) ⟨by omega, rfl⟩ rfl rfl (by repeat' (first | exact trivial | refine And.intro rfl ?_)) (by repeat' (first | exact trivial | refine And.intro (.inr rfl) ?_)) ?_
  rintro ⟨k, xs⟩ ⟨hk, hxs⟩
  dsimp only at hk hxs ⊢
  have hck := cntL_at l k
  have hct := cnt_th l[k]!
  have hln : xs.length = k := by rw [hxs, List.length_take]; omega
  repeat' (first | (apply id_rw; first | (apply rx_move;rfl;rfl) | (first | (apply rx_load1;rfl;rfl;rfl;rfl) | (apply rx_loadA;rfl;rfl;(exact (rfl:_=[_, _, _, _, _, _]));rfl;rfl;rfl)) | (apply rx_fieldAddr;rfl;rfl;rfl) | (first | (apply rx_add;rfl;rfl;omega;rfl) | (apply rx_bin;rfl;rfl;rfl;rfl)) | (apply rx_assign;rfl;rfl) | (apply rx_indexFN; (case hx | hi => rfl); (case hm => (omega)); (case hml => (rfl)); (case hα | hf | hg => infer_instance); (case hN => rfl)) | ((with_reducible apply rx_callE (k := 170)); (case ha => rfl); (case h => (apply own_ih <;> (omega))); (case hp => (exact Pur.pf)); (case hN => rfl)) | (apply rx_append;rfl;rfl;rfl;rfl;rfl;(rw [flat_length]; omega);(rfl);omega;omega;(exact app_stmt (by (omega)));rfl;rfl) | (apply rw_nil;kernel_rfl) | (apply rx_alloc;rfl;rfl) | ((apply rx_buildSliceI (t := _)); (case hze | hsm | hl => rfl); (case hfl => (exact (rfl:_=some [_, _, _, _, _, _]))); (case hM | hN => rfl)) | (apply rx_store;rfl;rfl;rfl;rfl;rfl;(case hl => (simp;done));(exact (rfl:_=[_, _, _, _, _, _])))) | (apply id_aw; first | apply aw_seq | apply aw_region | (apply aw_draw;kernel_rfl) | (apply aw_cond;rfl;all_goals intro hc;have hq:=hc;(try simp only [bqs] at hq);try exfalso;omega) | apply aw_block | apply aw_skip | apply aw_exit | apply aw_ret) | with_reducible apply tq_normal | with_reducible apply tq_exit | with_reducible apply bq_normal | with_reducible apply bq_here)
  · (apply ex3 (k + 1, _); focus (refine Le.ren [(0, 3)] rfl (by decide) ?_ ?_ <;> repeat' (first | exact trivial | refine And.intro ⟨_, rfl, ?_⟩ ?_ | refine And.intro ⟨_, _, rfl, rfl, ?_⟩ ?_ | exact Or.inr rfl | refine Or.inl ⟨?_, (by first | rfl | exact pur_sl _ _)⟩ | rfl)))
    · exact ⟨by dsimp only; omega, by dsimp only; rw [hxs, take_succB l k (by omega)]⟩
    · dsimp only; omega
  · have hke : k = l.length := by omega
    (refine rq_le (Le.frzD (d := 2) (i := 0) rfl rfl) ?_; refine rq_ret rfl ?_)
    refine ⟨?_, Pur.pf⟩
    rw [hxs, hke, List.take_length]; rfl
theorem own_c (l : List AL.Stmt) (hb : cntL l ≤ 1000000) : PC Tryz.prog 170 [sl cStmt l] (fun r => r = sl cStmt l) := by
  have key : ∀ m, m ≤ 1000000 → ∀ l, cntL l ≤ m → PC Tryz.prog 170 [sl cStmt l] (fun r => r = sl cStmt l) := by
    intro m
    induction m with
    | zero => intro hm l hl; exact own_c0 0 hm (fun l h => by omega) l hl
    | succ m ih => intro hm l hl; exact own_c0 (m + 1) hm (fun l h => ih (by omega) l (by omega)) l hl
  exact key (cntL l) hb l (Nat.le_refl _)
theorem ownM_c (l : List AL.Stmt) (hs : cntL l ≤ 1000000) : MC Tryz.prog 170 [sl cStmt l] [] 0 (fun _ : Unit => True) (fun _ => .own 0 0 l.length 6) (fun _ => [(0, some (flat cStmt l))]) := by
  have hlen := cntL_len l
  (refine mc_of_aw Tryz.func170 rfl (by simp [Tryz.ntmps170]) ?_; rw [Tryz.ntmps170])
  repeat' (first | (apply id_rw; first | ((apply rx_assignNil (d := 3) (e := 6)); (case hM | hN => rfl)) | (apply rx_move;rfl;rfl) | (apply rx_assign;rfl;rfl) | (apply rx_len;rfl;rfl;rfl) | (apply rw_nil;kernel_rfl)) | (apply id_aw; first | apply aw_seq | apply aw_region | apply aw_block) | with_reducible apply tq_normal)
  refine aw_loopK (σ := Nat × List AL.Stmt) [6, 7] [(6, _), (7, _)] [] [] (fun k => [(8, iv (k.1 : Int)), (3, .own 0 0 k.1 6)]) (fun k => [(0, some (flat cStmt k.2))]) (fun k => k.1 ≤ l.length ∧ k.2 = l.take k.1) (fun k => l.length - k.1) (0, []) ⟨by omega, rfl⟩ rfl rfl (by repeat' (first | exact trivial | refine And.intro rfl ?_)) (by repeat' (first | exact trivial | refine And.intro (.inr rfl) ?_)) ?_
  rintro ⟨k, xs⟩ ⟨hk, hxs⟩
  dsimp only at hk hxs ⊢
  have hck := cntL_at l k
  have hct := cnt_th l[k]!
  have hln : xs.length = k := by rw [hxs, List.length_take]; omega
  have o1 := own_c l[k]!.th
  have o2 := own_c l[k]!.el
  repeat' (first | (apply id_rw; first | ((with_reducible apply rx_callE (k := 170)); (case ha => rfl); (case h => exact (o1 (by omega))); (case hp => (exact Pur.pf)); (case hN => rfl)) | ((with_reducible apply rx_callE (k := 170)); (case ha => rfl); (case h => exact (o2 (by omega))); (case hp => (exact Pur.pf)); (case hN => rfl)) | (apply rx_move;rfl;rfl) | (first | (apply rx_load1;rfl;rfl;rfl;rfl) | (apply rx_loadA;rfl;rfl;(exact (rfl:_=[_, _, _, _, _, _]));rfl;rfl;rfl)) | (apply rx_fieldAddr;rfl;rfl;rfl) | (first | (apply rx_add;rfl;rfl;omega;rfl) | (apply rx_bin;rfl;rfl;rfl;rfl)) | (apply rx_assign;rfl;rfl) | (apply rx_indexFN; (case hx | hi => rfl); (case hm => (omega)); (case hml => (rfl)); (case hα | hf | hg => infer_instance); (case hN => rfl)) | (apply rx_append;rfl;rfl;rfl;rfl;rfl;(rw [flat_length]; omega);(rfl);omega;omega;(exact app_stmt (by (omega)));rfl;rfl) | (apply rw_nil;kernel_rfl) | (apply rx_alloc;rfl;rfl) | ((apply rx_buildSliceI (t := _)); (case hze | hsm | hl => rfl); (case hfl => (exact (rfl:_=some [_, _, _, _, _, _]))); (case hM | hN => rfl)) | (apply rx_store;rfl;rfl;rfl;rfl;rfl;(case hl => (simp;done));(exact (rfl:_=[_, _, _, _, _, _])))) | (apply id_aw; first | apply aw_seq | apply aw_region | (apply aw_draw;kernel_rfl) | (apply aw_cond;rfl;all_goals intro hc;have hq:=hc;(try simp only [bqs] at hq);try exfalso;omega) | apply aw_block | apply aw_skip | apply aw_exit | apply aw_ret) | with_reducible apply tq_normal | with_reducible apply tq_exit | with_reducible apply bq_normal | with_reducible apply bq_here)
  · (apply ex3 (k + 1, _); focus (refine Le.ren [(0, 3)] rfl (by decide) ?_ ?_ <;> repeat' (first | exact trivial | refine And.intro ⟨_, rfl, ?_⟩ ?_ | refine And.intro ⟨_, _, rfl, rfl, ?_⟩ ?_ | exact Or.inr rfl | refine Or.inl ⟨?_, (by first | rfl | exact pur_sl _ _)⟩ | rfl)))
    · exact ⟨by dsimp only; omega, by dsimp only; rw [hxs, take_succB l k (by omega)]⟩
    · dsimp only; omega
  · have hke : k = l.length := by omega
    have hxl : xs = l := by rw [hxs, hke, List.take_length]
    subst hke
    (refine rq_ret rfl ?_; refine mc_ret () trivial ?_ ⟨.inr (Eq.trans (b := some _) rfl ?_), trivial⟩)
    · rfl
    · rw [hxl]
theorem ownP_c (q : Prg) (hs : cntL q.body ≤ 1000000) (ht : q.types.length ≤ 1000000) : PC Tryz.prog 116 [aPrg q] (fun r => r = aPrg q) := by
  have h1 := cloneI_c q.types ht
  have h2 := own_c q.body hs
  (refine pc_of_aw Tryz.func116 rfl (by simp [Tryz.ntmps116]) ?_; rw [Tryz.ntmps116])
  repeat' (first | (apply id_rw; first | ((with_reducible apply rx_callE (k := 169)); (case ha => rfl); (case h => exact h1); (case hp => (exact Pur.pf)); (case hN => rfl)) | ((with_reducible apply rx_callE (k := 170)); (case ha => rfl); (case h => exact h2); (case hp => (exact Pur.pf)); (case hN => rfl)) | (apply rx_load1;rfl;rfl;rfl;rfl) | (apply rx_fieldAddr;rfl;rfl;rfl) | (apply rw_nil;kernel_rfl) | (apply rx_buildK;rfl;(exact (rfl:_=some [_, _]));(exact (rfl:_=[_, _]));rfl) | (apply rx_box;rfl;rfl;rfl;rfl) | (apply rx_alloc;rfl;rfl) | (apply rx_store;rfl;rfl;rfl;rfl;rfl;(case hl => (simp;done));(exact (rfl:_=[_, _])))) | (apply id_aw; first | apply aw_seq | apply aw_region | (apply aw_draw;kernel_rfl) | apply aw_ret) | with_reducible apply tq_normal)
  exact rq_ret (l := [aPrg q]) rfl ⟨rfl, Pur.pf⟩
theorem rx_ownM {l : List AL.Stmt} {N : Nat} {Q : Exit → AS → Prop} {all : Array Oper} {rest : List Oper} {tsl : List (Nat × AV)} {hsl : List (Nat × Option (List AV))} {nidl : Nat} {z0 : Lo} {md : Md} {d : Nat} {ty : TypeId} {pos : String} {af : Array Edge} {tys : Array TypeId} {x0 : Operand} (ha0 : ev (lk tsl) x0 = some (sl cStmt l)) (hmc : MC Tryz.prog 170 [sl cStmt l] [] 0 (fun _ : Unit => True) (fun _ => .own 0 0 l.length 6) (fun _ => [(0, some (flat cStmt l))])) (hM : Nat.ble (nidl + 1) big = true) (hN : Nat.blt d N = true) {md' : Md} [hmd : MdA md (rOs [x0] ++ []) (List.map Sum.inr (List.map Prod.fst ([(nidl, some (flat cStmt l))] : List (Nat × Option (List AV)))) ++ [.inl d]) md'] (kk : RW Tryz.prog N all Q md' rest ⟨(d, .own nidl 0 l.length 6) :: tsl, wrH hsl [(nidl, some (flat cStmt l))], nidl + 1, z0⟩) : RW Tryz.prog N all Q md (⟨some d, .call ⟨.value (.func 170), #[x0], tys⟩, ty, pos, af, none⟩ :: rest) ⟨tsl, hsl, nidl, z0⟩ := by
  refine rx_mcallE [] 1 [(nidl, some (flat cStmt l))] hmc (avs := [sl cStmt l]) ?_ rfl ?_ rfl ?_ (by simpa using hM) ?_ ?_ ?_ hN (md' := md') (hmd := hmd) kk
  · show evL (lk tsl) [x0] = _
    simp only [evL, ha0]
  · exact trivial
  · (repeat' (exact RnL.purI inferInstance))
  · (repeat' (exact RnV.own rfl))
  · simp [wsAll]
  · (repeat' (first | exact trivial | (refine And.intro ⟨0, _, rfl, rfl, ?_⟩ ?_) | exact RnL.purI inferInstance))

theorem rx_ownB {q : Prg} {N : Nat} {Q : Exit → AS → Prop} {all : Array Oper} {rest : List Oper} {tsl : List (Nat × AV)} {hsl : List (Nat × Option (List AV))} {nidl : Nat} {z0 : Lo} {md : Md} {d : Nat} {ty : TypeId} {pos : String} {af : Array Edge} {tys : Array TypeId} {x0 : Operand} (ha0 : ev (lk tsl) x0 = some (aPrg q)) (hmc : MC Tryz.prog 116 [aPrg q] [] 0 (fun _ : Unit => True) (fun _ => .agg [sl cI q.types, .own 2 0 q.body.length 6]) (fun _ => [(2, some (flat cStmt q.body))])) (hM : Nat.ble (nidl + 3) big = true) (hN : Nat.blt d N = true) {md' : Md} [hmd : MdA md (rOs [x0] ++ []) (List.map Sum.inr (List.map Prod.fst ([((nidl + 2), some (flat cStmt q.body))] : List (Nat × Option (List AV)))) ++ [.inl d]) md'] (kk : RW Tryz.prog N all Q md' rest ⟨(d, .agg [sl cI q.types, .own (nidl + 2) 0 q.body.length 6]) :: tsl, wrH hsl [((nidl + 2), some (flat cStmt q.body))], nidl + 3, z0⟩) : RW Tryz.prog N all Q md (⟨some d, .call ⟨.value (.func 116), #[x0], tys⟩, ty, pos, af, none⟩ :: rest) ⟨tsl, hsl, nidl, z0⟩ := by
  refine rx_mcallE [] 3 [((nidl + 2), some (flat cStmt q.body))] hmc (avs := [aPrg q]) ?_ rfl ?_ rfl ?_ (by simpa using hM) ?_ ?_ ?_ hN (md' := md') (hmd := hmd) kk
  · show evL (lk tsl) [x0] = _
    simp only [evL, ha0]
  · exact trivial
  · (repeat' (exact RnL.purI inferInstance))
  · (repeat' (first | exact RnL.purI inferInstance | exact RnV.purI inferInstance | exact RnV.own rfl | refine RnL.cons ?_ ?_ | refine RnV.agg ?_))
  · simp [wsAll]
  · (repeat' (first | exact trivial | (refine And.intro ⟨2, _, rfl, rfl, ?_⟩ ?_) | exact RnL.purI inferInstance))

theorem ownB_c (q : Prg) (hs : cntL q.body ≤ 1000000) (ht : q.types.length ≤ 1000000) : MC Tryz.prog 116 [aPrg q] [] 0 (fun _ : Unit => True) (fun _ => .agg [sl cI q.types, .own 2 0 q.body.length 6]) (fun _ => [(2, some (flat cStmt q.body))]) := by
  have h1 := cloneI_c q.types ht
  (refine mc_of_aw Tryz.func116 rfl (by simp [Tryz.ntmps116]) ?_; rw [Tryz.ntmps116])
  repeat' (first | (apply id_rw; first | ((with_reducible apply rx_callE (k := 169)); (case ha => rfl); (case h => exact h1); (case hp => (exact Pur.pf)); (case hN => rfl)) | (apply rx_ownM;rfl;(apply ownM_c; assumption);rfl;rfl) | (apply rx_load1;rfl;rfl;rfl;rfl) | (apply rx_fieldAddr;rfl;rfl;rfl) | (apply rw_nil;kernel_rfl) | (apply rx_buildK;rfl;(exact (rfl:_=some [_, _]));(exact (rfl:_=[_, _]));rfl) | (apply rx_box;rfl;rfl;rfl;rfl) | (apply rx_alloc;rfl;rfl) | (apply rx_store;rfl;rfl;rfl;rfl;rfl;(case hl => (simp;done));(exact (rfl:_=[_, _])))) | (apply id_aw; first | apply aw_seq | apply aw_region | (apply aw_draw;kernel_rfl) | apply aw_ret) | with_reducible apply tq_normal)
  (refine rq_ret rfl ?_; refine mc_ret () trivial ?_ ⟨.inr (Eq.trans (b := some _) rfl ?_), trivial⟩)
  · rfl
  · rfl
theorem rx_delI {xs : List Int} {m k : Nat} {N : Nat} {Q : Exit → AS → Prop} {all : Array Oper} {rest : List Oper} {tsl : List (Nat × AV)} {hsl : List (Nat × Option (List AV))} {nidl : Nat} {z0 : Lo} {md : Md} {d : Nat} {ty : TypeId} {pos : String} {af : Array Edge} {tys : Array TypeId} {x0 x1 x2 : Operand} {i0 : Nat} (ha0 : ev (lk tsl) x0 = some (.own i0 0 m 1)) (ha1 : ev (lk tsl) x1 = some (iv (k : Int))) (ha2 : ev (lk tsl) x2 = some (iv ((k : Int) + 1))) (hH0 : lkH hsl i0 = some (flat cI xs)) (hmc : MC Tryz.prog 118 [.own 0 0 m 1, iv (k : Int), iv ((k : Int) + 1)] [(0, some (flat cI xs))] 1 (fun _ : Unit => True) (fun _ => .own 0 0 (m - 1) 1) (fun _ => [(0, some (flat cI (delL k xs)))])) (hM : Nat.ble (nidl + 0) big = true) (hN : Nat.blt d N = true) {md' : Md} [hmd : MdA md (rOs [x0, x1, x2] ++ [.inr i0]) (List.map Sum.inr (List.map Prod.fst ([(i0, some (flat cI (delL k xs)))] : List (Nat × Option (List AV)))) ++ [.inl d]) md'] (kk : RW Tryz.prog N all Q md' rest ⟨(d, .own i0 0 (m - 1) 1) :: tsl, wrH hsl [(i0, some (flat cI (delL k xs)))], nidl + 0, z0⟩) : RW Tryz.prog N all Q md (⟨some d, .call ⟨.value (.func 118), #[x0, x1, x2], tys⟩, ty, pos, af, none⟩ :: rest) ⟨tsl, hsl, nidl, z0⟩ := by
  refine rx_mcallE [i0] 1 [(i0, some (flat cI (delL k xs)))] hmc (avs := [.own i0 0 m 1, iv (k : Int), iv ((k : Int) + 1)]) ?_ rfl ?_ rfl ?_ (by simpa using hM) ?_ ?_ ?_ hN (md' := md') (hmd := hmd) kk
  · show evL (lk tsl) [x0, x1, x2] = _
    simp only [evL, ha0, ha1, ha2]
  · exact ⟨⟨_, _, rfl, hH0, by (repeat' (exact RnL.purI inferInstance))⟩, trivial⟩
  · (repeat' (first | exact RnL.purI inferInstance | exact RnV.own rfl | refine RnL.cons ?_ ?_))
  · (repeat' (exact RnV.own rfl))
  · simp [wsAll]
  · (repeat' (first | exact trivial | (refine And.intro ⟨0, _, rfl, rfl, ?_⟩ ?_) | exact RnL.purI inferInstance))

theorem delI_c (xs : List Int) (m k : Nat) (hm : m = xs.length) (hk : k < m) (hl : m ≤ 1000000) : MC Tryz.prog 118 [.own 0 0 m 1, iv (k : Int), iv ((k : Int) + 1)] [(0, some (flat cI xs))] 1 (fun _ : Unit => True) (fun _ => .own 0 0 (m - 1) 1) (fun _ => [(0, some (flat cI (delL k xs)))]) := by
  subst hm
  (refine mc_of_aw Tryz.func118 rfl (by simp [Tryz.ntmps118]) ?_; rw [Tryz.ntmps118])
  repeat' (first | (apply id_rw; first | ((apply rx_slice3 (l := k) (h := k + 1) (k := xs.length)); (case hx => rfl); (case hl => exact bnd_to rfl (by omega)); (case hh => exact bnd_to rfl (by omega)); (case hm => exact bnd_to rfl (by omega)); (case hc => omega); (case hN => rfl)) | ((apply rx_sliceC (d := 22) (h := k)); (case hx => rfl); (case hh => exact bnd_to rfl (by omega)); (case hc => omega); (case h0 => omega); (case hN => rfl)) | ((apply rx_slice (d := 25) (l := k + 1) (h := xs.length)); (case hx | hn => rfl); (case hl => exact bnd_to rfl (by omega)); (case hh => rfl); (case hp => exact if_pos (by omega)); (case hN => rfl)) | ((apply rx_appendIn (d := 26)); (case hx | hy | hH => rfl); (case hs' => exact sC_tail rfl rfl); (case hk => omega); (case hl => (rw [flat_length cI (e := 1), flat_length cI (e := 1), List.length_drop]; omega)); (case hcs => exact spl_del hk); (case hN => rfl)) | (apply rx_lenC;rfl;rfl) | ((apply rx_sliceCC (d := 31) (l := xs.length - 1) (h := xs.length)); (case hx => rfl); (case hl => exact bnd_to rfl (by omega)); (case hh => exact bnd_to rfl (by omega)); (case hc => omega); (case hN => rfl)) | (apply rx_clear;rfl;rfl;omega;rfl;(rw [List.length_append, flat_length cI (e := 1), flat_length cI (e := 1), List.length_drop]; have := delL_len hk; omega);exact spl_clr1 hk (by omega) rfl) | (apply rx_move;rfl;rfl) | (apply rx_bin;rfl;rfl;rfl;rfl) | (apply rx_assign;rfl;rfl) | (apply rx_len;rfl;rfl;rfl) | (apply rw_nil;kernel_rfl)) | (apply id_aw; first | apply aw_seq | apply aw_region | (apply aw_draw;kernel_rfl) | (apply aw_cond;rfl;all_goals intro hc;have hq:=hc;(try simp only [bqs] at hq);try exfalso;omega) | apply aw_skip | apply aw_ret) | with_reducible apply tq_normal)
  refine rq_le (Le.noroom (d := 6) rfl) ?_
  refine rq_le (Le.cut (i := 0) ((xs.length - 1) * 1) rfl) ?_
  (refine rq_ret rfl ?_; refine mc_ret () trivial ?_ ⟨.inr (Eq.trans (b := some _) rfl ?_), trivial⟩)
  · show AV.own 0 0 (k + (xs.length - (k + 1))) 1 = _
    rw [show k + (xs.length - (k + 1)) = xs.length - 1 by omega]
  · rw [List.take_left' (by rw [flat_length cI (e := 1)]; have := delL_len hk; omega)]
theorem rx_delS {xs : List AL.Stmt} {m k : Nat} {N : Nat} {Q : Exit → AS → Prop} {all : Array Oper} {rest : List Oper} {tsl : List (Nat × AV)} {hsl : List (Nat × Option (List AV))} {nidl : Nat} {z0 : Lo} {md : Md} {d : Nat} {ty : TypeId} {pos : String} {af : Array Edge} {tys : Array TypeId} {x0 x1 x2 : Operand} {i0 : Nat} (ha0 : ev (lk tsl) x0 = some (.own i0 0 m 6)) (ha1 : ev (lk tsl) x1 = some (iv (k : Int))) (ha2 : ev (lk tsl) x2 = some (iv ((k : Int) + 1))) (hH0 : lkH hsl i0 = some (flat cStmt xs)) (hmc : MC Tryz.prog 171 [.own 0 0 m 6, iv (k : Int), iv ((k : Int) + 1)] [(0, some (flat cStmt xs))] 1 (fun _ : Unit => True) (fun _ => .own 0 0 (m - 1) 6) (fun _ => [(0, some (flat cStmt (delL k xs)))])) (hM : Nat.ble (nidl + 0) big = true) (hN : Nat.blt d N = true) {md' : Md} [hmd : MdA md (rOs [x0, x1, x2] ++ [.inr i0]) (List.map Sum.inr (List.map Prod.fst ([(i0, some (flat cStmt (delL k xs)))] : List (Nat × Option (List AV)))) ++ [.inl d]) md'] (kk : RW Tryz.prog N all Q md' rest ⟨(d, .own i0 0 (m - 1) 6) :: tsl, wrH hsl [(i0, some (flat cStmt (delL k xs)))], nidl + 0, z0⟩) : RW Tryz.prog N all Q md (⟨some d, .call ⟨.value (.func 171), #[x0, x1, x2], tys⟩, ty, pos, af, none⟩ :: rest) ⟨tsl, hsl, nidl, z0⟩ := by
  refine rx_mcallE [i0] 1 [(i0, some (flat cStmt (delL k xs)))] hmc (avs := [.own i0 0 m 6, iv (k : Int), iv ((k : Int) + 1)]) ?_ rfl ?_ rfl ?_ (by simpa using hM) ?_ ?_ ?_ hN (md' := md') (hmd := hmd) kk
  · show evL (lk tsl) [x0, x1, x2] = _
    simp only [evL, ha0, ha1, ha2]
  · exact ⟨⟨_, _, rfl, hH0, by (repeat' (exact RnL.purI inferInstance))⟩, trivial⟩
  · (repeat' (first | exact RnL.purI inferInstance | exact RnV.own rfl | refine RnL.cons ?_ ?_))
  · (repeat' (exact RnV.own rfl))
  · simp [wsAll]
  · (repeat' (first | exact trivial | (refine And.intro ⟨0, _, rfl, rfl, ?_⟩ ?_) | exact RnL.purI inferInstance))

theorem delS_c (xs : List AL.Stmt) (m k : Nat) (hm : m = xs.length) (hk : k < m) (hl : m ≤ 1000000) : MC Tryz.prog 171 [.own 0 0 m 6, iv (k : Int), iv ((k : Int) + 1)] [(0, some (flat cStmt xs))] 1 (fun _ : Unit => True) (fun _ => .own 0 0 (m - 1) 6) (fun _ => [(0, some (flat cStmt (delL k xs)))]) := by
  subst hm
  (refine mc_of_aw Tryz.func171 rfl (by simp [Tryz.ntmps171]) ?_; rw [Tryz.ntmps171])
  repeat' (first | (apply id_rw; first | ((apply rx_slice3 (l := k) (h := k + 1) (k := xs.length)); (case hx => rfl); (case hl => exact bnd_to rfl (by omega)); (case hh => exact bnd_to rfl (by omega)); (case hm => exact bnd_to rfl (by omega)); (case hc => omega); (case hN => rfl)) | ((apply rx_sliceC (d := 22) (h := k)); (case hx => rfl); (case hh => exact bnd_to rfl (by omega)); (case hc => omega); (case h0 => omega); (case hN => rfl)) | ((apply rx_slice (d := 25) (l := k + 1) (h := xs.length)); (case hx | hn => rfl); (case hl => exact bnd_to rfl (by omega)); (case hh => rfl); (case hp => exact if_pos (by omega)); (case hN => rfl)) | ((apply rx_appendIn (d := 26)); (case hx | hy | hH => rfl); (case hs' => exact sC_tail rfl rfl); (case hk => omega); (case hl => (rw [flat_length cStmt (e := 6), flat_length cStmt (e := 6), List.length_drop]; omega)); (case hcs => exact spl_del hk); (case hN => rfl)) | (apply rx_lenC;rfl;rfl) | ((apply rx_sliceCC (d := 31) (l := xs.length - 1) (h := xs.length)); (case hx => rfl); (case hl => exact bnd_to rfl (by omega)); (case hh => exact bnd_to rfl (by omega)); (case hc => omega); (case hN => rfl)) | (apply rx_clear;rfl;rfl;omega;rfl;(rw [List.length_append, flat_length cStmt (e := 6), flat_length cStmt (e := 6), List.length_drop]; have := delL_len hk; omega);exact spl_clr1 hk (by omega) rfl) | (apply rx_move;rfl;rfl) | (apply rx_bin;rfl;rfl;rfl;rfl) | (apply rx_assign;rfl;rfl) | (apply rx_len;rfl;rfl;rfl) | (apply rw_nil;kernel_rfl)) | (apply id_aw; first | apply aw_seq | apply aw_region | (apply aw_draw;kernel_rfl) | (apply aw_cond;rfl;all_goals intro hc;have hq:=hc;(try simp only [bqs] at hq);try exfalso;omega) | apply aw_skip | apply aw_ret) | with_reducible apply tq_normal)
  refine rq_le (Le.noroom (d := 6) rfl) ?_
  refine rq_le (Le.cut (i := 0) ((xs.length - 1) * 6) rfl) ?_
  (refine rq_ret rfl ?_; refine mc_ret () trivial ?_ ⟨.inr (Eq.trans (b := some _) rfl ?_), trivial⟩)
  · show AV.own 0 0 (k + (xs.length - (k + 1))) 6 = _
    rw [show k + (xs.length - (k + 1)) = xs.length - 1 by omega]
  · rw [List.take_left' (by rw [flat_length cStmt (e := 6)]; have := delL_len hk; omega)]
theorem firstPoint_c (q : Prg) (k : Nat) (hk : k ≤ q.body.length) (hs : cntL q.body ≤ 1000000) : PC Tryz.prog 117 [aPrg q, iv (k : Int)] (fun r => r = iv (npL (q.body.take k) : Int)) := by
  have hlen := cntL_len q.body
  have hc : cntL (List.take ((k : Int).toNat - 0) (List.drop 0 q.body)) ≤ cntL q.body := by
    have h := cntL_append (q.body.take k) (q.body.drop k)
    rw [List.take_append_drop] at h
    rw [List.drop_zero, Nat.sub_zero, Int.toNat_natCast]; omega
  have hn := npL_le (List.take ((k : Int).toNat - 0) (List.drop 0 q.body))
  (refine pc_of_aw Tryz.func117 rfl (by simp [Tryz.ntmps117]) ?_; rw [Tryz.ntmps117])
  repeat' (first | (apply id_rw; first | (apply rx_move;rfl;rfl) | (apply rx_load1;rfl;rfl;rfl;rfl) | (apply rx_fieldAddr;rfl;rfl;rfl) | (apply rx_assign;rfl;rfl) | (apply rx_pointsOfN;rfl;rfl;(apply pointsOfN_c <;> (omega));rfl;rfl) | (apply rx_len;rfl;rfl;rfl) | (apply rw_nil;kernel_rfl) | (apply rx_sliceF;rfl;infer_instance;rfl;rfl;(omega);rfl) | (apply rx_box;rfl;rfl;rfl;rfl)) | (apply id_aw; first | apply aw_seq | apply aw_region | apply aw_ret) | with_reducible apply tq_normal)
  refine rq_ret rfl ⟨?_, rfl⟩
  simp only [oneOf, List.drop_zero, Nat.sub_zero, Int.toNat_natCast]
theorem dropped_c (q : Prg) (k : Nat) (hk : k < q.body.length) (hs : cntL q.body ≤ 1000000) (ht : q.types.length ≤ 1000000) : PC Tryz.prog 119 [aPrg q, iv (k : Int)] (fun r => r = aPrg (dropP q k)) := by
  have hlen := cntL_len q.body
  (refine pc_of_aw Tryz.func119 rfl (by simp [Tryz.ntmps119]) ?_; rw [Tryz.ntmps119])
  repeat' (first | (apply id_rw; first | (apply rx_ownB;rfl;(apply ownB_c <;> omega);rfl;rfl) | (apply rx_move;rfl;rfl) | (first | (apply rx_load1;rfl;rfl;rfl;rfl) | (apply rx_loadA;rfl;rfl;(exact (rfl:_=[_, _]));rfl;rfl;rfl)) | (apply rx_fieldAddr;rfl;rfl;rfl) | (apply rx_add;rfl;rfl;omega;rfl) | (apply rx_delS;rfl;rfl;rfl;(rfl);(apply delS_c <;> (first | assumption | omega));rfl;rfl) | (apply rw_nil;kernel_rfl) | (apply rx_box;rfl;rfl;rfl;rfl) | (apply rx_alloc;rfl;rfl) | (apply rx_store;rfl;rfl;rfl;rfl;rfl;(case hl => (simp;done));(exact (rfl:_=[_, _])))) | (apply id_aw; first | apply aw_seq | apply aw_region | apply aw_ret) | with_reducible apply tq_normal)
  refine rq_le (Le.frzC (j := 1) (i := 4) [sl cI q.types] rfl rfl (by decide)) ?_
  have e : AV.agg [sl cI q.types, .imm (q.body.length - 1) (flat cStmt (delL k q.body))] = aPrg (dropP q k) := by
    have := delL_len hk
    unfold dropP
    dsimp only [aPrg]
    unfold sl
    rw [show (delL k q.body).length = q.body.length - 1 by omega]
  rw [← e]
  exact rq_ret (l := [AV.agg [sl cI q.types, .imm (q.body.length - 1) (flat cStmt (delL k q.body))]]) rfl ⟨rfl, by rw [e]; exact Pur.pf⟩
end Go.Proofs.YtejkbiijonnefaaGreat

namespace Go.Proofs.YtejkbiijonnefaaGreat
open Go.AL Go.RowKit

def FI (q : Prg) (L : List Iss) : Prop := PC Tryz.prog 21 [aPrg q] (fun r => r = sl cIss L) ∧ PC Tryz.prog 33 [aPrg q] (fun r => r = sl cIss L) ∧ L.length ≤ 1000000
theorem FI.ex (q : Prg) (hs : cntL q.body ≤ 1000000) (hl : q.types.length ≤ 1000000) (hv : validF q = true) : ∃ L, FI q L ∧ (∀ x ∈ L, 0 ≤ x.point) ∧ (q.body = [] → L = []) := by
  have w := WG.of_valid hv
  obtain ⟨f⟩ := Flows.ex w
  have e : chkF q f = f.iss := if_pos hv
  refine ⟨f.iss, ⟨by rw [← e]; exact CheckI_c q f hl hs, by rw [← e]; exact CheckS_c q f hl hs, Nat.le_trans (iss_len' w f) (by decide)⟩, fun x hx => ?_, fun hb => iss_empty hb f⟩
  obtain ⟨k, hk, e2⟩ := List.getElem_of_mem hx
  have h := (iss_ok w f).1 k hk
  rw [getB _ _ hk, e2] at h
  exact h.1
def rgN (n : Nat) : List Int := (List.range n).map (fun (i : Nat) => (i : Int))
theorem rgN_succ (n : Nat) : rgN (n + 1) = rgN n ++ [(n : Int)] := by unfold rgN; rw [List.range_succ, List.map_append]; rfl
theorem rgN_len (n : Nat) : (rgN n).length = n := by simp [rgN]
theorem rgN_lf (n : Nat) : rgN n = lfN n [] := by
  unfold rgN lfN; rw [List.filter_eq_self.2 (fun i _ => by simp)]
theorem repairI0_c (p : Prg) (hv : validF p = false) (hl : p.types.length ≤ 1000000) (hs : cntL p.body ≤ 1000000) : PC Tryz.prog 47 [aPrg p] (fun r => r = .tup [aPrg ⟨[], []⟩, sl cI []]) := by
  have hval := validI_c p hl (by omega)
  rw [hv] at hval
  (refine pc_of_aw Tryz.func47 rfl (by simp [Tryz.ntmps47]) ?_; rw [Tryz.ntmps47])
  repeat' (first | (apply id_rw; first | ((with_reducible apply rx_callE (k := 56)); (case ha => rfl); (case h => exact hval); (case hp => (exact Pur.pf)); (case hN => rfl)) | (apply rx_loadA;rfl;rfl;(exact (rfl:_=[_, _]));rfl;rfl;rfl) | (apply rx_assign;rfl;rfl) | (apply rw_nil;kernel_rfl) | (apply rx_buildK;rfl;(exact (rfl:_=some [_, _]));(exact (rfl:_=[_, _]));rfl) | (apply rx_not;rfl;rfl) | (apply rx_box;rfl;rfl;rfl;rfl) | (apply rx_alloc;rfl;rfl) | (apply rx_store;rfl;rfl;rfl;rfl;rfl;(decide);(exact (rfl:_=[_, _])))) | (apply id_aw; first | apply aw_seq | apply aw_region | (apply aw_condT;rfl;(rfl)) | apply aw_ret) | with_reducible apply tq_normal | with_reducible apply tq_ret)
  refine rq_le (Le.nilImm (d := 3) rfl) ?_
  exact rq_ret (l := [.agg [.imm 0 [], .imm 0 []], .imm 0 []]) rfl ⟨rfl, rfl⟩
theorem repairI_c (p : Prg) (hv : validF p = true) (hl : p.types.length ≤ 1000000) (hs : cntL p.body ≤ 1000000) (Q : Prg) (M : List Int) (hR : RepS FI p (lfN p.body.length []) [] Q M) : PC Tryz.prog 47 [aPrg p] (fun r => r = .tup [aPrg Q, sl cI M]) := by
  have hval := validI_c p hl (by omega)
  rw [hv] at hval
  have hown := ownP_c p hs hl
  have hlen := cntL_len p.body
  (refine pc_of_aw Tryz.func47 rfl (by simp [Tryz.ntmps47]) ?_; rw [Tryz.ntmps47])
  repeat' (first | (apply id_rw; first | ((with_reducible apply rx_callE (k := 56)); (case ha => rfl); (case h => exact hval); (case hp => (exact Pur.pf)); (case hN => rfl)) | ((with_reducible apply rx_callE (k := 116)); (case ha => rfl); (case h => exact hown); (case hp => (exact Pur.pf)); (case hN => rfl)) | ((apply rx_assignNil (d := 5) (e := 1)); (case hM | hN => rfl)) | ((apply rx_assignNil (d := 6) (e := 1)); (case hM | hN => rfl)) | (apply rx_move;rfl;rfl) | (first | (apply rx_load1;rfl;rfl;rfl;rfl) | (apply rx_loadA;rfl;rfl;(exact (rfl:_=[_, _]));rfl;rfl;rfl)) | (apply rx_fieldAddr;rfl;rfl;rfl) | (apply rx_assign;rfl;rfl) | (apply rx_len;rfl;rfl;rfl) | (apply rw_nil;kernel_rfl) | (apply rx_not;rfl;rfl) | (apply rx_box;rfl;rfl;rfl;rfl) | (apply rx_alloc;rfl;rfl) | (apply rx_store;rfl;rfl;rfl;rfl;rfl;(case hl => (simp;done));(exact (rfl:_=[_, _])))) | (apply id_aw; first | apply aw_seq | apply aw_region | (apply aw_condF;rfl;(rfl)) | apply aw_block | apply aw_skip) | with_reducible apply tq_normal)
  refine aw_loopK (σ := Nat × List Int) [2, 4, 6, 19] [(2, _), (4, _), (6, _), (19, _)] [4, 2, 1, 0] [(4, some _), (2, some _), (1, some _), (0, some _)] (fun k => [(20, iv (k.1 : Int)), (5, .own 3 0 k.1 1)]) (fun k => [(3, some (flat cI k.2))]) (fun k => k.1 ≤ p.body.length ∧ k.2 = rgN k.1) (fun k => p.body.length - k.1) (0, []) ⟨Nat.zero_le _, rfl⟩ rfl rfl (by repeat' (first | exact trivial | refine And.intro rfl ?_)) (by repeat' (first | exact trivial | refine And.intro (.inr rfl) ?_)) ?_
  rintro ⟨k, u⟩ ⟨hk, hu⟩
  dsimp only at hk hu
  try dsimp only
  have hrn := rgN_len k
  rw [← hu] at hrn
  have hrs := rgN_succ k
  by_cases hkn : k < p.body.length
  · repeat' (first | (apply id_rw; first | (apply rx_move;rfl;rfl) | (first | (apply rx_add;rfl;rfl;omega;rfl) | (apply rx_bin;rfl;rfl;rfl;rfl)) | (apply rx_assign;rfl;rfl) | (apply rx_append;rfl;rfl;rfl;rfl;rfl;(rw [flat_length]; omega);(rfl);omega;omega;(exact app_int (by (omega)));rfl;rfl) | (apply rw_nil;kernel_rfl) | ((apply rx_buildSliceI (t := _)); (case hze | hsm | hl => rfl); (case hfl => exact (rfl:_=some [_])); (case hM | hN => rfl))) | (apply id_aw; first | apply aw_seq | apply aw_region | (apply aw_cond;rfl;all_goals intro hc;have hq:=hc;(try simp only [bqs] at hq);try exfalso;omega) | apply aw_block | apply aw_skip) | with_reducible apply tq_normal | with_reducible apply bq_normal)
    (apply ex3 (k + 1, _); focus (refine Le.ren [(0, 0), (1, 1), (2, 2), (4, 4), (3, 6)] rfl (by decide) ?_ ?_ <;> repeat' (first | exact trivial | refine And.intro ⟨_, rfl, ?_⟩ ?_ | refine And.intro ⟨_, _, rfl, rfl, ?_⟩ ?_ | exact Or.inr rfl | refine Or.inl ⟨?_, (by first | rfl | exact pur_sl _ _ | exact Pur.pf)⟩ | rfl)))
    · exact ⟨hkn, by dsimp only; rw [hrs, hu]⟩
    · show p.body.length - (k + 1) < p.body.length - k; omega
  · obtain rfl : k = p.body.length := by omega
    subst hu
    repeat' (first | (apply id_rw; first | (apply rx_bin;rfl;rfl;rfl;rfl) | (apply rw_nil;kernel_rfl)) | (apply id_aw; first | apply aw_seq | apply aw_region | (apply aw_cond;rfl;all_goals intro hc;have hq:=hc;(try simp only [bqs] at hq);try exfalso;omega) | apply aw_block | apply aw_exit) | with_reducible apply tq_normal | with_reducible apply tq_exit | with_reducible apply bq_here)
    refine aw_loopK (σ := List AL.Stmt × List Int × List Int × Nat × Nat) [2, 4] [(2, _), (4, _)] [1, 0] [(1, some _), (0, some _)] (fun s => [(5, .own 3 0 s.2.2.2.1 1), (6, .own 4 0 s.2.2.2.2 1)]) (fun s => [(2, some [sl cI p.types, sl cStmt s.1]), (3, some (flat cI s.2.1)), (4, some (flat cI s.2.2.1))]) (fun s => RepS FI ⟨p.types, s.1⟩ s.2.1 s.2.2.1 Q M ∧ s.2.1.length = s.1.length ∧ validF ⟨p.types, s.1⟩ = true ∧ cntL s.1 ≤ cntL p.body ∧ s.2.2.2.1 = s.2.1.length ∧ s.2.2.2.2 = s.2.2.1.length ∧ s.2.2.1.length + s.1.length = p.body.length) (fun s => s.1.length) (p.body, rgN p.body.length, [], p.body.length, 0) ⟨by rw [rgN_lf]; exact hR, hrn, hv, Nat.le_refl _, hrn.symm, rfl, Nat.zero_add _⟩ rfl rfl (by repeat' (first | exact trivial | refine And.intro rfl ?_)) (by repeat' (first | exact trivial | refine And.intro (.inr rfl) ?_)) ?_
    rintro ⟨b, l, m, ln, mn⟩ ⟨hR1, h1, h2, h3, h4, h5, h6⟩
    dsimp only at hR1 h1 h2 h3 h4 h5 h6
    try dsimp only
    rcases hR1.inv with ⟨hF, rfl, rfl⟩ | ⟨x, L, k, hF, hk, hr⟩
    · have hfi := FirstI2_c ⟨p.types, b⟩ [] hF.1
      repeat' (first | (apply id_rw; first | ((with_reducible apply rx_callE (k := 15)); (case ha => rfl); (case h => exact hfi); (case hp => (exact Pur.pf)); (case hN => rfl)) | (apply rx_move;rfl;rfl) | (apply rx_loadA;rfl;rfl;(exact (rfl:_=[_, _]));rfl;rfl;rfl) | (apply rx_assign;rfl;rfl) | (apply rw_nil;kernel_rfl) | (apply rx_not;rfl;rfl) | (apply rx_alloc;rfl;rfl) | (apply rx_extract;rfl;rfl;rfl) | (apply rx_store;rfl;rfl;rfl;rfl;rfl;(case hl => (first | decide | (simp;done)));(first | exact (rfl:_=[_, _]) | exact (rfl:_=[_, _, _])))) | (apply id_aw; first | apply aw_seq | apply aw_region | (apply aw_condT;rfl;(rfl)) | apply aw_block | apply aw_ret) | with_reducible apply tq_normal | with_reducible apply tq_ret | with_reducible apply bq_ret)
      refine rq_le (Le.frzD (d := 3) (i := 4) rfl rfl) ?_
      refine rq_ret (l := [.agg [sl cI p.types, sl cStmt b], .imm mn (flat cI M)]) rfl ⟨?_, (by (exact Pur.pf))⟩
      simp only [oneOf, sl, h5]
    · have hfi : PC Tryz.prog 15 [aPrg ⟨p.types, b⟩] (fun r => r = .tup [aIss x, bv true]) := FirstI2_c ⟨p.types, b⟩ (x :: L) hF.1
      have hkl := hk.lt
      dsimp only at hkl
      have hx0 : 0 ≤ x.point := by have := hk.lo; omega
      have hbl := cntL_len b
      repeat' (first | (apply id_rw; first | ((with_reducible apply rx_callE (k := 15)); (case ha => rfl); (case h => exact hfi); (case hp => (exact Pur.pf)); (case hN => rfl)) | (apply rx_move;rfl;rfl) | (apply rx_loadA;rfl;rfl;(exact (rfl:_=[_, _]));rfl;rfl;rfl) | (apply rx_assign;rfl;rfl) | (apply rw_nil;kernel_rfl) | (apply rx_not;rfl;rfl) | (apply rx_alloc;rfl;rfl) | (apply rx_extract;rfl;rfl;rfl) | (apply rx_store;rfl;rfl;rfl;rfl;rfl;(case hl => (simp;done));(exact (rfl:_=[_, _, _])))) | (apply id_aw; first | apply aw_seq | apply aw_region | (apply aw_condF;rfl;(rfl)) | apply aw_block | apply aw_skip) | with_reducible apply tq_normal)
      refine aw_loopK (σ := Nat) [2, 4, 5, 6, 8] [(2, _), (4, _), (5, _), (6, _), (8, _)] [5, 4, 3, 2, 1, 0] [(5, some _), (4, some _), (3, some _), (2, some _), (1, some _), (0, some _)] (fun j => [(10, iv (j : Int))]) (fun j => []) (fun j => j < b.length ∧ (npL (b.take j) : Int) ≤ x.point) (fun j => b.length - j) (0) ⟨by omega, by simpa [npL] using hx0⟩ rfl rfl (by repeat' (first | exact trivial | refine And.intro rfl ?_)) (by repeat' (exact trivial)) ?_
      intro j ⟨hj, hjx⟩
      have hdr : PC Tryz.prog 119 [aPrg ⟨p.types, b⟩, iv (j : Int)] (fun r => r = .agg [sl cI p.types, sl cStmt (delL j b)]) := dropped_c ⟨p.types, b⟩ j hj (by show cntL b ≤ _; omega) hl
      by_cases hjn : j + 1 < b.length
      · have hfp : PC Tryz.prog 117 [aPrg ⟨p.types, b⟩, iv ((j : Int) + 1)] (fun r => r = iv (npL (b.take (j + 1)) : Int)) := firstPoint_c ⟨p.types, b⟩ (j + 1) (by show j + 1 ≤ b.length; omega) (by show cntL b ≤ _; omega)
        repeat' (first | (apply id_rw; first | ((with_reducible apply rx_callE (k := 117)); (case ha => rfl); (case h => exact hfp); (case hp => (exact Pur.pf)); (case hN => rfl)) | ((with_reducible apply rx_callE (k := 119)); (case ha => rfl); (case h => exact hdr); (case hp => (exact Pur.pf)); (case hN => rfl)) | (apply rx_move;rfl;rfl) | (first | (apply rx_loadF0; (case hx | hH => rfl); (case hf | hg | hα => infer_instance); (case hk => omega); (case hc | hN => rfl)) | (apply rx_load1;rfl;rfl;rfl;rfl) | (apply rx_loadA;rfl;rfl;(exact (rfl:_=[_, _]));rfl;rfl;rfl)) | (apply rx_fieldAddr;rfl;rfl;rfl) | (first | (apply rx_guardY;rfl;rfl;rfl;(assumption)) | (apply rx_guardS; (case hj | hb | hN => rfl); all_goals (intro hg; have hq := hg; (try simp only [bqs] at hq); (try (exfalso; omega))))) | (first | (apply rx_add;rfl;rfl;omega;rfl) | (apply rx_bin;rfl;rfl;rfl;rfl)) | (apply rx_assign;rfl;rfl) | (apply rx_pickT;rfl;(assumption);rfl;rfl) | (apply rx_indexON;rfl;rfl;(omega);rfl) | (apply rx_delI;rfl;rfl;rfl;(rfl);(apply delI_c <;> (first | assumption | omega));rfl;rfl) | (first | (apply rx_len;rfl;rfl;rfl) | (apply rx_append;rfl;rfl;rfl;rfl;rfl;(rw [flat_length]; omega);(rfl);omega;omega;(exact app_int (by (assumption)));rfl;rfl)) | (apply rw_nil;kernel_rfl) | (apply rx_buildSlice;rfl;rfl;rfl;exact (rfl:_=some [_]);rfl;rfl) | (apply rx_store;rfl;rfl;rfl;rfl;rfl;(case hl => (simp;done));(exact (rfl:_=[_, _])))) | (apply id_aw; first | apply aw_seq | apply aw_region | (apply aw_draw;kernel_rfl) | (apply aw_cond;rfl;all_goals intro hc;have hq:=hc;(try simp only [bqs] at hq);try exfalso;omega) | apply aw_block | apply aw_skip | apply aw_exit) | with_reducible apply tq_normal | with_reducible apply tq_exit | with_reducible apply bq_normal | with_reducible apply bq_here)
        · (apply ex3 (j + 1); focus (refine Le.ren [(0, 0), (1, 1), (2, 2), (3, 3), (4, 4), (5, 5)] rfl (by decide) ?_ ?_ <;> repeat' (first | exact trivial | refine And.intro ⟨_, rfl, ?_⟩ ?_ | refine And.intro ⟨_, _, rfl, rfl, ?_⟩ ?_ | exact Or.inr rfl | refine Or.inl ⟨?_, (by first | rfl | exact pur_sl _ _ | exact Pur.pf)⟩ | rfl)))
          · exact ⟨hjn, by assumption⟩
          · omega
        · have e : j = k := AtS.uniq ⟨hj, hjx, fun _ => by assumption⟩ hk
          subst e
          (apply ex3 (delL j b, delL j l, m ++ [l[j]!], ln - 1, mn + 1); focus (refine Le.ren [(0, 0), (1, 1), (2, 2), (3, 3), (4, 7)] rfl (by decide) ?_ ?_ <;> repeat' (first | exact trivial | refine And.intro ⟨_, rfl, ?_⟩ ?_ | refine And.intro ⟨_, _, rfl, rfl, ?_⟩ ?_ | exact Or.inr rfl | refine Or.inl ⟨?_, (by first | rfl | exact pur_sl _ _ | exact Pur.pf)⟩ | rfl)))
          · have d1 := delL_len (k := j) (xs := b) hj
            have d2 := delL_len (k := j) (xs := l) (by omega)
            have d3 := cntL_delL b j
            exact ⟨hr, by dsimp only; omega, dropP_valid h2, by dsimp only; omega, by dsimp only; omega, by simp [h5], by simp; omega⟩
          · have d1 := delL_len (k := j) (xs := b) hj
            dsimp only; omega
      · repeat' (first | (apply id_rw; first | ((with_reducible apply rx_callE (k := 119)); (case ha => rfl); (case h => exact hdr); (case hp => (exact Pur.pf)); (case hN => rfl)) | (apply rx_move;rfl;rfl) | (first | (apply rx_loadF0; (case hx | hH => rfl); (case hf | hg | hα => infer_instance); (case hk => omega); (case hc | hN => rfl)) | (apply rx_load1;rfl;rfl;rfl;rfl) | (apply rx_loadA;rfl;rfl;(exact (rfl:_=[_, _]));rfl;rfl;rfl)) | (apply rx_fieldAddr;rfl;rfl;rfl) | (first | (apply rx_guardNs;rfl;rfl;rfl;(assumption)) | (apply rx_guardS; (case hj | hb | hN => rfl); all_goals (intro hg; have hq := hg; (try simp only [bqs] at hq); (try (exfalso; omega))))) | (first | (apply rx_add;rfl;rfl;omega;rfl) | (apply rx_bin;rfl;rfl;rfl;rfl)) | (apply rx_assign;rfl;rfl) | (apply rx_pickF;rfl;(assumption);rfl;rfl) | (apply rx_indexON;rfl;rfl;(omega);rfl) | (apply rx_delI;rfl;rfl;rfl;(rfl);(apply delI_c <;> (first | assumption | omega));rfl;rfl) | (first | (apply rx_len;rfl;rfl;rfl) | (apply rx_append;rfl;rfl;rfl;rfl;rfl;(rw [flat_length]; omega);(rfl);omega;omega;(exact app_int (by (assumption)));rfl;rfl)) | (apply rw_nil;kernel_rfl) | (apply rx_buildSlice;rfl;rfl;rfl;exact (rfl:_=some [_]);rfl;rfl) | (apply rx_store;rfl;rfl;rfl;rfl;rfl;(case hl => (simp;done));(exact (rfl:_=[_, _])))) | (apply id_aw; first | apply aw_seq | apply aw_region | (apply aw_draw;kernel_rfl) | (apply aw_condF;rfl;(rfl)) | apply aw_exit) | with_reducible apply tq_normal | with_reducible apply tq_exit | with_reducible apply bq_normal | with_reducible apply bq_here)
        have e : j = k := AtS.uniq ⟨hj, hjx, fun h => absurd h hjn⟩ hk
        subst e
        (apply ex3 (delL j b, delL j l, m ++ [l[j]!], ln - 1, mn + 1); focus (refine Le.ren [(0, 0), (1, 1), (2, 2), (3, 3), (4, 7)] rfl (by decide) ?_ ?_ <;> repeat' (first | exact trivial | refine And.intro ⟨_, rfl, ?_⟩ ?_ | refine And.intro ⟨_, _, rfl, rfl, ?_⟩ ?_ | exact Or.inr rfl | refine Or.inl ⟨?_, (by first | rfl | exact pur_sl _ _ | exact Pur.pf)⟩ | rfl)))
        · have d1 := delL_len (k := j) (xs := b) hj
          have d2 := delL_len (k := j) (xs := l) (by omega)
          have d3 := cntL_delL b j
          exact ⟨hr, by dsimp only; omega, dropP_valid h2, by dsimp only; omega, by dsimp only; omega, by simp [h5], by simp; omega⟩
        · have d1 := delL_len (k := j) (xs := b) hj
          dsimp only; omega
end Go.Proofs.YtejkbiijonnefaaGreat

namespace Go.Proofs.YtejkbiijonnefaaGreat
open Go.AL Go.RowKit

theorem npL_drop1 (b : List AL.Stmt) (k : Nat) (hk : k < b.length) : npL ((b.drop k).take 1) = npS b[k]! := by
  have : (b.drop k).take 1 = [b[k]!] := by
    rw [List.drop_eq_getElem_cons hk, getB _ _ hk]; rfl
  rw [this]; simp [npL]
theorem l5Stmt_c (q : Prg) (x : Int) (k : Nat) (hk : AtS q.body x k) (hs : cntL q.body ≤ 1000000) : PC Tryz.prog 112 [aPrg q, iv x] (fun r => r = iv (k : Int)) := by
  have hlen := cntL_len q.body
  have hnp := npL_le q.body
  have hlt := hk.lt
  (refine pc_of_aw Tryz.func112 rfl (by simp [Tryz.ntmps112]) ?_; rw [Tryz.ntmps112])
  repeat' (first | (apply id_rw; first | (apply rx_assign;rfl;rfl) | (apply rw_nil;kernel_rfl) | (apply rx_box;rfl;rfl;rfl;rfl)) | (apply id_aw; first | apply aw_seq | apply aw_region | apply aw_block) | with_reducible apply tq_normal)
  refine aw_loopK (σ := Nat × Int) [1, 2] [(1, _), (2, _)] [0] [(0, some _)] (fun s => [(6, iv (s.1 : Int)), (5, iv s.2)]) (fun s => []) (fun s => s.1 ≤ q.body.length ∧ s.2 = (npL (q.body.take s.1) : Int) ∧ s.2 ≤ x) (fun s => q.body.length - s.1) (0, 0) ⟨Nat.zero_le _, by simp [npL], by have := hk.lo; show (0 : Int) ≤ x; omega⟩ rfl rfl (by repeat' (first | exact trivial | refine And.intro rfl ?_)) (by repeat' (exact trivial)) ?_
  rintro ⟨j, nn⟩ ⟨hj, hnn, hjx⟩
  dsimp only at hj hnn hjx
  try dsimp only
  have e1 : (((j : Int) + 1).toNat - (j : Int).toNat) = 1 := by omega
  have hc := cntL_at q.body j
  by_cases hjn : j < q.body.length
  · have hd := npL_drop1 q.body j hjn
    have ht := npL_take q.body j hjn
    have hle := npL_take_le q.body (j + 1)
    have hcl : List.take (((j : Int) + 1).toNat - (j : Int).toNat) (List.drop (j : Int).toNat q.body) = (q.body.drop j).take 1 := by rw [e1, Int.toNat_natCast]
    have hcd : cntL ((q.body.drop j).take 1) ≤ cntL q.body := by
      have h1 := cntL_append (q.body.take j) (q.body.drop j)
      have h2 := cntL_append ((q.body.drop j).take 1) ((q.body.drop j).drop 1)
      rw [List.take_append_drop] at h1 h2
      omega
    repeat' (first | (apply id_rw; first | (with_reducible apply rw_stop (d := 22)) | (apply rx_move;rfl;rfl) | (apply rx_load1;rfl;rfl;rfl;rfl) | (apply rx_fieldAddr;rfl;rfl;rfl) | (first | (apply rx_add;rfl;rfl;omega;rfl) | (apply rx_bin;rfl;rfl;rfl;rfl)) | (apply rx_len;rfl;rfl;rfl) | (apply rw_nil;kernel_rfl) | (apply rx_sliceF;rfl;infer_instance;rfl;rfl;(omega);rfl) | (apply rx_buildSlice;rfl;rfl;rfl;(rfl);rfl;rfl)) | (apply id_aw; first | apply aw_seq | apply aw_region | (apply aw_cond;rfl;all_goals intro hc;have hq:=hc;(try simp only [bqs] at hq);try exfalso;omega) | apply aw_block | apply aw_skip) | with_reducible apply tq_normal)
    refine rw_go ?_
    rw [hcl]
    repeat' (first | (apply id_rw; first | (apply rx_move;rfl;rfl) | (first | (apply rx_add;rfl;rfl;omega;rfl) | (apply rx_bin;rfl;rfl;rfl;rfl)) | (apply rx_assign;rfl;rfl) | (apply rx_l2Add;rfl;rfl;(exact flat_nilH rfl);(apply l2Add_c <;> (first | omega | (simp only [lns] <;> omega)));rfl;rfl) | (apply rx_len;rfl;rfl;rfl) | (apply rw_nil;kernel_rfl)) | (apply id_aw; first | apply aw_seq | apply aw_region | (apply aw_cond;rfl;all_goals intro hc;have hq:=hc;(try simp only [bqs] at hq);try exfalso;omega) | apply aw_skip | apply aw_ret) | with_reducible apply tq_normal | with_reducible apply tq_ret | with_reducible apply bq_normal | with_reducible apply bq_ret)
    · refine rq_ret rfl ⟨?_, rfl⟩
      have e : j = k := AtS.uniq ⟨hjn, by omega, fun _ => by rw [ht, ← hd]; omega⟩ hk
      simp only [oneOf]; rw [e]
    · (apply ex3 (j + 1, _); focus (refine Le.ren [(0, 0)] rfl (by decide) ?_ ?_ <;> repeat' (first | exact trivial | refine And.intro ⟨_, rfl, ?_⟩ ?_ | refine And.intro ⟨_, _, rfl, rfl, ?_⟩ ?_ | exact Or.inr rfl | refine Or.inl ⟨?_, (by first | rfl | exact Pur.pf)⟩ | rfl)))
      · exact ⟨hjn, by dsimp only; rw [ht, ← hd, hnn]; omega, by dsimp only; omega⟩
      · dsimp only; omega
  · repeat' (first | (apply id_rw; first | (apply rx_move;rfl;rfl) | (apply rx_load1;rfl;rfl;rfl;rfl) | (apply rx_fieldAddr;rfl;rfl;rfl) | (first | (apply rx_sub;rfl;rfl;omega;rfl) | (apply rx_bin;rfl;rfl;rfl;rfl)) | (apply rx_assign;rfl;rfl) | (apply rx_len;rfl;rfl;rfl) | (apply rw_nil;kernel_rfl)) | (apply id_aw; first | apply aw_seq | apply aw_region | (apply aw_cond;rfl;all_goals intro hc;have hq:=hc;(try simp only [bqs] at hq);try exfalso;omega) | apply aw_exit | apply aw_ret) | with_reducible apply tq_normal | with_reducible apply tq_exit | with_reducible apply bq_here)
    refine rq_ret rfl ⟨?_, rfl⟩
    have hjj : j = q.body.length := by omega
    subst hjj
    by_cases h : k + 1 < q.body.length
    · exfalso
      have h1 := npL_mono q.body (i := k + 1) (j := q.body.length) (by omega)
      have h2 := hk.hi h
      omega
    · simp only [oneOf]
      rw [show (q.body.length : Int) - 1 = (k : Int) by omega]
theorem dropS_c (q : Prg) (k : Nat) (hv : validF q = true) (hk : k < q.body.length) (hs : cntL q.body ≤ 1000000) (ht : q.types.length ≤ 1000000) : PC Tryz.prog 113 [aPrg q, iv (k : Int)] (fun r => r = .tup [aPrg (dropP q k), bv true]) := by
  have hlen := cntL_len q.body
  have hval := validS_c q ht (by omega)
  rw [hv] at hval
  (refine pc_of_aw Tryz.func113 rfl (by simp [Tryz.ntmps113]) ?_; rw [Tryz.ntmps113])
  repeat' (first | (apply id_rw; first | ((with_reducible apply rx_callE (k := 61)); (case ha => rfl); (case h => exact hval); (case hp => (exact Pur.pf)); (case hN => rfl)) | ((apply rx_slice (d := 27) (l := 0) (h := k)); (case hx | hn | hl => rfl); (case hh => exact bnd_to rfl rfl); (case hp => exact if_pos (by omega)); (case hN => rfl)) | ((apply rx_slice (d := 32) (l := k + 1) (h := q.body.length)); (case hx | hn => rfl); (case hl => exact bnd_to rfl (by omega)); (case hh => rfl); (case hp => exact if_pos (by omega)); (case hN => rfl)) | ((apply rx_append (d := 33)); (case hx | hy | hze | he0 | hH => rfl); (case hl => (rw [flat_length cStmt (e := 6)]; omega)); (case hs' => exact sC_tail rfl rfl); (case hbig => omega); (case hmx => omega); (case hcs => exact app_del (k := k) (by omega)); (case hM | hN => rfl)) | (apply rx_move;rfl;rfl) | (first | (apply rx_load1;rfl;rfl;rfl;rfl) | (apply rx_loadA;rfl;rfl;(exact (rfl:_=[_, _]));rfl;rfl;rfl)) | (apply rx_fieldAddr;rfl;rfl;rfl) | (apply rx_guardY;rfl;rfl;rfl;(rfl)) | (first | (apply rx_add;rfl;rfl;omega;rfl) | (apply rx_bin;rfl;rfl;rfl;rfl)) | (apply rx_assign;rfl;rfl) | (apply rx_pickF;rfl;(rfl);rfl;rfl) | (apply rx_copyOf;rfl;(apply copyOf_c <;> (assumption));rfl;rfl) | (apply rx_len;rfl;rfl;rfl) | (apply rw_nil;kernel_rfl) | (apply rx_not;rfl;rfl) | (apply rx_box;rfl;rfl;rfl;rfl) | (apply rx_alloc;rfl;rfl) | (apply rx_store;rfl;rfl;rfl;rfl;rfl;(case hl => (simp;done));(exact (rfl:_=[_, _])))) | (apply id_aw; first | apply aw_seq | apply aw_region | (apply aw_draw;kernel_rfl) | (apply aw_cond;rfl;all_goals intro hc;have hq:=hc;(try simp only [bqs] at hq);try exfalso;omega) | apply aw_skip | apply aw_ret) | with_reducible apply tq_normal)
  refine rq_le (Le.frzC (j := 1) (i := 5) [] rfl rfl (by decide)) ?_
  refine rq_le (Le.frzC (j := 1) (i := 8) [.imm _ _] rfl rfl (by decide)) ?_
  have e : AV.agg [sl cI q.types, .imm (k - 0 + (q.body.length - (k + 1))) (flat cStmt (delL k q.body))] = aPrg (dropP q k) := by
    have := delL_len hk
    unfold dropP
    dsimp only [aPrg]
    unfold sl
    rw [show (delL k q.body).length = k - 0 + (q.body.length - (k + 1)) by omega]
  rw [← e]
  exact rq_ret (l := [AV.agg [sl cI q.types, .imm (k - 0 + (q.body.length - (k + 1))) (flat cStmt (delL k q.body))], bv true]) rfl ⟨rfl, by rw [e]; exact Pur.pf⟩
theorem repairS0_c (p : Prg) (hv : validF p = false) (hl : p.types.length ≤ 1000000) (hs : cntL p.body ≤ 1000000) : PC Tryz.prog 45 [aPrg p] (fun r => r = .tup [aPrg ⟨[], []⟩, sl cI []]) := by
  have hval := validS_c p hl (by omega)
  rw [hv] at hval
  (refine pc_of_aw Tryz.func45 rfl (by simp [Tryz.ntmps45]) ?_; rw [Tryz.ntmps45])
  repeat' (first | (apply id_rw; first | ((with_reducible apply rx_callE (k := 61)); (case ha => rfl); (case h => exact hval); (case hp => (exact Pur.pf)); (case hN => rfl)) | (apply rx_move;rfl;rfl) | (apply rx_loadA;rfl;rfl;(exact (rfl:_=[_, _]));rfl;rfl;rfl) | (apply rx_assign;rfl;rfl) | (apply rw_nil;kernel_rfl) | (apply rx_buildK;rfl;(exact (rfl:_=some [_, _]));(exact (rfl:_=[_, _]));rfl) | (apply rx_not;rfl;rfl) | (apply rx_box;rfl;rfl;rfl;rfl) | (apply rx_alloc;rfl;rfl) | ((apply rx_buildSliceI (t := _)); (case hze | hsm | hl => rfl); (case hfl => (rfl)); (case hM | hN => rfl)) | (apply rx_store;rfl;rfl;rfl;rfl;rfl;(decide);(exact (rfl:_=[_, _])))) | (apply id_aw; first | apply aw_seq | apply aw_region | (apply aw_condT;rfl;(rfl)) | apply aw_ret) | with_reducible apply tq_normal | with_reducible apply tq_ret)
  exact rq_ret (l := [.agg [.imm 0 [], .imm 0 []], .imm 0 []]) rfl ⟨rfl, rfl⟩
theorem repairS_c (p : Prg) (hv : validF p = true) (hl : p.types.length ≤ 1000000) (hs : cntL p.body ≤ 1000000) (Q : Prg) (M : List Int) (hR : RepS FI p (lfN p.body.length []) [] Q M) : PC Tryz.prog 45 [aPrg p] (fun r => r = .tup [aPrg Q, sl cI M]) := by
  have hval := validS_c p hl (by omega)
  rw [hv] at hval
  have hlen := cntL_len p.body
  (refine pc_of_aw Tryz.func45 rfl (by simp [Tryz.ntmps45]) ?_; rw [Tryz.ntmps45])
  repeat' (first | (apply id_rw; first | ((with_reducible apply rx_callE (k := 61)); (case ha => rfl); (case h => exact hval); (case hp => (exact Pur.pf)); (case hN => rfl)) | (apply rx_loadA;rfl;rfl;(exact (rfl:_=[_, _]));rfl;rfl;rfl) | (apply rx_assign;rfl;rfl) | (apply rw_nil;kernel_rfl) | (apply rx_not;rfl;rfl) | (apply rx_box;rfl;rfl;rfl;rfl) | (apply rx_alloc;rfl;rfl) | (apply rx_buildSlice;rfl;rfl;rfl;(rfl);rfl;rfl)) | (apply id_aw; first | apply aw_seq | apply aw_region | (apply aw_condF;rfl;(rfl)) | apply aw_block | apply aw_skip) | with_reducible apply tq_normal)
  refine aw_loopK (σ := Nat × List Int) [1, 2, 4] [(1, _), (2, _), (4, _)] [2, 1, 0] [(2, some _), (1, some _), (0, some _)] (fun k => [(6, iv (k.1 : Int)), (5, .own 3 0 k.1 1)]) (fun k => [(3, some (flat cI k.2))]) (fun k => k.1 ≤ p.body.length ∧ k.2 = rgN k.1) (fun k => p.body.length - k.1) (0, []) ⟨Nat.zero_le _, rfl⟩ rfl rfl (by repeat' (first | exact trivial | refine And.intro rfl ?_)) (by repeat' (first | exact trivial | refine And.intro (.inr rfl) ?_)) ?_
  rintro ⟨k, u⟩ ⟨hk, hu⟩
  dsimp only at hk hu
  try dsimp only
  have hrn := rgN_len k
  rw [← hu] at hrn
  have hrs := rgN_succ k
  by_cases hkn : k < p.body.length
  · repeat' (first | (apply id_rw; first | (apply rx_move;rfl;rfl) | (apply rx_load1;rfl;rfl;rfl;rfl) | (apply rx_fieldAddr;rfl;rfl;rfl) | (first | (apply rx_add;rfl;rfl;omega;rfl) | (apply rx_bin;rfl;rfl;rfl;rfl)) | (apply rx_assign;rfl;rfl) | (first | (apply rx_len;rfl;rfl;rfl) | (apply rx_append;rfl;rfl;rfl;rfl;rfl;(rw [flat_length]; omega);(rfl);omega;omega;(exact app_int (by (omega)));rfl;rfl)) | (apply rw_nil;kernel_rfl) | ((apply rx_buildSliceI (t := _)); (case hze | hsm | hl => rfl); (case hfl => exact (rfl:_=some [_])); (case hM | hN => rfl))) | (apply id_aw; first | apply aw_seq | apply aw_region | (apply aw_cond;rfl;all_goals intro hc;have hq:=hc;(try simp only [bqs] at hq);try exfalso;omega) | apply aw_block | apply aw_skip) | with_reducible apply tq_normal | with_reducible apply bq_normal)
    (apply ex3 (k + 1, _); focus (refine Le.ren [(0, 0), (1, 1), (2, 2), (3, 5)] rfl (by decide) ?_ ?_ <;> repeat' (first | exact trivial | refine And.intro ⟨_, rfl, ?_⟩ ?_ | refine And.intro ⟨_, _, rfl, rfl, ?_⟩ ?_ | exact Or.inr rfl | refine Or.inl ⟨?_, (by first | rfl | exact pur_sl _ _ | exact Pur.pf)⟩ | rfl)))
    · exact ⟨hkn, by dsimp only; rw [hrs, hu]⟩
    · show p.body.length - (k + 1) < p.body.length - k; omega
  · obtain rfl : k = p.body.length := by omega
    subst hu
    repeat' (first | (apply id_rw; first | (apply rx_move;rfl;rfl) | (first | (apply rx_load1;rfl;rfl;rfl;rfl) | (apply rx_loadA;rfl;rfl;(exact (rfl:_=[_, _]));rfl;rfl;rfl)) | (apply rx_fieldAddr;rfl;rfl;rfl) | (apply rx_bin;rfl;rfl;rfl;rfl) | (apply rx_copyOf;rfl;(apply copyOf_c <;> (assumption));rfl;rfl) | (apply rx_len;rfl;rfl;rfl) | (apply rw_nil;kernel_rfl) | (apply rx_alloc;rfl;rfl) | (apply rx_store;rfl;rfl;rfl;rfl;rfl;(case hl => (simp;done));(exact (rfl:_=[_, _])))) | (apply id_aw; first | apply aw_seq | apply aw_region | (apply aw_cond;rfl;all_goals intro hc;have hq:=hc;(try simp only [bqs] at hq);try exfalso;omega) | apply aw_block | apply aw_exit) | with_reducible apply tq_normal | with_reducible apply tq_exit | with_reducible apply bq_here)
    apply AW.le
    case k => exact Le.frzC (j := 9) (i := 7) [] rfl rfl (by decide)
    apply AW.le
    case k => exact Le.frzC (j := 9) (i := 8) [.imm _ _] rfl rfl (by decide)
    refine aw_loopK (σ := List AL.Stmt × List Int × List Int × Nat × Nat) [2, 7] [(2, _), (7, _)] [1, 0] [(1, some _), (0, some _)] (fun s => [(5, .own 3 0 s.2.2.2.1 1), (4, .own 2 0 s.2.2.2.2 1)]) (fun s => [(9, some [sl cI p.types, sl cStmt s.1]), (3, some (flat cI s.2.1)), (2, some (flat cI s.2.2.1))]) (fun s => RepS FI ⟨p.types, s.1⟩ s.2.1 s.2.2.1 Q M ∧ s.2.1.length = s.1.length ∧ validF ⟨p.types, s.1⟩ = true ∧ cntL s.1 ≤ cntL p.body ∧ s.2.2.2.1 = s.2.1.length ∧ s.2.2.2.2 = s.2.2.1.length ∧ s.2.2.1.length + s.1.length = p.body.length) (fun s => s.1.length) (p.body, rgN p.body.length, [], p.body.length, 0) ⟨by rw [rgN_lf]; exact hR, hrn, hv, Nat.le_refl _, hrn.symm, rfl, Nat.zero_add _⟩ rfl rfl (by repeat' (first | exact trivial | refine And.intro rfl ?_)) (by repeat' (first | exact trivial | refine And.intro (.inr rfl) ?_)) ?_
    rintro ⟨b, l, m, ln, mn⟩ ⟨hR1, h1, h2, h3, h4, h5, h6⟩
    dsimp only at hR1 h1 h2 h3 h4 h5 h6
    try dsimp only
    rcases hR1.inv with ⟨hF, rfl, rfl⟩ | ⟨x, L, k, hF, hk, hr⟩
    · have hfi := FirstS2_c ⟨p.types, b⟩ [] hF.2.1
      repeat' (first | (apply id_rw; first | ((with_reducible apply rx_callE (k := 16)); (case ha => rfl); (case h => exact hfi); (case hp => (exact Pur.pf)); (case hN => rfl)) | (apply rx_move;rfl;rfl) | (apply rx_loadA;rfl;rfl;(exact (rfl:_=[_, _]));rfl;rfl;rfl) | (apply rx_assign;rfl;rfl) | (apply rw_nil;kernel_rfl) | (apply rx_not;rfl;rfl) | (apply rx_alloc;rfl;rfl) | (apply rx_extract;rfl;rfl;rfl) | (apply rx_store;rfl;rfl;rfl;rfl;rfl;(case hl => (first | decide | (simp;done)));(first | exact (rfl:_=[_, _]) | exact (rfl:_=[_, _, _])))) | (apply id_aw; first | apply aw_seq | apply aw_region | (apply aw_condT;rfl;(rfl)) | apply aw_block | apply aw_ret) | with_reducible apply tq_normal | with_reducible apply tq_ret | with_reducible apply bq_ret)
      refine rq_le (Le.frzD (d := 3) (i := 2) rfl rfl) ?_
      refine rq_ret (l := [.agg [sl cI p.types, sl cStmt b], .imm mn (flat cI M)]) rfl ⟨?_, (by (exact Pur.pf))⟩
      simp only [oneOf, sl, h5]
    · have hfi : PC Tryz.prog 16 [aPrg ⟨p.types, b⟩] (fun r => r = .tup [aIss x, bv true]) := FirstS2_c ⟨p.types, b⟩ (x :: L) hF.2.1
      have hkl := hk.lt
      dsimp only at hkl
      have hbl := cntL_len b
      have h5s := l5Stmt_c ⟨p.types, b⟩ x.point k hk (by show cntL b ≤ _; omega)
      have hdr : PC Tryz.prog 113 [aPrg ⟨p.types, b⟩, iv (k : Int)] (fun r => r = .tup [.agg [sl cI p.types, sl cStmt (delL k b)], bv true]) := dropS_c ⟨p.types, b⟩ k h2 hkl (by show cntL b ≤ _; omega) hl
      repeat' (first | (apply id_rw; first | ((with_reducible apply rx_callE (k := 16)); (case ha => rfl); (case h => exact hfi); (case hp => (exact Pur.pf)); (case hN => rfl)) | ((with_reducible apply rx_callE (k := 112)); (case ha => rfl); (case h => exact h5s); (case hp => (exact Pur.pf)); (case hN => rfl)) | ((with_reducible apply rx_callE (k := 113)); (case ha => rfl); (case h => exact hdr); (case hp => (exact Pur.pf)); (case hN => rfl)) | ((apply rx_slice (d := 63) (l := 0) (h := k)); (case hx | hn | hl => rfl); (case hh => exact bnd_to rfl rfl); (case hp => exact if_pos (by omega)); (case hN => rfl)) | ((apply rx_slice (d := 68) (l := k + 1) (h := ln)); (case hx | hn => rfl); (case hl => exact bnd_to rfl (by omega)); (case hh => rfl); (case hp => exact if_pos (by omega)); (case hN => rfl)) | ((apply rx_append (d := 64)); (case hx | hy | hze | he0 | hH => rfl); (case hl => decide); (case hs' => exact sC_head rfl (by omega)); (case hbig => omega); (case hmx => omega); (case hcs => exact (rfl:_=flat cI (l.take k))); (case hM | hN => rfl)) | ((apply rx_append (d := 69)); (case hx | hy | hze | he0 | hH => rfl); (case hl => (rw [flat_length cI (e := 1), List.length_take]; omega)); (case hs' => exact sC_tail (k := k + 1) rfl (by omega)); (case hbig => omega); (case hmx => omega); (case hcs => exact app_delL (k := k) (by omega) (by omega)); (case hM | hN => rfl)) | (apply rx_move;rfl;rfl) | (first | (apply rx_loadF0; (case hx | hH => rfl); (case hf | hg | hα => infer_instance); (case hk => omega); (case hc | hN => rfl)) | (apply rx_load1;rfl;rfl;rfl;rfl) | (apply rx_loadA;rfl;rfl;(exact (rfl:_=[_, _]));rfl;rfl;rfl)) | (apply rx_fieldAddr;rfl;rfl;rfl) | (apply rx_add;rfl;rfl;omega;rfl) | (apply rx_assign;rfl;rfl) | (apply rx_indexON;rfl;rfl;(omega);rfl) | (apply rx_append;rfl;rfl;rfl;rfl;rfl;(rw [flat_length]; omega);(rfl);omega;omega;(exact app_int (by (assumption)));rfl;rfl) | (apply rw_nil;kernel_rfl) | (apply rx_not;rfl;rfl) | (apply rx_alloc;rfl;rfl) | (apply rx_extract;rfl;rfl;rfl) | (apply rx_buildSlice;rfl;rfl;rfl;(first | exact (rfl:_=some [_]) | rfl);rfl;rfl) | (apply rx_store;rfl;rfl;rfl;rfl;rfl;(case hl => (simp;done));(first | exact (rfl:_=[_, _]) | exact (rfl:_=[_, _, _])))) | (apply id_aw; first | apply aw_seq | apply aw_region | (apply aw_draw;kernel_rfl) | (apply aw_condF;rfl;(rfl)) | apply aw_block | apply aw_skip) | with_reducible apply tq_normal | with_reducible apply bq_normal)
      have d1 := delL_len (k := k) (xs := b) hkl
      have d2 := delL_len (k := k) (xs := l) (by omega)
      have d3 := cntL_delL b k
      (apply ex3 (delL k b, delL k l, m ++ [l[k]!], 0 + (k - 0) + (ln - (k + 1)), mn + 1); focus (refine Le.ren [(0, 0), (1, 1), (2, 13), (3, 16), (9, 9)] rfl (by decide) ?_ ?_ <;> repeat' (first | exact trivial | refine And.intro ⟨_, rfl, ?_⟩ ?_ | refine And.intro ⟨_, _, rfl, rfl, ?_⟩ ?_ | exact Or.inr rfl | refine Or.inl ⟨?_, (by first | rfl | exact pur_sl _ _ | exact Pur.pf)⟩ | rfl)))
      · exact ⟨hr, by dsimp only; omega, dropP_valid h2, by dsimp only; omega, by dsimp only; omega, by simp [h5], by simp; omega⟩
      · dsimp only; omega
end Go.Proofs.YtejkbiijonnefaaGreat

namespace Go.Proofs.YtejkbiijonnefaaGreat
open Go.AL Go.RowKit

theorem eqlI_c (xs : List Int) (hl : xs.length ≤ 1000000) : PC Tryz.prog 123 [sl cI xs, sl cI xs] (fun r => r = bv true) := by
  (refine pc_of_aw Tryz.func123 rfl (by simp [Tryz.ntmps123]) ?_; rw [Tryz.ntmps123])
  repeat' (first | (apply id_rw; first | (apply rx_move;rfl;rfl) | (apply rx_bin;rfl;rfl;rfl;rfl) | (apply rx_assign;rfl;rfl) | (apply rx_len;rfl;rfl;rfl) | (apply rw_nil;kernel_rfl)) | (apply id_aw; first | apply aw_seq | apply aw_region | (apply aw_cond;rfl;all_goals intro hc;have hq:=hc;(try simp only [bqs] at hq);try exfalso;omega) | apply aw_block | apply aw_skip | apply aw_ret) | with_reducible apply tq_normal | with_reducible apply tq_ret)
  all_goals try exact absurd trivial (by assumption : ¬ True)
  refine aw_loopK (σ := Nat) [0, 1, 12] [(0, _), (1, _), (12, _)] [] [] (fun k => [(13, iv (k : Int))]) (fun k => []) (fun k => k ≤ xs.length) (fun k => xs.length - k) (0) (Nat.zero_le _) rfl rfl (by repeat' (first | exact trivial | refine And.intro rfl ?_)) (by repeat' (exact trivial)) ?_
  intro k hk
  repeat' (first | (apply id_rw; first | (apply rx_move;rfl;rfl) | (apply rx_load1;rfl;rfl;rfl;rfl) | (first | (apply rx_add;rfl;rfl;omega;rfl) | (apply rx_bin;rfl;rfl;rfl;rfl)) | (apply rx_assign;rfl;rfl) | (apply rx_indexFN; (case hx | hi => rfl); (case hm => (omega)); (case hml => (rfl)); (case hα | hf | hg => infer_instance); (case hN => rfl)) | (apply rw_nil;kernel_rfl)) | (apply id_aw; first | apply aw_seq | apply aw_region | (apply aw_draw;kernel_rfl) | (apply aw_cond;rfl;all_goals intro hc;have hq:=hc;(try simp only [bqs] at hq);try exfalso;omega) | apply aw_block | apply aw_skip | apply aw_exit | apply aw_ret) | with_reducible apply tq_normal | with_reducible apply tq_ret | with_reducible apply tq_exit | with_reducible apply bq_normal | with_reducible apply bq_ret | with_reducible apply bq_here)
  all_goals try exact absurd trivial (by assumption : ¬ True)
  · (apply ex3 (k + 1); focus (refine Le.ren [] rfl (by decide) ?_ ?_ <;> repeat' (first | exact trivial | refine And.intro ⟨_, rfl, ?_⟩ ?_ | refine Or.inl ⟨?_, (by first | rfl | exact pur_sl _ _)⟩ | rfl)))
    · omega
    · omega
  · exact rq_ret rfl ⟨rfl, rfl⟩

theorem same1_c (mm : Nat) (same_ih : ∀ l, cntL l < mm → PC Tryz.prog 124 [sl cStmt l, sl cStmt l] (fun r => r = bv true)) (s : AL.Stmt) (hs : cntS s ≤ mm) : PC Tryz.prog 174 [aStmt s, aStmt s] (fun r => r = bv true) := by
  have hct := cnt_th s
  (refine pc_of_aw Tryz.func174 rfl (by simp [Tryz.ntmps174]) ?_; rw [Tryz.ntmps174])
  repeat' (first | (apply id_rw; first | (apply rx_move;rfl;rfl) | (apply rx_load1;rfl;rfl;rfl;rfl) | (apply rx_fieldAddr;rfl;rfl;rfl) | (first | (apply rx_guardY;rfl;rfl;rfl;(first | rfl | assumption)) | (apply rx_guardNs;rfl;rfl;rfl;(first | rfl | assumption)) | (apply rx_guardS; (case hj | hb | hN => rfl); all_goals (intro hg; have hq := hg; (try simp only [bqs] at hq); (try (exfalso; omega))))) | (apply rx_bin;rfl;rfl;rfl;rfl) | (apply rx_assign;rfl;rfl) | (first | (apply rx_pickT;rfl;(first | rfl | assumption);rfl;rfl) | (apply rx_pickF;rfl;(first | rfl | assumption);rfl;rfl)) | ((with_reducible apply rx_callE (k := 124)); (case ha => rfl); (case h => (apply same_ih <;> (omega))); (case hp => (exact Pur.pf)); (case hN => rfl)) | (apply rw_nil;kernel_rfl) | (apply rx_box;rfl;rfl;rfl;rfl)) | (apply id_aw; first | apply aw_seq | apply aw_region | apply aw_ret) | with_reducible apply tq_normal)
  all_goals try exact absurd trivial (by assumption : ¬ True)
  exact rq_ret rfl ⟨rfl, rfl⟩
theorem eqf_c (l : List AL.Stmt) (hs : cntL l ≤ 1000000) (h1 : ∀ s, s ∈ l → PC Tryz.prog 174 [aStmt s, aStmt s] (fun r => r = bv true)) : PC Tryz.prog 173 [sl cStmt l, sl cStmt l, .v (.func (.func 174) #[] #[])] (fun r => r = bv true) := by
  have hlen := cntL_len l
  (refine pc_of_aw Tryz.func173 rfl (by simp [Tryz.ntmps173]) ?_; rw [Tryz.ntmps173])
  repeat' (first | (apply id_rw; first | (apply rx_move;rfl;rfl) | (apply rx_bin;rfl;rfl;rfl;rfl) | (apply rx_assign;rfl;rfl) | (apply rx_len;rfl;rfl;rfl) | (apply rw_nil;kernel_rfl)) | (apply id_aw; first | apply aw_seq | apply aw_region | (apply aw_cond;rfl;all_goals intro hc;have hq:=hc;(try simp only [bqs] at hq);try exfalso;omega) | apply aw_block | apply aw_skip | apply aw_ret) | with_reducible apply tq_normal | with_reducible apply tq_ret)
  all_goals try exact absurd trivial (by assumption : ¬ True)
  refine aw_loopK (σ := Nat) [1, 2, 15, 16] [(1, _), (2, _), (15, _), (16, _)] [] [] (fun k => [(17, iv (k : Int))]) (fun k => []) (fun k => k ≤ l.length) (fun k => l.length - k) (0) (Nat.zero_le _) rfl rfl (by repeat' (first | exact trivial | refine And.intro rfl ?_)) (by repeat' (exact trivial)) ?_
  intro k hk
  by_cases hkn : k < l.length
  · have hcl := h1 l[k]! (getB_mem l k hkn)
    repeat' (first | (apply id_rw; first | (apply rx_move;rfl;rfl) | (apply rx_loadA;rfl;rfl;(exact (rfl:_=[_, _, _, _, _, _]));rfl;rfl;rfl) | (first | (apply rx_add;rfl;rfl;omega;rfl) | (apply rx_bin;rfl;rfl;rfl;rfl)) | (apply rx_assign;rfl;rfl) | (apply rx_indexFN; (case hx | hi => rfl); (case hm => (assumption)); (case hml => (rfl)); (case hα | hf | hg => infer_instance); (case hN => rfl)) | ((with_reducible apply rx_callC); (case hx | hcl => rfl); (case hc => infer_instance); (case ha => rfl); (case h => (apply hcl <;> (fail))); (case hp => (exact Pur.pf)); (case hN => rfl)) | (apply rw_nil;kernel_rfl) | (apply rx_not;rfl;rfl) | (apply rx_alloc;rfl;rfl) | (apply rx_store;rfl;rfl;rfl;rfl;rfl;(case hl => (simp;done));(exact (rfl:_=[_, _, _, _, _, _])))) | (apply id_aw; first | apply aw_seq | apply aw_region | (apply aw_condF;rfl;(rfl)) | (apply aw_cond;rfl;all_goals intro hc;have hq:=hc;(try simp only [bqs] at hq);try exfalso;omega) | apply aw_block | apply aw_skip) | with_reducible apply tq_normal | with_reducible apply bq_normal)
    (apply ex3 (k + 1); focus (refine Le.ren [] rfl (by decide) ?_ ?_ <;> repeat' (first | exact trivial | refine And.intro ⟨_, rfl, ?_⟩ ?_ | refine Or.inl ⟨?_, (by first | rfl | exact pur_sl _ _)⟩ | rfl)))
    · omega
    · omega
  · repeat' (first | (apply id_rw; first | (apply rx_bin;rfl;rfl;rfl;rfl) | (apply rx_assign;rfl;rfl) | (apply rw_nil;kernel_rfl)) | (apply id_aw; first | apply aw_seq | apply aw_region | (apply aw_cond;rfl;all_goals intro hc;have hq:=hc;(try simp only [bqs] at hq);try exfalso;omega) | apply aw_exit | apply aw_ret) | with_reducible apply tq_normal | with_reducible apply tq_exit | with_reducible apply bq_here)
    exact rq_ret rfl ⟨rfl, rfl⟩
theorem same_c0 (mm : Nat) (hmm : mm ≤ 1000000) (same_ih : ∀ l, cntL l < mm → PC Tryz.prog 124 [sl cStmt l, sl cStmt l] (fun r => r = bv true)) (l : List AL.Stmt) (hs : cntL l ≤ mm) : PC Tryz.prog 124 [sl cStmt l, sl cStmt l] (fun r => r = bv true) := by
  have hq := eqf_c l (by omega) (fun s hm => same1_c mm same_ih s (Nat.le_trans (cntL_mem hm) hs))
  (refine pc_of_aw Tryz.func124 rfl (by simp [Tryz.ntmps124]) ?_; rw [Tryz.ntmps124])
  repeat' (first | (apply id_rw; first | ((with_reducible apply rx_callE (k := 173)); (case ha => rfl); (case h => exact hq); (case hp => (exact Pur.pf)); (case hN => rfl)) | (apply rx_move;rfl;rfl) | (apply rx_assign;rfl;rfl) | (apply rw_nil;kernel_rfl)) | (apply id_aw; first | apply aw_seq | apply aw_region | apply aw_ret) | with_reducible apply tq_normal)
  exact rq_ret rfl ⟨rfl, rfl⟩
theorem same_c (l : List AL.Stmt) (hb : cntL l ≤ 1000000) : PC Tryz.prog 124 [sl cStmt l, sl cStmt l] (fun r => r = bv true) := by
  have key : ∀ m, m ≤ 1000000 → ∀ l, cntL l ≤ m → PC Tryz.prog 124 [sl cStmt l, sl cStmt l] (fun r => r = bv true) := by
    intro m
    induction m with
    | zero => intro hm l hl; exact same_c0 0 hm (fun l h => by omega) l hl
    | succ m ih => intro hm l hl; exact same_c0 (m + 1) hm (fun l h => ih (by omega) l (by omega)) l hl
  exact key (cntL l) hb l (Nat.le_refl _)
theorem progSame_c (q : Prg) (hs : cntL q.body ≤ 1000000) (ht : q.types.length ≤ 1000000) : PC Tryz.prog 55 [aPrg q, aPrg q] (fun r => r = bv true) := by
  have h1 := eqlI_c q.types ht
  have h2 := same_c q.body hs
  (refine pc_of_aw Tryz.func55 rfl (by simp [Tryz.ntmps55]) ?_; rw [Tryz.ntmps55])
  repeat' (first | (apply id_rw; first | ((with_reducible apply rx_callE (k := 123)); (case ha => rfl); (case h => exact h1); (case hp => (exact Pur.pf)); (case hN => rfl)) | ((with_reducible apply rx_callE (k := 124)); (case ha => rfl); (case h => exact h2); (case hp => (exact Pur.pf)); (case hN => rfl)) | (apply rx_move;rfl;rfl) | (apply rx_load1;rfl;rfl;rfl;rfl) | (apply rx_fieldAddr;rfl;rfl;rfl) | (apply rx_guardY;rfl;rfl;rfl;(rfl)) | (apply rx_assign;rfl;rfl) | (apply rx_pickT;rfl;(rfl);rfl;rfl) | (apply rw_nil;kernel_rfl) | (apply rx_box;rfl;rfl;rfl;rfl)) | (apply id_aw; first | apply aw_seq | apply aw_region | apply aw_ret) | with_reducible apply tq_normal)
  exact rq_ret rfl ⟨rfl, rfl⟩
theorem drawRep_c (bs : List UInt8) (hb : bs.length ≤ 1048576) : PC Tryz.prog 54 [sl cU bs] (fun r => ∃ q : Prg, r = aPrg q ∧ cntL q.body ≤ 20000 ∧ q.types.length ≤ 1000) := by
  (refine pc_of_aw Tryz.func54 rfl (by simp [Tryz.ntmps54]) ?_; rw [Tryz.ntmps54])
  repeat' (first | (apply id_rw; first | ((with_reducible apply rx_call (k := 31)); (case ha => rfl); (case h => exact drawCheck_c bs hb); (case hp => (exact Pur.pf)); (case hN => rfl); (rintro _ ⟨q, rfl, hq1, hq2⟩ _)) | (apply rx_move;rfl;rfl) | (apply rw_nil;kernel_rfl) | (apply rx_alloc;rfl;rfl) | (apply rx_store;rfl;rfl;rfl;rfl;rfl;(case hl => (simp;done));(exact (rfl:_=[_, _])))) | (apply id_aw; first | apply aw_seq | apply aw_region | apply aw_ret) | with_reducible apply tq_normal)
  exact rq_ret (l := [aPrg q]) rfl ⟨⟨q, rfl, hq1, hq2⟩, Pur.pf⟩
theorem repair_all (p : Prg) (hl : p.types.length ≤ 1000000) (hs : cntL p.body ≤ 20000) : ∃ (Q : Prg) (M : List Int) (L : List Iss),
    PC Tryz.prog 47 [aPrg p] (fun r => r = .tup [aPrg Q, sl cI M]) ∧ PC Tryz.prog 45 [aPrg p] (fun r => r = .tup [aPrg Q, sl cI M]) ∧ cntL Q.body ≤ 20000 ∧ Q.types.length ≤ 1000000 ∧ M.length ≤ 20000 ∧
    (validF p = true → validF Q = true ∧ Q.types = p.types ∧ FI Q [] ∧ FI p L ∧ (M = [] ↔ L = []) ∧ M.length + Q.body.length = p.body.length ∧ Q.body = (lfN p.body.length M).map (fun i => p.body[i.toNat]!) ∧ PC Tryz.prog 47 [aPrg Q] (fun r => r = .tup [aPrg Q, sl cI []])) := by
  cases hv : validF p
  · exact ⟨⟨[], []⟩, [], [], repairI0_c p hv hl (by omega), repairS0_c p hv hl (by omega), by simp [cntL], by simp, by simp, fun h => by cases h⟩
  · have hex := fun (q : Prg) (hq : validF q = true) => FI.ex q (by
      unfold validF at hq; simp only [Bool.and_eq_true, decide_eq_true_eq] at hq; omega) (by
      unfold validF at hq; simp only [Bool.and_eq_true, decide_eq_true_eq] at hq; have := typesOk_len hq.1.1; omega) hq
    obtain ⟨Q, M, hR⟩ := RepS.ex hex p.body.length p (lfN p.body.length []) [] (Nat.le_refl _) hv
    obtain ⟨f1, f2, f3, f4, f5⟩ := hR.fin hv
    obtain ⟨L, g1, g2⟩ := hR.empty hv
    have hlen := cntL_len p.body
    simp only [List.length_nil, Nat.zero_add] at f5
    refine ⟨Q, M, L, repairI_c p hv hl (by omega) Q M hR, repairS_c p hv hl (by omega) Q M hR, by omega, by rw [f3]; exact hl, by omega, fun _ => ⟨f2, f3, f1, g1, g2, f5, hR.left rfl (lfN_nil p), ?_⟩⟩
    exact repairI_c Q f2 (by rw [f3]; exact hl) (by omega) Q [] (.done f1)
end Go.Proofs.YtejkbiijonnefaaGreat

namespace Go.Proofs.YtejkbiijonnefaaGreat
open Go.AL Go.RowKit

theorem FnRepairTwice_c (bs : List UInt8) : PC Tryz.prog 10 [sl cU bs] (fun r => r = bv true) := by
  rcases Nat.lt_or_ge 1048576 bs.length with hb | hb
  · (refine pc_of_aw Tryz.func10 rfl (by simp [Tryz.ntmps10]) ?_; rw [Tryz.ntmps10])
    repeat' (first | (apply id_rw; first | (apply rx_move;rfl;rfl) | (apply rx_bin;rfl;rfl;rfl;rfl) | (apply rx_assign;rfl;rfl) | (apply rx_len;rfl;rfl;rfl) | (apply rw_nil;kernel_rfl)) | (apply id_aw; first | apply aw_seq | apply aw_region | (apply aw_cond;rfl;all_goals intro hc;have hq:=hc;(try simp only [bqs] at hq);try exfalso;omega) | apply aw_ret) | with_reducible apply tq_normal | with_reducible apply tq_ret)
    exact rq_ret rfl ⟨rfl, rfl⟩
  (refine pc_of_aw Tryz.func10 rfl (by simp [Tryz.ntmps10]) ?_; rw [Tryz.ntmps10])
  repeat' (first | (apply id_rw; first | ((with_reducible apply rx_call (k := 54)); (case ha => rfl); (case h => exact drawRep_c bs hb); (case hp => (exact Pur.pf)); (case hN => rfl); (rintro _ ⟨p, rfl, hq1, hq2⟩ _)) | (with_reducible apply rw_stop (d := 16)) | (apply rx_move;rfl;rfl) | (apply rx_bin;rfl;rfl;rfl;rfl) | (apply rx_assign;rfl;rfl) | (apply rx_len;rfl;rfl;rfl) | (apply rw_nil;kernel_rfl) | (apply rx_alloc;rfl;rfl) | (apply rx_store;rfl;rfl;rfl;rfl;rfl;(case hl => (simp;done));(exact (rfl:_=[_, _])))) | (apply id_aw; first | apply aw_seq | apply aw_region | (apply aw_cond;rfl;all_goals intro hc;have hq:=hc;(try simp only [bqs] at hq);try exfalso;omega) | apply aw_skip) | with_reducible apply tq_normal)
  refine rw_go ?_
  obtain ⟨Q, M, L, h1, h2, b1, b2, b3, law⟩ := repair_all p (by omega) hq1
  have v1 := progSame_c Q (by omega) b2
  have v2 := bcInts_c M (by omega)
  have hval := validI_c p (by omega) (by omega)
  have hlp := cntL_len p.body
  have hlQ := cntL_len Q.body
  cases hv : validF p
  · rw [hv] at hval
    repeat' (first | (apply id_rw; first | ((with_reducible apply rx_callE (k := 47)); (case ha => rfl); (case h => exact h1); (case hp => (exact Pur.pf)); (case hN => rfl)) | ((with_reducible apply rx_callE (k := 45)); (case ha => rfl); (case h => exact h2); (case hp => (exact Pur.pf)); (case hN => rfl)) | ((with_reducible apply rx_callE (k := 55)); (case ha => rfl); (case h => exact v1); (case hp => (exact Pur.pf)); (case hN => rfl)) | ((with_reducible apply rx_callE (k := 25)); (case ha => rfl); (case h => exact v2); (case hp => (exact Pur.pf)); (case hN => rfl)) | ((with_reducible apply rx_callE (k := 56)); (case ha => rfl); (case h => exact hval); (case hp => (exact Pur.pf)); (case hN => rfl)) | (apply rx_move;rfl;rfl) | (apply rx_loadA;rfl;rfl;(exact (rfl:_=[_, _]));rfl;rfl;rfl) | (apply rx_guardY;rfl;rfl;rfl;(rfl)) | (apply rx_assign;rfl;rfl) | (first | (apply rx_pickT;rfl;(rfl);rfl;rfl) | (apply rx_pickF;rfl;(rfl);rfl;rfl)) | (apply rw_nil;kernel_rfl) | (apply rx_not;rfl;rfl) | (apply rx_alloc;rfl;rfl) | (apply rx_extract;rfl;rfl;rfl) | (apply rx_store;rfl;rfl;rfl;rfl;rfl;(case hl => (simp;done));(exact (rfl:_=[_, _])))) | (apply id_aw; first | apply aw_seq | apply aw_region | (apply aw_condT;rfl;(rfl)) | apply aw_ret) | with_reducible apply tq_normal | with_reducible apply tq_ret)
    all_goals exact rq_ret rfl ⟨rfl, rfl⟩
  · rw [hv] at hval
    obtain ⟨l1, l2, l3, l4, l5, l6, l7, l8⟩ := law hv
    repeat' (first | (apply id_rw; first | ((with_reducible apply rx_callE (k := 47) (d := 50)); (case ha => rfl); (case h => exact l8); (case hp => (exact Pur.pf)); (case hN => rfl)) | ((with_reducible apply rx_callE (k := 47)); (case ha => rfl); (case h => exact h1); (case hp => (exact Pur.pf)); (case hN => rfl)) | ((with_reducible apply rx_callE (k := 45)); (case ha => rfl); (case h => exact h2); (case hp => (exact Pur.pf)); (case hN => rfl)) | ((with_reducible apply rx_callE (k := 55)); (case ha => rfl); (case h => exact v1); (case hp => (exact Pur.pf)); (case hN => rfl)) | ((with_reducible apply rx_callE (k := 25)); (case ha => rfl); (case h => exact v2); (case hp => (exact Pur.pf)); (case hN => rfl)) | ((with_reducible apply rx_callE (k := 56)); (case ha => rfl); (case h => exact hval); (case hp => (exact Pur.pf)); (case hN => rfl)) | (apply rx_move;rfl;rfl) | (first | (apply rx_load1;rfl;rfl;rfl;rfl) | (apply rx_loadA;rfl;rfl;(exact (rfl:_=[_, _]));rfl;rfl;rfl)) | (apply rx_fieldAddr;rfl;rfl;rfl) | (apply rx_guardY;rfl;rfl;rfl;(rfl)) | (first | (apply rx_add;rfl;rfl;omega;rfl) | (apply rx_bin;rfl;rfl;rfl;rfl)) | (apply rx_assign;rfl;rfl) | (first | (apply rx_pickT;rfl;(rfl);rfl;rfl) | (apply rx_pickF;rfl;(rfl);rfl;rfl)) | (apply rx_len;rfl;rfl;rfl) | (apply rw_nil;kernel_rfl) | (apply rx_not;rfl;rfl) | (apply rx_alloc;rfl;rfl) | (apply rx_extract;rfl;rfl;rfl) | (apply rx_store;rfl;rfl;rfl;rfl;rfl;(case hl => (simp;done));(exact (rfl:_=[_, _])))) | (apply id_aw; first | apply aw_seq | apply aw_region | (apply aw_condF;rfl;(rfl)) | apply aw_skip | apply aw_ret) | with_reducible apply tq_normal)
    refine rq_ret rfl ⟨?_, rfl⟩
    simp only [oneOf]
    rw [decide_eq_true (by omega)]
theorem FnRepairProgram_c (bs : List UInt8) : PC Tryz.prog 11 [sl cU bs] (fun r => r = bv true) := by
  rcases Nat.lt_or_ge 1048576 bs.length with hb | hb
  · (refine pc_of_aw Tryz.func11 rfl (by simp [Tryz.ntmps11]) ?_; rw [Tryz.ntmps11])
    repeat' (first | (apply id_rw; first | (apply rx_move;rfl;rfl) | (apply rx_bin;rfl;rfl;rfl;rfl) | (apply rx_assign;rfl;rfl) | (apply rx_len;rfl;rfl;rfl) | (apply rw_nil;kernel_rfl)) | (apply id_aw; first | apply aw_seq | apply aw_region | (apply aw_cond;rfl;all_goals intro hc;have hq:=hc;(try simp only [bqs] at hq);try exfalso;omega) | apply aw_ret) | with_reducible apply tq_normal | with_reducible apply tq_ret)
    exact rq_ret rfl ⟨rfl, rfl⟩
  (refine pc_of_aw Tryz.func11 rfl (by simp [Tryz.ntmps11]) ?_; rw [Tryz.ntmps11])
  repeat' (first | (apply id_rw; first | ((with_reducible apply rx_call (k := 54)); (case ha => rfl); (case h => exact drawRep_c bs hb); (case hp => (exact Pur.pf)); (case hN => rfl); (rintro _ ⟨p, rfl, hq1, hq2⟩ _)) | (with_reducible apply rw_stop (d := 16)) | (apply rx_move;rfl;rfl) | (apply rx_bin;rfl;rfl;rfl;rfl) | (apply rx_assign;rfl;rfl) | (apply rx_len;rfl;rfl;rfl) | (apply rw_nil;kernel_rfl) | (apply rx_alloc;rfl;rfl) | (apply rx_store;rfl;rfl;rfl;rfl;rfl;(case hl => (simp;done));(exact (rfl:_=[_, _])))) | (apply id_aw; first | apply aw_seq | apply aw_region | (apply aw_cond;rfl;all_goals intro hc;have hq:=hc;(try simp only [bqs] at hq);try exfalso;omega) | apply aw_skip) | with_reducible apply tq_normal)
  refine rw_go ?_
  obtain ⟨Q, M, L, h1, h2, b1, b2, b3, law⟩ := repair_all p (by omega) hq1
  have v1 := progSame_c Q (by omega) b2
  have v2 := bcInts_c M (by omega)
  have hval := validI_c p (by omega) (by omega)
  have hlp := cntL_len p.body
  have hlQ := cntL_len Q.body
  cases hv : validF p
  · rw [hv] at hval
    repeat' (first | (apply id_rw; first | ((with_reducible apply rx_callE (k := 47)); (case ha => rfl); (case h => exact h1); (case hp => (exact Pur.pf)); (case hN => rfl)) | ((with_reducible apply rx_callE (k := 45)); (case ha => rfl); (case h => exact h2); (case hp => (exact Pur.pf)); (case hN => rfl)) | ((with_reducible apply rx_callE (k := 55)); (case ha => rfl); (case h => exact v1); (case hp => (exact Pur.pf)); (case hN => rfl)) | ((with_reducible apply rx_callE (k := 25)); (case ha => rfl); (case h => exact v2); (case hp => (exact Pur.pf)); (case hN => rfl)) | ((with_reducible apply rx_callE (k := 56)); (case ha => rfl); (case h => exact hval); (case hp => (exact Pur.pf)); (case hN => rfl)) | (apply rx_move;rfl;rfl) | (apply rx_loadA;rfl;rfl;(exact (rfl:_=[_, _]));rfl;rfl;rfl) | (apply rx_guardY;rfl;rfl;rfl;(rfl)) | (apply rx_assign;rfl;rfl) | (first | (apply rx_pickT;rfl;(rfl);rfl;rfl) | (apply rx_pickF;rfl;(rfl);rfl;rfl)) | (apply rw_nil;kernel_rfl) | (apply rx_not;rfl;rfl) | (apply rx_alloc;rfl;rfl) | (apply rx_extract;rfl;rfl;rfl) | (apply rx_store;rfl;rfl;rfl;rfl;rfl;(case hl => (simp;done));(exact (rfl:_=[_, _])))) | (apply id_aw; first | apply aw_seq | apply aw_region | (apply aw_condT;rfl;(rfl)) | apply aw_ret) | with_reducible apply tq_normal | with_reducible apply tq_ret)
    all_goals exact rq_ret rfl ⟨rfl, rfl⟩
  · rw [hv] at hval
    obtain ⟨l1, l2, l3, l4, l5, l6, l7, l8⟩ := law hv
    have v3 := AcceptsI2_c Q [] b2 (by omega) l3.1
    have v4 := AcceptsI2_c p L (by omega) (by omega) l4.1
    have v5 := fun n => bcIn_c M n (by omega)
    rw [l1] at v3
    rw [hv] at v4
    repeat' (first | (apply id_rw; first | ((with_reducible apply rx_callE (k := 47)); (case ha => rfl); (case h => exact h1); (case hp => (exact Pur.pf)); (case hN => rfl)) | ((with_reducible apply rx_callE (k := 45)); (case ha => rfl); (case h => exact h2); (case hp => (exact Pur.pf)); (case hN => rfl)) | ((with_reducible apply rx_callE (k := 55)); (case ha => rfl); (case h => exact v1); (case hp => (exact Pur.pf)); (case hN => rfl)) | ((with_reducible apply rx_callE (k := 25)); (case ha => rfl); (case h => exact v2); (case hp => (exact Pur.pf)); (case hN => rfl)) | ((with_reducible apply rx_callE (k := 56)); (case ha => rfl); (case h => exact hval); (case hp => (exact Pur.pf)); (case hN => rfl)) | (apply rx_move;rfl;rfl) | (apply rx_loadA;rfl;rfl;(exact (rfl:_=[_, _]));rfl;rfl;rfl) | (apply rx_guardY;rfl;rfl;rfl;(rfl)) | (apply rx_assign;rfl;rfl) | (apply rx_pickF;rfl;(rfl);rfl;rfl) | (apply rw_nil;kernel_rfl) | (apply rx_not;rfl;rfl) | (apply rx_alloc;rfl;rfl) | (apply rx_extract;rfl;rfl;rfl) | (apply rx_buildSlice;rfl;rfl;rfl;(rfl);rfl;rfl) | (apply rx_store;rfl;rfl;rfl;rfl;rfl;(case hl => (simp;done));(exact (rfl:_=[_, _])))) | (apply id_aw; first | apply aw_seq | apply aw_region | (apply aw_condF;rfl;(rfl)) | apply aw_block | apply aw_skip) | with_reducible apply tq_normal)
    refine aw_loopK (σ := Nat × List AL.Stmt × Nat) [3, 4, 5] [(3, _), (4, _), (5, _)] [0, 1, 2] [(0, some _), (1, some _), (2, some _)] (fun s => [(9, iv (s.1 : Int)), (8, .own 3 0 s.2.2 6)]) (fun s => [(3, some (flat cStmt s.2.1))]) (fun s => s.1 ≤ p.body.length ∧ s.2.1 = (lfN s.1 M).map (fun i => p.body[i.toNat]!) ∧ s.2.2 = s.2.1.length) (fun s => p.body.length - s.1) (0, [], 0) ⟨Nat.zero_le _, rfl, rfl⟩ rfl rfl (by repeat' (first | exact trivial | refine And.intro rfl ?_)) (by repeat' (first | exact trivial | refine And.intro (.inr rfl) ?_)) ?_
    rintro ⟨i, u, m⟩ ⟨hi, hu, hm⟩
    dsimp only at hi hu hm
    try dsimp only
    have hul : u.length ≤ i := by rw [hu, List.length_map]; exact lfN_len _ _
    by_cases hin : i < p.body.length
    · have hls := lfN_succ i M
      repeat' (first | (apply id_rw; first | ((with_reducible apply rx_callE (k := 30)); (case ha => rfl); (case h => exact v5 _); (case hp => (exact Pur.pf)); (case hN => rfl)) | (apply rx_move;rfl;rfl) | (first | (apply rx_load1;rfl;rfl;rfl;rfl) | (apply rx_loadA;rfl;rfl;(exact (rfl:_=[_, _, _, _, _, _]));rfl;rfl;rfl)) | (apply rx_fieldAddr;rfl;rfl;rfl) | (first | (apply rx_add;rfl;rfl;omega;rfl) | (apply rx_bin;rfl;rfl;rfl;rfl)) | (apply rx_assign;rfl;rfl) | (apply rx_indexFN; (case hx | hi => rfl); (case hm => (assumption)); (case hml => (rfl)); (case hα | hf | hg => infer_instance); (case hN => rfl)) | (first | (apply rx_len;rfl;rfl;rfl) | (apply rx_append;rfl;rfl;rfl;rfl;rfl;(rw [flat_length]; omega);(rfl);omega;omega;(exact app_stmt (by (assumption)));rfl;rfl)) | (apply rw_nil;kernel_rfl) | (apply rx_not;rfl;rfl) | ((apply rx_buildSliceI (t := _)); (case hze | hsm | hl => rfl); (case hfl => (exact (rfl:_=some [_, _, _, _, _, _]))); (case hM | hN => rfl))) | (apply id_aw; first | apply aw_seq | apply aw_region | (apply aw_cond;rfl;all_goals intro hc;have hq:=hc;(try simp only [bqs] at hq);try exfalso;omega) | apply aw_block | apply aw_skip) | with_reducible apply tq_normal | with_reducible apply bq_normal)
      · (apply ex3 (i + 1, u ++ [p.body[i]!], m + 1); focus (refine Le.ren [(0, 0), (1, 1), (2, 2), (3, 5)] rfl (by decide) ?_ ?_ <;> repeat' (first | exact trivial | refine And.intro ⟨_, rfl, ?_⟩ ?_ | refine And.intro ⟨_, _, rfl, rfl, ?_⟩ ?_ | exact Or.inr rfl | refine Or.inl ⟨?_, (by first | rfl | exact pur_sl _ _ | exact Pur.pf)⟩ | rfl)))
        · refine ⟨hin, ?_, by simp [hm]⟩
          dsimp only
          rw [hls, if_neg (by assumption), List.map_append, hu]; rfl
        · dsimp only; omega
      · (apply ex3 (i + 1, u, m); focus (refine Le.ren [(0, 0), (1, 1), (2, 2), (3, 3)] rfl (by decide) ?_ ?_ <;> repeat' (first | exact trivial | refine And.intro ⟨_, rfl, ?_⟩ ?_ | refine And.intro ⟨_, _, rfl, rfl, ?_⟩ ?_ | exact Or.inr rfl | refine Or.inl ⟨?_, (by first | rfl | exact pur_sl _ _ | exact Pur.pf)⟩ | rfl)))
        · refine ⟨hin, ?_, hm⟩
          dsimp only
          rw [hls, if_pos (by assumption), List.append_nil, hu]
        · dsimp only; omega
    · obtain rfl : i = p.body.length := by omega
      rw [← l7] at hu
      subst hu hm
      repeat' (first | (apply id_rw; first | (with_reducible apply rw_stop (d := 68)) | (apply rx_move;rfl;rfl) | (apply rx_load1;rfl;rfl;rfl;rfl) | (apply rx_fieldAddr;rfl;rfl;rfl) | (apply rx_bin;rfl;rfl;rfl;rfl) | (apply rx_len;rfl;rfl;rfl) | (apply rw_nil;kernel_rfl)) | (apply id_aw; first | apply aw_seq | apply aw_region | (apply aw_cond;rfl;all_goals intro hc;have hq:=hc;(try simp only [bqs] at hq);try exfalso;omega) | apply aw_exit) | with_reducible apply tq_normal | with_reducible apply tq_exit | with_reducible apply bq_here)
      refine rw_go (rw_le ?_ (Le.frzD (d := 8) (i := 3) rfl rfl))
      have v6 : PC Tryz.prog 55 [aPrg Q, .agg [sl cI p.types, sl cStmt Q.body]] (fun r => r = bv true) := by rw [← l2]; exact v1
      repeat' (apply id_rw; first | ((with_reducible apply rx_callE (k := 19) (d := 69)); (case ha => rfl); (case h => exact v3); (case hp => (exact Pur.pf)); (case hN => rfl)) | (apply rx_move;rfl;rfl) | (first | (apply rx_load1;rfl;rfl;rfl;rfl) | (apply rx_loadA;rfl;rfl;(exact (rfl:_=[_, _]));rfl;rfl;rfl)) | (apply rx_fieldAddr;rfl;rfl;rfl) | (apply rx_guardY;rfl;rfl;rfl;(rfl)) | (apply rx_buildK;rfl;(exact (rfl:_=some [_, _]));(exact (rfl:_=[_, _]));rfl))
      with_reducible apply rx_callE (k := 55)
      case ha => rfl
      case h => exact v6
      case hp => exact (show pursB [AV.agg [sl cI Q.types, sl cStmt Q.body], AV.agg [sl cI p.types, sl cStmt Q.body]] = true from Pur.pf)
      case hN => rfl
      repeat' (first | (apply id_rw; first | ((with_reducible apply rx_callE (k := 19) (d := 83)); (case ha => rfl); (case h => exact v4); (case hp => (exact Pur.pf)); (case hN => rfl)) | (apply rx_move;rfl;rfl) | (apply rx_loadA;rfl;rfl;(exact (rfl:_=[_, _]));rfl;rfl;rfl) | (apply rx_guardY;rfl;rfl;rfl;(rfl)) | (first | (apply rx_bbin;rfl;rfl;rfl;rfl) | (apply rx_bin;rfl;rfl;rfl;rfl)) | (apply rx_assign;rfl;rfl) | (apply rx_pickT;rfl;(rfl);rfl;rfl) | (apply rx_len;rfl;rfl;rfl) | (apply rw_nil;kernel_rfl)) | (apply id_aw; (apply aw_ret)) | with_reducible apply tq_normal)
      refine rq_ret rfl ⟨?_, rfl⟩
      have e : decide ((M.length : Int) = 0) = (true && L.isEmpty) := by
        rw [Bool.true_and]
        by_cases hM : M = []
        · rw [l5.1 hM, hM]; rfl
        · have hL : L ≠ [] := fun h => hM (l5.2 h)
          have h3 : ¬ ((M.length : Int) = 0) := fun h => hM (List.eq_nil_of_length_eq_zero (by omega))
          rw [decide_eq_false h3]
          cases L with
          | nil => exact absurd rfl hL
          | cons _ _ => rfl
      simp only [oneOf]
      rw [e, decide_eq_true rfl]
end Go.Proofs.YtejkbiijonnefaaGreat
