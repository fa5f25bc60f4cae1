/-
  A part of the proofs over this program: rules and contracts of its functions (the contracts).
-/
import Derived.Test.YtlbbbmeadnelbaaGreatB03
set_option linter.unusedVariables false
set_option linter.unusedSimpArgs false
set_option maxHeartbeats 8000000
set_option maxRecDepth 4000
attribute [local irreducible] Go.AL.RW Go.AL.AW Go.AL.Stop
namespace Go.Proofs.YtlbbbmeadnelbaaGreat
open Go.AL Go.RowKit
theorem l7Do_1 (ts : List Int) (s : Mc) (x : Pnt) (ho : x.op = 1) (hm : OkM s.cells) (hsl : s.slots.length = ts.length) (hx : 0 ≤ x.x ∧ x.x < ts.length) (hl : ts.length ≤ 1000000) : PC Tryz.prog 95 [sl cI ts, aMc s, aPnt x] (fun r => r = .tup [aMc (doF ts s x).1, iv (gk (doF ts s x).2)]) := by
  have hp := l7Put_c ts s x.x.toNat ⟨true, x.n, ⟨0, 0⟩⟩ hm (by omega) (by omega) (by omega)
  rw [Int.toNat_of_nonneg hx.1] at hp
  have hd : doF ts s x = putF ts s x.x.toNat ⟨true, x.n, ⟨0, 0⟩⟩ := by unfold doF;rw [if_pos ho]
  rw [hd]
  (refine pc_of_aw Tryz.func95 rfl (by simp [Tryz.ntmps95]) ?_; rw [Tryz.ntmps95])
  repeat' (first|(apply id_rw;first|((with_reducible apply rx_callE (k := 130) (avs := [sl cI ts, aMc s, iv x.x, aSl ⟨true, x.n, ⟨0, 0⟩⟩]));(case ha => rfl);(case h => exact hp);(case hp => (exact Pur.pf));(case hN => rfl))|(apply rx_move;rfl;rfl)|(first|(apply rx_load1;rfl;rfl;rfl;rfl)|(apply rx_loadA;rfl;rfl;(exact (rfl:_=[_, _, _]));rfl;rfl;rfl))|(apply rx_fieldAddr;rfl;rfl;rfl)|(apply rx_bin;rfl;rfl;rfl;rfl)|(apply rx_assign;rfl;rfl)|(apply rw_nil;kernel_rfl)|(apply rx_buildK;rfl;(exact (rfl:_=some [_, _, _, _]));(exact (rfl:_=[_, _, _, _]));rfl)|(apply rx_box;rfl;rfl;rfl;rfl)|(apply rx_alloc;rfl;rfl)|(apply rx_extract;rfl;rfl;rfl)|(apply rx_store;rfl;rfl;rfl;rfl;rfl;(case hl => (simp;done));(exact (rfl:_=[_, _, _]))))|(apply id_aw;first|apply aw_seq|apply aw_region|(apply aw_cond;rfl;all_goals intro hc;have hq:=hc;(try simp only [bqs] at hq);try exfalso;omega)|apply aw_block|apply aw_ret)|with_reducible apply tq_normal|with_reducible apply tq_ret|with_reducible apply bq_ret)
  exact rq_ret (l := [aMc (putF ts s x.x.toNat ⟨true, x.n, ⟨0, 0⟩⟩).1, iv (gk (putF ts s x.x.toNat ⟨true, x.n, ⟨0, 0⟩⟩).2)]) rfl ⟨rfl, by (exact Pur.pf)⟩
theorem l7Do_2 (ts : List Int) (s : Mc) (x : Pnt) (ho : x.op = 2) (hm : OkM s.cells) (hsl : s.slots.length = ts.length) (hx : 0 ≤ x.x ∧ x.x < ts.length) (hn : 0 ≤ x.n ∧ x.n ≤ 9) (hl : ts.length ≤ 1000000) : PC Tryz.prog 95 [sl cI ts, aMc s, aPnt x] (fun r => r = .tup [aMc (doF ts s x).1, iv (gk (doF ts s x).2)]) := by
  have hml := hm.l
  have hnc := NewCellS_c s.cells hm x.n
  by_cases h2 : s.cells.length = 200
  · rw [if_neg (by omega)] at hnc
    have hd : doF ts s x = (s, 1) := by unfold doF;rw [if_neg (by omega), if_pos ho, if_pos h2]
    rw [hd]
    (refine pc_of_aw Tryz.func95 rfl (by simp [Tryz.ntmps95]) ?_; rw [Tryz.ntmps95])
    repeat' (first|(apply id_rw;first|((with_reducible apply rx_callE (k := 131));(case ha => rfl);(case h => exact hnc);(case hp => (exact Pur.pf));(case hN => rfl))|(apply rx_move;rfl;rfl)|(first|(apply rx_load1;rfl;rfl;rfl;rfl)|(apply rx_loadA;rfl;rfl;(exact (rfl:_=[_, _, _]));rfl;rfl;rfl))|(apply rx_fieldAddr;rfl;rfl;rfl)|(apply rx_bin;rfl;rfl;rfl;rfl)|(apply rx_assign;rfl;rfl)|(apply rw_nil;kernel_rfl)|(apply rx_not;rfl;rfl)|(apply rx_box;rfl;rfl;rfl;rfl)|(apply rx_alloc;rfl;rfl)|(apply rx_extract;rfl;rfl;rfl)|(apply rx_store;rfl;rfl;rfl;rfl;rfl;(case hl => (first|decide|(simp;done)));(first|exact (rfl:_=[_, _])|exact (rfl:_=[_, _, _]))))|(apply id_aw;first|apply aw_seq|apply aw_region|(apply aw_condT;rfl;(rfl))|(apply aw_cond;rfl;all_goals intro hc;have hq:=hc;(try simp only [bqs] at hq);try exfalso;omega)|apply aw_block|apply aw_ret)|with_reducible apply tq_normal|with_reducible apply tq_ret|with_reducible apply bq_ret)
    exact rq_ret (l := [aMc s, iv 1]) rfl ⟨rfl, by (exact Pur.pf)⟩
  · rw [if_pos (by omega)] at hnc
    have hp := l7Put_c ts ⟨s.slots, s.cells ++ [nwC x.n], s.read⟩ x.x.toNat ⟨true, 0, ⟨s.cells.length, 0⟩⟩ (hm.nw hn (by omega)) (by show _ < s.slots.length;omega) (by omega) (by show s.slots.length ≤ _; omega)
    rw [Int.toNat_of_nonneg hx.1] at hp
    have hd : doF ts s x = putF ts ⟨s.slots, s.cells ++ [nwC x.n], s.read⟩ x.x.toNat ⟨true, 0, ⟨s.cells.length, 0⟩⟩ := by unfold doF;rw [if_neg (by omega), if_pos ho, if_neg h2]
    rw [hd]
    (refine pc_of_aw Tryz.func95 rfl (by simp [Tryz.ntmps95]) ?_; rw [Tryz.ntmps95])
    repeat' (first|(apply id_rw;first|((with_reducible apply rx_callE (k := 131));(case ha => rfl);(case h => exact hnc);(case hp => (exact Pur.pf));(case hN => rfl))|((with_reducible apply rx_callE (k := 130) (avs := [sl cI ts, aMc ⟨s.slots, s.cells ++ [nwC x.n], s.read⟩, iv x.x, aSl ⟨true, 0, ⟨s.cells.length, 0⟩⟩]));(case ha => rfl);(case h => exact hp);(case hp => (exact Pur.pf));(case hN => rfl))|(apply rx_move;rfl;rfl)|(first|(apply rx_load1;rfl;rfl;rfl;rfl)|(apply rx_loadA;rfl;rfl;(first|exact (rfl:_=[_, _])|exact (rfl:_=[_, _, _]));rfl;rfl;rfl))|(apply rx_fieldAddr;rfl;rfl;rfl)|(apply rx_bin;rfl;rfl;rfl;rfl)|(apply rx_assign;rfl;rfl)|(apply rw_nil;kernel_rfl)|(apply rx_buildK;rfl;(exact (rfl:_=some [_, _, _, _]));(exact (rfl:_=[_, _, _, _]));rfl)|(apply rx_not;rfl;rfl)|(apply rx_box;rfl;rfl;rfl;rfl)|(apply rx_alloc;rfl;rfl)|(apply rx_extract;rfl;rfl;rfl)|(apply rx_store;rfl;rfl;rfl;rfl;rfl;(case hl => (simp;done));(first|exact (rfl:_=[_, _])|exact (rfl:_=[_, _, _]))))|(apply id_aw;first|apply aw_seq|apply aw_region|(apply aw_condF;rfl;(rfl))|(apply aw_cond;rfl;all_goals intro hc;have hq:=hc;(try simp only [bqs] at hq);try exfalso;omega)|apply aw_block|apply aw_skip|apply aw_ret)|with_reducible apply tq_normal|with_reducible apply tq_ret|with_reducible apply bq_ret)
    exact rq_ret (l := [aMc (putF ts ⟨s.slots, s.cells ++ [nwC x.n], s.read⟩ x.x.toNat ⟨true, 0, ⟨s.cells.length, 0⟩⟩).1, iv (gk (putF ts ⟨s.slots, s.cells ++ [nwC x.n], s.read⟩ x.x.toNat ⟨true, 0, ⟨s.cells.length, 0⟩⟩).2)]) rfl ⟨rfl, by (exact Pur.pf)⟩
theorem l7Do_3 (ts : List Int) (s : Mc) (x : Pnt) (ho : x.op = 3) (hm : OkM s.cells) (hsl : s.slots.length = ts.length) (hx : 0 ≤ x.x ∧ x.x < ts.length) (hy : 0 ≤ x.y ∧ x.y < ts.length) (hl : ts.length ≤ 1000000) : PC Tryz.prog 95 [sl cI ts, aMc s, aPnt x] (fun r => r = .tup [aMc (doF ts s x).1, iv (gk (doF ts s x).2)]) := by
  have hmv := l7Move_c ts s x hm hsl hx hy hl
  have hd : doF ts s x = putF ts (if tkT ts[x.y.toNat]! = true then ⟨s.slots.set x.y.toNat sl0, s.cells, s.read⟩ else s) x.x.toNat s.slots[x.y.toNat]! := by unfold doF;rw [if_neg (by omega), if_neg (by omega), if_pos ho]
  rw [← hd] at hmv
  (refine pc_of_aw Tryz.func95 rfl (by simp [Tryz.ntmps95]) ?_; rw [Tryz.ntmps95])
  repeat' (first|(apply id_rw;first|((with_reducible apply rx_callE (k := 132));(case ha => rfl);(case h => exact hmv);(case hp => (exact Pur.pf));(case hN => rfl))|(apply rx_move;rfl;rfl)|(first|(apply rx_load1;rfl;rfl;rfl;rfl)|(apply rx_loadA;rfl;rfl;(first|exact (rfl:_=[_, _, _])|exact (rfl:_=[_, _, _, _, _]));rfl;rfl;rfl))|(apply rx_fieldAddr;rfl;rfl;rfl)|(apply rx_bin;rfl;rfl;rfl;rfl)|(apply rx_assign;rfl;rfl)|(apply rw_nil;kernel_rfl)|(apply rx_box;rfl;rfl;rfl;rfl)|(apply rx_alloc;rfl;rfl)|(apply rx_extract;rfl;rfl;rfl)|(apply rx_store;rfl;rfl;rfl;rfl;rfl;(case hl => (simp;done));(exact (rfl:_=[_, _, _]))))|(apply id_aw;first|apply aw_seq|apply aw_region|(apply aw_cond;rfl;all_goals intro hc;have hq:=hc;(try simp only [bqs] at hq);try exfalso;omega)|apply aw_block|apply aw_ret)|with_reducible apply tq_normal|with_reducible apply tq_ret|with_reducible apply bq_ret)
  exact rq_ret (l := [aMc (doF ts s x).1, iv (gk (doF ts s x).2)]) rfl ⟨rfl, by (exact Pur.pf)⟩
theorem l7Do_45 (ts : List Int) (s : Mc) (x : Pnt) (ho : x.op = 4 ∨ x.op = 5) (hm : OkM s.cells) (hsl : s.slots.length = ts.length) (hx : 0 ≤ x.x ∧ x.x < ts.length) (hy : 0 ≤ x.y ∧ x.y < ts.length) (hl : ts.length ≤ 1000000) : PC Tryz.prog 95 [sl cI ts, aMc s, aPnt x] (fun r => r = .tup [aMc (doF ts s x).1, iv (gk (doF ts s x).2)]) := by
  have hmk := l7Make_c ts s x (decide (x.op = 5)) rfl hm hsl hx hy hl
  have h0 : doF ts s x = (if lnK s.cells s.slots[x.y.toNat]!.ptr (decide (x.op = 5)) = 0 then putF ts ⟨s.slots, lnM s.cells s.slots[x.y.toNat]!.ptr (decide (x.op = 5)), s.read⟩ x.x.toNat ⟨true, 0, lnP s.cells s.slots[x.y.toNat]!.ptr (decide (x.op = 5))⟩
     else (s, endK (lnK s.cells s.slots[x.y.toNat]!.ptr (decide (x.op = 5))))) := by
    unfold doF;rw [if_neg (show ¬ x.op = 1 by omega), if_neg (show ¬ x.op = 2 by omega), if_neg (show ¬ x.op = 3 by omega), if_pos ho]
  have hd : ∀ r, (r = if lnK s.cells s.slots[x.y.toNat]!.ptr (decide (x.op = 5)) = 0 then
      AV.tup [aMc (putF ts ⟨s.slots, lnM s.cells s.slots[x.y.toNat]!.ptr (decide (x.op = 5)), s.read⟩ x.x.toNat ⟨true, 0, lnP s.cells s.slots[x.y.toNat]!.ptr (decide (x.op = 5))⟩).1, iv (gk (putF ts ⟨s.slots, lnM s.cells s.slots[x.y.toNat]!.ptr (decide (x.op = 5)), s.read⟩ x.x.toNat ⟨true, 0, lnP s.cells s.slots[x.y.toNat]!.ptr (decide (x.op = 5))⟩).2)]
      else AV.tup [aMc s, iv (endK (lnK s.cells s.slots[x.y.toNat]!.ptr (decide (x.op = 5))))]) = (r = AV.tup [aMc (doF ts s x).1, iv (gk (doF ts s x).2)]) := by
    intro r
    rw [h0]
    by_cases hk : lnK s.cells s.slots[x.y.toNat]!.ptr (decide (x.op = 5)) = 0
    · rw [if_pos hk, if_pos hk]
    · rw [if_neg hk, if_neg hk]
      have : ∀ k, gk (endK k) = endK k := fun k => by unfold gk endK;split <;> rfl
      dsimp only
      rw [this]
  simp only [hd] at hmk
  (refine pc_of_aw Tryz.func95 rfl (by simp [Tryz.ntmps95]) ?_; rw [Tryz.ntmps95])
  repeat' (first|(apply id_rw;first|((with_reducible apply rx_callE (k := 133));(case ha => rfl);(case h => exact hmk);(case hp => (exact Pur.pf));(case hN => rfl))|(apply rx_move;rfl;rfl)|(first|(apply rx_load1;rfl;rfl;rfl;rfl)|(apply rx_loadA;rfl;rfl;(first|exact (rfl:_=[_, _, _])|exact (rfl:_=[_, _, _, _, _]));rfl;rfl;rfl))|(apply rx_fieldAddr;rfl;rfl;rfl)|(apply rx_bin;rfl;rfl;rfl;rfl)|(apply rx_assign;rfl;rfl)|(apply rw_nil;kernel_rfl)|(apply rx_box;rfl;rfl;rfl;rfl)|(apply rx_alloc;rfl;rfl)|(apply rx_extract;rfl;rfl;rfl)|(apply rx_store;rfl;rfl;rfl;rfl;rfl;(case hl => (simp;done));(exact (rfl:_=[_, _, _]))))|(apply id_aw;first|apply aw_seq|apply aw_region|(apply aw_condT;rfl;(assumption))|(apply aw_cond;rfl;all_goals intro hc;have hq:=hc;(try simp only [bqs] at hq);try exfalso;omega)|apply aw_block|apply aw_skip|apply aw_ret)|with_reducible apply tq_normal|with_reducible apply tq_ret|with_reducible apply bq_ret)
  all_goals exact rq_ret (l := [aMc (doF ts s x).1, iv (gk (doF ts s x).2)]) rfl ⟨rfl, by (exact Pur.pf)⟩
theorem l7Do_6 (ts : List Int) (s : Mc) (x : Pnt) (ho : x.op = 6) (hm : OkM s.cells) (hsl : s.slots.length = ts.length) (hx : 0 ≤ x.x ∧ x.x < ts.length) (hy : 0 ≤ x.y ∧ x.y < ts.length) (hl : ts.length ≤ 1000000) (hrl : s.read.length ≤ 1000000) : PC Tryz.prog 95 [sl cI ts, aMc s, aPnt x] (fun r => r = .tup [aMc (doF ts s x).1, iv (gk (doF ts s x).2)]) := by
  have hrd := ReadCellS_c s.cells hm s.slots[x.y.toNat]!.ptr
  have h0 : doF ts s x = (if tchK s.cells s.slots[x.y.toNat]!.ptr false = 0 then putF ts ⟨s.slots, tchM s.cells s.slots[x.y.toNat]!.ptr false, s.read ++ [rdN s.cells s.slots[x.y.toNat]!.ptr]⟩ x.x.toNat ⟨true, rdN s.cells s.slots[x.y.toNat]!.ptr, ⟨0, 0⟩⟩
     else (s, endK (tchK s.cells s.slots[x.y.toNat]!.ptr false))) := by
    unfold doF;rw [if_neg (show ¬ x.op = 1 by omega), if_neg (show ¬ x.op = 2 by omega), if_neg (show ¬ x.op = 3 by omega), if_neg (show ¬ (x.op = 4 ∨ x.op = 5) by omega), if_pos ho]
  have hp := l7Put_c ts ⟨s.slots, tchM s.cells s.slots[x.y.toNat]!.ptr false, s.read ++ [rdN s.cells s.slots[x.y.toNat]!.ptr]⟩ x.x.toNat ⟨true, rdN s.cells s.slots[x.y.toNat]!.ptr, ⟨0, 0⟩⟩ (hm.tch _ _) (by show _ < s.slots.length;omega) (by omega) (by show s.slots.length ≤ _; omega)
  rw [Int.toNat_of_nonneg hx.1] at hp
  by_cases hk : tchK s.cells s.slots[x.y.toNat]!.ptr false = 0
  · rw [if_pos hk] at h0
    rw [h0]
    (refine pc_of_aw Tryz.func95 rfl (by simp [Tryz.ntmps95]) ?_; rw [Tryz.ntmps95])
    repeat' (first|(apply id_rw;first|((with_reducible apply rx_callE (k := 134));(case ha => rfl);(case h => exact hrd);(case hp => (exact Pur.pf));(case hN => rfl))|(with_reducible apply rw_stop (d := 105))|(apply rx_move;rfl;rfl)|(first|(apply rx_load1;rfl;rfl;rfl;rfl)|(apply rx_loadA;rfl;rfl;(exact (rfl:_=[_, _]));rfl;rfl;rfl))|(apply rx_fieldAddr;rfl;rfl;rfl)|(apply rx_bin;rfl;rfl;rfl;rfl)|(apply rx_assign;rfl;rfl)|(apply rx_indexF;(case hx|hi => rfl);(case hm => (omega));(case hml => (rfl));(case hα | hf|hg => infer_instance);(case hN => rfl))|(apply rx_append;rfl;rfl;rfl;rfl;rfl;(case hl => first|(rw [flat_length]; omega)|(simp [flat_length]; done));(first|rfl|exact sC_imm (by (rfl)));omega;omega;(first|exact app_nilF (by (omega))|exact app_int (by (omega)));rfl;rfl)|(apply rw_nil;kernel_rfl)|(apply rx_box;rfl;rfl;rfl;rfl)|(apply rx_alloc;rfl;rfl)|(apply rx_extract;rfl;rfl;rfl)|(apply rx_buildSlice;rfl;rfl;rfl;(first|exact (rfl:_=some [_])|rfl);rfl;rfl)|(apply rx_store;rfl;rfl;rfl;rfl;rfl;(case hl => (simp;done));(exact (rfl:_=[_, _, _]))))|(apply id_aw;first|apply aw_seq|apply aw_region|(apply aw_draw;kernel_rfl)|(apply aw_cond;rfl;all_goals intro hc;have hq:=hc;(try simp only [bqs] at hq);try exfalso;omega)|apply aw_block|apply aw_skip)|with_reducible apply tq_normal)
    refine rw_go (rw_le ?_ (Le.frzC (j := 0) (i := 6) [sl cSl s.slots, sl cCl (tchM s.cells s.slots[x.y.toNat]!.ptr false)] (m := 0 + s.read.length + 1) (d := flat cI (s.read ++ [rdN s.cells s.slots[x.y.toNat]!.ptr])) rfl rfl (by decide)))
    have e : AV.imm (0 + s.read.length + 1) (flat cI (s.read ++ [rdN s.cells s.slots[x.y.toNat]!.ptr])) = sl cI (s.read ++ [rdN s.cells s.slots[x.y.toNat]!.ptr]) := sl_len (by rw [Nat.zero_add, List.length_append]; rfl)
    rw [e]
    repeat' (first|(apply id_rw;first|((with_reducible apply rx_callE (k := 130) (avs := [sl cI ts, aMc ⟨s.slots, tchM s.cells s.slots[x.y.toNat]!.ptr false, s.read ++ [rdN s.cells s.slots[x.y.toNat]!.ptr]⟩, iv x.x, aSl ⟨true, rdN s.cells s.slots[x.y.toNat]!.ptr, ⟨0, 0⟩⟩]));(case ha => rfl);(case h => exact hp);(case hp => (exact Pur.pf));(case hN => rfl))|(apply rx_move;rfl;rfl)|(first|(apply rx_load1;rfl;rfl;rfl;rfl)|(apply rx_loadA;rfl;rfl;(exact (rfl:_=[_, _, _]));rfl;rfl;rfl))|(apply rx_fieldAddr;rfl;rfl;rfl)|(apply rx_assign;rfl;rfl)|(apply rw_nil;kernel_rfl)|(apply rx_buildK;rfl;(exact (rfl:_=some [_, _, _, _]));(exact (rfl:_=[_, _, _, _]));rfl)|(apply rx_extract;rfl;rfl;rfl)|(apply rx_store;rfl;rfl;rfl;rfl;rfl;(case hl => (simp;done));(exact (rfl:_=[_, _, _]))))|(apply id_aw;(apply aw_ret))|with_reducible apply tq_normal|with_reducible apply tq_ret|with_reducible apply bq_ret)
    exact rq_ret (l := [aMc (putF ts ⟨s.slots, tchM s.cells s.slots[x.y.toNat]!.ptr false, s.read ++ [rdN s.cells s.slots[x.y.toNat]!.ptr]⟩ x.x.toNat ⟨true, rdN s.cells s.slots[x.y.toNat]!.ptr, ⟨0, 0⟩⟩).1, iv (gk (putF ts ⟨s.slots, tchM s.cells s.slots[x.y.toNat]!.ptr false, s.read ++ [rdN s.cells s.slots[x.y.toNat]!.ptr]⟩ x.x.toNat ⟨true, rdN s.cells s.slots[x.y.toNat]!.ptr, ⟨0, 0⟩⟩).2)]) rfl ⟨rfl, by (exact Pur.pf)⟩
  · rw [if_neg hk] at h0
    rw [h0]
    have e4 : tchM s.cells s.slots[x.y.toNat]!.ptr false = s.cells := by unfold tchM;rw [if_neg hk]
    rw [e4] at hrd
    (refine pc_of_aw Tryz.func95 rfl (by simp [Tryz.ntmps95]) ?_; rw [Tryz.ntmps95])
    repeat' (first|(apply id_rw;first|((with_reducible apply rx_callE (k := 134));(case ha => rfl);(case h => exact hrd);(case hp => (exact Pur.pf));(case hN => rfl))|(apply rx_move;rfl;rfl)|(first|(apply rx_load1;rfl;rfl;rfl;rfl)|(apply rx_loadA;rfl;rfl;(first|exact (rfl:_=[_, _])|exact (rfl:_=[_, _, _]));rfl;rfl;rfl))|(apply rx_fieldAddr;rfl;rfl;rfl)|(apply rx_bin;rfl;rfl;rfl;rfl)|(apply rx_assign;rfl;rfl)|(apply rx_indexF;(case hx|hi => rfl);(case hm => (omega));(case hml => (rfl));(case hα | hf|hg => infer_instance);(case hN => rfl))|((with_reducible apply rx_callE (k := 128));(case ha => rfl);(case h => (apply l7Code_c <;> (fail)));(case hp => (rfl));(case hN => rfl))|(apply rw_nil;kernel_rfl)|(apply rx_box;rfl;rfl;rfl;rfl)|(apply rx_alloc;rfl;rfl)|(apply rx_extract;rfl;rfl;rfl)|(apply rx_store;rfl;rfl;rfl;rfl;rfl;(case hl => (simp;done));(exact (rfl:_=[_, _, _]))))|(apply id_aw;first|apply aw_seq|apply aw_region|(apply aw_draw;kernel_rfl)|(apply aw_cond;rfl;all_goals intro hc;have hq:=hc;(try simp only [bqs] at hq);try exfalso;omega)|apply aw_block|apply aw_ret)|with_reducible apply tq_normal|with_reducible apply tq_ret|with_reducible apply bq_ret)
    refine rq_ret (l := [aMc s, iv (if tchK s.cells s.slots[x.y.toNat]!.ptr false = 1 then 3 else if tchK s.cells s.slots[x.y.toNat]!.ptr false = 0 then 0 else 4)]) rfl ?_
    rw [endK_n hk]
    have : ∀ k, gk (endK k) = endK k := fun k => by unfold gk endK;split <;> rfl
    dsimp only
    rw [this]
    exact ⟨rfl, by (exact Pur.pf)⟩
theorem l7Do_7 (ts : List Int) (s : Mc) (x : Pnt) (ho : x.op = 7) (hm : OkM s.cells) (hsl : s.slots.length = ts.length) (hx : 0 ≤ x.x ∧ x.x < ts.length) (hy : 0 ≤ x.y ∧ x.y < ts.length) (hl : ts.length ≤ 1000000) : PC Tryz.prog 95 [sl cI ts, aMc s, aPnt x] (fun r => r = .tup [aMc (doF ts s x).1, iv (gk (doF ts s x).2)]) := by
  have hwr := WriteCellS_c s.cells hm s.slots[x.x.toNat]!.ptr s.slots[x.y.toNat]!.num
  have h0 : doF ts s x = (⟨s.slots, wrM s.cells s.slots[x.x.toNat]!.ptr s.slots[x.y.toNat]!.num, s.read⟩, goK (wrK s.cells s.slots[x.x.toNat]!.ptr s.slots[x.y.toNat]!.num)) := by
    unfold doF;rw [if_neg (show ¬ x.op = 1 by omega), if_neg (show ¬ x.op = 2 by omega), if_neg (show ¬ x.op = 3 by omega), if_neg (show ¬ (x.op = 4 ∨ x.op = 5) by omega), if_neg (show ¬ x.op = 6 by omega), if_pos ho]
  rw [h0]
  (refine pc_of_aw Tryz.func95 rfl (by simp [Tryz.ntmps95]) ?_; rw [Tryz.ntmps95])
  repeat' (first|(apply id_rw;first|((with_reducible apply rx_callE (k := 135));(case ha => rfl);(case h => exact hwr);(case hp => (exact Pur.pf));(case hN => rfl))|(apply rx_move;rfl;rfl)|(first|(apply rx_load1;rfl;rfl;rfl;rfl)|(apply rx_loadA;rfl;rfl;(first|exact (rfl:_=[_, _])|exact (rfl:_=[_, _, _]));rfl;rfl;rfl))|(apply rx_fieldAddr;rfl;rfl;rfl)|(apply rx_bin;rfl;rfl;rfl;rfl)|(apply rx_assign;rfl;rfl)|(apply rx_indexF;(case hx|hi => rfl);(case hm => (omega));(case hml => (rfl));(case hα | hf|hg => infer_instance);(case hN => rfl))|((with_reducible apply rx_callE (k := 128));(case ha => rfl);(case h => (apply l7Code_c <;> (fail)));(case hp => (rfl));(case hN => rfl))|(apply rw_nil;kernel_rfl)|(apply rx_box;rfl;rfl;rfl;rfl)|(apply rx_alloc;rfl;rfl)|(apply rx_extract;rfl;rfl;rfl)|(apply rx_store;rfl;rfl;rfl;rfl;rfl;(case hl => (simp;done));(exact (rfl:_=[_, _, _]))))|(apply id_aw;first|apply aw_seq|apply aw_region|(apply aw_draw;kernel_rfl)|(apply aw_cond;rfl;all_goals intro hc;have hq:=hc;(try simp only [bqs] at hq);try exfalso;omega)|apply aw_block|apply aw_ret)|with_reducible apply tq_normal|with_reducible apply tq_ret|with_reducible apply bq_ret)
  refine rq_ret (l := [aMc ⟨s.slots, wrM s.cells s.slots[x.x.toNat]!.ptr s.slots[x.y.toNat]!.num, s.read⟩, iv (if wrK s.cells s.slots[x.x.toNat]!.ptr s.slots[x.y.toNat]!.num = 1 then 3 else if wrK s.cells s.slots[x.x.toNat]!.ptr s.slots[x.y.toNat]!.num = 0 then 0 else 4)]) rfl ?_
  rw [← goK_0]
  exact ⟨rfl, by (exact Pur.pf)⟩
theorem l7Do_8 (ts : List Int) (s : Mc) (x : Pnt) (ho : x.op = 8) (hm : OkM s.cells) (hsl : s.slots.length = ts.length) (hx : 0 ≤ x.x ∧ x.x < ts.length) (hl : ts.length ≤ 1000000) : PC Tryz.prog 95 [sl cI ts, aMc s, aPnt x] (fun r => r = .tup [aMc (doF ts s x).1, iv (gk (doF ts s x).2)]) := by
  have hfr := FreeCellS_c s.cells hm s.slots[x.x.toNat]!.ptr
  have hcl := l7Clear_c ⟨s.slots, frM s.cells s.slots[x.x.toNat]!.ptr, s.read⟩ x.x.toNat (by show _ < s.slots.length;omega) (by show s.slots.length ≤ _; omega)
  rw [Int.toNat_of_nonneg hx.1] at hcl
  have h0 : doF ts s x = (⟨s.slots.set x.x.toNat sl0, frM s.cells s.slots[x.x.toNat]!.ptr, s.read⟩, goK (tchK s.cells s.slots[x.x.toNat]!.ptr true)) := by
    unfold doF;rw [if_neg (show ¬ x.op = 1 by omega), if_neg (show ¬ x.op = 2 by omega), if_neg (show ¬ x.op = 3 by omega), if_neg (show ¬ (x.op = 4 ∨ x.op = 5) by omega), if_neg (show ¬ x.op = 6 by omega), if_neg (show ¬ x.op = 7 by omega), if_pos ho]
  rw [h0]
  (refine pc_of_aw Tryz.func95 rfl (by simp [Tryz.ntmps95]) ?_; rw [Tryz.ntmps95])
  repeat' (first|(apply id_rw;first|((with_reducible apply rx_callE (k := 127));(case ha => rfl);(case h => exact hfr);(case hp => (exact Pur.pf));(case hN => rfl))|((with_reducible apply rx_callE (k := 129));(case ha => rfl);(case h => exact hcl);(case hp => (exact Pur.pf));(case hN => rfl))|(apply rx_move;rfl;rfl)|(first|(apply rx_load1;rfl;rfl;rfl;rfl)|(apply rx_loadA;rfl;rfl;(first|exact (rfl:_=[_, _])|exact (rfl:_=[_, _, _]));rfl;rfl;rfl))|(apply rx_fieldAddr;rfl;rfl;rfl)|(apply rx_bin;rfl;rfl;rfl;rfl)|(apply rx_assign;rfl;rfl)|(apply rx_indexF;(case hx|hi => rfl);(case hm => (omega));(case hml => (rfl));(case hα | hf|hg => infer_instance);(case hN => rfl))|((with_reducible apply rx_callE (k := 128));(case ha => rfl);(case h => (apply l7Code_c <;> (fail)));(case hp => (rfl));(case hN => rfl))|(apply rw_nil;kernel_rfl)|(apply rx_box;rfl;rfl;rfl;rfl)|(apply rx_alloc;rfl;rfl)|(apply rx_extract;rfl;rfl;rfl)|(apply rx_store;rfl;rfl;rfl;rfl;rfl;(case hl => (simp;done));(exact (rfl:_=[_, _, _]))))|(apply id_aw;first|apply aw_seq|apply aw_region|(apply aw_draw;kernel_rfl)|(apply aw_cond;rfl;all_goals intro hc;have hq:=hc;(try simp only [bqs] at hq);try exfalso;omega)|apply aw_block|apply aw_ret)|with_reducible apply tq_normal|with_reducible apply tq_ret|with_reducible apply bq_ret)
  refine rq_ret (l := [aMc ⟨s.slots.set x.x.toNat sl0, frM s.cells s.slots[x.x.toNat]!.ptr, s.read⟩, iv (if tchK s.cells s.slots[x.x.toNat]!.ptr true = 1 then 3 else if tchK s.cells s.slots[x.x.toNat]!.ptr true = 0 then 0 else 4)]) rfl ?_
  rw [← goK_0]
  exact ⟨rfl, by (exact Pur.pf)⟩
def unS (s : Mc) (x : Pnt) : Bool :=
  if x.op = 3 ∨ x.op = 4 ∨ x.op = 5 ∨ x.op = 6 then !s.slots[x.y.toNat]!.set
  else if x.op = 7 then !s.slots[x.x.toNat]!.set || !s.slots[x.y.toNat]!.set
  else if x.op = 8 then !s.slots[x.x.toNat]!.set else false
theorem l7Unset_c (s : Mc) (x : Pnt) (hx : (x.op = 7 ∨ x.op = 8) → 0 ≤ x.x ∧ x.x < s.slots.length) (hy : (x.op = 3 ∨ x.op = 4 ∨ x.op = 5 ∨ x.op = 6 ∨ x.op = 7) → 0 ≤ x.y ∧ x.y < s.slots.length) : PC Tryz.prog 94 [aPnt x, aMc s] (fun r => r = bv (unS s x)) := by
  (refine pc_of_aw Tryz.func94 rfl (by simp [Tryz.ntmps94]) ?_; rw [Tryz.ntmps94])
  repeat' (first|(apply id_rw;first|(apply rx_move;rfl;rfl)|(apply rx_load1;rfl;rfl;rfl;rfl)|(apply rx_fieldAddr;rfl;rfl;rfl)|(first|(apply rx_guardY;rfl;rfl;rfl;(assumption))|(apply rx_guardNs;rfl;rfl;rfl;(assumption))|(apply rx_guardS;(case hj|hb|hN => rfl);all_goals (intro hg;have hq := hg;(try simp only [bqs] at hq);(try (exfalso;omega)))))|(apply rx_bin;rfl;rfl;rfl;rfl)|(apply rx_assign;rfl;rfl)|(first|(apply rx_pickT;rfl;(assumption);rfl;rfl)|(apply rx_pickF;rfl;(assumption);rfl;rfl))|(apply rx_indexF;(case hx|hi => rfl);(case hm => (omega));(case hml => (rfl));(case hα | hf|hg => infer_instance);(case hN => rfl))|(apply rw_nil;kernel_rfl)|(apply rx_not;rfl;rfl)|(apply rx_box;rfl;rfl;rfl;rfl))|(apply id_aw;first|apply aw_seq|apply aw_region|(apply aw_condT;rfl;(assumption))|(apply aw_cond;rfl;all_goals intro hc;have hq:=hc;(try simp only [bqs] at hq);try exfalso;omega)|apply aw_block|apply aw_skip|apply aw_ret)|with_reducible apply tq_normal|with_reducible apply tq_ret|with_reducible apply bq_normal|with_reducible apply bq_ret)
  all_goals (refine rq_ret rfl ⟨?_, rfl⟩; simp only [oneOf, AV.v.injEq, Value.bool.injEq]; unfold unS;grind)
theorem finF_s {ts : List Int} {n v : Nat} {q : Mc} (h : ¬ (ts[v]! = 2 ∧ q.slots[v]!.set = true)) : finF ts (n + 1) v q = finF ts n (v + 1) q := by
  rw [finF, if_neg h]
theorem finF_f {ts : List Int} {n v : Nat} {q : Mc} (h : ts[v]! = 2 ∧ q.slots[v]!.set = true) (hk : tchK q.cells q.slots[v]!.ptr true = 0) : finF ts (n + 1) v q = finF ts n (v + 1) ⟨q.slots.set v sl0, frM q.cells q.slots[v]!.ptr, q.read⟩ := by
  rw [finF, if_pos h, if_pos hk]
theorem finF_e {ts : List Int} {n v : Nat} {q : Mc} (h : ts[v]! = 2 ∧ q.slots[v]!.set = true) (hk : ¬ tchK q.cells q.slots[v]!.ptr true = 0) : finF ts (n + 1) v q = (⟨q.slots, frM q.cells q.slots[v]!.ptr, q.read⟩, endK (tchK q.cells q.slots[v]!.ptr true)) := by
  rw [finF, if_pos h, if_neg hk]
theorem l7End_c (ts : List Int) (s : Mc) (hm : OkM s.cells) (hsl : s.slots.length = ts.length) (hl : ts.length ≤ 1000000) : PC Tryz.prog 93 [sl cI ts, aMc s] (fun r => r = .tup [aMc (finF ts ts.length 0 s).1, iv (finF ts ts.length 0 s).2]) := by
  (refine pc_of_aw Tryz.func93 rfl (by simp [Tryz.ntmps93]) ?_; rw [Tryz.ntmps93])
  repeat' (first|(apply id_rw;first|(apply rx_assign;rfl;rfl)|(apply rw_nil;kernel_rfl)|(apply rx_box;rfl;rfl;rfl;rfl)|(apply rx_alloc;rfl;rfl))|(apply id_aw;first|apply aw_seq|apply aw_region|apply aw_block)|with_reducible apply tq_normal)
  refine aw_loopK (σ := Nat × Mc) [0, 3, 4] [(0, _), (3, _), (4, _)] [1] [(1, some _)] (fun k => [(6, iv (k.1 : Int))]) (fun k => [(0, some [sl cSl k.2.slots, sl cCl k.2.cells, sl cI k.2.read])]) (fun k => k.1 ≤ ts.length ∧ finF ts (ts.length - k.1) k.1 k.2 = finF ts ts.length 0 s ∧ OkM k.2.cells ∧ k.2.slots.length = ts.length) (fun k => ts.length - k.1) (0, s) ⟨Nat.zero_le _, rfl, hm, hsl⟩ rfl rfl (by repeat' (first|exact trivial|refine And.intro rfl ?_)) (by repeat' (first|exact trivial|refine And.intro (.inr rfl) ?_)) ?_
  rintro ⟨v, q⟩ ⟨hv, hf, hmq, hlq⟩
  dsimp only at hv hf hmq hlq ⊢
  have hfr := FreeCellS_c q.cells hmq q.slots[v]!.ptr
  have hcl := fun h => l7Clear_c ⟨q.slots, frM q.cells q.slots[v]!.ptr, q.read⟩ v h (by show q.slots.length ≤ _; omega)
  repeat' (first|(apply id_rw;first|((with_reducible apply rx_callE (k := 127));(case ha => rfl);(case h => exact hfr);(case hp => (exact Pur.pf));(case hN => rfl))|((with_reducible apply rx_callE (k := 129));(case ha => rfl);(case h => exact hcl (by show v < q.slots.length;omega));(case hp => (exact Pur.pf));(case hN => rfl))|(apply rx_move;rfl;rfl)|(first|(apply rx_load1;rfl;rfl;rfl;rfl)|(apply rx_loadA;rfl;rfl;(first|exact (rfl:_=[_, _])|exact (rfl:_=[_, _, _]));rfl;rfl;rfl))|(apply rx_fieldAddr;rfl;rfl;rfl)|(first|(apply rx_guardY;rfl;rfl;rfl;(assumption))|(apply rx_guardNs;rfl;rfl;rfl;(assumption))|(apply rx_guardS;(case hj|hb|hN => rfl);all_goals (intro hg;have hq := hg;(try simp only [bqs] at hq);(try (exfalso;omega)))))|(first|(apply rx_add;rfl;rfl;omega;rfl)|(apply rx_bin;rfl;rfl;rfl;rfl))|(apply rx_assign;rfl;rfl)|(first|(apply rx_pickT;rfl;(assumption);rfl;rfl)|(apply rx_pickF;rfl;(assumption);rfl;rfl))|(apply rx_indexFN;(case hx|hi => rfl);(case hm => (omega));(case hml => (rfl));(case hα | hf|hg => infer_instance);(case hN => rfl))|((with_reducible apply rx_callE (k := 128));(case ha => rfl);(case h => (apply l7Code_c <;> (fail)));(case hp => (rfl));(case hN => rfl))|(apply rx_len;rfl;rfl;rfl)|(apply rw_nil;kernel_rfl)|(apply rx_not;rfl;rfl)|(apply rx_extract;rfl;rfl;rfl)|(apply rx_store;rfl;rfl;rfl;rfl;rfl;(case hl => (simp;done));(exact (rfl:_=[_, _, _]))))|(apply id_aw;first|apply aw_seq|apply aw_region|(apply aw_draw;kernel_rfl)|(apply aw_condT;rfl;(rfl))|(apply aw_cond;rfl;all_goals intro hc;have hq:=hc;(try simp only [bqs] at hq);try exfalso;omega)|apply aw_block|apply aw_skip|apply aw_exit|apply aw_ret)|with_reducible apply tq_normal|with_reducible apply tq_ret|with_reducible apply tq_exit|with_reducible apply bq_normal|with_reducible apply bq_ret|with_reducible apply bq_here)
  · (apply ex3 (v + 1, q); focus (refine Le.ren [(0, 0), (1, 1)] rfl (by decide) ?_ ?_ <;> repeat' (first | exact trivial | refine And.intro ⟨_, rfl, ?_⟩ ?_ | refine And.intro ⟨_, _, rfl, rfl, ?_⟩ ?_ | exact Or.inr rfl | refine Or.inl ⟨?_, (by first | rfl | exact pur_sl _ _ | exact Pur.pf)⟩ | rfl)))
    · refine ⟨by omega, ?_, hmq, hlq⟩
      dsimp only
      rw [← hf, show ts.length - v = (ts.length - (v + 1)) + 1 by omega, finF_s (fun h => by
        have h2 : q.slots[v]!.set = false := by assumption
        rw [h2] at h;exact absurd h.2 (by decide))]
    · dsimp only;omega
  · have hk : ¬ tchK q.cells q.slots[v]!.ptr true = 0 := by assumption
    have hq2 : finF ts ts.length 0 s = (⟨q.slots, frM q.cells q.slots[v]!.ptr, q.read⟩, endK (tchK q.cells q.slots[v]!.ptr true)) := by
      rw [← hf, show ts.length - v = (ts.length - (v + 1)) + 1 by omega, finF_e ⟨by assumption, by assumption⟩ hk]
    rw [hq2]
    refine rq_ret (l := [aMc ⟨q.slots, frM q.cells q.slots[v]!.ptr, q.read⟩, iv (if tchK q.cells q.slots[v]!.ptr true = 1 then 3 else if tchK q.cells q.slots[v]!.ptr true = 0 then 0 else 4)]) rfl ?_
    rw [endK_n hk]
    exact ⟨rfl, by (exact Pur.pf)⟩
  · (apply ex3 (v + 1, ⟨q.slots.set v sl0, frM q.cells q.slots[v]!.ptr, q.read⟩); focus (refine Le.ren [(0, 0), (1, 1)] rfl (by decide) ?_ ?_ <;> repeat' (first | exact trivial | refine And.intro ⟨_, rfl, ?_⟩ ?_ | refine And.intro ⟨_, _, rfl, rfl, ?_⟩ ?_ | exact Or.inr rfl | refine Or.inl ⟨?_, (by first | rfl | exact pur_sl _ _ | exact Pur.pf)⟩ | rfl)))
    · refine ⟨by omega, ?_, hmq.fr _, by show (q.slots.set v sl0).length = _; rw [List.length_set]; exact hlq⟩
      dsimp only
      rw [← hf, show ts.length - v = (ts.length - (v + 1)) + 1 by omega, finF_f ⟨by assumption, by assumption⟩ (by assumption)]
    · dsimp only;omega
  · (apply ex3 (v + 1, q); focus (refine Le.ren [(0, 0), (1, 1)] rfl (by decide) ?_ ?_ <;> repeat' (first | exact trivial | refine And.intro ⟨_, rfl, ?_⟩ ?_ | refine And.intro ⟨_, _, rfl, rfl, ?_⟩ ?_ | exact Or.inr rfl | refine Or.inl ⟨?_, (by first | rfl | exact pur_sl _ _ | exact Pur.pf)⟩ | rfl)))
    · refine ⟨by omega, ?_, hmq, hlq⟩
      dsimp only
      rw [← hf, show ts.length - v = (ts.length - (v + 1)) + 1 by omega, finF_s (fun h => by
        have h2 : ¬ ts[v]! = 2 := by assumption
        exact h2 h.1)]
    · dsimp only;omega
  · have hve : v = ts.length := by omega
    have hq2 : finF ts ts.length 0 s = (q, 0) := by rw [← hf, hve, Nat.sub_self]; rfl
    rw [hq2]
    exact rq_ret (l := [aMc q, iv 0]) rfl ⟨rfl, by (exact Pur.pf)⟩
theorem PointsOfS_c (p : Prg) (hl : p.types.length ≤ 1000000) (hs : cntL p.body ≤ 1000000) : PC Tryz.prog 126 [aPrg p] (fun r => r = sl cPnt (if validF p = true then ptsF p else [])) := by
  have hval := validS_c p hl (by omega)
  have h2 := l2Points_c p hs
  (refine pc_of_aw Tryz.func126 rfl (by simp [Tryz.ntmps126]) ?_; rw [Tryz.ntmps126])
  repeat' (first|(apply id_rw;first|((with_reducible apply rx_callE (k := 90));(case ha => rfl);(case h => exact hval);(case hp => (exact Pur.pf));(case hN => rfl))|((with_reducible apply rx_callE (k := 91));(case ha => rfl);(case h => exact h2);(case hp => (exact Pur.pf));(case hN => rfl))|(apply rx_loadA;rfl;rfl;(exact (rfl:_=[_, _]));rfl;rfl;rfl)|(apply rx_assign;rfl;rfl)|(apply rw_nil;kernel_rfl)|(apply rx_not;rfl;rfl)|(apply rx_box;rfl;rfl;rfl;rfl)|((apply rx_buildSliceI (t := _));(case hze|hsm|hl => rfl);(case hfl => (rfl));(case hM|hN => rfl)))|(apply id_aw;first|apply aw_seq|apply aw_region|(apply aw_cond;rfl;all_goals intro hc;have hq:=hc;(try simp only [bqs] at hq);try exfalso;omega)|apply aw_skip|apply aw_ret)|with_reducible apply tq_normal|with_reducible apply tq_ret)
  · refine rq_ret rfl ⟨?_, (by (rfl))⟩
    rw [if_neg (by simp [hq])]; rfl
  · refine rq_ret rfl ⟨?_, (by (exact pur_sl _ _))⟩
    rw [if_pos hq]; rfl
def wm (pts : List Pnt) (n a : Nat) (cs : List Int) : List Int × Bool := ((wayF pts n a cs).1.map (fun a : Nat => (a : Int)), (wayF pts n a cs).2)
theorem wm_end {pts : List Pnt} {n a : Nat} {cs : List Int} (h : pts[a]!.op = 11) : wm pts n a cs = ([(a : Int)], true) := by
  have e : wayF pts n a cs = ([a], true) := by cases n <;> (unfold wayF;rw [if_pos h])
  unfold wm;rw [e]; rfl
theorem wm_cut {pts : List Pnt} {a : Nat} {cs : List Int} (h : ¬ pts[a]!.op = 11) : wm pts 0 a cs = ([], false) := by
  have e : wayF pts 0 a cs = ([], false) := by unfold wayF;rw [if_neg h]
  unfold wm;rw [e]; rfl
theorem wm_go {pts : List Pnt} {n a : Nat} {cs : List Int} (h : ¬ pts[a]!.op = 11) : wm pts (n + 1) a cs = ((a : Int) :: (wm pts n (stpW pts a cs).1 (stpW pts a cs).2).1, (wm pts n (stpW pts a cs).1 (stpW pts a cs).2).2) := by
  unfold wm;rw [wayF, if_neg h]; rfl
theorem stW_s {pts : List Pnt} {a : Nat} {cs : List Int} (h : ¬ pts[a]!.next.length = 2) : stpW pts a cs = ((pts[a]!.next[0]!).toNat, cs) := by
  unfold stpW;rw [if_neg h]
theorem stW_n {pts : List Pnt} {a u : Nat} {cs : List Int} (h : pts[a]!.next.length = 2) (hu : cs.length ≤ u) : stpW pts a (cs.drop u) = ((pts[a]!.next[1]!).toNat, cs.drop (u + 1)) := by
  unfold stpW;rw [if_pos h, List.drop_eq_nil_of_le hu, List.drop_eq_nil_of_le (by omega)]
theorem stW_c {pts : List Pnt} {a u : Nat} {cs : List Int} (h : pts[a]!.next.length = 2) (hu : u < cs.length) : stpW pts a (cs.drop u) = ((pts[a]!.next[if cs[u]!.tmod 2 = 0 then 0 else 1]!).toNat, cs.drop (u + 1)) := by
  have e : (cs[u]! % 2).toNat = if cs[u]!.tmod 2 = 0 then 0 else 1 := by
    by_cases q : cs[u]!.tmod 2 = 0
    · rw [if_pos q, Int.emod_eq_zero_of_dvd (Int.dvd_of_tmod_eq_zero q)]; rfl
    · rw [if_neg q]
      have : ¬ cs[u]! % 2 = 0 := fun q2 => q (Int.tmod_eq_zero_of_dvd (Int.dvd_of_emod_eq_zero q2))
      omega
  have e2 : cs.drop u = cs[u]! :: cs.drop (u + 1) := by rw [List.drop_eq_getElem_cons hu, getB _ _ hu]
  unfold stpW
  rw [if_pos h, e2]
  dsimp only
  rw [e]
theorem wm_step {pts : List Pnt} {n a : Nat} {out cs cs2 : List Int} {b : Nat} {q : List Int × Bool} (h : ¬ pts[a]!.op = 11) (ho : out.length < n) (hs : stpW pts a cs = (b, cs2)) (hq : q = (out ++ (wm pts (n - out.length) a cs).1, (wm pts (n - out.length) a cs).2)) :
    q = ((out ++ [(a : Int)]) ++ (wm pts (n - (out ++ [(a : Int)]).length) b cs2).1, (wm pts (n - (out ++ [(a : Int)]).length) b cs2).2) := by
  rw [hq, show n - out.length = (n - (out.length + 1)) + 1 by omega, wm_go h, hs, List.length_append, List.append_assoc]
  rfl
theorem RunPathS_c (p : Prg) (cs : List Int) (n : Nat) (hv : validF p = true) (hl : p.types.length ≤ 1000000) (hs : cntL p.body ≤ 1000000) (hn : n ≤ 1000) (hcl : cs.length ≤ 1000000) : PC Tryz.prog 92 [aPrg p, sl cI cs, iv (n : Int)] (fun r => r = .tup [sl cI (wm (ptsF p) n 0 cs).1, bv (wm (ptsF p) n 0 cs).2]) := by
  have hpo := PointsOfS_c p hl hs
  rw [if_pos hv] at hpo
  have w := WG.of_valid hv
  have wa := WA.of_valid hv
  obtain ⟨pts, hpts⟩ : ∃ pts, pts = ptsF p := ⟨_, rfl⟩
  rw [← hpts] at hpo w wa ⊢
  have hpl := w.pl
  have hp0 := w.p0
  (refine pc_of_aw Tryz.func92 rfl (by simp [Tryz.ntmps92]) ?_; rw [Tryz.ntmps92])
  repeat' (first|(apply id_rw;first|((with_reducible apply rx_callE (k := 126));(case ha => rfl);(case h => exact hpo);(case hp => (exact Pur.pf));(case hN => rfl))|(apply rx_move;rfl;rfl)|(apply rx_loadA;rfl;rfl;(exact (rfl:_=[_, _]));rfl;rfl;rfl)|(first|(apply rx_guardY;rfl;rfl;rfl;(first|rfl|assumption))|(apply rx_guardS;(case hj|hb|hN => rfl);all_goals (intro hg;have hq := hg;(try simp only [bqs] at hq);(try (exfalso;omega)))))|(apply rx_bin;rfl;rfl;rfl;rfl)|(apply rx_assign;rfl;rfl)|(apply rx_pickF;rfl;(first|rfl|assumption);rfl;rfl)|(apply rx_len;rfl;rfl;rfl)|(apply rw_nil;kernel_rfl)|(apply rx_box;rfl;rfl;rfl;rfl)|(apply rx_buildSlice;rfl;rfl;rfl;(rfl);rfl;rfl))|(apply id_aw;first|apply aw_seq|apply aw_region|(apply aw_cond;rfl;all_goals intro hc;have hq:=hc;(try simp only [bqs] at hq);try exfalso;omega)|apply aw_block|apply aw_skip)|with_reducible apply tq_normal)
  refine aw_loopK (σ := Int × Nat × List Int × Nat) [1, 2, 9] [(1, _), (2, _), (9, _)] [] [] (fun k => [(10, iv k.1), (11, iv (k.2.1 : Int)), (8, .own 1 0 k.2.2.2 1)]) (fun k => [(1, some (flat cI k.2.2.1))]) (fun k => (0 ≤ k.1 ∧ k.1 < pts.length) ∧ k.2.1 ≤ k.2.2.1.length ∧ k.2.2.1.length ≤ n ∧ k.2.2.2 = k.2.2.1.length ∧ wm pts n 0 cs = (k.2.2.1 ++ (wm pts (n - k.2.2.1.length) k.1.toNat (cs.drop k.2.1)).1, (wm pts (n - k.2.2.1.length) k.1.toNat (cs.drop k.2.1)).2)) (fun k => n + 1 - k.2.2.1.length) (0, 0, [], 0) ⟨⟨Int.le_refl _, by show (0 : Int) < _; omega⟩, Nat.le_refl _, Nat.zero_le _, rfl, rfl⟩ rfl rfl (by repeat' (first|exact trivial|refine And.intro rfl ?_)) (by repeat' (first|exact trivial|refine And.intro (.inr rfl) ?_)) ?_
  rintro ⟨a, u, out, m⟩ ⟨⟨ha0, ha⟩, hu, ho, hm, hw⟩
  dsimp only at ha0 ha hu ho hm hw ⊢
  have hat : (a.toNat : Int) = a := Int.toNat_of_nonneg ha0
  have hnx := w.nx a.toNat (by omega)
  have hnl := w.nl a.toNat (by omega)
  have hn1 := wa.n a.toNat (by omega)
  have hk : ∀ k, k < pts[a.toNat]!.next.length → 0 ≤ pts[a.toNat]!.next[k]! ∧ pts[a.toNat]!.next[k]! < pts.length := fun k h => hnx _ (getB_mem _ _ h)
  repeat' (first|(apply id_rw;first|(apply rx_move;rfl;rfl)|(apply rx_load1;rfl;rfl;rfl;rfl)|(apply rx_fieldAddr;rfl;rfl;rfl)|(first|(apply rx_guardY;rfl;rfl;rfl;(assumption))|(apply rx_guardNs;rfl;rfl;rfl;(assumption))|(apply rx_guardS;(case hj|hb|hN => rfl);all_goals (intro hg;have hq := hg;(try simp only [bqs] at hq);(try (exfalso;omega)))))|(first|(apply rx_add;rfl;rfl;omega;rfl)|(apply rx_bin;rfl;rfl;rfl;rfl))|(apply rx_assign;rfl;rfl)|(first|(apply rx_pickT;rfl;(assumption);rfl;rfl)|(apply rx_pickF;rfl;(assumption);rfl;rfl))|(first|(apply rx_indexFN;(case hx|hi => rfl);(case hm => (omega));(case hml => (rfl));(case hα | hf|hg => infer_instance);(case hN => rfl))|(apply rx_indexF;(case hx|hi => rfl);(case hm => (omega));(case hml => (rfl));(case hα | hf|hg => infer_instance);(case hN => rfl)))|(first|(apply rx_len;rfl;rfl;rfl)|(apply rx_append;rfl;rfl;rfl;rfl;rfl;(rw [flat_length]; omega);(rfl);omega;omega;(exact app_int (by (assumption)));rfl;rfl))|(apply rw_nil;kernel_rfl)|((apply rx_buildSliceI (t := _));(case hze|hsm|hl => rfl);(case hfl => exact (rfl:_=some [_]));(case hM|hN => rfl)))|(apply id_aw;first|apply aw_seq|apply aw_region|(apply aw_condF;rfl;(rfl))|(apply aw_cond;rfl;all_goals intro hc;have hq:=hc;(try simp only [bqs] at hq);try exfalso;omega)|apply aw_block|apply aw_skip|apply aw_exit|apply aw_ret)|with_reducible apply tq_normal|with_reducible apply tq_ret|with_reducible apply tq_exit|with_reducible apply bq_normal|with_reducible apply bq_ret|with_reducible apply bq_here)
  · have hop : ¬ pts[a.toNat]!.op = 11 := by assumption
    have e : wm pts n 0 cs = (out, false) := by rw [hw, show n - out.length = 0 by omega, wm_cut hop, List.append_nil]
    rw [e]
    (refine rq_le (Le.frzD (d := 6) (i := 1) rfl rfl) ?_; refine rq_ret rfl ?_)
    refine ⟨?_, (by (exact Pur.pf))⟩
    simp only [oneOf, sl]
    rw [hm]
  · have hop : ¬ pts[a.toNat]!.op = 11 := by assumption
    have hst := wm_step hop (by omega) ((stW_c (by omega) (by omega)).trans (by rw [if_pos (by assumption)])) hw
    rw [hat] at hst
    have hk := hk 0 (by omega)
    (apply ex3 (pts[a.toNat]!.next[0]!, u + 1, _, _);focus (refine Le.ren [(1, 3)] rfl (by decide) ?_ ?_ <;> repeat' (first|exact trivial|refine And.intro ⟨_, rfl, ?_⟩ ?_|refine And.intro ⟨_, _, rfl, rfl, ?_⟩ ?_|exact Or.inr rfl|refine Or.inl ⟨?_, (by first|rfl|exact pur_sl _ _)⟩|rfl)))
    · refine ⟨hk, ?_, ?_, ?_, hst⟩ <;> (dsimp only;rw [List.length_append]; simp only [List.length_singleton]; omega)
    · dsimp only;rw [List.length_append]; simp only [List.length_singleton]; omega
  · have hop : ¬ pts[a.toNat]!.op = 11 := by assumption
    have hst := wm_step hop (by omega) ((stW_c (by omega) (by omega)).trans (by rw [if_neg (by assumption)])) hw
    rw [hat] at hst
    have hk := hk 1 (by omega)
    (apply ex3 (pts[a.toNat]!.next[1]!, u + 1, _, _);focus (refine Le.ren [(1, 3)] rfl (by decide) ?_ ?_ <;> repeat' (first|exact trivial|refine And.intro ⟨_, rfl, ?_⟩ ?_|refine And.intro ⟨_, _, rfl, rfl, ?_⟩ ?_|exact Or.inr rfl|refine Or.inl ⟨?_, (by first|rfl|exact pur_sl _ _)⟩|rfl)))
    · refine ⟨hk, ?_, ?_, ?_, hst⟩ <;> (dsimp only;rw [List.length_append]; simp only [List.length_singleton]; omega)
    · dsimp only;rw [List.length_append]; simp only [List.length_singleton]; omega
  · have hop : ¬ pts[a.toNat]!.op = 11 := by assumption
    have hst := wm_step hop (by omega) (stW_n (by omega) (by omega)) hw
    rw [hat] at hst
    have hk := hk 1 (by omega)
    (apply ex3 (pts[a.toNat]!.next[1]!, u + 1, _, _);focus (refine Le.ren [(1, 3)] rfl (by decide) ?_ ?_ <;> repeat' (first|exact trivial|refine And.intro ⟨_, rfl, ?_⟩ ?_|refine And.intro ⟨_, _, rfl, rfl, ?_⟩ ?_|exact Or.inr rfl|refine Or.inl ⟨?_, (by first|rfl|exact pur_sl _ _)⟩|rfl)))
    · refine ⟨hk, ?_, ?_, ?_, hst⟩ <;> (dsimp only;rw [List.length_append]; simp only [List.length_singleton]; omega)
    · dsimp only;rw [List.length_append]; simp only [List.length_singleton]; omega
  · have hop : ¬ pts[a.toNat]!.op = 11 := by assumption
    have hst := wm_step hop (by omega) (stW_s (by omega)) hw
    rw [hat] at hst
    have hk := hk 0 (by omega)
    (apply ex3 (pts[a.toNat]!.next[0]!, u, _, _);focus (refine Le.ren [(1, 3)] rfl (by decide) ?_ ?_ <;> repeat' (first|exact trivial|refine And.intro ⟨_, rfl, ?_⟩ ?_|refine And.intro ⟨_, _, rfl, rfl, ?_⟩ ?_|exact Or.inr rfl|refine Or.inl ⟨?_, (by first|rfl|exact pur_sl _ _)⟩|rfl)))
    · refine ⟨hk, ?_, ?_, ?_, hst⟩ <;> (dsimp only;rw [List.length_append]; simp only [List.length_singleton]; omega)
    · dsimp only;rw [List.length_append]; simp only [List.length_singleton]; omega
  · have hop : pts[a.toNat]!.op = 11 := by assumption
    have e : wm pts n 0 cs = (out ++ [a], true) := by rw [hw, wm_end hop, hat]
    rw [e]
    (refine rq_le (Le.frzD (d := 6) (i := 3) rfl rfl) ?_; refine rq_ret rfl ?_)
    refine ⟨?_, (by (exact Pur.pf))⟩
    simp only [oneOf, sl]
    rw [hm, List.length_append]; rfl
theorem unS_eq {ts : List Int} {s : Mc} {x : Pnt} (hx : (x.op = 7 ∨ x.op = 8) → 0 ≤ x.x ∧ x.x < ts.length) (hy : (x.op = 3 ∨ x.op = 4 ∨ x.op = 5 ∨ x.op = 6 ∨ x.op = 7) → 0 ≤ x.y ∧ x.y < ts.length) : unS s x = unsF ts s x := by
  have hX : ∀ v : Nat, (v : Int) = x.x → v = x.x.toNat := fun v h => by omega
  have hY : ∀ v : Nat, (v : Int) = x.y → v = x.y.toNat := fun v h => by omega
  cases hu : unsF ts s x with
  | true =>
    obtain ⟨v, hv, hne, hs⟩ := uns_true hu
    unfold useAt at hne
    unfold unS
    by_cases h3 : x.op = 3
    · rw [if_pos h3] at hne
      by_cases e : (v : Int) = x.y
      · rw [if_pos (.inl h3), ← hY v e, hs]; rfl
      · rw [if_neg e] at hne;exact absurd rfl hne
    · rw [if_neg h3] at hne
      by_cases h4 : x.op = 4 ∨ x.op = 5 ∨ x.op = 6
      · rw [if_pos h4] at hne
        by_cases e : (v : Int) = x.y
        · rw [if_pos (by omega), ← hY v e, hs]; rfl
        · rw [if_neg e] at hne;exact absurd rfl hne
      · rw [if_neg h4] at hne
        rw [if_neg (by omega)]
        by_cases h7 : x.op = 7
        · rw [if_pos h7] at hne ⊢
          by_cases e : (v : Int) = x.x
          · rw [← hX v e, hs]; rfl
          · rw [if_neg e] at hne
            by_cases e2 : (v : Int) = x.y
            · rw [← hY v e2, hs]; simp
            · rw [if_neg e2] at hne;exact absurd rfl hne
        · rw [if_neg h7] at hne ⊢
          by_cases h8 : x.op = 8
          · rw [if_pos h8] at hne ⊢
            by_cases e : (v : Int) = x.x
            · rw [← hX v e, hs]; rfl
            · rw [if_neg e] at hne;exact absurd rfl hne
          · rw [if_neg h8] at hne;exact absurd rfl hne
  | false =>
    have hS : ∀ v : Nat, v < ts.length → useAt ts x v ≠ 0 → s.slots[v]!.set = true := fun v hv h => uns_set hu hv h
    unfold unS
    by_cases h3 : x.op = 3
    · have := hy (.inl h3)
      rw [if_pos (.inl h3), hS x.y.toNat (by omega) (by unfold useAt;rw [if_pos h3, if_pos (by omega)]; split <;> decide)]; rfl
    · by_cases h4 : x.op = 4 ∨ x.op = 5 ∨ x.op = 6
      · have := hy (by omega)
        rw [if_pos (by omega), hS x.y.toNat (by omega) (by unfold useAt;rw [if_neg h3, if_pos h4, if_pos (by omega)]; decide)]; rfl
      · rw [if_neg (by omega)]
        by_cases h7 : x.op = 7
        · have hy7 := hy (by omega)
          have hx7 := hx (.inl h7)
          rw [if_pos h7, hS x.x.toNat (by omega) (by unfold useAt; rw [if_neg h3, if_neg h4, if_pos h7, if_pos (by omega)]; decide),
            hS x.y.toNat (by omega) (by unfold useAt;rw [if_neg h3, if_neg h4, if_pos h7]; split;decide;rw [if_pos (by omega)]; decide)]; rfl
        · rw [if_neg h7]
          by_cases h8 : x.op = 8
          · have hx8 := hx (.inr h8)
            rw [if_pos h8, hS x.x.toNat (by omega) (by unfold useAt;rw [if_neg h3, if_neg h4, if_neg h7, if_pos h8, if_pos (by omega)]; decide)]; rfl
          · rw [if_neg h8]
theorem goK_n0 (k : Int) : goK k ≠ 0 := by
  unfold goK endK;split
  · decide
  · split <;> decide
theorem endK_n0 (k : Int) : endK k ≠ 0 := by unfold endK; split <;> decide
theorem putF_n0 {ts : List Int} {s : Mc} {v : Nat} {y : Sl} : (putF ts s v y).2 ≠ 0 := by
  unfold putF;split
  · exact goK_n0 _
  · show (-1 : Int) ≠ 0;decide
theorem doF_n0 {ts : List Int} {s : Mc} {x : Pnt} (h : x.op ≠ 11) : (doF ts s x).2 ≠ 0 := by
  unfold doF
  split
  · exact putF_n0
  split
  · split
    · show (1 : Int) ≠ 0;decide
    · exact putF_n0
  split
  · exact putF_n0
  split
  · split
    · exact putF_n0
    · exact endK_n0 _
  split
  · split
    · exact putF_n0
    · exact endK_n0 _
  split
  · exact goK_n0 _
  split
  · exact goK_n0 _
  show (-1 : Int) ≠ 0;decide
theorem gk_0 {ts : List Int} {s : Mc} {x : Pnt} (h : x.op ≠ 11) : gk (doF ts s x).2 = 0 ↔ (doF ts s x).2 = -1 := by
  have := doF_n0 (ts := ts) (s := s) h
  unfold gk;split
  · simp [*]
  · constructor <;> (intro q;contradiction)
theorem l7Do_9 (ts : List Int) (s : Mc) (x : Pnt) (ho : x.op = 9 ∨ x.op = 10) : PC Tryz.prog 95 [sl cI ts, aMc s, aPnt x] (fun r => r = .tup [aMc (doF ts s x).1, iv (gk (doF ts s x).2)]) := by
  have h0 : doF ts s x = (s, -1) := by
    unfold doF;rw [if_neg (show ¬ x.op = 1 by omega), if_neg (show ¬ x.op = 2 by omega), if_neg (show ¬ x.op = 3 by omega), if_neg (show ¬ (x.op = 4 ∨ x.op = 5) by omega), if_neg (show ¬ x.op = 6 by omega), if_neg (show ¬ x.op = 7 by omega), if_neg (show ¬ x.op = 8 by omega), if_neg (show ¬ x.op = 11 by omega)]
  rw [h0]
  (refine pc_of_aw Tryz.func95 rfl (by simp [Tryz.ntmps95]) ?_; rw [Tryz.ntmps95])
  repeat' (first|(apply id_rw;first|(first|(apply rx_load1;rfl;rfl;rfl;rfl)|(apply rx_loadA;rfl;rfl;(exact (rfl:_=[_, _, _]));rfl;rfl;rfl))|(apply rx_fieldAddr;rfl;rfl;rfl)|(apply rx_bin;rfl;rfl;rfl;rfl)|(apply rx_assign;rfl;rfl)|(apply rw_nil;kernel_rfl)|(apply rx_box;rfl;rfl;rfl;rfl)|(apply rx_alloc;rfl;rfl)|(apply rx_store;rfl;rfl;rfl;rfl;rfl;(case hl => (simp;done));(exact (rfl:_=[_, _, _]))))|(apply id_aw;first|apply aw_seq|apply aw_region|(apply aw_cond;rfl;all_goals intro hc;have hq:=hc;(try simp only [bqs] at hq);try exfalso;omega)|apply aw_block|apply aw_skip|apply aw_ret)|with_reducible apply tq_normal|with_reducible apply bq_normal)
  exact rq_ret (l := [aMc s, iv 0]) rfl ⟨rfl, by (exact Pur.pf)⟩
theorem l7Do_c (ts : List Int) (s : Mc) (x : Pnt) (h11 : x.op ≠ 11) (hop : 1 ≤ x.op ∧ x.op ≤ 11) (hm : OkM s.cells) (hsl : s.slots.length = ts.length) (hx : x.op ≤ 8 → 0 ≤ x.x ∧ x.x < ts.length) (hy : 3 ≤ x.op → x.op ≤ 7 → 0 ≤ x.y ∧ x.y < ts.length) (hn : x.op = 2 → 0 ≤ x.n ∧ x.n ≤ 9) (hl : ts.length ≤ 1000000) (hrl : s.read.length ≤ 1000000) : PC Tryz.prog 95 [sl cI ts, aMc s, aPnt x] (fun r => r = .tup [aMc (doF ts s x).1, iv (gk (doF ts s x).2)]) := by
  by_cases h1 : x.op = 1
  · exact l7Do_1 ts s x h1 hm hsl (hx (by omega)) hl
  by_cases h2 : x.op = 2
  · exact l7Do_2 ts s x h2 hm hsl (hx (by omega)) (hn h2) hl
  by_cases h3 : x.op = 3
  · exact l7Do_3 ts s x h3 hm hsl (hx (by omega)) (hy (by omega) (by omega)) hl
  by_cases h4 : x.op = 4 ∨ x.op = 5
  · exact l7Do_45 ts s x h4 hm hsl (hx (by omega)) (hy (by omega) (by omega)) hl
  by_cases h6 : x.op = 6
  · exact l7Do_6 ts s x h6 hm hsl (hx (by omega)) (hy (by omega) (by omega)) hl hrl
  by_cases h7 : x.op = 7
  · exact l7Do_7 ts s x h7 hm hsl (hx (by omega)) (hy (by omega) (by omega)) hl
  by_cases h8 : x.op = 8
  · exact l7Do_8 ts s x h8 hm hsl (hx (by omega)) hl
  · exact l7Do_9 ts s x (by omega)
theorem put_read {ts : List Int} {s : Mc} {v : Nat} {y : Sl} : (putF ts s v y).1.read = s.read := by unfold putF; split <;> rfl
theorem do_read1 {ts : List Int} {s : Mc} {x : Pnt} (h : x.op ≠ 11) : (doF ts s x).1.read.length ≤ s.read.length + 1 := by
  unfold doF
  split
  · rw [put_read]; omega
  split
  · split
    · dsimp only;omega
    · rw [put_read]; dsimp only;omega
  split
  · rw [put_read]; split <;> (first|omega|(dsimp only;omega))
  split
  · split
    · rw [put_read]; dsimp only;omega
    · dsimp only;omega
  split
  · split
    · rw [put_read]; dsimp only;rw [List.length_append]; simp only [List.length_singleton]; omega
    · dsimp only;omega
  split
  · dsimp only;omega
  split
  · dsimp only;omega
  dsimp only;omega
theorem way_end (pts : List Pnt) : ∀ n a cs, (wayF pts n a cs).2 = true → ∃ l b, (wayF pts n a cs).1 = l ++ [b] ∧ pts[b]!.op = 11
  | 0, a, cs, h => by
    unfold wayF at h ⊢
    by_cases e : pts[a]!.op = 11
    · rw [if_pos e]; exact ⟨[], a, rfl, e⟩
    · rw [if_neg e] at h;exact absurd h (by decide)
  | n + 1, a, cs, h => by
    rw [wayF] at h ⊢
    by_cases e : pts[a]!.op = 11
    · rw [if_pos e]; exact ⟨[], a, rfl, e⟩
    · rw [if_neg e] at h ⊢
      obtain ⟨l, b, h1, h2⟩ := way_end pts n _ _ h
      exact ⟨a :: l, b, by dsimp only;rw [h1]; rfl, h2⟩
theorem unS_11 {s : Mc} {x : Pnt} (h : x.op = 11) : unS s x = false := by
  unfold unS;rw [if_neg (by omega), if_neg (by omega), if_neg (by omega)]
theorem l7Run_c (p : Prg) (cs : List Int) (n : Nat) (hv : validF p = true) (hl : p.types.length ≤ 1000000) (hs : cntL p.body ≤ 1000000) (hn : n ≤ 150) (hcl : cs.length ≤ 1000000) (hL : ∀ a ∈ (wayF (ptsF p) n 0 cs).1, a < (ptsF p).length) (hLl : (wayF (ptsF p) n 0 cs).1.length ≤ 151) : PC Tryz.prog 56 [aPrg p, sl cI cs, iv (n : Int)] (fun r => r = .tup [aMc (runP p.types (ptsF p) cs n).1, iv (runP p.types (ptsF p) cs n).2.1, iv (runP p.types (ptsF p) cs n).2.2]) := by
  have hpo := l2Points_c p hs
  have hru := RunPathS_c p cs n hv hl hs (by omega) hcl
  have w := WG.of_valid hv
  have wa := WA.of_valid hv
  obtain ⟨q, hq⟩ : ∃ q, q = runP p.types (ptsF p) cs n := ⟨_, rfl⟩
  rw [← hq]
  unfold runP at hq
  unfold wm at hru
  obtain ⟨L, hLe⟩ : ∃ L, L = (wayF (ptsF p) n 0 cs).1 := ⟨_, rfl⟩
  obtain ⟨dn, hdn⟩ : ∃ dn, dn = (wayF (ptsF p) n 0 cs).2 := ⟨_, rfl⟩
  rw [← hLe, ← hdn] at hru
  rw [← hLe] at hq hL hLl
  have hgx : ∀ i, i < L.length → (L.map (fun a : Nat => (a : Int)))[i]! = (L[i]! : Int) := fun i h => by rw [getB _ _ (by rw [List.length_map]; exact h), List.getElem_map, getB _ _ h]
  have hml : (L.map (fun a : Nat => (a : Int))).length = L.length := List.length_map _
  generalize (L.map (fun a : Nat => (a : Int))) = LI at *
  generalize hP : ptsF p = pts at *
  have e1 : AV.imm p.types.length ((List.replicate p.types.length ([Value.bool false, Value.int .i64 0, Value.int .i64 0, Value.int .i64 0].map AV.v)).flatten) = sl cSl (List.replicate p.types.length sl0) := by
    rw [mk_rep (f := cSl) (x := sl0) (l := [Value.bool false, Value.int .i64 0, Value.int .i64 0, Value.int .i64 0].map AV.v) rfl]; exact sl_len (by simp)
  (refine pc_of_aw Tryz.func56 rfl (by simp [Tryz.ntmps56]) ?_; rw [Tryz.ntmps56])
  repeat' (first|(apply id_rw;first|((with_reducible apply rx_callE (k := 91));(case ha => rfl);(case h => exact hpo);(case hp => (exact Pur.pf));(case hN => rfl))|(with_reducible apply rw_stop (d := 27))|(first|(apply rx_load1;rfl;rfl;rfl;rfl)|(apply rx_loadA;rfl;rfl;(exact (rfl:_=[_, _]));rfl;rfl;rfl))|(apply rx_fieldAddr;rfl;rfl;rfl)|(apply rx_assign;rfl;rfl)|(apply rx_len;rfl;rfl;rfl)|(apply rw_nil;kernel_rfl)|(apply rx_box;rfl;rfl;rfl;rfl)|(apply rx_alloc;rfl;rfl)|((apply rx_buildSliceI (t := _));(case hze|hsm|hl => rfl);(case hfl => (rfl));(case hM|hN => rfl))|(apply rx_makeSliceE;rfl;rfl;rfl;omega;omega;(rfl);rfl;rfl))|(apply id_aw;first|apply aw_seq|apply aw_region)|with_reducible apply tq_normal)
  refine rw_go (rw_le ?_ (Le.frzD (d := 24) (i := 2) rfl rfl))
  rw [e1]
  repeat' (first|(apply id_rw;first|((with_reducible apply rx_callE (k := 92));(case ha => rfl);(case h => exact hru);(case hp => (exact Pur.pf));(case hN => rfl))|(apply rx_move;rfl;rfl)|(apply rx_loadA;rfl;rfl;(exact (rfl:_=[_, _]));rfl;rfl;rfl)|(apply rx_assign;rfl;rfl)|(apply rw_nil;kernel_rfl)|(apply rx_buildK;rfl;(exact (rfl:_=some [_, _, _]));(exact (rfl:_=[_, _, _]));rfl)|(apply rx_alloc;rfl;rfl)|(apply rx_extract;rfl;rfl;rfl)|(apply rx_store;rfl;rfl;rfl;rfl;rfl;(case hl => (simp;done));(exact (rfl:_=[_, _, _]))))|(apply id_aw;first|apply aw_seq|apply aw_region|apply aw_block)|with_reducible apply tq_normal)
  refine aw_loopK (σ := Nat × Mc) [3, 6, 9, 10, 11, 12] [(3, _), (6, _), (9, _), (10, _), (11, _), (12, _)] [0, 1] [(0, some _), (1, some _)] (fun k => [(13, iv (k.1 : Int))]) (fun k => [(5, some [sl cSl k.2.slots, sl cCl k.2.cells, sl cI k.2.read])]) (fun k => k.1 ≤ L.length ∧ runF p.types pts (L.drop k.1) k.2 (if k.1 = 0 then 0 else L[k.1 - 1]!) = q ∧ OkS p.types.length k.2 ∧ k.2.read.length ≤ k.1 ∧ (∀ j, j < k.1 → pts[L[j]!]!.op ≠ 11)) (fun k => L.length - k.1) (0, mc0 p.types.length) ⟨Nat.zero_le _, by rw [hq]; rfl, OkS.mc0 _, Nat.le_refl _, fun j h => absurd h (by omega)⟩ rfl rfl (by repeat' (first|exact trivial|refine And.intro rfl ?_)) (by repeat' (first|exact trivial|refine And.intro (.inr rfl) ?_)) ?_
  rintro ⟨i, s⟩ ⟨hi, hf, hok, hrd, h11⟩
  dsimp only at hi hf hok hrd h11 ⊢
  have hil : i < L.length → L[i]! < pts.length := fun h => hL _ (getB_mem _ _ h)
  have hex := fun h => l7End_c p.types s hok.m hok.l h
  by_cases hiL : i < L.length
  · have hap := hil hiL
    have hop := w.op L[i]! hap
    have hwx := w.x L[i]! hap
    have hwy := w.y L[i]! hap
    have hA := wa.a L[i]! hap
    have hg := hgx i hiL
    have hen := hex hl
    have hun := l7Unset_c s pts[L[i]!]! (fun h => by have := hok.l;omega) (fun h => by have := hok.l;omega)
    have hun2 := unS_eq (ts := p.types) (s := s) (x := pts[L[i]!]!) (fun h => by omega) (fun h => by omega)
    rw [hun2] at hun
    have hdo := fun h => l7Do_c p.types s pts[L[i]!]! h hop hok.m hok.l (fun h => by omega) (fun h h2 => by omega) (fun h => hA.n (.inr h)) hl (by omega)
    repeat' (first|(apply id_rw;first|(with_reducible apply rw_stop (d := 46))|(apply rx_move;rfl;rfl)|(apply rx_load1;rfl;rfl;rfl;rfl)|(apply rx_bin;rfl;rfl;rfl;rfl)|(apply rx_indexFN;(case hx|hi => rfl);(case hm => (omega));(case hml => (rfl));(case hα | hf|hg => infer_instance);(case hN => rfl))|(apply rx_len;rfl;rfl;rfl)|(apply rw_nil;kernel_rfl))|(apply id_aw;first|apply aw_seq|apply aw_region|(apply aw_cond;rfl;all_goals intro hc;have hq:=hc;(try simp only [bqs] at hq);try exfalso;omega)|apply aw_block|apply aw_skip)|with_reducible apply tq_normal)
    refine rw_go ?_
    rw [hg]
    repeat' (first|(apply id_rw;first|((with_reducible apply rx_callE (k := 93));(case ha => rfl);(case h => exact hen);(case hp => (exact Pur.pf));(case hN => rfl))|((with_reducible apply rx_callE (k := 94));(case ha => rfl);(case h => exact hun);(case hp => (exact Pur.pf));(case hN => rfl))|((with_reducible apply rx_callE (k := 95));(case ha => rfl);(case h => exact hdo (by assumption));(case hp => (exact Pur.pf));(case hN => rfl))|(apply rx_move;rfl;rfl)|(first|(apply rx_load1;rfl;rfl;rfl;rfl)|(apply rx_loadA;rfl;rfl;(first|exact (rfl:_=[_, _, _])|exact (rfl:_=[_, _, _, _, _]));rfl;rfl;rfl))|(apply rx_fieldAddr;rfl;rfl;rfl)|(first|(apply rx_add;rfl;rfl;omega;rfl)|(apply rx_bin;rfl;rfl;rfl;rfl))|(apply rx_assign;rfl;rfl)|(apply rx_indexFN;(case hx|hi => rfl);(case hm => (first|assumption|omega));(case hml => (rfl));(case hα | hf|hg => infer_instance);(case hN => rfl))|(apply rw_nil;kernel_rfl)|(apply rx_alloc;rfl;rfl)|(apply rx_extract;rfl;rfl;rfl)|(apply rx_store;rfl;rfl;rfl;rfl;rfl;(case hl => (simp;done));(first|exact (rfl:_=[_, _, _])|exact (rfl:_=[_, _, _, _, _]))))|(apply id_aw;first|apply aw_seq|apply aw_region|(apply aw_draw;kernel_rfl)|(apply aw_cond;rfl;all_goals intro hc;have hq:=hc;(try simp only [bqs] at hq);try exfalso;omega)|apply aw_skip|apply aw_ret)|with_reducible apply tq_normal|with_reducible apply tq_ret|with_reducible apply bq_normal|with_reducible apply bq_ret)
    all_goals have hdr : L.drop i = L[i]! :: L.drop (i + 1) := by rw [List.drop_eq_getElem_cons hiL, getB _ _ hiL]
    all_goals rw [hdr] at hf
    · have ho : pts[L[i]!]!.op = 11 := by assumption
      have hqq : q = ((finF p.types p.types.length 0 s).1, (finF p.types p.types.length 0 s).2, L[i]!) := by
        rw [← hf, runF, if_neg (by rw [← hun2, unS_11 ho]; decide), do_11 ho, if_neg (by have := fin_end p.types p.types.length 0 s;omega)]
      rw [hqq]
      refine rq_ret (l := [aMc (finF p.types p.types.length 0 s).1, iv (finF p.types p.types.length 0 s).2, iv LI[i]!]) rfl ?_
      rw [hg]
      exact ⟨rfl, by (exact Pur.pf)⟩
    · have hu : unsF p.types s pts[L[i]!]! = true := by assumption
      have hqq : q = (s, 2, L[i]!) := by rw [← hf, runF, if_pos hu]
      rw [hqq]
      refine rq_ret (l := [aMc s, iv 2, iv LI[i]!]) rfl ?_
      rw [hg]
      exact ⟨rfl, by (exact Pur.pf)⟩
    · have ho : ¬ pts[L[i]!]!.op = 11 := by assumption
      have hu : unsF p.types s pts[L[i]!]! = false := by assumption
      have hk : ¬ gk (doF p.types s pts[L[i]!]!).2 = 0 := by assumption
      have hk2 : ¬ (doF p.types s pts[L[i]!]!).2 = -1 := fun e => hk ((gk_0 ho).2 e)
      have hqq : q = ((doF p.types s pts[L[i]!]!).1, (doF p.types s pts[L[i]!]!).2, L[i]!) := by rw [← hf, runF, if_neg (by rw [hu]; decide), if_neg hk2]
      rw [hqq]
      refine rq_ret (l := [aMc (doF p.types s pts[L[i]!]!).1, iv (gk (doF p.types s pts[L[i]!]!).2), iv LI[i]!]) rfl ?_
      rw [hg, show gk (doF p.types s pts[L[i]!]!).2 = (doF p.types s pts[L[i]!]!).2 by unfold gk;rw [if_neg hk2]]
      exact ⟨rfl, by (exact Pur.pf)⟩
    · have ho : ¬ pts[L[i]!]!.op = 11 := by assumption
      have hu : unsF p.types s pts[L[i]!]! = false := by assumption
      have hk2 : (doF p.types s pts[L[i]!]!).2 = -1 := (gk_0 ho).1 (by assumption)
      (apply ex3 (i + 1, (doF p.types s pts[L[i]!]!).1);focus (refine Le.ren [(0, 0), (1, 1), (5, 5)] rfl (by decide) ?_ ?_ <;> repeat' (first|exact trivial|refine And.intro ⟨_, rfl, ?_⟩ ?_|refine And.intro ⟨_, _, rfl, rfl, ?_⟩ ?_|exact Or.inr rfl|refine Or.inl ⟨?_, (by first|rfl|exact pur_sl _ _|exact Pur.pf)⟩|rfl)))
      · refine ⟨by dsimp only; omega, ?_, hok.do ⟨fun h => hA.n (.inr h)⟩, ?_, ?_⟩
        · dsimp only
          rw [← hf, if_neg (by omega), show i + 1 - 1 = i by omega, runF, if_neg (by rw [hu]; decide), if_pos hk2]
        · dsimp only;have := do_read1 (ts := p.types) (s := s) ho;omega
        · intro j hj
          rcases Nat.lt_or_ge j i with h|h
          · exact h11 j h
          · rw [show j = i by omega]; exact ho
      · dsimp only;omega
  · repeat' (first | (apply id_rw; first | (apply rx_move;rfl;rfl) | (first | (apply rx_load1;rfl;rfl;rfl;rfl) | (apply rx_loadA;rfl;rfl;(exact (rfl:_=[_, _, _]));rfl;rfl;rfl)) | (first | (apply rx_guardY;rfl;rfl;rfl;(assumption)) | (apply rx_guardNs;rfl;rfl;rfl;(assumption)) | (apply rx_guardS; (case hj | hb | hN => rfl); all_goals (intro hg; have hq := hg; (try simp only [bqs] at hq); (try (exfalso; omega))))) | (first | (apply rx_sub;rfl;rfl;omega;rfl) | (apply rx_bin;rfl;rfl;rfl;rfl)) | (apply rx_assign;rfl;rfl) | (first | (apply rx_pickT;rfl;(assumption);rfl;rfl) | (apply rx_pickF;rfl;(assumption);rfl;rfl)) | (apply rx_indexF; (case hx | hi => rfl); (case hm => (omega)); (case hml => (rfl)); (case hα | hf | hg => infer_instance); (case hN => rfl)) | (apply rx_len;rfl;rfl;rfl) | (apply rw_nil;kernel_rfl) | (apply rx_not;rfl;rfl) | (apply rx_store;rfl;rfl;rfl;rfl;rfl;(case hl => (simp;done));(exact (rfl:_=[_, _, _])))) | (apply id_aw; first | apply aw_seq | apply aw_region | (apply aw_draw;kernel_rfl) | (apply aw_condF;rfl;(rfl)) | (apply aw_cond;rfl;all_goals intro hc;have hq:=hc;(try simp only [bqs] at hq);try exfalso;omega) | apply aw_skip | apply aw_exit | apply aw_ret) | with_reducible apply tq_normal | with_reducible apply tq_ret | with_reducible apply tq_exit | with_reducible apply bq_here)
    all_goals have hie : i = L.length := by omega
    all_goals have hqq : q = (s, 1, if i = 0 then 0 else L[i - 1]!) := by rw [← hf, hie, List.drop_length]; rfl
    · rw [hqq, if_neg (by omega)]
      refine rq_ret (l := [aMc s, iv 1, iv LI[((LI.length : Int) - 1).toNat]!]) rfl ?_
      rw [show ((LI.length : Int) - 1).toNat = i - 1 by omega, hgx (i - 1) (by omega)]
      exact ⟨rfl, by (exact Pur.pf)⟩
    · rw [hqq, if_pos (by omega)]
      exact rq_ret (l := [aMc s, iv 1, iv 0]) rfl ⟨rfl, by (exact Pur.pf)⟩
    · exfalso
      have hd1 : dn = true := by assumption
      obtain ⟨l, b, e1, e2⟩ := way_end pts n 0 cs (by rw [← hdn]; exact hd1)
      rw [← hLe] at e1
      have hlen : L.length = l.length + 1 := by rw [e1, List.length_append]; rfl
      have hb : L[l.length]! = b := by rw [getB _ _ (by omega)]; simp [e1]
      have := h11 l.length (by omega)
      rw [hb] at this
      exact this e2
theorem way_lt {ts : List Int} {pts : List Pnt} (w : WG ts pts) (A : WA ts pts) : ∀ n a cs, a < pts.length → ∀ x ∈ (wayF pts n a cs).1, x < pts.length
  | 0, a, cs, ha, x, hx => by
    unfold wayF at hx
    by_cases e : pts[a]!.op = 11
    · rw [if_pos e] at hx;rw [List.mem_singleton.1 hx]; exact ha
    · rw [if_neg e] at hx;exact absurd hx (by simp)
  | n + 1, a, cs, ha, x, hx => by
    rw [wayF] at hx
    by_cases e : pts[a]!.op = 11
    · rw [if_pos e] at hx;rw [List.mem_singleton.1 hx]; exact ha
    · rw [if_neg e] at hx
      rcases List.mem_cons.1 hx with h|h
      · rw [h]; exact ha
      · have he := stp_edge w A ha e cs
        have := w.nx a ha _ he.2
        exact way_lt w A n _ _ (by omega) x h
theorem way_len {pts : List Pnt} : ∀ n a cs, (wayF pts n a cs).1.length ≤ n + 1
  | 0, a, cs => by unfold wayF;split <;> simp
  | n + 1, a, cs => by
    rw [wayF]; split
    · simp
    · have := way_len (pts := pts) n (stpW pts a cs).1 (stpW pts a cs).2
      dsimp only;rw [List.length_cons]; omega
theorem l7RunV_c (p : Prg) (cs : List Int) (n : Nat) (hv : validF p = true) (hl : p.types.length ≤ 1000000) (hs : cntL p.body ≤ 1000000) (hn : n ≤ 150) (hcl : cs.length ≤ 1000000) : PC Go.Proofs.Tryz.prog 56 [aPrg p, sl cI cs, iv (n : Int)] (fun r => r = .tup [aMc (runP p.types (ptsF p) cs n).1, iv (runP p.types (ptsF p) cs n).2.1, iv (runP p.types (ptsF p) cs n).2.2]) :=
  l7Run_c p cs n hv hl hs hn hcl (way_lt (WG.of_valid hv) (WA.of_valid hv) n 0 cs (WG.of_valid hv).p0) (by have := way_len (pts := ptsF p) n 0 cs;omega)
def rgF (p : Prg) (most : Int) : Bool := validF p && (decide (0 ≤ most) && decide (most ≤ 150))
theorem l7Right_c (p : Prg) (most : Int) (hl : p.types.length ≤ 1000000) (hs : cntL p.body ≤ 1000000) : PC Tryz.prog 55 [aPrg p, iv most] (fun r => r = bv (rgF p most)) := by
  have hval := validS_c p hl (by omega)
  (refine pc_of_aw Tryz.func55 rfl (by simp [Tryz.ntmps55]) ?_; rw [Tryz.ntmps55])
  repeat' (first|(apply id_rw;first|((with_reducible apply rx_callE (k := 90));(case ha => rfl);(case h => exact hval);(case hp => (exact Pur.pf));(case hN => rfl))|(apply rx_move;rfl;rfl)|(apply rx_loadA;rfl;rfl;(exact (rfl:_=[_, _]));rfl;rfl;rfl)|(first|(apply rx_guardY;rfl;rfl;rfl;(assumption))|(apply rx_guardNs;rfl;rfl;rfl;(first|rfl|assumption))|(apply rx_guardS;(case hj|hb|hN => rfl);all_goals (intro hg;have hq := hg;(try simp only [bqs] at hq);(try (exfalso;omega)))))|(apply rx_bin;rfl;rfl;rfl;rfl)|(apply rx_assign;rfl;rfl)|(first|(apply rx_pickT;rfl;(assumption);rfl;rfl)|(apply rx_pickF;rfl;(first|rfl|assumption);rfl;rfl))|(apply rw_nil;kernel_rfl)|(apply rx_box;rfl;rfl;rfl;rfl))|(apply id_aw;first|apply aw_seq|apply aw_region|apply aw_ret)|with_reducible apply tq_normal)
  all_goals (refine rq_ret rfl ⟨?_, rfl⟩; simp only [oneOf, AV.v.injEq, Value.bool.injEq]; unfold rgF;grind)
theorem RunProgramS_c (p : Prg) (cs : List Int) (most : Int) (hl : p.types.length ≤ 1000000) (hs : cntL p.body ≤ 1000000) (hcl : cs.length ≤ 1000000) : PC Tryz.prog 19 [aPrg p, sl cI cs, iv most] (fun r => r = .tup (if rgF p most = true then [iv (runP p.types (ptsF p) cs most.toNat).2.1, iv (runP p.types (ptsF p) cs most.toNat).2.2] else [iv 5, iv 0])) := by
  have hrt := l7Right_c p most hl hs
  by_cases h : rgF p most = true
  · have h' := h
    unfold rgF at h'
    simp only [Bool.and_eq_true, decide_eq_true_eq] at h'
    obtain ⟨hv, h0, h1⟩ := h'
    have hru := l7RunV_c p cs most.toNat hv hl hs (by omega) hcl
    rw [Int.toNat_of_nonneg h0] at hru
    rw [h] at hrt
    rw [if_pos h]
    (refine pc_of_aw Tryz.func19 rfl (by simp [Tryz.ntmps19]) ?_; rw [Tryz.ntmps19])
    repeat' (first|(apply id_rw;first|((with_reducible apply rx_callE (k := 55));(case ha => rfl);(case h => exact hrt);(case hp => (exact Pur.pf));(case hN => rfl))|((with_reducible apply rx_callE (k := 56));(case ha => rfl);(case h => exact hru);(case hp => (exact Pur.pf));(case hN => rfl))|(apply rx_move;rfl;rfl)|(apply rx_loadA;rfl;rfl;(exact (rfl:_=[_, _]));rfl;rfl;rfl)|(apply rx_assign;rfl;rfl)|(apply rw_nil;kernel_rfl)|(apply rx_not;rfl;rfl)|(apply rx_box;rfl;rfl;rfl;rfl)|(apply rx_alloc;rfl;rfl)|(apply rx_extract;rfl;rfl;rfl)|(apply rx_store;rfl;rfl;rfl;rfl;rfl;(case hl => (simp;done));(exact (rfl:_=[_, _, _]))))|(apply id_aw;first|apply aw_seq|apply aw_region|(apply aw_condF;rfl;(rfl))|apply aw_skip|apply aw_ret)|with_reducible apply tq_normal)
    exact rq_ret (l := [iv (runP p.types (ptsF p) cs most.toNat).2.1, iv (runP p.types (ptsF p) cs most.toNat).2.2]) rfl ⟨rfl, rfl⟩
  · rw [if_neg h]
    have h2 : rgF p most = false := by simpa using h
    rw [h2] at hrt
    (refine pc_of_aw Tryz.func19 rfl (by simp [Tryz.ntmps19]) ?_; rw [Tryz.ntmps19])
    repeat' (first|(apply id_rw;first|((with_reducible apply rx_callE (k := 55));(case ha => rfl);(case h => exact hrt);(case hp => (exact Pur.pf));(case hN => rfl))|(apply rx_move;rfl;rfl)|(apply rx_loadA;rfl;rfl;(exact (rfl:_=[_, _]));rfl;rfl;rfl)|(apply rx_assign;rfl;rfl)|(apply rw_nil;kernel_rfl)|(apply rx_not;rfl;rfl)|(apply rx_box;rfl;rfl;rfl;rfl))|(apply id_aw;first|apply aw_seq|apply aw_region|(apply aw_condT;rfl;(rfl))|apply aw_ret)|with_reducible apply tq_normal|with_reducible apply tq_ret)
    exact rq_ret (l := [iv 5, iv 0]) rfl ⟨rfl, rfl⟩
theorem run_ok {p : Prg} {cs : List Int} {n : Nat} (hv : validF p = true) : OkS p.types.length (runP p.types (ptsF p) cs n).1 := by
  have wa := WA.of_valid hv
  have hp : ∀ a : Nat, PtN (ptsF p)[a]! := fun a => by
    by_cases h : a < (ptsF p).length
    · exact ⟨fun e => (wa.a a h).n (.inr e)⟩
    · refine ⟨fun e => ?_⟩
      rw [getB_def, dif_neg h] at e
      exact absurd e (by decide)
  exact OkS.run hp _ _ _ (OkS.mc0 _)
theorem do_readl {ts : List Int} {s : Mc} {x : Pnt} : (doF ts s x).1.read.length ≤ s.read.length + 1 := by
  by_cases h : x.op = 11
  · rw [do_11 h, fin_read]; omega
  · exact do_read1 h
theorem run_readl (ts : List Int) (pts : List Pnt) : ∀ (l : List Nat) (s : Mc) (last : Nat), (runF ts pts l s last).1.read.length ≤ s.read.length + l.length
  | [], s, last => by unfold runF;simp
  | a :: l, s, last => by
    have h := do_readl (ts := ts) (s := s) (x := pts[a]!)
    unfold runF;split
    · dsimp only;omega
    · split
      · have := run_readl ts pts l (doF ts s pts[a]!).1 a
        rw [List.length_cons]; omega
      · rw [List.length_cons]; dsimp only;omega
theorem runP_readl {ts : List Int} {pts : List Pnt} {cs : List Int} {n : Nat} (hn : n ≤ 150) : (runP ts pts cs n).1.read.length ≤ 151 := by
  have h := run_readl ts pts (wayF pts n 0 cs).1 (mc0 ts.length) 0
  have h2 := way_len (pts := pts) n 0 cs
  have h3 : (mc0 ts.length).read.length = 0 := rfl
  unfold runP;omega
theorem mapT : Go.Proofs.Tryz.prog.underlying 90 = some (.map 3 4) := by kernel_rfl
theorem intT : Go.Proofs.Tryz.prog.underlying 3 = some (.int .i64) := by kernel_rfl
theorem zroT : (Go.Proofs.Tryz.prog.info? 4).bind (·.zero) = some (.bool false) := by kernel_rfl
theorem win_t {a b c : Int} (h : a ≤ b ∧ b ≤ c) : (!(decide (a ≤ b) && decide (b ≤ c))) = false := by simp [h.1, h.2]
theorem CellsValidI_c (m : List Cl) (hm : OkM m) : PC Tryz.prog 35 [sl cCl m] (fun r => r = bv true) := by
  have hml := hm.l
  (refine pc_of_aw Tryz.func35 rfl (by simp [Tryz.ntmps35]) ?_; rw [Tryz.ntmps35])
  repeat' (first|(apply id_rw;first|(apply rx_move;rfl;rfl)|(apply rx_bin;rfl;rfl;rfl;rfl)|(apply rx_assign;rfl;rfl)|(apply rx_len;rfl;rfl;rfl)|(apply rw_nil;kernel_rfl))|(apply id_aw;first|apply aw_seq|apply aw_region|(apply aw_cond;rfl;all_goals intro hc;have hq:=hc;(try simp only [bqs] at hq);try exfalso;omega)|apply aw_block|apply aw_skip)|with_reducible apply tq_normal)
  all_goals (try (exfalso;omega))
  refine aw_loopK (σ := Nat) [11, 12] [(11, _), (12, _)] [] [] (fun i => [(13, iv (i : Int))]) (fun i => []) (fun i => i ≤ m.length) (fun i => m.length - i) (0) (Nat.zero_le _) rfl rfl (by repeat' (first|exact trivial|refine And.intro rfl ?_)) (by repeat' (exact trivial)) ?_
  rintro i hi
  by_cases hin : i < m.length
  · have hc := (OkM_iff m).1 hm |>.2 i hin
    obtain ⟨h1, h2, h3, h4, h5⟩ := (OkC_iff _).1 hc
    repeat' (first|(apply id_rw;first|(apply rx_move;rfl;rfl)|(first|(apply rx_load1;rfl;rfl;rfl;rfl)|(apply rx_loadA;rfl;rfl;(exact (rfl:_=[_, _, _, _]));rfl;rfl;rfl))|(apply rx_fieldAddr;rfl;rfl;rfl)|(first|(apply rx_guardY;rfl;rfl;rfl;(assumption))|(apply rx_guardS;(case hj|hb|hN => rfl);all_goals (intro hg;have hq := hg;(try simp only [bqs] at hq);(try (exfalso;omega)))))|(apply rx_bin;rfl;rfl;rfl;rfl)|(apply rx_assign;rfl;rfl)|(apply rx_pickF;rfl;(assumption);rfl;rfl)|(first|(apply rx_indexFN;(case hx|hi => rfl);(case hm => (assumption));(case hml => (rfl));(case hα | hf|hg => infer_instance);(case hN => rfl))|(apply rx_indexF;(case hx|hi => rfl);(case hm => (omega));(case hml => (rfl));(case hα | hf|hg => infer_instance);(case hN => rfl)))|((with_reducible apply rx_callE (k := 58));(case ha => rfl);(case h => (apply within_c <;> (fail)));(case hp => (rfl));(case hN => rfl))|(apply rx_len;rfl;rfl;rfl)|(apply rw_nil;kernel_rfl)|(apply rx_not;rfl;rfl)|(apply rx_alloc;rfl;rfl)|(apply rx_store;rfl;rfl;rfl;rfl;rfl;(case hl => (simp;done));(exact (rfl:_=[_, _, _, _]))))|(apply id_aw;first|with_reducible apply aw_stopM|apply aw_seq|apply aw_region|(apply aw_cond;rfl;all_goals intro hc;have hq:=hc;(try simp only [bqs] at hq);try exfalso;omega)|apply aw_block|apply aw_skip|apply aw_ret)|with_reducible apply tq_normal|with_reducible apply tq_ret|with_reducible apply bq_ret)
    · exfalso
      have hu : m[i]!.stk[Int.toNat 0]!.uq = false := by assumption
      rw [show Int.toNat 0 = 0 from rfl, h4] at hu;exact absurd hu (by decide)
    · refine aw_goM (aw_mapIn rfl (fun r => ?_))
      refine rwm_last ?_
      repeat' (apply id_rw;first|(apply rx_assign;rfl;rfl)|(apply rw_nil;kernel_rfl))
      refine ⟨rfl, rfl, ?_⟩
      refine awm_seq (awm_lift ?_)
      repeat' (first|(apply id_rw;first|(apply rx_move;rfl;rfl)|(apply rx_load1;rfl;rfl;rfl;rfl)|(apply rx_fieldAddr;rfl;rfl;rfl)|(apply rx_len;rfl;rfl;rfl)|(apply rw_nil;kernel_rfl))|(apply id_aw;(apply aw_region)))
      show AWM _ _ _ _ _ _ _
      refine awm_block ?_
      refine awm_loopK (σ := Nat) [4, 5, 11, 12, 13, 44, 45] [(4, _), (5, _), (11, _), (12, _), (13, _), (44, _), (45, _)] [0] [(0, some _)] (fun k => [(46, iv (k : Int))]) (fun k => []) (fun k => (m[i]!.stk.take k).map (·.id)) (fun k => k ≤ m[i]!.stk.length) (fun k => m[i]!.stk.length - k) (0) (Nat.zero_le _) (rfl) rfl rfl (by repeat' (first|exact trivial|refine And.intro rfl ?_)) (by repeat' (exact trivial)) ?_
      rintro k hk
      refine awm_seq (awm_lift ?_)
      repeat' (first|(apply id_rw;first|(apply rx_bin;rfl;rfl;rfl;rfl)|(apply rw_nil;kernel_rfl))|(apply id_aw;(apply aw_region)))
      show AWM _ _ _ _ _ _ _
      refine awm_seq (awm_cond rfl (fun hb => awm_skip ?_) (fun hb => awm_exit ?_))
      · show AWM _ _ _ _ _ _ _
        have hkl : k < m[i]!.stk.length := by have := of_decide_eq_true hb;omega
        obtain ⟨g1, g2, g3⟩ := h5 k hkl
        have hw := win_t (a := 0) (b := m[i]!.stk[k]!.id) (c := m[i]!.next - 1) ⟨g1, by omega⟩
        have hni : m[i]!.stk[k]!.id ∉ (m[i]!.stk.take k).map (·.id) := fun q => by
          obtain ⟨t, ht, e⟩ := List.mem_map.1 q
          obtain ⟨j, hj, rfl⟩ := List.getElem_of_mem ht
          rw [List.length_take] at hj
          have f := tgIx_first (stk := m[i]!.stk) (id := m[i]!.stk[k]!.id) (by omega) j (by omega)
          rw [getB _ _ (by omega)] at f
          rw [List.getElem_take] at e
          exact f e
        refine awm_seq (awm_block (awm_seq (awm_lift ?_)))
        repeat' (first|(apply id_rw;first|(apply rx_loadA;rfl;rfl;(exact (rfl:_=[_, _]));rfl;rfl;rfl)|(apply rx_indexFN;(case hx|hi => rfl);(case hm => (assumption));(case hml => (rfl));(case hα | hf|hg => infer_instance);(case hN => rfl))|(apply rw_nil;kernel_rfl)|(apply rx_alloc;rfl;rfl)|(apply rx_store;rfl;rfl;rfl;rfl;rfl;(case hl => (simp;done));(exact (rfl:_=[_, _]))))|(apply id_aw;(apply aw_region)))
        show AWM _ _ _ _ _ _ _
        refine awm_seq (awm_seq (awm_region ?_))
        refine rwm_lift (l1 := [_, _, _, _, _, _, _, _, _, _, _]) (l2 := [_, _]) ?_
        repeat' (apply id_rw;first|(apply rx_move;rfl;rfl)|(apply rx_load1;rfl;rfl;rfl;rfl)|(apply rx_fieldAddr;rfl;rfl;rfl)|(apply rx_guardY;rfl;rfl;rfl;(assumption))|(apply rx_sub;rfl;rfl;omega;rfl)|((with_reducible apply rx_callE (k := 58));(case ha => rfl);(case h => (apply within_c <;> (fail)));(case hp => (rfl));(case hN => rfl))|(apply rw_nil;kernel_rfl)|(apply rx_not;rfl;rfl))
        refine ⟨rfl, ?_⟩
        refine rwm_guard rfl rfl hw ?_
        refine rwm_lookup mapT intT zroT rfl rfl hni rfl ?_
        refine rwm_last ?_
        repeat' (apply id_rw;first|(apply rx_pickF;rfl;(assumption);rfl;rfl)|(apply rw_nil;kernel_rfl))
        refine ⟨rfl, ?_⟩
        show AWM _ _ _ _ _ _ _
        refine awm_cond rfl (fun h => by cases h) (fun _ => awm_skip ?_)
        show AWM _ _ _ _ _ _ _
        refine awm_region ?_
        refine rwm_lift (l1 := [_, _, _]) (l2 := [_]) ?_
        repeat' (apply id_rw;first|(apply rx_move;rfl;rfl)|(apply rx_load1;rfl;rfl;rfl;rfl)|(apply rx_fieldAddr;rfl;rfl;rfl)|(apply rw_nil;kernel_rfl))
        refine ⟨rfl, ?_⟩
        refine rwm_update mapT intT zroT rfl rfl hni ?_
        refine rwm_nil ?_
        show AWM _ _ _ _ _ _ _
        refine awm_lift ?_
        repeat' (first|(apply id_rw;first|(apply rx_move;rfl;rfl)|(apply rx_add;rfl;rfl;omega;rfl)|(apply rw_nil;kernel_rfl))|(apply id_aw;(apply aw_region)))
        refine ⟨k + 1, by omega, by omega, ?_, ?_⟩
        · refine Le.ren [(0, 0)] rfl (by decide) ?_ ?_ <;> repeat' (first|exact trivial|refine And.intro ⟨_, rfl, ?_⟩ ?_|refine And.intro ⟨_, _, rfl, rfl, ?_⟩ ?_|exact Or.inr rfl|refine Or.inl ⟨?_, (by first|rfl|exact pur_sl _ _|exact Pur.pf)⟩|rfl)
        · rw [take_succB _ k hkl, List.map_append]; rfl
      · have hkl : k = m[i]!.stk.length := by have := of_decide_eq_false hb; omega
        refine bM_here2 ?_
        show blkQ 1 _ _ _
        repeat' (first|(apply id_rw;first|(apply rx_move;rfl;rfl)|(apply rx_add;rfl;rfl;omega;rfl)|(apply rw_nil;kernel_rfl))|(apply id_aw;(apply aw_region))|with_reducible apply tq_normal|with_reducible apply bq_normal)
        (apply ex3 (i + 1);focus (refine Le.ren [] rfl (by decide) ?_ ?_ <;> repeat' (first|exact trivial|refine And.intro ⟨_, rfl, ?_⟩ ?_|refine Or.inl ⟨?_, (by first|rfl|exact pur_sl _ _)⟩|rfl)))
        · omega
        · omega
  · repeat' (first | (apply id_rw; first | (apply rx_bin;rfl;rfl;rfl;rfl) | (apply rx_assign;rfl;rfl) | (apply rw_nil;kernel_rfl)) | (apply id_aw; first | apply aw_seq | apply aw_region | (apply aw_cond;rfl;all_goals intro hc;have hq:=hc;(try simp only [bqs] at hq);try exfalso;omega) | apply aw_exit | apply aw_ret) | with_reducible apply tq_normal | with_reducible apply tq_exit | with_reducible apply bq_here)
    refine rq_ret rfl ⟨rfl, rfl⟩
theorem Le.bump {ts : List (Nat × AV)} {hs : List (Nat × Option (List AV))} {n : Nat} {z0 : Lo} (k : Nat) : Le ⟨ts, hs, n, z0⟩ ⟨ts, hs, n + k, z0⟩ := Le.of (fun _ _ h => h) (fun _ _ h => h) (Nat.le_add_right _ _) rfl
theorem rx_cloneC {m : List Cl} {N : Nat} {Q : Exit → AS → Prop} {all : Array Oper} {rest : List Oper} {tsl : List (Nat × AV)} {hsl : List (Nat × Option (List AV))} {nidl : Nat} {z0 : Lo} {md : Md} {d : Nat} {ty : TypeId} {pos : String} {af : Array Edge} {tys : Array TypeId} {x0 : Operand} (ha0 : ev (lk tsl) x0 = some (sl cCl m)) (hmc : MC Tryz.prog 196 [sl cCl m] [] 0 (fun _ : Unit => True) (fun _ => .own 1 0 m.length 4) (fun _ => [(1, some (flat cCl m))])) (hM : Nat.ble (nidl + 2) big = true) (hN : Nat.blt d N = true) {md' : Md} [hmd : MdA md (rOs [x0] ++ []) (List.map Sum.inr (List.map Prod.fst ([((nidl + 1), some (flat cCl m))] : List (Nat × Option (List AV)))) ++ [.inl d]) md'] (kk : RW Tryz.prog N all Q md' rest ⟨(d, .own (nidl + 1) 0 m.length 4) :: tsl, wrH hsl [((nidl + 1), some (flat cCl m))], nidl + 2, z0⟩) : RW Tryz.prog N all Q md (⟨some d, .call ⟨.value (.func 196), #[x0], tys⟩, ty, pos, af, none⟩ :: rest) ⟨tsl, hsl, nidl, z0⟩ := by
  refine rx_mcallE [] 2 [((nidl + 1), some (flat cCl m))] hmc (avs := [sl cCl m]) ?_ rfl ?_ rfl ?_ (by simpa using hM) ?_ ?_ ?_ hN (md' := md') (hmd := hmd) kk
  · show evL (lk tsl) [x0] = _
    simp only [evL, ha0]
  · exact trivial
  · (repeat' (exact RnL.purI inferInstance))
  · (repeat' (exact RnV.own rfl))
  · simp [wsAll]
  · (repeat' (first|exact trivial|(refine And.intro ⟨1, _, rfl, rfl, ?_⟩ ?_)|exact RnL.purI inferInstance))
theorem cloneC_c (m : List Cl) (hl : m.length ≤ 1000000) : MC Tryz.prog 196 [sl cCl m] [] 0 (fun _ : Unit => True) (fun _ => .own 1 0 m.length 4) (fun _ => [(1, some (flat cCl m))]) := by
  (refine mc_of_aw Tryz.func196 rfl (by simp [Tryz.ntmps196]) ?_; rw [Tryz.ntmps196])
  repeat' (first|(apply id_rw;first|(apply rx_eqNil;rfl;rfl;(intro b hb))|(apply rx_move;rfl;rfl)|(apply rx_assign;rfl;rfl)|(apply rx_append;rfl;rfl;rfl;rfl;rfl;(case hl => (simp [flat_length]; done));(exact sC_imm (by (rfl)));omega;omega;(exact app_nilF (by (omega)));rfl;rfl)|(apply rw_nil;kernel_rfl)|(apply rx_buildSlice;rfl;rfl;rfl;(rfl);rfl;rfl))|(apply id_aw;first|apply aw_seq|apply aw_region|(apply aw_cond;rfl;all_goals intro hc;have hq:=hc;(try simp only [bqs] at hq);try exfalso;omega)|apply aw_skip|apply aw_ret)|with_reducible apply tq_normal|with_reducible apply tq_ret)
  · have h0 : m = [] := List.eq_nil_of_length_eq_zero (hb (by assumption))
    subst h0
    refine rq_le (Le.bump 1) ?_
    refine rq_le (Le.nilOwn (d := 2) 4 rfl (by decide)) ?_
    (refine rq_ret rfl ?_; refine mc_ret () trivial ?_ ⟨.inr (Eq.trans (b := some _) rfl ?_), trivial⟩)
    · rfl
    · rfl
  · (refine rq_ret rfl ?_; refine mc_ret () trivial ?_ ⟨.inr (Eq.trans (b := some _) rfl ?_), trivial⟩)
    · show AV.own 1 0 (0 + m.length) 4 = _; rw [Nat.zero_add]
    · rfl
theorem rx_cloneT {m : List Tg} {N : Nat} {Q : Exit → AS → Prop} {all : Array Oper} {rest : List Oper} {tsl : List (Nat × AV)} {hsl : List (Nat × Option (List AV))} {nidl : Nat} {z0 : Lo} {md : Md} {d : Nat} {ty : TypeId} {pos : String} {af : Array Edge} {tys : Array TypeId} {x0 : Operand} (ha0 : ev (lk tsl) x0 = some (sl cTg m)) (hmc : MC Tryz.prog 197 [sl cTg m] [] 0 (fun _ : Unit => True) (fun _ => .own 1 0 m.length 2) (fun _ => [(1, some (flat cTg m))])) (hM : Nat.ble (nidl + 2) big = true) (hN : Nat.blt d N = true) {md' : Md} [hmd : MdA md (rOs [x0] ++ []) (List.map Sum.inr (List.map Prod.fst ([((nidl + 1), some (flat cTg m))] : List (Nat × Option (List AV)))) ++ [.inl d]) md'] (kk : RW Tryz.prog N all Q md' rest ⟨(d, .own (nidl + 1) 0 m.length 2) :: tsl, wrH hsl [((nidl + 1), some (flat cTg m))], nidl + 2, z0⟩) : RW Tryz.prog N all Q md (⟨some d, .call ⟨.value (.func 197), #[x0], tys⟩, ty, pos, af, none⟩ :: rest) ⟨tsl, hsl, nidl, z0⟩ := by
  refine rx_mcallE [] 2 [((nidl + 1), some (flat cTg m))] hmc (avs := [sl cTg m]) ?_ rfl ?_ rfl ?_ (by simpa using hM) ?_ ?_ ?_ hN (md' := md') (hmd := hmd) kk
  · show evL (lk tsl) [x0] = _
    simp only [evL, ha0]
  · exact trivial
  · (repeat' (exact RnL.purI inferInstance))
  · (repeat' (exact RnV.own rfl))
  · simp [wsAll]
  · (repeat' (first|exact trivial|(refine And.intro ⟨1, _, rfl, rfl, ?_⟩ ?_)|exact RnL.purI inferInstance))
theorem cloneT_c (m : List Tg) (hl : m.length ≤ 1000000) : MC Tryz.prog 197 [sl cTg m] [] 0 (fun _ : Unit => True) (fun _ => .own 1 0 m.length 2) (fun _ => [(1, some (flat cTg m))]) := by
  (refine mc_of_aw Tryz.func197 rfl (by simp [Tryz.ntmps197]) ?_; rw [Tryz.ntmps197])
  repeat' (first|(apply id_rw;first|(apply rx_eqNil;rfl;rfl;(intro b hb))|(apply rx_move;rfl;rfl)|(apply rx_assign;rfl;rfl)|(apply rx_append;rfl;rfl;rfl;rfl;rfl;(case hl => (simp [flat_length]; done));(exact sC_imm (by (rfl)));omega;omega;(exact app_nilF (by (omega)));rfl;rfl)|(apply rw_nil;kernel_rfl)|(apply rx_buildSlice;rfl;rfl;rfl;(rfl);rfl;rfl))|(apply id_aw;first|apply aw_seq|apply aw_region|(apply aw_cond;rfl;all_goals intro hc;have hq:=hc;(try simp only [bqs] at hq);try exfalso;omega)|apply aw_skip|apply aw_ret)|with_reducible apply tq_normal|with_reducible apply tq_ret)
  · have h0 : m = [] := List.eq_nil_of_length_eq_zero (hb (by assumption))
    subst h0
    refine rq_le (Le.bump 1) ?_
    refine rq_le (Le.nilOwn (d := 2) 2 rfl (by decide)) ?_
    (refine rq_ret rfl ?_; refine mc_ret () trivial ?_ ⟨.inr (Eq.trans (b := some _) rfl ?_), trivial⟩)
    · rfl
    · rfl
  · (refine rq_ret rfl ?_; refine mc_ret () trivial ?_ ⟨.inr (Eq.trans (b := some _) rfl ?_), trivial⟩)
    · show AV.own 1 0 (0 + m.length) 2 = _; rw [Nat.zero_add]
    · rfl
theorem touch1_c (t : Tg) (c g : Int) : PC Tryz.prog 199 [aTg t, .iptr [iv c, iv g]] (fun r => r = bv (decide (t.id = g))) := by
  (refine pc_of_aw Tryz.func199 rfl (by simp [Tryz.ntmps199]) ?_; rw [Tryz.ntmps199])
  repeat' (first|(apply id_rw;first|(apply rx_load1;rfl;rfl;rfl;rfl)|(apply rx_fieldAddr;rfl;rfl;rfl)|(apply rx_bin;rfl;rfl;rfl;rfl)|(apply rx_assign;rfl;rfl)|(apply rw_nil;kernel_rfl)|(apply rx_box;rfl;rfl;rfl;rfl))|(apply id_aw;first|apply aw_seq|apply aw_region|apply aw_ret)|with_reducible apply tq_normal)
  exact rq_ret rfl ⟨rfl, rfl⟩
theorem touch2_c (t : Tg) : PC Tryz.prog 201 [aTg t] (fun r => r = bv t.uq) := by
  (refine pc_of_aw Tryz.func201 rfl (by simp [Tryz.ntmps201]) ?_; rw [Tryz.ntmps201])
  repeat' (first|(apply id_rw;first|(apply rx_load1;rfl;rfl;rfl;rfl)|(apply rx_fieldAddr;rfl;rfl;rfl)|(apply rx_assign;rfl;rfl)|(apply rw_nil;kernel_rfl)|(apply rx_box;rfl;rfl;rfl;rfl))|(apply id_aw;first|apply aw_seq|apply aw_region|apply aw_ret)|with_reducible apply tq_normal)
  exact rq_ret rfl ⟨rfl, rfl⟩
theorem idxT1_c (stk : List Tg) (c g : Int) (hl : stk.length ≤ 1000000) : PC Tryz.prog 198 [sl cTg stk, .clos (.func 199) [] [.iptr [iv c, iv g]]] (fun r => r = iv (tgIx stk g)) := by
  (refine pc_of_aw Tryz.func198 rfl (by simp [Tryz.ntmps198]) ?_; rw [Tryz.ntmps198])
  repeat' (first|(apply id_rw;first|(apply rx_move;rfl;rfl)|(apply rx_assign;rfl;rfl)|(apply rx_len;rfl;rfl;rfl)|(apply rw_nil;kernel_rfl))|(apply id_aw;first|apply aw_seq|apply aw_region|apply aw_block)|with_reducible apply tq_normal)
  refine aw_loopK (σ := Nat) [0, 1, 7] [(0, _), (1, _), (7, _)] [] [] (fun k => [(8, iv (k : Int))]) (fun k => []) (fun k => k ≤ stk.length ∧ ∀ j, j < k → stk[j]!.id ≠ g) (fun k => stk.length - k) (0) ⟨by omega, by omega⟩ rfl rfl (by repeat' (first|exact trivial|refine And.intro rfl ?_)) (by repeat' (exact trivial)) ?_
  rintro k ⟨hk, hall⟩
  by_cases hkn : k < stk.length
  · have hcl := touch1_c stk[k]! c g
    repeat' (first|(apply id_rw;first|(apply rx_move;rfl;rfl)|(apply rx_loadA;rfl;rfl;(exact (rfl:_=[_, _]));rfl;rfl;rfl)|(first|(apply rx_add;rfl;rfl;omega;rfl)|(apply rx_bin;rfl;rfl;rfl;rfl))|(apply rx_assign;rfl;rfl)|(apply rx_indexFN;(case hx|hi => rfl);(case hm => (assumption));(case hml => (rfl));(case hα | hf|hg => infer_instance);(case hN => rfl))|((with_reducible apply rx_callC);(case hx|hcl => rfl);(case hc => infer_instance);(case ha => rfl);(case h => (apply hcl <;> (fail)));(case hp => (rfl));(case hN => rfl))|(apply rw_nil;kernel_rfl))|(apply id_aw;first|apply aw_seq|apply aw_region|(apply aw_cond;rfl;all_goals intro hc;have hq:=hc;(try simp only [bqs] at hq);try exfalso;omega)|apply aw_block|apply aw_skip|apply aw_ret)|with_reducible apply tq_normal|with_reducible apply tq_ret|with_reducible apply bq_normal|with_reducible apply bq_ret)
    · refine rq_ret rfl ⟨?_, rfl⟩
      simp only [oneOf]; rw [tgIx_eq hkn (by assumption) hall]
    · (apply ex3 (k + 1); focus (refine Le.ren [] rfl (by decide) ?_ ?_ <;> repeat' (first | exact trivial | refine And.intro ⟨_, rfl, ?_⟩ ?_ | refine Or.inl ⟨?_, (by first | rfl | exact pur_sl _ _)⟩ | rfl)))
      · refine ⟨by omega, fun j hj => ?_⟩
        by_cases e : j = k
        · subst e;assumption
        · exact hall j (by omega)
      · omega
  · repeat' (first | (apply id_rw; first | (apply rx_bin;rfl;rfl;rfl;rfl) | (apply rx_assign;rfl;rfl) | (apply rw_nil;kernel_rfl)) | (apply id_aw; first | apply aw_seq | apply aw_region | (apply aw_cond;rfl;all_goals intro hc;have hq:=hc;(try simp only [bqs] at hq);try exfalso;omega) | apply aw_exit | apply aw_ret) | with_reducible apply tq_normal | with_reducible apply tq_exit | with_reducible apply bq_here)
    refine rq_ret rfl ⟨?_, rfl⟩
    have h2 : tgIx stk g < 0 := tgIx_none.2 (fun t ht => by obtain ⟨j, hj, rfl⟩ := List.getElem_of_mem ht;have := hall j (by omega);rwa [getB _ _ hj] at this)
    have hb := tgIx_bd stk g
    simp only [oneOf]; rw [show tgIx stk g = -1 by omega]
def uqIx (xs : List Tg) : Int := match xs.findIdx? (fun t => t.uq) with | some i => i | none => -1
theorem idxT2_c (stk : List Tg) (hl : stk.length ≤ 1000000) : PC Tryz.prog 198 [sl cTg stk, .v (.func (.func 201) #[] #[])] (fun r => r = iv (uqIx stk)) := by
  (refine pc_of_aw Tryz.func198 rfl (by simp [Tryz.ntmps198]) ?_; rw [Tryz.ntmps198])
  repeat' (first|(apply id_rw;first|(apply rx_move;rfl;rfl)|(apply rx_assign;rfl;rfl)|(apply rx_len;rfl;rfl;rfl)|(apply rw_nil;kernel_rfl))|(apply id_aw;first|apply aw_seq|apply aw_region|apply aw_block)|with_reducible apply tq_normal)
  refine aw_loopK (σ := Nat) [0, 1, 7] [(0, _), (1, _), (7, _)] [] [] (fun k => [(8, iv (k : Int))]) (fun k => []) (fun k => k ≤ stk.length ∧ ∀ j, j < k → stk[j]!.uq = false) (fun k => stk.length - k) (0) ⟨by omega, by omega⟩ rfl rfl (by repeat' (first|exact trivial|refine And.intro rfl ?_)) (by repeat' (exact trivial)) ?_
  rintro k ⟨hk, hall⟩
  by_cases hkn : k < stk.length
  · have hcl := touch2_c stk[k]!
    repeat' (first|(apply id_rw;first|(apply rx_move;rfl;rfl)|(apply rx_loadA;rfl;rfl;(exact (rfl:_=[_, _]));rfl;rfl;rfl)|(first|(apply rx_add;rfl;rfl;omega;rfl)|(apply rx_bin;rfl;rfl;rfl;rfl))|(apply rx_assign;rfl;rfl)|(apply rx_indexFN;(case hx|hi => rfl);(case hm => (assumption));(case hml => (rfl));(case hα | hf|hg => infer_instance);(case hN => rfl))|((with_reducible apply rx_callC);(case hx|hcl => rfl);(case hc => infer_instance);(case ha => rfl);(case h => (apply hcl <;> (fail)));(case hp => (rfl));(case hN => rfl))|(apply rw_nil;kernel_rfl))|(apply id_aw;first|apply aw_seq|apply aw_region|(apply aw_cond;rfl;all_goals intro hc;have hq:=hc;(try simp only [bqs] at hq);try exfalso;omega)|apply aw_block|apply aw_skip|apply aw_ret)|with_reducible apply tq_normal|with_reducible apply tq_ret|with_reducible apply bq_normal|with_reducible apply bq_ret)
    · refine rq_ret rfl ⟨?_, rfl⟩
      have hu : stk[k]!.uq = true := by assumption
      have : stk.findIdx? (fun t => t.uq) = some k := by
        rw [List.findIdx?_eq_some_iff_getElem]
        refine ⟨hkn, by rw [← getB stk k hkn]; exact hu, fun j hj => ?_⟩
        have := hall j hj;rw [getB stk j (by omega)] at this;rw [this]; decide
      simp only [oneOf, uqIx, this]
    · have hu : stk[k]!.uq = false := by assumption
      (apply ex3 (k + 1);focus (refine Le.ren [] rfl (by decide) ?_ ?_ <;> repeat' (first|exact trivial|refine And.intro ⟨_, rfl, ?_⟩ ?_|refine Or.inl ⟨?_, (by first|rfl|exact pur_sl _ _)⟩|rfl)))
      · refine ⟨by omega, fun j hj => ?_⟩
        by_cases e : j = k
        · subst e;exact hu
        · exact hall j (by omega)
      · omega
  · repeat' (first | (apply id_rw; first | (apply rx_bin;rfl;rfl;rfl;rfl) | (apply rx_assign;rfl;rfl) | (apply rw_nil;kernel_rfl)) | (apply id_aw; first | apply aw_seq | apply aw_region | (apply aw_cond;rfl;all_goals intro hc;have hq:=hc;(try simp only [bqs] at hq);try exfalso;omega) | apply aw_exit | apply aw_ret) | with_reducible apply tq_normal | with_reducible apply tq_exit | with_reducible apply bq_here)
    refine rq_ret rfl ⟨?_, rfl⟩
    have : stk.findIdx? (fun t => t.uq) = none := by
      rw [List.findIdx?_eq_none_iff]
      intro x hx
      obtain ⟨j, hj, rfl⟩ := List.getElem_of_mem hx
      have := hall j (by omega);rw [getB stk j hj] at this;exact this
    simp only [oneOf, uqIx, this]
theorem st_tg {xs : List Tg} {k : Nat} {a : Int} {b : Bool} (hk : k < xs.length) : spl (flat cTg xs) (0 + k * 2) [iv a, bv b] = flat cTg (xs.set k ⟨a, b⟩) := st_flat0 hk rfl
theorem take_spl {cs new : List AV} {k : Nat} (h : k ≤ cs.length) : (spl cs (0 + k) new).take k = cs.take k := by
  unfold spl
  rw [Nat.zero_add, List.append_assoc, List.take_left' (by rw [List.length_take]; omega)]
def shr (xs : List Tg) : List Tg := xs.filter (fun t => !t.uq)
theorem uqIx_none {xs : List Tg} (h : uqIx xs = -1) : shr xs = xs := by
  unfold uqIx at h
  split at h
  · omega
  · rename_i hn
    rw [List.findIdx?_eq_none_iff] at hn
    unfold shr
    rw [List.filter_eq_self]
    intro t ht
    have := hn t ht
    simp [this]
theorem uqIx_some {xs : List Tg} {i : Nat} (h : uqIx xs = (i : Int)) : i < xs.length ∧ xs[i]!.uq = true ∧ shr (xs.take (i + 1)) = xs.take i := by
  unfold uqIx at h
  split at h
  · rename_i k hk
    obtain ⟨h1, h2, h3⟩ := List.findIdx?_eq_some_iff_getElem.1 hk
    have e : k = i := by omega
    subst e
    have hs : shr (xs.take k) = xs.take k := by
      unfold shr
      rw [List.filter_eq_self]
      intro t ht
      obtain ⟨j, hj, rfl⟩ := List.getElem_of_mem ht
      rw [List.length_take] at hj
      have := h3 j (by omega)
      rw [List.getElem_take]; simpa using this
    refine ⟨h1, by rw [getB _ _ h1]; exact h2, ?_⟩
    rw [take_succB xs k h1]
    unfold shr at hs ⊢
    rw [List.filter_append, hs, filter1_f (by rw [getB _ _ h1, h2]; rfl), List.append_nil]
  · omega
theorem uqIx_bd (xs : List Tg) : -1 ≤ uqIx xs ∧ uqIx xs < xs.length := by
  unfold uqIx
  split
  · rename_i k hk
    obtain ⟨h1, _⟩ := List.findIdx?_eq_some_iff_getElem.1 hk
    omega
  · omega
theorem shr_hit {xs : List Tg} {j : Nat} (hj : j < xs.length) (h : xs[j]!.uq = false) : shr (xs.take (j + 1)) = shr (xs.take j) ++ [xs[j]!] := by
  rw [take_succB xs j hj]; unfold shr
  rw [List.filter_append, filter1_t (by rw [h]; rfl)]
theorem shr_skip {xs : List Tg} {j : Nat} (hj : j < xs.length) (h : xs[j]!.uq = true) : shr (xs.take (j + 1)) = shr (xs.take j) := by
  rw [take_succB xs j hj]; unfold shr
  rw [List.filter_append, filter1_f (by rw [h]; rfl), List.append_nil]
theorem set_take {α : Type} [Inhabited α] {L : List α} {i : Nat} {x : α} (h : i < L.length) : (L.set i x).take (i + 1) = L.take i ++ [x] := by
  rw [List.set_eq_take_append_cons_drop, if_pos h]
  have h1 : (L.take i).length = i := by rw [List.length_take]; omega
  rw [List.take_append, h1, show i + 1 - i = 1 by omega, List.take_of_length_le (by omega)]
  rfl
theorem drop_get {α : Type} [Inhabited α] {L M : List α} {j : Nat} (h : L.drop j = M.drop j) (hl : L.length = M.length) (hj : j < M.length) : L[j]! = M[j]! := by
  rw [getB _ _ (by omega), getB _ _ hj]
  rw [List.drop_eq_getElem_cons (by omega : j < L.length), List.drop_eq_getElem_cons hj] at h
  exact (List.cons.inj h).1
theorem drop_drop1 {α : Type} {L M : List α} {j : Nat} (h : L.drop j = M.drop j) : L.drop (j + 1) = M.drop (j + 1) := by
  rw [← List.drop_drop, h, List.drop_drop]
theorem rx_delT {xs : List Tg} {m : Nat} {N : Nat} {Q : Exit → AS → Prop} {all : Array Oper} {rest : List Oper} {tsl : List (Nat × AV)} {hsl : List (Nat × Option (List AV))} {nidl : Nat} {z0 : Lo} {md : Md} {d : Nat} {ty : TypeId} {pos : String} {af : Array Edge} {tys : Array TypeId} {x0 x1 : Operand} {i0 : Nat} (ha0 : ev (lk tsl) x0 = some (.own i0 0 m 2)) (ha1 : ev (lk tsl) x1 = some (.v (.func (.func 201) #[] #[]))) (hH0 : lkH hsl i0 = some (flat cTg xs)) (hmc : MC Tryz.prog 200 [.own 0 0 m 2, .v (.func (.func 201) #[] #[])] [(0, some (flat cTg xs))] 1 (fun _ : Unit => True) (fun _ => .own 0 0 (shr xs).length 2) (fun _ => [(0, some (flat cTg (shr xs)))])) (hM : Nat.ble (nidl + 0) big = true) (hN : Nat.blt d N = true) {md' : Md} [hmd : MdA md (rOs [x0, x1] ++ [.inr i0]) (List.map Sum.inr (List.map Prod.fst ([(i0, some (flat cTg (shr xs)))] : List (Nat × Option (List AV)))) ++ [.inl d]) md'] (kk : RW Tryz.prog N all Q md' rest ⟨(d, .own i0 0 (shr xs).length 2) :: tsl, wrH hsl [(i0, some (flat cTg (shr xs)))], nidl + 0, z0⟩) : RW Tryz.prog N all Q md (⟨some d, .call ⟨.value (.func 200), #[x0, x1], tys⟩, ty, pos, af, none⟩ :: rest) ⟨tsl, hsl, nidl, z0⟩ := by
  refine rx_mcallE [i0] 1 [(i0, some (flat cTg (shr xs)))] hmc (avs := [.own i0 0 m 2, .v (.func (.func 201) #[] #[])]) ?_ rfl ?_ rfl ?_ (by simpa using hM) ?_ ?_ ?_ hN (md' := md') (hmd := hmd) kk
  · show evL (lk tsl) [x0, x1] = _
    simp only [evL, ha0, ha1]
  · exact ⟨⟨_, _, rfl, hH0, by (repeat' (exact RnL.purI inferInstance))⟩, trivial⟩
  · (repeat' (first|exact RnL.purI inferInstance|exact RnV.own rfl|refine RnL.cons ?_ ?_))
  · (repeat' (exact RnV.own rfl))
  · simp [wsAll]
  · (repeat' (first|exact trivial|(refine And.intro ⟨0, _, rfl, rfl, ?_⟩ ?_)|exact RnL.purI inferInstance))
theorem delT_c (xs : List Tg) (m : Nat) (hm : m = xs.length) (hl : m ≤ 1000000) : MC Tryz.prog 200 [.own 0 0 m 2, .v (.func (.func 201) #[] #[])] [(0, some (flat cTg xs))] 1 (fun _ : Unit => True) (fun _ => .own 0 0 (shr xs).length 2) (fun _ => [(0, some (flat cTg (shr xs)))]) := by
  subst hm
  have hix := idxT2_c xs hl
  have hbd := uqIx_bd xs
  by_cases hn : uqIx xs = -1
  · rw [hn] at hix
    have hs := uqIx_none hn
    (refine mc_of_aw Tryz.func200 rfl (by simp [Tryz.ntmps200]) ?_; rw [Tryz.ntmps200])
    repeat' (first|(apply id_rw;first|((with_reducible apply rx_lendE (k := 198));(case ha => rfl);(case hl => (repeat' (first|exact lendL_nil|apply lendL_cons|exact lendV_v|exact lendV_own rfl inferInstance)));(case h => exact hix);(case hfr|hN => rfl);(case hmd => infer_instance))|(apply rx_move;rfl;rfl)|(apply rx_bin;rfl;rfl;rfl;rfl)|(apply rx_assign;rfl;rfl)|(apply rw_nil;kernel_rfl))|(apply id_aw;first|apply aw_seq|apply aw_region|(apply aw_condT;rfl;(rfl))|apply aw_ret)|with_reducible apply tq_normal|with_reducible apply tq_ret)
    all_goals (
      (refine rq_ret rfl ?_; refine mc_ret () trivial ?_ ⟨.inr (Eq.trans (b := some _) rfl ?_), trivial⟩)
      · rw [hs]; rfl
      · rw [hs])
  · obtain ⟨i0, hi0⟩ := Int.eq_ofNat_of_zero_le (show 0 ≤ uqIx xs by omega)
    obtain ⟨g1, g2, g3⟩ := uqIx_some hi0
    rw [hi0] at hix
    (refine mc_of_aw Tryz.func200 rfl (by simp [Tryz.ntmps200]) ?_; rw [Tryz.ntmps200])
    repeat' (first|(apply id_rw;first|((with_reducible apply rx_lendE (k := 198));(case ha => rfl);(case hl => (repeat' (first|exact lendL_nil|apply lendL_cons|exact lendV_v|exact lendV_own rfl inferInstance)));(case h => exact hix);(case hfr|hN => rfl);(case hmd => infer_instance))|(apply rx_move;rfl;rfl)|(first|(apply rx_add;rfl;rfl;omega;rfl)|(apply rx_bin;rfl;rfl;rfl;rfl))|(apply rx_assign;rfl;rfl)|(apply rw_nil;kernel_rfl))|(apply id_aw;first|apply aw_seq|apply aw_region|(apply aw_condF;rfl;(rfl))|apply aw_block|apply aw_skip)|with_reducible apply tq_normal)
    all_goals (try (exfalso;omega))
    refine aw_loopK (σ := List Tg × Nat × Nat) [0, 1] [(0, _), (1, _)] [] [] (fun s => [(5, iv (s.2.1 : Int)), (6, iv (s.2.2 : Int))]) (fun s => [(0, some (flat cTg s.1))]) (fun s => s.1.length = xs.length ∧ s.1.take s.2.1 = shr (xs.take s.2.2) ∧ s.1.drop s.2.2 = xs.drop s.2.2 ∧ s.2.1 < s.2.2 ∧ s.2.2 ≤ xs.length) (fun s => xs.length - s.2.2) (xs, i0, i0 + 1) ⟨rfl, g3.symm, rfl, by dsimp only;omega, by dsimp only;omega⟩ rfl rfl (by repeat' (first|exact trivial|refine And.intro rfl ?_)) (by repeat' (first|exact trivial|refine And.intro (.inr rfl) ?_)) ?_
    rintro ⟨L, i, j⟩ ⟨hL, ht, hd, hij, hj⟩
    dsimp only at hL ht hd hij hj ⊢
    by_cases hjn : j < xs.length
    · have hcl := touch2_c L[j]!
      have hg := drop_get hd hL hjn
      repeat' (first|(apply id_rw;first|(apply rx_move;rfl;rfl)|(first|(apply rx_loadFA;(case hx|hH => rfl);(case hf|hg|hα => infer_instance);(case hk => omega);(case h0|hN => rfl))|(apply rx_loadA;rfl;rfl;(exact (rfl:_=[_, _]));rfl;rfl;rfl))|(first|(apply rx_add;rfl;rfl;omega;rfl)|(apply rx_bin;rfl;rfl;rfl;rfl))|(apply rx_assign;rfl;rfl)|(apply rx_indexON;rfl;rfl;(first|assumption|omega);rfl)|(apply rx_len;rfl;rfl;rfl)|((with_reducible apply rx_callC);(case hx|hcl => rfl);(case hc => infer_instance);(case ha => rfl);(case h => (apply hcl <;> (fail)));(case hp => (rfl));(case hN => rfl))|(apply rw_nil;kernel_rfl)|(apply rx_not;rfl;rfl)|(apply rx_alloc;rfl;rfl)|(apply rx_store;rfl;rfl;rfl;rfl;rfl;(case hl => (first|(rw [flat_length]; simp only [lns] <;> omega)|(simp;done)));(first|exact st_tg (by (first|assumption|omega))|exact (rfl:_=[_, _]))))|(apply id_aw;first|apply aw_seq|apply aw_region|(apply aw_cond;rfl;all_goals intro hc;have hq:=hc;(try simp only [bqs] at hq);try exfalso;omega)|apply aw_block|apply aw_skip)|with_reducible apply tq_normal|with_reducible apply bq_normal)
      · have hu : L[j]!.uq = false := by assumption
        (apply ex3 (_, i + 1, j + 1);focus (refine Le.ren [] rfl (by decide) ?_ ?_ <;> repeat' (first|exact trivial|refine And.intro ⟨_, rfl, ?_⟩ ?_|refine And.intro ⟨_, _, rfl, rfl, ?_⟩ ?_|exact Or.inr rfl|refine Or.inl ⟨?_, (by first|rfl|exact pur_sl _ _)⟩|rfl)))
        · refine ⟨by dsimp only; rw [List.length_set]; exact hL, ?_, ?_, by dsimp only; omega, by dsimp only; omega⟩
          · dsimp only
            rw [set_take (by omega), ht, shr_hit hjn (by rw [← hg]; exact hu), hg]
          · dsimp only
            rw [List.drop_set_of_lt (by omega)]
            exact drop_drop1 hd
        · dsimp only;omega
      · have hu : L[j]!.uq = true := by assumption
        (apply ex3 (L, i, j + 1);focus (refine Le.ren [] rfl (by decide) ?_ ?_ <;> repeat' (first|exact trivial|refine And.intro ⟨_, rfl, ?_⟩ ?_|refine And.intro ⟨_, _, rfl, rfl, ?_⟩ ?_|exact Or.inr rfl|refine Or.inl ⟨?_, (by first|rfl|exact pur_sl _ _)⟩|rfl)))
        · refine ⟨hL, ?_, drop_drop1 hd, by dsimp only; omega, by dsimp only; omega⟩
          dsimp only
          rw [ht, shr_skip hjn (by rw [← hg]; exact hu)]
        · dsimp only;omega
    · have hfl : (flat cTg L).length = L.length * 2 := flat_length cTg L
      repeat' (first|(apply id_rw;first|((apply rx_slice (d := 38) (l := i) (h := xs.length));(case hx|hn => rfl);(case hl => exact bnd_to rfl (by omega));(case hh => rfl);(case hp => exact if_pos (by omega));(case hN => rfl))|((apply rx_slice (d := 41) (l := 0) (h := i));(case hx|hn|hl => rfl);(case hh => exact bnd_to rfl (by omega));(case hp => exact if_pos (by omega));(case hN => rfl))|(apply rx_clear;rfl;rfl;omega;rfl;(rw [hfl]; omega);rfl)|(apply rx_move;rfl;rfl)|(apply rx_bin;rfl;rfl;rfl;rfl)|(apply rx_assign;rfl;rfl)|(apply rx_len;rfl;rfl;rfl)|(apply rw_nil;kernel_rfl))|(apply id_aw;first|apply aw_seq|apply aw_region|(apply aw_cond;rfl;all_goals intro hc;have hq:=hc;(try simp only [bqs] at hq);try exfalso;omega)|apply aw_exit|apply aw_ret)|with_reducible apply tq_normal|with_reducible apply tq_exit|with_reducible apply bq_here)
      refine rq_le (Le.cut (i := 0) (i * 2) rfl) ?_
      have hje : j = xs.length := by omega
      have hLt : L.take i = shr xs := by rw [ht, hje, List.take_length]
      have hil : (shr xs).length = i := by rw [← hLt, List.length_take]; omega
      (refine rq_ret rfl ?_; refine mc_ret () trivial ?_ ⟨.inr (Eq.trans (b := some _) rfl ?_), trivial⟩)
      · show AV.own 0 (0 + 0 * 2) (i - 0) 2 = _
        rw [hil]; rfl
      · rw [take_spl (by omega), flat_take cTg (e := 2), hLt]
end Go.Proofs.YtlbbbmeadnelbaaGreat
