/-
  A part of the proofs over this program: rules and contracts of its functions (the contracts).
-/
import Derived.Test.YtlbbbmeadnelbaaGreatB02
set_option linter.unusedVariables false
set_option linter.unusedSimpArgs false
set_option maxHeartbeats 8000000
set_option maxRecDepth 4000
attribute [local irreducible] Go.AL.RW Go.AL.AW Go.AL.Stop
namespace Go.Proofs.YtlbbbmeadnelbaaGreat
open Go.AL Go.RowKit
theorem l1Letter_c (v : Int) (h0 : 0 ≤ v) (h1 : v ≤ 25) : PC Tryz.prog 216 [iv v] (fun r => r = sv (letF v)) := by
  (refine pc_of_aw Tryz.func216 rfl (by simp [Tryz.ntmps216]) ?_; rw [Tryz.ntmps216])
  repeat' (first|(apply id_rw;first|(apply rx_addU;rfl;rfl;omega;rfl)|((apply rx_b2s (ns := [_]));(case hx|hs'|hN => rfl))|(apply rx_convU;rfl;omega;rfl)|(apply rx_move;rfl;rfl)|(apply rx_assign;rfl;rfl)|(apply rw_nil;kernel_rfl)|(apply rx_buildSlice;rfl;rfl;rfl;exact (rfl:_=some [_]);rfl;rfl))|(apply id_aw;first|apply aw_seq|apply aw_region|apply aw_ret)|with_reducible apply tq_normal|((with_reducible apply rq_ret);case hr => rfl))
  exact ⟨rfl, rfl⟩
theorem l17Dec_c (n : Int) (h0 : 0 ≤ n) (h1 : n ≤ 9) : PC Tryz.prog 217 [iv n] (fun r => r = sv (decF n)) := by
  (refine pc_of_aw Tryz.func217 rfl (by simp [Tryz.ntmps217]) ?_; rw [Tryz.ntmps217])
  repeat' (first|(apply id_rw;first|(apply rx_move;rfl;rfl)|(apply rx_bin;rfl;rfl;rfl;rfl)|(apply rx_assign;rfl;rfl)|(apply rw_nil;kernel_rfl))|(apply id_aw;first|apply aw_seq|apply aw_region|(apply aw_cond;rfl;all_goals intro hc;have hq:=hc;(try simp only [bqs] at hq);try exfalso;omega)|apply aw_block|apply aw_skip)|with_reducible apply tq_normal)
  refine aw_loopK (σ := Unit) [0, 3] [(0, _), (3, _)] [] [] (fun u => []) (fun u => []) (fun u => True) (fun u => 0) () trivial rfl rfl (by repeat' (exact trivial)) (by repeat' (exact trivial)) ?_
  rintro u _
  repeat' (first|(apply id_rw;first|(apply rx_sbin;rfl;rfl;(rfl);rfl)|((apply rx_b2s (ns := [_]));(case hx|hs'|hN => rfl))|(apply rx_convU;rfl;omega;rfl)|(apply rx_move;rfl;rfl)|(first|(apply rx_add;rfl;rfl;omega;rfl)|(apply rx_bin;rfl;rfl;rfl;rfl))|(apply rx_assign;rfl;rfl)|(apply rw_nil;kernel_rfl)|(apply rx_buildSlice;rfl;rfl;rfl;exact (rfl:_=some [_]);rfl;rfl))|(apply id_aw;first|apply aw_seq|apply aw_region|(apply aw_cond;rfl;all_goals intro hc;have hq:=hc;(try simp only [bqs] at hq);try exfalso;omega)|apply aw_exit|apply aw_ret)|with_reducible apply tq_normal|with_reducible apply tq_exit|with_reducible apply bq_here|((with_reducible apply rq_ret);case hr => rfl))
  exact ⟨rfl, rfl⟩
theorem text_c0 (s : AL.Stmt) (hc : cntS s ≤ 10000) (hop : (s.op = 9 ∨ s.op = 10) ∨ (1 ≤ s.op ∧ s.op ≤ 8 ∧ 0 ≤ s.x ∧ s.x ≤ 5 ∧ 0 ≤ s.y ∧ s.y ≤ 5 ∧ (s.op = 1 ∨ s.op = 2 → 0 ≤ s.n ∧ s.n ≤ 9)))
    (hth : s.op = 9 ∨ s.op = 10 → PC Tryz.prog 195 [sl cStmt s.th] (fun r => r = sv (textL s.th))) (hel : s.op = 9 → PC Tryz.prog 195 [sl cStmt s.el] (fun r => r = sv (textL s.el))) : PC Tryz.prog 214 [aStmt s] (fun r => r = sv (textS s)) := by
  have k1 := textL_size s.th
  have k2 := textL_size s.el
  have k3 := cntS_def s
  (refine pc_of_aw Tryz.func214 rfl (by simp [Tryz.ntmps214]) ?_; rw [Tryz.ntmps214])
  repeat' (first|(apply id_rw;first|(apply rx_sbin;rfl;rfl;(first|rfl|exact sadd_ok (by (simp only [ByteArray.size_append, bsz_lit, List.length_cons, List.length_nil, letF_size, decF_size, bytF_size] <;> omega)));rfl)|(apply rx_move;rfl;rfl)|(apply rx_load1;rfl;rfl;rfl;rfl)|(apply rx_fieldAddr;rfl;rfl;rfl)|(apply rx_bin;rfl;rfl;rfl;rfl)|(apply rx_assign;rfl;rfl)|(first|((with_reducible apply rx_callE (k := 195));(case ha => rfl);(case h => (first|(apply hth;omega)|(apply hel;omega)));(case hp => (exact Pur.pf));(case hN => rfl))|((with_reducible apply rx_callE (k := 216));(case ha => rfl);(case h => (apply l1Letter_c <;> (omega)));(case hp => (rfl));(case hN => rfl))|((with_reducible apply rx_callE (k := 217));(case ha => rfl);(case h => (apply l17Dec_c <;> (omega)));(case hp => (rfl));(case hN => rfl)))|(apply rw_nil;kernel_rfl)|(apply rx_box;rfl;rfl;rfl;rfl))|(apply id_aw;first|apply aw_seq|apply aw_region|(apply aw_draw;kernel_rfl)|(apply aw_cond;rfl;all_goals intro hc;have hq:=hc;(try simp only [bqs] at hq);try exfalso;omega)|apply aw_block|apply aw_skip|apply aw_ret)|with_reducible apply tq_normal|with_reducible apply tq_ret|with_reducible apply bq_normal|with_reducible apply bq_ret|((with_reducible apply rq_ret);case hr => rfl))
  all_goals (refine ⟨?_, rfl⟩; rw [textS_def]; repeat' split)
  all_goals (first|rfl|omega)
theorem textL_c0 (l : List AL.Stmt) (hc : cntL l ≤ 10000) (text_ih : ∀ k, k < l.length → PC Tryz.prog 214 [aStmt l[k]!] (fun r => r = sv (textS l[k]!))) : PC Tryz.prog 195 [sl cStmt l] (fun r => r = sv (textL l)) := by
  have hlen := cntL_len l
  (refine pc_of_aw Tryz.func195 rfl (by simp [Tryz.ntmps195]) ?_; rw [Tryz.ntmps195])
  repeat' (first|(apply id_rw;first|(apply rx_assign;rfl;rfl)|(apply rw_nil;kernel_rfl))|(apply id_aw;first|apply aw_seq|apply aw_region|apply aw_block)|with_reducible apply tq_normal)
  refine aw_loopK (σ := Nat × ByteArray) [0] [(0, _)] [] [] (fun k => [(4, iv (k.1 : Int)), (3, sv k.2)]) (fun k => []) (fun k => k.1 ≤ l.length ∧ k.2 = textL (l.take k.1)) (fun k => l.length - k.1) (0, ⟨#[]⟩) ⟨by omega, rfl⟩ rfl rfl (by repeat' (first|exact trivial|refine And.intro rfl ?_)) (by repeat' (exact trivial)) ?_
  rintro ⟨k, t⟩ ⟨hk, ht⟩
  dsimp only at hk ht ⊢
  have k1 := textL_size (l.take k)
  have k2 := textS_size l[k]!
  have hck := cntL_at l k
  have hct : cntL (l.take k) ≤ cntL l := by have := cntL_append (l.take k) (l.drop k);rw [List.take_append_drop] at this;omega
  have k3 : t.size = (textL (l.take k)).size := by rw [ht]
  repeat' (first|(apply id_rw;first|(apply rx_sbin;rfl;rfl;(exact sadd_ok (by (first|omega|(simp only [ByteArray.size_append, bsz_lit, List.length_cons, List.length_nil, letF_size, decF_size, bytF_size] <;> omega))));rfl)|(apply rx_move;rfl;rfl)|(apply rx_loadA;rfl;rfl;(exact (rfl:_=[_, _, _, _, _, _]));rfl;rfl;rfl)|(first|(apply rx_add;rfl;rfl;omega;rfl)|(apply rx_bin;rfl;rfl;rfl;rfl))|(apply rx_assign;rfl;rfl)|(apply rx_indexFN;(case hx|hi => rfl);(case hm => (omega));(case hml => (rfl));(case hα | hf|hg => infer_instance);(case hN => rfl))|((with_reducible apply rx_callE (k := 214));(case ha => rfl);(case h => (apply text_ih <;> (omega)));(case hp => (exact Pur.pf));(case hN => rfl))|(apply rx_len;rfl;rfl;rfl)|(apply rw_nil;kernel_rfl))|(apply id_aw;first|apply aw_seq|apply aw_region|(apply aw_cond;rfl;all_goals intro hc;have hq:=hc;(try simp only [bqs] at hq);try exfalso;omega)|apply aw_block|apply aw_skip|apply aw_exit|apply aw_ret)|with_reducible apply tq_normal|with_reducible apply tq_exit|with_reducible apply bq_normal|with_reducible apply bq_here|((with_reducible apply rq_ret);case hr => rfl))
  · (apply ex3 (k + 1, _); focus (refine Le.ren [] rfl (by decide) ?_ ?_ <;> repeat' (first | exact trivial | refine And.intro ⟨_, rfl, ?_⟩ ?_ | refine Or.inl ⟨?_, (by first | rfl | exact pur_sl _ _)⟩ | rfl)))
    · exact ⟨by dsimp only;omega, by dsimp only;rw [textL_succ l k (by omega), joinF, if_pos (by omega), ht]⟩
    · dsimp only;omega
  · (apply ex3 (k + 1, _); focus (refine Le.ren [] rfl (by decide) ?_ ?_ <;> repeat' (first | exact trivial | refine And.intro ⟨_, rfl, ?_⟩ ?_ | refine Or.inl ⟨?_, (by first | rfl | exact pur_sl _ _)⟩ | rfl)))
    · exact ⟨by dsimp only;omega, by dsimp only;rw [textL_succ l k (by omega), joinF, if_neg (by omega), ht]⟩
    · dsimp only;omega
  · have hke : k = l.length := by omega
    refine ⟨?_, rfl⟩
    rw [ht, hke, List.take_length]; rfl
theorem text_all (ts : List Int) (hts : typesOk ts = true) : ∀ m : Nat, m ≤ 10000 → ∀ l d, cntL l ≤ m → okL ts d l = true → PC Tryz.prog 195 [sl cStmt l] (fun r => r = sv (textL l)) := by
  intro m
  induction m with
  | zero =>
    intro hm l d hc ho
    have := cntL_len l
    exact textL_c0 l (by omega) (fun k hk => by omega)
  | succ m ih =>
    intro hm l d hc ho
    refine textL_c0 l (by omega) (fun k hk => ?_)
    have hck := cntL_at l k hk
    have hct := cnt_th l[k]!
    have hs : okS ts d l[k]! = true := by rw [okL_eq, all_iff] at ho;exact ho k hk
    rw [okS_def] at hs
    by_cases h9 : l[k]!.op ≠ 9 ∧ l[k]!.op ≠ 10
    · rw [if_pos h9] at hs
      simp only [Bool.and_eq_true] at hs
      exact text_c0 _ (by omega) (.inr (simple_bd hts hs.2)) (fun h => by omega) (fun h => by omega)
    · rw [if_neg h9] at hs
      cases d with
      | zero => cases hs
      | succ d =>
        simp only [Bool.and_eq_true] at hs
        exact text_c0 _ (by omega) (.inl (by omega)) (fun h => ih (by omega) _ d (by omega) hs.1.2) (fun h => ih (by omega) _ d (by omega) hs.2)
theorem l1List_c (ts : List Int) (d : Nat) (l : List AL.Stmt) (hts : typesOk ts = true) (hc : cntL l ≤ 10000) (ho : okL ts d l = true) : PC Tryz.prog 195 [sl cStmt l] (fun r => r = sv (textL l)) := text_all ts hts _ hc l d (Nat.le_refl _) ho
def cStr (s : ByteArray) : List AV := [.v (.string s)]
instance : FlT cStr 1 := ⟨fun _ => rfl⟩
instance : FE cStr (fun s => [.v (.string s)]) := ⟨fun _ => rfl⟩
instance (s : ByteArray) : Pur (cStr s) := ⟨rfl⟩
theorem Le.slotEq {ts : List (Nat × AV)} {hs : List (Nat × Option (List AV))} {n : Nat} {z0 : Lo} {d : Nat} (v v' : AV) (hd : lk ts d = some v) (h : v = v') : Le ⟨ts, hs, n, z0⟩ ⟨(d, v') :: ts, hs, n, z0⟩ :=
  Le.slot hd fun w bad ι y hr => h ▸ hr
def kinds : List ByteArray := [⟨#[]⟩, ⟨#[105]⟩, ⟨#[98]⟩, ⟨#[114]⟩, ⟨#[109]⟩]
theorem kinds_size (k : Nat) : (kinds[k]!).size ≤ 1 := by
  match k with
  | 0 => decide
  | 1 => decide
  | 2 => decide
  | 3 => decide
  | 4 => decide
  | k + 5 => exact (show (default : ByteArray).size ≤ 1 from by decide)
theorem l1Program_c (p : Prg) (hv : validF p = true) : PC Tryz.prog 161 [aPrg p] (fun r => ∃ t, r = sv t) := by
  have hv2 := hv
  simp only [validF, Bool.and_eq_true, decide_eq_true_eq] at hv2
  obtain ⟨⟨hts, hol⟩, hcn⟩ := hv2
  have hl6 := typesOk_len hts
  have htx := textL_size p.body
  (refine pc_of_aw Tryz.func161 rfl (by simp [Tryz.ntmps161]) ?_; rw [Tryz.ntmps161])
  repeat' (first|(apply id_rw;first|(apply rx_assign;rfl;rfl)|(apply rw_nil;kernel_rfl)|(apply rx_box;rfl;rfl;rfl;rfl))|(apply id_aw;first|apply aw_seq|apply aw_region|apply aw_block)|with_reducible apply tq_normal)
  refine aw_loopK (σ := Nat × ByteArray) [1] [(1, _)] [0] [(0, some _)] (fun k => [(4, iv (k.1 : Int)), (3, sv k.2)]) (fun k => []) (fun k => k.1 ≤ p.types.length ∧ k.2.size ≤ k.1) (fun k => p.types.length - k.1) (0, ⟨#[]⟩) ⟨by omega, by show 0 ≤ 0;omega⟩ rfl rfl (by repeat' (first|exact trivial|refine And.intro rfl ?_)) (by repeat' (exact trivial)) ?_
  rintro ⟨k, t⟩ ⟨hk, ht⟩
  dsimp only at hk ht ⊢
  have htk := typesOk_at hts k
  have hkz : (kinds[(p.types[k]!).toNat]!).size ≤ 1 := kinds_size _
  have hkl : kinds.length = 5 := rfl
  repeat' (first|(apply id_rw;first|(with_reducible apply rw_stop (d := 14))|((with_reducible apply rx_callE (k := 195));(case ha => rfl);(case h => exact l1List_c p.types 4 p.body hts (by omega) hol);(case hp => (exact Pur.pf));(case hN => rfl))|(apply rx_sbin;rfl;rfl;(exact sadd_ok (by (simp only [ByteArray.size_append, bsz_lit, List.length_cons, List.length_nil, letF_size, decF_size, bytF_size] <;> omega)));rfl)|(apply rx_move;rfl;rfl)|(apply rx_load1;rfl;rfl;rfl;rfl)|(apply rx_fieldAddr;rfl;rfl;rfl)|(apply rx_bin;rfl;rfl;rfl;rfl)|(apply rx_assign;rfl;rfl)|(apply rx_len;rfl;rfl;rfl)|(apply rw_nil;kernel_rfl)|((apply rx_buildSliceI (t := _));(case hze|hsm|hl => rfl);(case hfl => (exact (rfl:_=some [_, _, _, _, _])));(case hM|hN => rfl)))|(apply id_aw;first|apply aw_seq|apply aw_region|(apply aw_cond;rfl;all_goals intro hc;have hq:=hc;(try simp only [bqs] at hq);try exfalso;omega)|apply aw_block|apply aw_skip|apply aw_exit|apply aw_ret)|with_reducible apply tq_normal|with_reducible apply tq_exit|with_reducible apply bq_here)
  · refine rw_go (rw_le ?_ (Le.slotEq (d := 13) _ (.imm 5 (flat cStr kinds)) rfl rfl))
    repeat' (first|(apply id_rw;first|(apply rx_sbin;rfl;rfl;(exact sadd_ok (by (omega)));rfl)|(apply rx_move;rfl;rfl)|(apply rx_load1;rfl;rfl;rfl;rfl)|(apply rx_fieldAddr;rfl;rfl;rfl)|(apply rx_add;rfl;rfl;omega;rfl)|(apply rx_assign;rfl;rfl)|(first|(apply rx_indexFN;(case hx|hi => rfl);(case hm => (omega));(case hml => (rfl));(case hα | hf|hg => infer_instance);(case hN => rfl))|(apply rx_indexF;(case hx|hi => rfl);(case hm => (omega));(case hml => (rfl));(case hα | hf|hg => infer_instance);(case hN => rfl)))|(apply rw_nil;kernel_rfl))|(apply id_aw;(apply aw_region))|with_reducible apply tq_normal|with_reducible apply bq_normal)
    (apply ex3 (k + 1, _);focus (refine Le.ren [(0, 0)] rfl (by decide) ?_ ?_ <;> repeat' (first|exact trivial|refine And.intro ⟨_, rfl, ?_⟩ ?_|refine And.intro ⟨_, _, rfl, rfl, ?_⟩ ?_|exact Or.inr rfl|refine Or.inl ⟨?_, (by first|rfl|exact Pur.pf)⟩|rfl)))
    · exact ⟨by dsimp only;omega, by dsimp only;rw [ByteArray.size_append]; omega⟩
    · dsimp only;omega
  · refine rq_ret rfl ⟨⟨_, rfl⟩, rfl⟩
theorem qprog0 {s : ByteArray} (b : Bool) : (∃ (q : Prg) (b' : Bool), AV.tup [AV.agg [.imm 0 [], .imm 0 []], bv b] = .tup [aPrg q, bv b'] ∧ cntL q.body ≤ s.size + 10 ∧ q.types.length ≤ s.size + 10) :=
  ⟨⟨[], []⟩, b, rfl, by simp [cntL], by simp⟩
theorem parseProgram_c (s : ByteArray) (hs : s.size ≤ 10000) : PC Tryz.prog 111 [sv s] (fun r => ∃ (q : Prg) (b : Bool), r = .tup [aPrg q, bv b] ∧ cntL q.body ≤ s.size + 10 ∧ q.types.length ≤ s.size + 10) := by
  (refine pc_of_aw Tryz.func111 rfl (by simp [Tryz.ntmps111]) ?_; rw [Tryz.ntmps111])
  repeat' (first|(apply id_rw;first|(with_reducible apply rw_stop (d := 13))|(apply rx_move;rfl;rfl)|(apply rx_bin;rfl;rfl;rfl;rfl)|(apply rx_assign;rfl;rfl)|(apply rx_lenS;rfl;rfl)|(apply rw_nil;kernel_rfl)|(apply rx_buildK;rfl;(exact (rfl:_=some [_, _]));(exact (rfl:_=[_, _]));rfl)|(apply rx_alloc;rfl;rfl)|(apply rx_store;rfl;rfl;rfl;rfl;rfl;(decide);(exact (rfl:_=[_, _]))))|(apply id_aw;first|apply aw_seq|apply aw_region|(apply aw_cond;rfl;all_goals intro hc;have hq:=hc;(try simp only [bqs] at hq);try exfalso;omega)|apply aw_skip|apply aw_ret)|with_reducible apply tq_normal|with_reducible apply tq_ret)
  · exact rq_ret (l := [.agg [.imm 0 [], .imm 0 []], bv false]) rfl ⟨qprog0 false, rfl⟩
  refine rw_go ?_
  apply rx_build
  case hl => rfl
  case hf => exact (rfl:_=some [AV.v (.slice none 0 0), AV.v (.slice none 0 0)])
  case hN => rfl
  repeat' (first|(apply id_rw;first|(apply rx_assign;rfl;rfl)|(apply rw_nil;kernel_rfl)|(apply rx_alloc;rfl;rfl)|(apply rx_store;rfl;rfl;rfl;rfl;rfl;(decide);(exact (rfl:_=[_, _]))))|(apply id_aw;first|apply aw_seq|apply aw_region|apply aw_block)|with_reducible apply tq_normal)
  apply AW.le
  case k => exact Le.nilCell (i := 1) 1 [] rfl (by decide) (by decide)
  refine aw_loopK (σ := Nat × List Int × Nat) [0, 2, 4] [(0, _), (2, _), (4, _)] [0] [(0, some _)] (fun k => [(5, iv (k.1 : Int))]) (fun k => [(1, some [.own 2 0 k.2.2 1, .v (.slice none 0 0)]), (2, some (flat cI k.2.1))]) (fun k => k.1 ≤ s.size ∧ k.2.1.length = k.1 ∧ k.2.2 = k.2.1.length) (fun k => s.size - k.1) (0, [], 0) ⟨by omega, rfl, rfl⟩ rfl rfl (by repeat' (first|exact trivial|refine And.intro rfl ?_)) (by repeat' (first|exact trivial|refine And.intro (.inr rfl) ?_)) ?_
  rintro ⟨k, xs, m⟩ ⟨hk, hxl, hm⟩
  dsimp only at hk hxl hm ⊢
  repeat' (first|(apply id_rw;first|(with_reducible apply rw_stop (d := 43))|(apply rx_indexS;rfl;rfl;omega;rfl)|(apply rx_move;rfl;rfl)|(apply rx_load1;rfl;rfl;rfl;rfl)|(apply rx_fieldAddr;rfl;rfl;rfl)|(first|(apply rx_guardY;rfl;rfl;rfl;(assumption))|(apply rx_guardNs;rfl;rfl;rfl;(assumption))|(apply rx_guardS;(case hj|hb|hN => rfl);all_goals (intro hg;have hq := hg;(try simp only [bqs] at hq);(try (exfalso;omega)))))|(first|(apply rx_add;rfl;rfl;omega;rfl)|(apply rx_bin;rfl;rfl;rfl;rfl))|(apply rx_assign;rfl;rfl)|(first|(apply rx_pickT;rfl;(assumption);rfl;rfl)|(apply rx_pickF;rfl;(assumption);rfl;rfl))|(first|(apply rx_lenS;rfl;rfl)|(apply rx_append;rfl;rfl;rfl;rfl;rfl;(rw [flat_length]; omega);(rfl);omega;omega;(exact app_int (by (assumption)));rfl;rfl))|(apply rw_nil;kernel_rfl)|((apply rx_buildSliceI (t := _));(case hze|hsm|hl => rfl);(case hfl => exact (rfl:_=some [_]));(case hM|hN => rfl))|(apply rx_store;rfl;rfl;rfl;rfl;rfl;(case hl => (simp;done));(exact (rfl:_=[_, _]))))|(apply id_aw;first|apply aw_seq|apply aw_region|(apply aw_condF;rfl;(rfl))|(apply aw_cond;rfl;all_goals intro hc;have hq:=hc;(try simp only [bqs] at hq);try exfalso;omega)|apply aw_block|apply aw_skip|apply aw_exit)|with_reducible apply tq_normal|with_reducible apply tq_exit|with_reducible apply bq_normal|with_reducible apply bq_here)
  · (apply ex3 (k + 1, xs ++ [1], m + 1); focus (refine Le.ren [(0, 0), (1, 1), (2, 4)] rfl (by decide) ?_ ?_ <;> repeat' (first | exact trivial | refine And.intro ⟨_, rfl, ?_⟩ ?_ | refine And.intro ⟨_, _, rfl, rfl, ?_⟩ ?_ | exact Or.inr rfl | refine Or.inl ⟨?_, (by first | rfl | exact pur_sl _ _)⟩ | refine Or.inr (All2.cons ?_ ?_) | refine All2.cons ?_ ?_ | exact All2.nil | rfl)))
    · exact ⟨by dsimp only;omega, by simp [hxl], by simp [hm]⟩
    · dsimp only;omega
  · (apply ex3 (k + 1, xs ++ [2], m + 1); focus (refine Le.ren [(0, 0), (1, 1), (2, 4)] rfl (by decide) ?_ ?_ <;> repeat' (first | exact trivial | refine And.intro ⟨_, rfl, ?_⟩ ?_ | refine And.intro ⟨_, _, rfl, rfl, ?_⟩ ?_ | exact Or.inr rfl | refine Or.inl ⟨?_, (by first | rfl | exact pur_sl _ _)⟩ | refine Or.inr (All2.cons ?_ ?_) | refine All2.cons ?_ ?_ | exact All2.nil | rfl)))
    · exact ⟨by dsimp only;omega, by simp [hxl], by simp [hm]⟩
    · dsimp only;omega
  · (apply ex3 (k + 1, xs ++ [3], m + 1); focus (refine Le.ren [(0, 0), (1, 1), (2, 4)] rfl (by decide) ?_ ?_ <;> repeat' (first | exact trivial | refine And.intro ⟨_, rfl, ?_⟩ ?_ | refine And.intro ⟨_, _, rfl, rfl, ?_⟩ ?_ | exact Or.inr rfl | refine Or.inl ⟨?_, (by first | rfl | exact pur_sl _ _)⟩ | refine Or.inr (All2.cons ?_ ?_) | refine All2.cons ?_ ?_ | exact All2.nil | rfl)))
    · exact ⟨by dsimp only;omega, by simp [hxl], by simp [hm]⟩
    · dsimp only;omega
  · (apply ex3 (k + 1, xs ++ [4], m + 1); focus (refine Le.ren [(0, 0), (1, 1), (2, 4)] rfl (by decide) ?_ ?_ <;> repeat' (first | exact trivial | refine And.intro ⟨_, rfl, ?_⟩ ?_ | refine And.intro ⟨_, _, rfl, rfl, ?_⟩ ?_ | exact Or.inr rfl | refine Or.inl ⟨?_, (by first | rfl | exact pur_sl _ _)⟩ | refine Or.inr (All2.cons ?_ ?_) | refine All2.cons ?_ ?_ | exact All2.nil | rfl)))
    · exact ⟨by dsimp only;omega, by simp [hxl], by simp [hm]⟩
    · dsimp only;omega
  · (apply ex3 (k + 1, xs ++ [0], m + 1); focus (refine Le.ren [(0, 0), (1, 1), (2, 4)] rfl (by decide) ?_ ?_ <;> repeat' (first | exact trivial | refine And.intro ⟨_, rfl, ?_⟩ ?_ | refine And.intro ⟨_, _, rfl, rfl, ?_⟩ ?_ | exact Or.inr rfl | refine Or.inl ⟨?_, (by first | rfl | exact pur_sl _ _)⟩ | refine Or.inr (All2.cons ?_ ?_) | refine All2.cons ?_ ?_ | exact All2.nil | rfl)))
    · exact ⟨by dsimp only;omega, by simp [hxl], by simp [hm]⟩
    · dsimp only;omega
  all_goals subst hm
  all_goals (refine rw_go (rw_le ?_ (Le.frzC (j := 1) (i := 2) [] rfl rfl (by decide))))
  all_goals repeat' (first|(apply id_rw;first|((with_reducible apply rx_call (k := 160));(case ha => rfl);(case h => (apply list4_c <;> omega));(case hp => (rfl));(case hN => rfl);(rintro _ ⟨l, nx, rfl, hql⟩ _))|((with_reducible apply rx_callE (k := 90));(case ha => rfl);(case h => exact validS_c ⟨xs, l⟩ (by show xs.length ≤ _; omega) (by show cntL l ≤ 100000000;rcases hql with ⟨_, h9⟩|h9;(rw [h9]; decide);omega));(case hp => (exact Pur.pf));(case hN => rfl))|((with_reducible apply rx_call (k := 161));(case ha => rfl);(case h => exact l1Program_c ⟨xs, l⟩ (by assumption));(case hp => (exact Pur.pf));(case hN => rfl);(rintro _ ⟨t, rfl⟩ _))|(apply rx_sbin;rfl;rfl;(rfl);rfl)|(apply rx_move;rfl;rfl)|(apply rx_loadA;rfl;rfl;(exact (rfl:_=[_, _]));rfl;rfl;rfl)|(apply rx_fieldAddr;rfl;rfl;rfl)|(first|(apply rx_guardY;rfl;rfl;rfl;(assumption))|(apply rx_guardNs;rfl;rfl;rfl;(first|rfl|assumption))|(apply rx_guardS;(case hj|hb|hN => rfl);all_goals (intro hg;have hq := hg;(try simp only [bqs] at hq);(try (exfalso;omega)))))|(first|(apply rx_add;rfl;rfl;omega;rfl)|(apply rx_bin;rfl;rfl;rfl;rfl))|(apply rx_assign;rfl;rfl)|(first|(apply rx_pickT;rfl;(first|rfl|assumption);rfl;rfl)|(apply rx_pickF;rfl;(assumption);rfl;rfl))|(apply rx_lenS;rfl;rfl)|(apply rw_nil;kernel_rfl)|(apply rx_buildK;rfl;(exact (rfl:_=some [_, _]));(exact (rfl:_=[_, _]));rfl)|(apply rx_not;rfl;rfl)|(apply rx_extract;rfl;rfl;rfl)|(apply rx_store;rfl;rfl;rfl;rfl;rfl;(case hl => (first|decide|(simp;done)));(exact (rfl:_=[_, _]))))|(apply id_aw;first|apply aw_seq|apply aw_region|(apply aw_condT;rfl;(rfl))|(apply aw_cond;rfl;all_goals intro hc;have hq:=hc;(try simp only [bqs] at hq);try exfalso;omega)|apply aw_skip|apply aw_ret)|with_reducible apply tq_normal|with_reducible apply tq_ret)
  all_goals first
    | exact rq_ret (l := [.agg [.imm 0 [], .imm 0 []], bv false]) rfl ⟨qprog0 false, rfl⟩
    | (refine rq_ret (l := [.agg [.imm xs.length (flat cI xs), sl cStmt l], bv true]) rfl ⟨⟨⟨xs, l⟩, true, rfl, ?_, by show xs.length ≤ _; omega⟩, Pur.pf⟩
       show cntL l ≤ _
       rcases hql with ⟨_, h9⟩|h9
       · rw [h9]; simp [cntL]
       · omega)
class NumS (cs : List AV) (xs : outParam (List ByteArray)) : Prop where h : cs = flat cStr xs
instance NumS.nil : NumS [] [] := ⟨rfl⟩
instance NumS.cons {n : ByteArray} {cs : List AV} {xs : List ByteArray} [h : NumS cs xs] : NumS (.v (.string n) :: cs) (n :: xs) := ⟨by rw [h.h]; rfl⟩
theorem texts_of {cs : List AV} {xs : List ByteArray} {m : Nat} (h : NumS cs xs) (hm : m = xs.length) (hs : xs.all (fun s => decide (s.size ≤ 600)) = true) : ∃ ys : List ByteArray, AV.imm m cs = sl cStr ys ∧ ys.length = m ∧ ∀ i : Nat, (ys[i]!).size ≤ 600 := by
  refine ⟨xs, by rw [h.h, hm], hm.symm, fun i => ?_⟩
  by_cases hi : i < xs.length
  · rw [List.all_eq_true] at hs
    rw [getB _ _ hi]
    simpa using hs _ (List.getElem_mem hi)
  · rw [getElem!_neg xs i hi]; decide
theorem l1Texts_c : PC Tryz.prog 110 [] (fun r => ∃ ys : List ByteArray, r = sl cStr ys ∧ ys.length = 25 ∧ ∀ i : Nat, (ys[i]!).size ≤ 600) := by
  (refine pc_of_aw Tryz.func110 rfl (by simp [Tryz.ntmps110]) ?_; rw [Tryz.ntmps110])
  repeat' (first|(apply id_rw;first|((apply rx_buildSliceI (t := _));(case hze|hsm|hl => rfl);(case hfl => exact (rfl:_=some [_, _, _, _, _, _, _, _, _, _, _, _, _, _, _, _, _, _, _, _, _, _, _, _, _]));(case hM|hN => rfl))|(apply rx_assign;rfl;rfl)|(apply rw_nil;kernel_rfl))|(apply id_aw;first|apply aw_seq|apply aw_region|apply aw_ret)|with_reducible apply tq_normal)
  refine rq_q (l := [.imm 25 [_, _, _, _, _, _, _, _, _, _, _, _, _, _, _, _, _, _, _, _, _, _, _, _, _]]) ?_ rfl ?_
  · rintro _ ⟨ys, rfl, _⟩; exact pur_sl _ _
  · exact texts_of inferInstance rfl (by decide)
theorem rx_prgcall {P : Program} {N : Nat} {Q : Exit → AS → Prop} {all : Array Oper} {rest : List Oper} {ts : List (Nat × AV)} {hs : List (Nat × Option (List AV))} {n : Nat} {z0 : Lo} {ty : TypeId} {pos : String} {af : Array Edge} {d : Nat} {args : Array Operand} {tys : Array TypeId}
    {k : FuncId} {pv : List AV} {p0 : Prg × Nat → Prop} {i p : Nat} {bs : List UInt8} (h : MC P k (.optr 0 0 :: pv) [(0, some (cRd bs p))] 1 p0 (fun x => aPrg x.1) (fun x => [(0, some (cRd bs x.2))])) [hc : CaT P k] (ha : evL (lk ts) args.toList = some (.optr i 0 :: pv)) (hpv : pursB pv = true)
    (hH : lkH hs i = some (cRd bs p)) (hM : Nat.ble (n + 0) big = true) (hN : Nat.blt d N = true) (kk : ∀ x, p0 x → RW P N all Q .txt rest ⟨(d, aPrg x.1) :: ts, (i, some (cRd bs x.2)) :: hs, n + 0, z0⟩) :
    RW P N all Q .txt (⟨some d, .call ⟨.value (.func k), args, tys⟩, ty, pos, af, none⟩ :: rest) ⟨ts, hs, n, z0⟩ :=
  rx_mcall (σ := Prg × Nat) [i] 1 (fun x : Prg × Nat => [(i, some (cRd bs x.2))]) h ha rfl ⟨⟨_, _, rfl, hH, RnL.purI inferInstance⟩, trivial⟩ rfl (RnL.cons (RnV.optr rfl) (RnL.pur hpv)) (by simpa using hM)
    (fun x _ => RnV.purI inferInstance) (fun x _ => by simp [wsAll]) (fun x _ => ⟨⟨0, _, rfl, rfl, RnL.purI inferInstance⟩, trivial⟩) hN kk
theorem num_bd (bs : List UInt8) (p : Nat) (xs : List Int) (lo hi : Int) (h0 : 0 < xs.length) (h : xs.all (fun x => decide (lo ≤ x) && decide (x ≤ hi)) = true) : lo ≤ numF bs p xs ∧ numF bs p xs ≤ hi := by
  have h1 := pickF_bd bs p (xs.length : Int)
  rw [all_iff] at h
  have := h (pickF bs p (xs.length : Int)).toNat (by omega)
  simp only [Bool.and_eq_true, decide_eq_true_eq] at this
  exact this
theorem draw_c (bs : List UInt8) (p : Nat) (hb : bs.length ≤ 2000) (hp : p ≤ 1000) : MC Tryz.prog 86 [.optr 0 0] [(0, some (cRd bs p))] 1 (fun x : Prg × Nat => cntL x.1.body ≤ 620 ∧ x.1.types.length ≤ 620 ∧ x.2 ≤ 2000) (fun x => aPrg x.1) (fun x => [(0, some (cRd bs x.2))]) := by
  have h0 := pickF_bd bs p 25
  have hn := num_bd bs (p + 1 + 1) [5, 4, 7, 3, 8] 0 8 (by decide) (by decide)
  (refine mc_of_aw Tryz.func86 rfl (by simp [Tryz.ntmps86]) ?_; rw [Tryz.ntmps86])
  repeat' (first|(apply id_rw;first|((with_reducible apply rx_call (k := 110));(case ha => rfl);(case h => exact l1Texts_c);(case hp => (rfl));(case hN => rfl);(rintro _ ⟨ys, rfl, hyl, hsz⟩ _);(have hpk := pickF_bd bs p (ys.length : Int)))|((with_reducible apply rx_call (k := 111));(case ha => rfl);(case h => exact parseProgram_c _ (Nat.le_trans (hsz _) (by decide)));(case hp => (rfl));(case hN => rfl);(rintro _ ⟨q, b, rfl, hqc, hqt⟩ _))|((apply rx_l1Some (ts := [1, 2, 2, 3, 4, 4]));(case ha0|ha1|ha2|ha3|hH0 => rfl);(case hmc => (apply l1Some_c <;> (first|assumption|omega)));(case hM|hN => rfl))|(apply rx_move;rfl;rfl)|(first|(apply rx_load1;rfl;rfl;rfl;rfl)|(apply rx_loadA;rfl;rfl;(exact (rfl:_=[_, _]));rfl;rfl;rfl))|(apply rx_fieldAddr;rfl;rfl;rfl)|(first|(apply rx_guardY;rfl;rfl;rfl;(assumption))|(apply rx_guardNs;rfl;rfl;rfl;(assumption))|(apply rx_guardS;(case hj|hb|hN => rfl);all_goals (intro hg;have hq := hg;(try simp only [bqs] at hq);(try (exfalso;omega)))))|(apply rx_bin;rfl;rfl;rfl;rfl)|(apply rx_assign;rfl;rfl)|(first|(apply rx_pickT;rfl;(assumption);rfl;rfl)|(apply rx_pickF;rfl;(assumption);rfl;rfl))|(apply rx_indexF;(case hx|hi => rfl);(case hm => (omega));(case hml => (rfl));(case hα | hf|hg => infer_instance);(case hN => rfl))|(first|(apply rx_numO;rfl;rfl;rfl;rfl;infer_instance;rfl;(rfl);assumption;omega;(decide);(decide);rfl;rfl)|(apply rx_pick;rfl;rfl;(rfl);(apply pick_c <;> (first|assumption|omega));rfl;rfl))|(apply rx_len;rfl;rfl;rfl)|(apply rw_nil;kernel_rfl)|(apply rx_buildK;rfl;(exact (rfl:_=some [_, _]));(exact (rfl:_=[_, _]));rfl)|(apply rx_alloc;rfl;rfl)|(apply rx_extract;rfl;rfl;rfl)|((apply rx_buildSliceI (t := _));(case hze|hsm|hl => rfl);(case hfl => (exact (rfl:_=some [_, _, _, _, _, _])));(case hM|hN => rfl))|(apply rx_buildSlice;rfl;rfl;rfl;(exact (rfl:_=some [_, _, _, _, _]));rfl;rfl)|(apply rx_store;rfl;rfl;rfl;rfl;rfl;(case hl => (first|decide|(simp;done)));(exact (rfl:_=[_, _]))))|(apply id_aw;first|apply aw_seq|apply aw_region|(apply aw_draw;kernel_rfl)|(apply aw_condT;rfl;(rfl))|(apply aw_cond;rfl;all_goals intro hc;have hq:=hc;(try simp only [bqs] at hq);try exfalso;omega)|apply aw_skip|apply aw_ret)|with_reducible apply tq_normal|with_reducible apply tq_ret)
  · have h9 := hsz (pickF bs p (ys.length : Int)).toNat
    refine rq_ret rfl ?_
    exact mc_ret (q, p + 1 + 1) ⟨by dsimp only;omega, by dsimp only;omega, by dsimp only;omega⟩ rfl ⟨.inr rfl, trivial⟩
  · have h9 := someF_n bs (d := 2) (by omega) (numF bs (p + 1 + 1) [5, 4, 7, 3, 8]) (p + 1 + 1 + 1)
    have h10 := someF_p bs (d := 2) (by omega) (numF bs (p + 1 + 1) [5, 4, 7, 3, 8]) (p + 1 + 1 + 1)
    refine rq_ret rfl ?_
    exact mc_ret ((⟨[1, 2, 2, 3, 4, 4], (someF bs 2 (numF bs (p + 1 + 1) [5, 4, 7, 3, 8]) (p + 1 + 1 + 1)).1⟩ : Prg), (someF bs 2 (numF bs (p + 1 + 1) [5, 4, 7, 3, 8]) (p + 1 + 1 + 1)).2) ⟨by dsimp only;omega, by show 6 ≤ 620;decide, by dsimp only;omega⟩ rfl ⟨.inr rfl, trivial⟩
  · have h9 := hsz (pickF bs p (ys.length : Int)).toNat
    refine rq_ret rfl ?_
    exact mc_ret (q, p + 1 + 1) ⟨by dsimp only;omega, by dsimp only;omega, by dsimp only;omega⟩ rfl ⟨.inr rfl, trivial⟩
theorem rx_l17Open {bs : List UInt8} {N : Nat} {Q : Exit → AS → Prop} {all : Array Oper} {rest : List Oper} {tsl : List (Nat × AV)} {hsl : List (Nat × Option (List AV))} {nidl : Nat} {z0 : Lo} {md : Md} {d : Nat} {ty : TypeId} {pos : String} {af : Array Edge} {tys : Array TypeId} {x0 : Operand} (ha0 : ev (lk tsl) x0 = some (sl cU bs)) (hmc : MC Tryz.prog 84 [sl cU bs] [] 0 (fun _ : Unit => True) (fun _ => .optr 0 0) (fun _ => [(0, some (cRd (bs.take 2000) 0))])) (hM : Nat.ble (nidl + 1) big = true) (hN : Nat.blt d N = true) {md' : Md} [hmd : MdA md (rOs [x0] ++ []) (List.map Sum.inr (List.map Prod.fst ([(nidl, some (cRd (bs.take 2000) 0))] : List (Nat × Option (List AV)))) ++ [.inl d]) md'] (kk : RW Tryz.prog N all Q md' rest ⟨(d, .optr nidl 0) :: tsl, wrH hsl [(nidl, some (cRd (bs.take 2000) 0))], nidl + 1, z0⟩) : RW Tryz.prog N all Q md (⟨some d, .call ⟨.value (.func 84), #[x0], tys⟩, ty, pos, af, none⟩ :: rest) ⟨tsl, hsl, nidl, z0⟩ := by
  refine rx_mcallE [] 1 [(nidl, some (cRd (bs.take 2000) 0))] hmc (avs := [sl cU bs]) ?_ rfl ?_ rfl ?_ (by simpa using hM) ?_ ?_ ?_ hN (md' := md') (hmd := hmd) kk
  · show evL (lk tsl) [x0] = _
    simp only [evL, ha0]
  · exact trivial
  · (repeat' (exact RnL.purI inferInstance))
  · (repeat' (exact RnV.optr rfl))
  · simp [wsAll]
  · (repeat' (first|exact trivial|(refine And.intro ⟨0, _, rfl, rfl, ?_⟩ ?_)|exact RnL.purI inferInstance))
theorem l17Open_c (bs : List UInt8) (hb : bs.length ≤ 1048576) : MC Tryz.prog 84 [sl cU bs] [] 0 (fun _ : Unit => True) (fun _ => .optr 0 0) (fun _ => [(0, some (cRd (bs.take 2000) 0))]) := open_c bs hb
theorem tgIx_first {stk : List Tg} {id : Int} (h : 0 ≤ tgIx stk id) : ∀ k < (tgIx stk id).toNat, stk[k]!.id ≠ id := by
  unfold tgIx at h ⊢
  split
  · rename_i k hk
    obtain ⟨h1, h2, h3⟩ := List.findIdx?_eq_some_iff_getElem.1 hk
    rw [Int.toNat_natCast]
    intro j hj he
    have := h3 j hj
    rw [getB _ _ (by omega)] at he
    simp [he] at this
  · rename_i hk;rw [hk] at h;dsimp only at h;omega
theorem tgIx_eq {stk : List Tg} {id : Int} {i : Nat} (hi : i < stk.length) (h : stk[i]!.id = id) (hn : ∀ k < i, stk[k]!.id ≠ id) : tgIx stk id = (i : Int) := by
  have hb := tgIx_bd stk id
  by_cases hneg : tgIx stk id < 0
  · have := tgIx_none.1 hneg stk[i]! (by rw [getB _ _ hi]; exact List.getElem_mem hi)
    exact absurd h this
  · have ha := tgIx_at (stk := stk) (id := id) (by omega)
    have hf := tgIx_first (stk := stk) (id := id) (by omega)
    rcases Nat.lt_trichotomy (tgIx stk id).toNat i with h1|h1|h1
    · exact absurd ha (hn _ h1)
    · omega
    · exact absurd h (hf _ h1)
theorem l6Tag_c (stk : List Tg) (id : Int) (hl : stk.length ≤ 1000000) : PC Tryz.prog 176 [sl cTg stk, iv id] (fun r => r = iv (tgIx stk id)) := by
  (refine pc_of_aw Tryz.func176 rfl (by simp [Tryz.ntmps176]) ?_; rw [Tryz.ntmps176])
  repeat' (first|(apply id_rw;first|(apply rx_assign;rfl;rfl)|(apply rw_nil;kernel_rfl))|(apply id_aw;first|apply aw_seq|apply aw_region|apply aw_block)|with_reducible apply tq_normal)
  refine aw_loopK (σ := Nat) [0, 1] [(0, _), (1, _)] [] [] (fun i => [(5, iv (i : Int))]) (fun i => []) (fun i => i ≤ stk.length ∧ (∀ k < i, stk[k]!.id ≠ id)) (fun i => stk.length - i) (0) ⟨Nat.zero_le _, fun k hk => absurd hk (by omega)⟩ rfl rfl (by repeat' (first|exact trivial|refine And.intro rfl ?_)) (by repeat' (exact trivial)) ?_
  rintro i ⟨hi, hn⟩
  try dsimp only at hi hn
  repeat' (first|(apply id_rw;first|(apply rx_move;rfl;rfl)|(apply rx_load1;rfl;rfl;rfl;rfl)|(apply rx_fieldAddr;rfl;rfl;rfl)|(first|(apply rx_add;rfl;rfl;omega;rfl)|(apply rx_bin;rfl;rfl;rfl;rfl))|(apply rx_assign;rfl;rfl)|(apply rx_indexFN;(case hx|hi => rfl);(case hm => (omega));(case hml => (rfl));(case hα | hf|hg => infer_instance);(case hN => rfl))|(apply rx_len;rfl;rfl;rfl)|(apply rw_nil;kernel_rfl))|(apply id_aw;first|apply aw_seq|apply aw_region|(apply aw_cond;rfl;all_goals intro hc;have hq:=hc;(try simp only [bqs] at hq);try exfalso;omega)|apply aw_block|apply aw_skip|apply aw_exit|apply aw_ret)|with_reducible apply tq_normal|with_reducible apply tq_ret|with_reducible apply tq_exit|with_reducible apply bq_normal|with_reducible apply bq_ret|with_reducible apply bq_here)
  · refine rq_ret rfl ⟨?_, rfl⟩
    simp only [oneOf]; rw [tgIx_eq (i := i) (by omega) (by assumption) hn]
  · (apply ex3 (i + 1); focus (refine Le.ren [] rfl (by decide) ?_ ?_ <;> repeat' (first | exact trivial | refine And.intro ⟨_, rfl, ?_⟩ ?_ | refine Or.inl ⟨?_, (by first | rfl | exact pur_sl _ _)⟩ | rfl)))
    · refine ⟨by omega, fun k hk => ?_⟩
      rcases Nat.lt_or_ge k i with h|h
      · exact hn k h
      · rw [show k = i by omega]; assumption
    · show stk.length - (i + 1) < stk.length - i;omega
  · refine rq_ret rfl ⟨?_, rfl⟩
    have := tgIx_none (stk := stk) (id := id)
    have hb := tgIx_bd stk id
    have : tgIx stk id < 0 := this.2 (fun t ht => by obtain ⟨k, hk, rfl⟩ := List.getElem_of_mem ht;have := hn k (by omega);rwa [getB _ _ hk] at this)
    simp only [oneOf]; rw [show tgIx stk id = -1 by omega]
theorem OkC_iff (c : Cl) : OkC c ↔ (0 ≤ c.val ∧ c.val ≤ 9) ∧ (1 ≤ c.next ∧ c.next ≤ 1000) ∧ (1 ≤ c.stk.length ∧ c.stk.length ≤ 200) ∧ c.stk[0]!.uq = true ∧ (∀ k < c.stk.length, 0 ≤ c.stk[k]!.id ∧ c.stk[k]!.id < c.next ∧ tgIx c.stk c.stk[k]!.id = (k : Int)) := by
  constructor
  · intro h
    refine ⟨h.v, h.n, h.l, h.u, fun k hk => ?_⟩
    have h1 := h.i c.stk[k]! (by rw [getB _ _ hk]; exact List.getElem_mem hk)
    refine ⟨h1.1, h1.2, tgIx_eq hk rfl (fun j hj he => ?_)⟩
    have hd := List.nodup_iff_pairwise_ne.1 h.d |> List.pairwise_iff_getElem.1
    have := hd j k (by rw [List.length_map]; omega) (by rw [List.length_map]; omega) hj
    simp only [List.getElem_map] at this
    rw [getB _ _ (by omega), getB _ _ hk] at he
    exact this he
  · rintro ⟨h1, h2, h3, h4, h5⟩
    refine ⟨h1, h2, h3, h4, fun t ht => ?_, ?_⟩
    · obtain ⟨k, hk, rfl⟩ := List.getElem_of_mem ht
      have := h5 k hk;rw [getB _ _ hk] at this
      exact ⟨this.1, this.2.1⟩
    · rw [List.nodup_iff_pairwise_ne, List.pairwise_iff_getElem]
      intro i j hi hj hij he
      rw [List.length_map] at hi hj
      simp only [List.getElem_map] at he
      have a := (h5 i hi).2.2
      have b := (h5 j hj).2.2
      rw [getB _ _ hi] at a;rw [getB _ _ hj, ← he, a] at b
      omega
instance (c : Cl) : Decidable (OkC c) := decidable_of_iff _ (OkC_iff c).symm
theorem OkM_iff (m : List Cl) : OkM m ↔ m.length ≤ 200 ∧ ∀ k < m.length, OkC m[k]! := by
  constructor
  · exact fun h => ⟨h.l, fun k hk => h.c _ (by rw [getB _ _ hk]; exact List.getElem_mem hk)⟩
  · exact fun h => ⟨h.1, fun c hc => by obtain ⟨k, hk, rfl⟩ := List.getElem_of_mem hc;have := h.2 k hk;rwa [getB _ _ hk] at this⟩
instance (m : List Cl) : Decidable (OkM m) := decidable_of_iff _ (OkM_iff m).symm
theorem l6Cell_c (c : Cl) : PC Tryz.prog 139 [aCl c] (fun r => r = bv (decide (OkC c))) := by
  (refine pc_of_aw Tryz.func139 rfl (by simp [Tryz.ntmps139]) ?_; rw [Tryz.ntmps139])
  repeat' (first|(apply id_rw;first|(apply rx_move;rfl;rfl)|(apply rx_load1;rfl;rfl;rfl;rfl)|(apply rx_fieldAddr;rfl;rfl;rfl)|(first|(apply rx_guardY;rfl;rfl;rfl;(assumption))|(apply rx_guardNs;rfl;rfl;rfl;(first|rfl|assumption))|(apply rx_guardS;(case hj|hb|hN => rfl);all_goals (intro hg;have hq := hg;(try simp only [bqs] at hq);(try (exfalso;omega)))))|(apply rx_bin;rfl;rfl;rfl;rfl)|(apply rx_assign;rfl;rfl)|(first|(apply rx_pickT;rfl;(first|rfl|assumption);rfl;rfl)|(apply rx_pickF;rfl;(assumption);rfl;rfl))|(apply rx_indexF;(case hx|hi => rfl);(case hm => (omega));(case hml => (rfl));(case hα | hf|hg => infer_instance);(case hN => rfl))|(apply rx_len;rfl;rfl;rfl)|(apply rw_nil;kernel_rfl)|(apply rx_not;rfl;rfl)|(apply rx_box;rfl;rfl;rfl;rfl))|(apply id_aw;first|apply aw_seq|apply aw_region|(apply aw_condT;rfl;(rfl))|(apply aw_cond;rfl;all_goals intro hc;have hq:=hc;(try simp only [bqs] at hq);try exfalso;omega)|apply aw_block|apply aw_skip|apply aw_ret)|with_reducible apply tq_normal|with_reducible apply tq_ret)
  all_goals try (refine rq_ret rfl ⟨?_, rfl⟩; simp only [oneOf]; rw [show decide (OkC c) = false from decide_eq_false (fun h => by
    obtain ⟨h1, h2, h3, h4, h5⟩ := (OkC_iff c).1 h
    first|omega|exact absurd (by assumption : c.stk[Int.toNat 0]!.uq = false) (by rw [show Int.toNat 0 = 0 from rfl, h4]; decide))]; done)
  have hu : c.stk[0]!.uq = true := by assumption
  refine aw_loopK (σ := Nat) [1] [(1, _)] [0] [(0, some _)] (fun i => [(3, iv (i : Int))]) (fun i => []) (fun i => i ≤ c.stk.length ∧ (∀ k < i, 0 ≤ c.stk[k]!.id ∧ c.stk[k]!.id < c.next ∧ tgIx c.stk c.stk[k]!.id = (k : Int))) (fun i => c.stk.length - i) (0) ⟨Nat.zero_le _, fun k hk => absurd hk (by omega)⟩ rfl rfl (by repeat' (first|exact trivial|refine And.intro rfl ?_)) (by repeat' (exact trivial)) ?_
  rintro i ⟨hi, hn⟩
  try dsimp only at hi hn
  repeat' (first|(apply id_rw;first|((with_reducible apply rx_callE (k := 176));(case ha => rfl);(case h => exact l6Tag_c c.stk c.stk[i]!.id (by omega));(case hp => (exact Pur.pf));(case hN => rfl))|(apply rx_move;rfl;rfl)|(apply rx_load1;rfl;rfl;rfl;rfl)|(apply rx_fieldAddr;rfl;rfl;rfl)|(first|(apply rx_guardY;rfl;rfl;rfl;(assumption))|(apply rx_guardNs;rfl;rfl;rfl;(first|rfl|assumption))|(apply rx_guardS;(case hj|hb|hN => rfl);all_goals (intro hg;have hq := hg;(try simp only [bqs] at hq);(try (exfalso;omega)))))|(first|(apply rx_add;rfl;rfl;omega;rfl)|(apply rx_bin;rfl;rfl;rfl;rfl))|(apply rx_assign;rfl;rfl)|(first|(apply rx_pickT;rfl;(first|rfl|assumption);rfl;rfl)|(apply rx_pickF;rfl;(assumption);rfl;rfl))|(apply rx_indexFN;(case hx|hi => rfl);(case hm => (omega));(case hml => (rfl));(case hα | hf|hg => infer_instance);(case hN => rfl))|(apply rx_len;rfl;rfl;rfl)|(apply rw_nil;kernel_rfl))|(apply id_aw;first|apply aw_seq|apply aw_region|(apply aw_draw;kernel_rfl)|(apply aw_condT;rfl;(rfl))|(apply aw_cond;rfl;all_goals intro hc;have hq:=hc;(try simp only [bqs] at hq);try exfalso;omega)|apply aw_block|apply aw_skip|apply aw_exit|apply aw_ret)|with_reducible apply tq_normal|with_reducible apply tq_ret|with_reducible apply tq_exit|with_reducible apply bq_normal|with_reducible apply bq_ret|with_reducible apply bq_here)
  all_goals try (refine rq_ret rfl ⟨?_, rfl⟩; simp only [oneOf]; rw [show decide (OkC c) = false from decide_eq_false (fun h => by
    obtain ⟨h1, h2, h3, h4, h5⟩ := (OkC_iff c).1 h
    exact absurd (h5 i (by omega)) (by omega))]; done)
  · (apply ex3 (i + 1); focus (refine Le.ren [(0, 0)] rfl (by decide) ?_ ?_ <;> repeat' (first | exact trivial | refine And.intro ⟨_, rfl, ?_⟩ ?_ | refine And.intro ⟨_, _, rfl, rfl, ?_⟩ ?_ | exact Or.inr rfl | refine Or.inl ⟨?_, (by first | rfl | exact Pur.pf)⟩ | rfl)))
    · refine ⟨by omega, fun k hk => ?_⟩
      rcases Nat.lt_or_ge k i with h|h
      · exact hn k h
      · rw [show k = i by omega]; exact ⟨by assumption, by assumption, by assumption⟩
    · show c.stk.length - (i + 1) < c.stk.length - i;omega
  · refine rq_ret rfl ⟨?_, rfl⟩
    simp only [oneOf]
    rw [show decide (OkC c) = true from decide_eq_true ((OkC_iff c).2 ⟨by omega, by omega, by omega, hu, fun k hk => hn k (by omega)⟩)]
theorem CellsValidS_c (m : List Cl) (hl : m.length ≤ 1000000) : PC Tryz.prog 99 [sl cCl m] (fun r => r = bv (decide (OkM m))) := by
  (refine pc_of_aw Tryz.func99 rfl (by simp [Tryz.ntmps99]) ?_; rw [Tryz.ntmps99])
  repeat' (first|(apply id_rw;first|(apply rx_assign;rfl;rfl)|(apply rw_nil;kernel_rfl))|(apply id_aw;first|apply aw_seq|apply aw_region|apply aw_block)|with_reducible apply tq_normal)
  refine aw_loopK (σ := Nat) [0] [(0, _)] [] [] (fun i => [(3, iv (i : Int))]) (fun i => []) (fun i => i ≤ m.length ∧ i ≤ 201 ∧ (∀ k < i, OkC m[k]!)) (fun i => m.length - i) (0) ⟨Nat.zero_le _, by omega, fun k hk => absurd hk (by omega)⟩ rfl rfl (by repeat' (first|exact trivial|refine And.intro rfl ?_)) (by repeat' (exact trivial)) ?_
  rintro i ⟨hi, hi2, hn⟩
  try dsimp only at hi hi2 hn
  repeat' (first|(apply id_rw;first|((with_reducible apply rx_callE (k := 139));(case ha => rfl);(case h => exact l6Cell_c m[i]!);(case hp => (exact Pur.pf));(case hN => rfl))|(apply rx_move;rfl;rfl)|(apply rx_loadA;rfl;rfl;(exact (rfl:_=[_, _, _, _]));rfl;rfl;rfl)|(first|(apply rx_guardY;rfl;rfl;rfl;(assumption))|(apply rx_guardNs;rfl;rfl;rfl;(assumption))|(apply rx_guardS;(case hj|hb|hN => rfl);all_goals (intro hg;have hq := hg;(try simp only [bqs] at hq);(try (exfalso;omega)))))|(first|(apply rx_add;rfl;rfl;omega;rfl)|(apply rx_bin;rfl;rfl;rfl;rfl))|(apply rx_assign;rfl;rfl)|(first|(apply rx_pickT;rfl;(assumption);rfl;rfl)|(apply rx_pickF;rfl;(assumption);rfl;rfl))|(apply rx_indexFN;(case hx|hi => rfl);(case hm => (omega));(case hml => (rfl));(case hα | hf|hg => infer_instance);(case hN => rfl))|(apply rx_len;rfl;rfl;rfl)|(apply rw_nil;kernel_rfl)|(apply rx_not;rfl;rfl))|(apply id_aw;first|apply aw_seq|apply aw_region|(apply aw_condF;rfl;(rfl))|(apply aw_cond;rfl;all_goals intro hc;have hq:=hc;(try simp only [bqs] at hq);try exfalso;omega)|apply aw_block|apply aw_skip|apply aw_exit|apply aw_ret)|with_reducible apply tq_normal|with_reducible apply tq_ret|with_reducible apply tq_exit|with_reducible apply bq_normal|with_reducible apply bq_ret|with_reducible apply bq_here)
  · refine rq_ret rfl ⟨?_, rfl⟩
    simp only [oneOf]; rw [show decide (OkM m) = false from decide_eq_false (fun h => by
      have h1 := ((OkM_iff m).1 h).2 i (by omega)
      have h2 : ¬ OkC m[i]! := by assumption
      exact h2 h1)]
  · (apply ex3 (i + 1); focus (refine Le.ren [] rfl (by decide) ?_ ?_ <;> repeat' (first | exact trivial | refine And.intro ⟨_, rfl, ?_⟩ ?_ | refine Or.inl ⟨?_, (by first | rfl | exact pur_sl _ _)⟩ | rfl)))
    · refine ⟨by omega, by omega, fun k hk => ?_⟩
      rcases Nat.lt_or_ge k i with h|h
      · exact hn k h
      · rw [show k = i by omega]; assumption
    · show m.length - (i + 1) < m.length - i;omega
  · refine rq_ret rfl ⟨?_, rfl⟩
    simp only [oneOf]
    rw [show decide ((m.length : Int) ≤ 200) = false from decide_eq_false (by omega), show decide (OkM m) = false from decide_eq_false (fun h => by have := h.l;omega)]
  · refine rq_ret rfl ⟨?_, rfl⟩
    simp only [oneOf]
    rw [show decide ((m.length : Int) ≤ 200) = decide (OkM m) from decide_eq_decide.2 ⟨fun h => (OkM_iff m).2 ⟨by omega, fun k hk => hn k (by omega)⟩, fun h => by have := h.l;omega⟩]
theorem l7Code_c (k : Int) : PC Tryz.prog 128 [iv k] (fun r => r = iv (if k = 1 then 3 else if k = 0 then 0 else 4)) := by
  (refine pc_of_aw Tryz.func128 rfl (by simp [Tryz.ntmps128]) ?_; rw [Tryz.ntmps128])
  repeat' (first|(apply id_rw;first|(apply rx_move;rfl;rfl)|(apply rx_bin;rfl;rfl;rfl;rfl)|(apply rx_assign;rfl;rfl)|(apply rw_nil;kernel_rfl))|(apply id_aw;first|apply aw_seq|apply aw_region|(apply aw_cond;rfl;all_goals intro hc;have hq:=hc;(try simp only [bqs] at hq);try exfalso;omega)|apply aw_block|apply aw_skip|apply aw_ret)|with_reducible apply tq_normal|with_reducible apply tq_ret|with_reducible apply bq_normal|with_reducible apply bq_ret|((with_reducible apply rq_ret);case hr => rfl))
  all_goals (refine ⟨?_, rfl⟩; simp only [oneOf, AV.v.injEq, Value.bool.injEq, Value.int.injEq, true_and])
  all_goals grind
theorem endOf_c (k : Int) : PC Tryz.prog 117 [iv k] (fun r => r = iv (endK k)) := by
  (refine pc_of_aw Tryz.func117 rfl (by simp [Tryz.ntmps117]) ?_; rw [Tryz.ntmps117])
  repeat' (first|(apply id_rw;first|(apply rx_move;rfl;rfl)|(apply rx_bin;rfl;rfl;rfl;rfl)|(apply rx_assign;rfl;rfl)|(apply rw_nil;kernel_rfl))|(apply id_aw;first|apply aw_seq|apply aw_region|(apply aw_cond;rfl;all_goals intro hc;have hq:=hc;(try simp only [bqs] at hq);try exfalso;omega)|apply aw_skip|apply aw_ret)|with_reducible apply tq_normal|with_reducible apply tq_ret|((with_reducible apply rq_ret);case hr => rfl))
  all_goals (refine ⟨?_, rfl⟩; simp only [oneOf, AV.v.injEq, Value.bool.injEq, Value.int.injEq, true_and])
  all_goals grind [endK]
theorem app_tg {xs : List Tg} {m : Nat} {a : Int} {b : Bool} (hm : m = xs.length) : ((flat cTg xs).drop 0).take (m * 2) ++ [iv a, bv b] = flat cTg (xs ++ [⟨a, b⟩]) := app_flat hm rfl
theorem app_cl {xs : List Cl} {m : Nat} {a c : Int} {b : Bool} {s : List Tg} (hm : m = xs.length) : ((flat cCl xs).drop 0).take (m * 4) ++ [iv a, bv b, iv c, sl cTg s] = flat cCl (xs ++ [⟨a, b, c, s⟩]) := app_flat hm rfl
theorem take_succ_d {α : Type} [Inhabited α] (l : List α) {k i : Nat} (h : k ≤ i) (hi : i < l.length) : (l.drop k).take (i + 1 - k) = (l.drop k).take (i - k) ++ [l[i]!] := by
  have hl : i - k < (l.drop k).length := by rw [List.length_drop]; omega
  have h1 := take_succB (l.drop k) (i - k) hl
  rw [show i + 1 - k = i - k + 1 by omega, h1]
  congr 2
  rw [getB (l.drop k) (i - k) hl, List.getElem_drop, getB l i hi]
  congr 1;omega
theorem filter1_t {α} {p : α → Bool} {a : α} (h : p a = true) : [a].filter p = [a] := by simp [h]
theorem filter1_f {α} {p : α → Bool} {a : α} (h : p a = false) : [a].filter p = [] := by simp [h]
theorem l6Read_c (stk : List Tg) (k : Nat) (hk : k < stk.length) (hl : stk.length ≤ 1000000) : PC Tryz.prog 172 [sl cTg stk, iv (k : Int)] (fun r => r = sl cTg (tchS stk k false)) := by
  have e1 : List.take (((k : Int) + 1).toNat - 0) (List.drop 0 stk) = stk.take (k + 1) := by rw [List.drop_zero]; congr 1
  have e2 : (stk.take (k + 1)).length = k + 1 := by rw [List.length_take]; omega
  (refine pc_of_aw Tryz.func172 rfl (by simp [Tryz.ntmps172]) ?_; rw [Tryz.ntmps172])
  repeat' (first|(apply id_rw;first|(with_reducible apply rw_stop (d := 12))|(apply rx_move;rfl;rfl)|(apply rx_add;rfl;rfl;omega;rfl)|(apply rx_assign;rfl;rfl)|(apply rw_nil;kernel_rfl)|(apply rx_sliceF;rfl;infer_instance;rfl;rfl;(omega);rfl)|(apply rx_buildSlice;rfl;rfl;rfl;(rfl);rfl;rfl))|(apply id_aw;first|apply aw_seq|apply aw_region)|with_reducible apply tq_normal)
  refine rw_go ?_
  rw [e1]
  repeat' (first|(apply id_rw;first|(apply rx_move;rfl;rfl)|(apply rx_add;rfl;rfl;omega;rfl)|(apply rx_assign;rfl;rfl)|(apply rx_append;rfl;rfl;rfl;rfl;rfl;(case hl => (simp [flat_length]; done));(exact sC_imm (by (rfl)));omega;omega;(exact app_nilF (by (omega)));rfl;rfl)|(apply rw_nil;kernel_rfl))|(apply id_aw;first|apply aw_seq|apply aw_region|apply aw_block)|with_reducible apply tq_normal)
  refine aw_loopK (σ := Nat × List Tg × Nat) [0] [(0, _)] [] [] (fun s => [(6, iv (s.1 : Int)), (5, .own 1 0 s.2.2 2)]) (fun s => [(1, some (flat cTg s.2.1))]) (fun s => k + 1 ≤ s.1 ∧ s.1 ≤ stk.length ∧ s.2.1 = stk.take (k + 1) ++ ((stk.drop (k + 1)).take (s.1 - (k + 1))).filter (fun t => !t.uq) ∧ s.2.2 = s.2.1.length ∧ s.2.2 ≤ s.1) (fun s => stk.length - s.1) (k + 1, stk.take (k + 1), 0 + (stk.take (k + 1)).length) ⟨Nat.le_refl _, by dsimp only;omega, by simp, by dsimp only;omega, by dsimp only;omega⟩ rfl rfl (by repeat' (first|exact trivial|refine And.intro rfl ?_)) (by repeat' (first|exact trivial|refine And.intro (.inr rfl) ?_)) ?_
  rintro ⟨i, xs, n⟩ ⟨hki, hi, hxs, hn, hni⟩
  dsimp only at hki hi hxs hn hni ⊢
  repeat' (first|(apply id_rw;first|(apply rx_move;rfl;rfl)|(first|(apply rx_load1;rfl;rfl;rfl;rfl)|(apply rx_loadA;rfl;rfl;(exact (rfl:_=[_, _]));rfl;rfl;rfl))|(apply rx_fieldAddr;rfl;rfl;rfl)|(first|(apply rx_add;rfl;rfl;omega;rfl)|(apply rx_bin;rfl;rfl;rfl;rfl))|(apply rx_assign;rfl;rfl)|(apply rx_indexFN;(case hx|hi => rfl);(case hm => (omega));(case hml => (rfl));(case hα | hf|hg => infer_instance);(case hN => rfl))|(first|(apply rx_len;rfl;rfl;rfl)|(apply rx_append;rfl;rfl;rfl;rfl;rfl;(rw [flat_length]; omega);(rfl);omega;omega;(exact app_tg (by (assumption)));rfl;rfl))|(apply rw_nil;kernel_rfl)|(apply rx_not;rfl;rfl)|((apply rx_buildSliceI (t := _));(case hze|hsm|hl => rfl);(case hfl => (exact (rfl:_=some [_, _])));(case hM|hN => rfl)))|(apply id_aw;first|apply aw_seq|apply aw_region|(apply aw_cond;rfl;all_goals intro hc;have hq:=hc;(try simp only [bqs] at hq);try exfalso;omega)|apply aw_block|apply aw_skip|apply aw_exit|apply aw_ret)|with_reducible apply tq_normal|with_reducible apply tq_exit|with_reducible apply bq_normal|with_reducible apply bq_here)
  · (apply ex3 (i + 1, _, _); focus (refine Le.ren [(1, 3)] rfl (by decide) ?_ ?_ <;> repeat' (first | exact trivial | refine And.intro ⟨_, rfl, ?_⟩ ?_ | refine And.intro ⟨_, _, rfl, rfl, ?_⟩ ?_ | exact Or.inr rfl | refine Or.inl ⟨?_, (by first | rfl | exact pur_sl _ _)⟩ | rfl)))
    · refine ⟨by dsimp only; omega, by dsimp only; omega, ?_, by dsimp only; rw [List.length_append, hn]; rfl, by dsimp only; omega⟩
      dsimp only
      rw [hxs, take_succ_d stk hki (by omega), List.filter_append, List.append_assoc]
      congr 2
      have hu : stk[i]!.uq = false := by assumption
      rw [filter1_t (by rw [hu]; rfl)]
    · dsimp only;omega
  · (apply ex3 (i + 1, xs, n); focus (refine Le.ren [(1, 1)] rfl (by decide) ?_ ?_ <;> repeat' (first | exact trivial | refine And.intro ⟨_, rfl, ?_⟩ ?_ | refine And.intro ⟨_, _, rfl, rfl, ?_⟩ ?_ | exact Or.inr rfl | refine Or.inl ⟨?_, (by first | rfl | exact pur_sl _ _)⟩ | rfl)))
    · refine ⟨by dsimp only; omega, by dsimp only; omega, ?_, hn, by dsimp only; omega⟩
      dsimp only
      have hu : stk[i]!.uq = true := by assumption
      rw [hxs, take_succ_d stk hki (by omega), List.filter_append, filter1_f (by rw [hu]; rfl), List.append_nil]
    · dsimp only;omega
  · (refine rq_le (Le.frzD (d := 4) (i := 1) rfl rfl) ?_; refine rq_ret rfl ?_)
    refine ⟨?_, (by (exact pur_sl _ _))⟩
    have hie : i = stk.length := by omega
    simp only [oneOf, sl]
    have hd : (stk.drop (k + 1)).take (stk.length - (k + 1)) = stk.drop (k + 1) := List.take_of_length_le (by rw [List.length_drop]; exact Nat.le_refl _)
    rw [hn, hxs, hie, hd]
    rfl
theorem l6Copy_c (m : List Cl) (hm : OkM m) : PC Tryz.prog 64 [sl cCl m] (fun r => r = sl cCl m) := by
  have hml := hm.l
  (refine pc_of_aw Tryz.func64 rfl (by simp [Tryz.ntmps64]) ?_; rw [Tryz.ntmps64])
  repeat' (first|(apply id_rw;first|(apply rx_assign;rfl;rfl)|(apply rw_nil;kernel_rfl)|(apply rx_buildSlice;rfl;rfl;rfl;(rfl);rfl;rfl))|(apply id_aw;first|apply aw_seq|apply aw_region|apply aw_block)|with_reducible apply tq_normal)
  refine aw_loopK (σ := Nat × List Cl) [0] [(0, _)] [] [] (fun k => [(4, iv (k.1 : Int)), (3, .own 0 0 k.1 4)]) (fun k => [(0, some (flat cCl k.2))]) (fun k => k.1 ≤ m.length ∧ k.2 = m.take k.1) (fun k => m.length - k.1) (0, []) ⟨by omega, rfl⟩ rfl rfl (by repeat' (first|exact trivial|refine And.intro rfl ?_)) (by repeat' (first|exact trivial|refine And.intro (.inr rfl) ?_)) ?_
  rintro ⟨i, xs⟩ ⟨hi, hxs⟩
  dsimp only at hi hxs ⊢
  have hln : xs.length = i := by rw [hxs, List.length_take]; exact Nat.min_eq_left hi
  have hst : i < m.length → m[i]!.stk.length ≤ 200 := fun h => (((OkM_iff m).1 hm).2 i h).l.2
  repeat' (first|(apply id_rw;first|(with_reducible apply rw_stop (d := 21))|(apply rx_move;rfl;rfl)|(first|(apply rx_load1;rfl;rfl;rfl;rfl)|(apply rx_loadA;rfl;rfl;(exact (rfl:_=[_, _, _, _]));rfl;rfl;rfl))|(apply rx_fieldAddr;rfl;rfl;rfl)|(apply rx_bin;rfl;rfl;rfl;rfl)|(apply rx_assign;rfl;rfl)|(apply rx_indexFN;(case hx|hi => rfl);(case hm => (omega));(case hml => (rfl));(case hα | hf|hg => infer_instance);(case hN => rfl))|(first|(apply rx_len;rfl;rfl;rfl)|(apply rx_append;rfl;rfl;rfl;rfl;rfl;(case hl => (simp [flat_length]; done));(exact sC_imm (by (rfl)));omega;omega;(exact app_nilF (by (omega)));rfl;rfl))|(apply rw_nil;kernel_rfl)|(apply rx_alloc;rfl;rfl)|(apply rx_buildSlice;rfl;rfl;rfl;(rfl);rfl;rfl)|(apply rx_store;rfl;rfl;rfl;rfl;rfl;(case hl => (simp;done));(exact (rfl:_=[_, _, _, _]))))|(apply id_aw;first|apply aw_seq|apply aw_region|(apply aw_cond;rfl;all_goals intro hc;have hq:=hc;(try simp only [bqs] at hq);try exfalso;omega)|apply aw_block|apply aw_skip|apply aw_exit|apply aw_ret)|with_reducible apply tq_normal|with_reducible apply tq_exit|with_reducible apply bq_here)
  · refine rw_go (rw_le ?_ (Le.frzD (d := 20) (i := 3) rfl rfl))
    rw [Nat.zero_add m[i]!.stk.length]
    repeat' (first|(apply id_rw;first|(apply rx_move;rfl;rfl)|(apply rx_loadA;rfl;rfl;(exact (rfl:_=[_, _, _, _]));rfl;rfl;rfl)|(apply rx_fieldAddr;rfl;rfl;rfl)|(apply rx_add;rfl;rfl;omega;rfl)|(apply rx_assign;rfl;rfl)|(apply rx_append;rfl;rfl;rfl;rfl;rfl;(rw [flat_length]; omega);(rfl);omega;omega;(exact app_cl (by (omega)));rfl;rfl)|(apply rw_nil;kernel_rfl)|((apply rx_buildSliceI (t := _));(case hze|hsm|hl => rfl);(case hfl => (exact (rfl:_=some [_, _, _, _])));(case hM|hN => rfl))|(apply rx_store;rfl;rfl;rfl;rfl;rfl;(case hl => (simp;done));(exact (rfl:_=[_, _, _, _]))))|(apply id_aw;(apply aw_region))|with_reducible apply tq_normal|with_reducible apply bq_normal)
    (apply ex3 (i + 1, _);focus (refine Le.ren [(0, 5)] rfl (by decide) ?_ ?_ <;> repeat' (first|exact trivial|refine And.intro ⟨_, rfl, ?_⟩ ?_|refine And.intro ⟨_, _, rfl, rfl, ?_⟩ ?_|exact Or.inr rfl|refine Or.inl ⟨?_, (by first|rfl|exact pur_sl _ _)⟩|rfl)))
    · exact ⟨by dsimp only;omega, by dsimp only;rw [hxs, take_succB m i (by omega)]⟩
    · dsimp only;omega
  · (refine rq_le (Le.frzD (d := 2) (i := 0) rfl rfl) ?_; refine rq_ret rfl ?_)
    refine ⟨?_, (by (exact pur_sl _ _))⟩
    have hie : i = m.length := by omega
    simp only [oneOf, sl]
    rw [hxs, hie, List.take_length]
theorem AliveCellsS_c (m : List Cl) (hm : OkM m) : PC Tryz.prog 63 [sl cCl m] (fun r => r = sl cI (((List.range m.length).filter (fun k => m[k]!.alive)).map (fun k : Nat => (k : Int)))) := by
  have hml := hm.l
  have hcv := CellsValidS_c m (by omega)
  rw [decide_eq_true hm] at hcv
  (refine pc_of_aw Tryz.func63 rfl (by simp [Tryz.ntmps63]) ?_; rw [Tryz.ntmps63])
  repeat' (first|(apply id_rw;first|(apply rx_assign;rfl;rfl)|(apply rw_nil;kernel_rfl)|(apply rx_buildSlice;rfl;rfl;rfl;(rfl);rfl;rfl))|(apply id_aw;first|apply aw_seq|apply aw_region|apply aw_block)|with_reducible apply tq_normal)
  refine aw_loopK (σ := Nat × List Int × Nat) [0] [(0, _)] [] [] (fun k => [(4, iv (k.1 : Int)), (3, .own 0 0 k.2.2 1)]) (fun k => [(0, some (flat cI k.2.1))]) (fun k => k.1 ≤ m.length ∧ k.2.1 = ((List.range k.1).filter (fun k => m[k]!.alive)).map (fun v : Nat => (v : Int)) ∧ k.2.2 = k.2.1.length ∧ k.2.2 ≤ k.1) (fun k => m.length - k.1) (0, [], 0) ⟨by omega, rfl, rfl, Nat.le_refl _⟩ rfl rfl (by repeat' (first|exact trivial|refine And.intro rfl ?_)) (by repeat' (first|exact trivial|refine And.intro (.inr rfl) ?_)) ?_
  rintro ⟨i, xs, n⟩ ⟨hi, hxs, hn, hni⟩
  dsimp only at hi hxs hn hni ⊢
  repeat' (first|(apply id_rw;first|((with_reducible apply rx_callE (k := 99));(case ha => rfl);(case h => exact hcv);(case hp => (exact Pur.pf));(case hN => rfl))|(apply rx_move;rfl;rfl)|(apply rx_load1;rfl;rfl;rfl;rfl)|(apply rx_fieldAddr;rfl;rfl;rfl)|(first|(apply rx_guardY;rfl;rfl;rfl;(assumption))|(apply rx_guardNs;rfl;rfl;rfl;(assumption))|(apply rx_guardS;(case hj|hb|hN => rfl);all_goals (intro hg;have hq := hg;(try simp only [bqs] at hq);(try (exfalso;omega)))))|(first|(apply rx_add;rfl;rfl;omega;rfl)|(apply rx_bin;rfl;rfl;rfl;rfl))|(apply rx_assign;rfl;rfl)|(first|(apply rx_pickT;rfl;(assumption);rfl;rfl)|(apply rx_pickF;rfl;(assumption);rfl;rfl))|(apply rx_indexFN;(case hx|hi => rfl);(case hm => (omega));(case hml => (rfl));(case hα | hf|hg => infer_instance);(case hN => rfl))|(first|(apply rx_len;rfl;rfl;rfl)|(apply rx_append;rfl;rfl;rfl;rfl;rfl;(rw [flat_length]; omega);(rfl);omega;omega;(exact app_int (by (assumption)));rfl;rfl))|(apply rw_nil;kernel_rfl)|((apply rx_buildSliceI (t := _));(case hze|hsm|hl => rfl);(case hfl => exact (rfl:_=some [_]));(case hM|hN => rfl)))|(apply id_aw;first|apply aw_seq|apply aw_region|(apply aw_condT;rfl;(rfl))|(apply aw_condF;rfl;(rfl))|(apply aw_cond;rfl;all_goals intro hc;have hq:=hc;(try simp only [bqs] at hq);try exfalso;omega)|apply aw_block|apply aw_skip|apply aw_exit|apply aw_ret)|with_reducible apply tq_normal|with_reducible apply tq_exit|with_reducible apply bq_normal|with_reducible apply bq_here)
  · (apply ex3 (i + 1, _, _); focus (refine Le.ren [(0, 2)] rfl (by decide) ?_ ?_ <;> repeat' (first | exact trivial | refine And.intro ⟨_, rfl, ?_⟩ ?_ | refine And.intro ⟨_, _, rfl, rfl, ?_⟩ ?_ | exact Or.inr rfl | refine Or.inl ⟨?_, (by first | rfl | exact pur_sl _ _)⟩ | rfl)))
    · refine ⟨by dsimp only; omega, ?_, by dsimp only; rw [List.length_append, hn]; rfl, by dsimp only; omega⟩
      dsimp only
      have hu : m[i]!.alive = true := by assumption
      rw [hxs, List.range_succ, List.filter_append, List.map_append, filter1_t (p := fun k => m[k]!.alive) (a := i) hu]
      rfl
    · dsimp only;omega
  · (apply ex3 (i + 1, xs, n); focus (refine Le.ren [(0, 0)] rfl (by decide) ?_ ?_ <;> repeat' (first | exact trivial | refine And.intro ⟨_, rfl, ?_⟩ ?_ | refine And.intro ⟨_, _, rfl, rfl, ?_⟩ ?_ | exact Or.inr rfl | refine Or.inl ⟨?_, (by first | rfl | exact pur_sl _ _)⟩ | rfl)))
    · refine ⟨by dsimp only; omega, ?_, hn, by dsimp only; omega⟩
      dsimp only
      have hu : m[i]!.alive = false := by assumption
      rw [hxs, List.range_succ, List.filter_append, List.map_append, filter1_f (p := fun k => m[k]!.alive) (a := i) hu]
      exact (List.append_nil _).symm
    · dsimp only;omega
  · (refine rq_le (Le.frzD (d := 2) (i := 0) rfl rfl) ?_; refine rq_ret rfl ?_)
    refine ⟨?_, (by (exact pur_sl _ _))⟩
    have hie : i = m.length := by omega
    simp only [oneOf, sl]
    rw [hn, hxs, hie]
theorem tchK_4 {m : List Cl} {x : Pt} {wr : Bool} (h : x.cell < 0 ∨ (m.length : Int) ≤ x.cell) : tchK m x wr = 4 := by
  unfold tchK;rw [if_pos (by omega)]
theorem tchK_1 {m : List Cl} {x : Pt} {wr : Bool} (h : 0 ≤ x.cell) (h2 : x.cell < m.length) (h3 : m[x.cell.toNat]!.alive = false) : tchK m x wr = 1 := by
  unfold tchK;rw [if_neg (by omega), if_pos h3]
theorem tchK_2 {m : List Cl} {x : Pt} {wr : Bool} (h : 0 ≤ x.cell) (h2 : x.cell < m.length) (h3 : m[x.cell.toNat]!.alive = true) (h4 : tgIx m[x.cell.toNat]!.stk x.tag < 0) : tchK m x wr = 2 := by
  unfold tchK;rw [if_neg (by omega), if_neg (by rw [h3]; decide), if_pos h4]
theorem tchK_0f {m : List Cl} {x : Pt} (h : 0 ≤ x.cell) (h2 : x.cell < m.length) (h3 : m[x.cell.toNat]!.alive = true) (h4 : 0 ≤ tgIx m[x.cell.toNat]!.stk x.tag) : tchK m x false = 0 := by
  unfold tchK;rw [if_neg (by omega), if_neg (by rw [h3]; decide), if_neg (by omega), if_neg (by intro q;exact absurd q.1 (by decide))]
theorem tchK_wr {m : List Cl} {x : Pt} : tchK m x true = if tchK m x false = 0 then (if m[x.cell.toNat]!.stk[(tgIx m[x.cell.toNat]!.stk x.tag).toNat]!.uq = false then 3 else 0) else tchK m x false := by
  unfold tchK
  split
  · rw [if_neg (by decide)]
  · split
    · rw [if_neg (by decide)]
    · split
      · rw [if_neg (by decide)]
      · rw [if_neg (c := false = true ∧ _) (by intro q; exact absurd q.1 (by decide)), if_pos rfl]
        simp only [true_and]
theorem tchK_in {m : List Cl} {x : Pt} {wr : Bool} (h : tchK m x wr = 0) : 0 ≤ x.cell ∧ x.cell < m.length ∧ m[x.cell.toNat]!.alive = true ∧ 0 ≤ tgIx m[x.cell.toNat]!.stk x.tag ∧ (wr = true → m[x.cell.toNat]!.stk[(tgIx m[x.cell.toNat]!.stk x.tag).toNat]!.uq = true) := by
  unfold tchK at h
  split at h
  · omega
  · split at h
    · omega
    · split at h
      · omega
      · split at h
        · omega
        · rename_i a b c d
          refine ⟨by omega, by omega, by simpa using b, by omega, fun hw => ?_⟩
          by_cases q : m[x.cell.toNat]!.stk[(tgIx m[x.cell.toNat]!.stk x.tag).toNat]!.uq = false
          · exact absurd ⟨hw, q⟩ d
          · simpa using q
theorem rx_l6CopyM {m : List Cl} {N : Nat} {Q : Exit → AS → Prop} {all : Array Oper} {rest : List Oper} {tsl : List (Nat × AV)} {hsl : List (Nat × Option (List AV))} {nidl : Nat} {z0 : Lo} {md : Md} {d : Nat} {ty : TypeId} {pos : String} {af : Array Edge} {tys : Array TypeId} {x0 : Operand} (ha0 : ev (lk tsl) x0 = some (sl cCl m)) (hmc : MC Tryz.prog 64 [sl cCl m] [] 0 (fun _ : Unit => True) (fun _ => .own 0 0 m.length 4) (fun _ => [(0, some (flat cCl m))])) (hM : Nat.ble (nidl + 1) big = true) (hN : Nat.blt d N = true) {md' : Md} [hmd : MdA md (rOs [x0] ++ []) (List.map Sum.inr (List.map Prod.fst ([(nidl, some (flat cCl m))] : List (Nat × Option (List AV)))) ++ [.inl d]) md'] (kk : RW Tryz.prog N all Q md' rest ⟨(d, .own nidl 0 m.length 4) :: tsl, wrH hsl [(nidl, some (flat cCl m))], nidl + 1, z0⟩) : RW Tryz.prog N all Q md (⟨some d, .call ⟨.value (.func 64), #[x0], tys⟩, ty, pos, af, none⟩ :: rest) ⟨tsl, hsl, nidl, z0⟩ := by
  refine rx_mcallE [] 1 [(nidl, some (flat cCl m))] hmc (avs := [sl cCl m]) ?_ rfl ?_ rfl ?_ (by simpa using hM) ?_ ?_ ?_ hN (md' := md') (hmd := hmd) kk
  · show evL (lk tsl) [x0] = _
    simp only [evL, ha0]
  · exact trivial
  · (repeat' (exact RnL.purI inferInstance))
  · (repeat' (exact RnV.own rfl))
  · simp [wsAll]
  · (repeat' (first|exact trivial|(refine And.intro ⟨0, _, rfl, rfl, ?_⟩ ?_)|exact RnL.purI inferInstance))
theorem l6CopyM_c (m : List Cl) (hm : OkM m) : MC Tryz.prog 64 [sl cCl m] [] 0 (fun _ : Unit => True) (fun _ => .own 0 0 m.length 4) (fun _ => [(0, some (flat cCl m))]) := by
  have hml := hm.l
  (refine mc_of_aw Tryz.func64 rfl (by simp [Tryz.ntmps64]) ?_; rw [Tryz.ntmps64])
  repeat' (first|(apply id_rw;first|(apply rx_assign;rfl;rfl)|(apply rw_nil;kernel_rfl)|(apply rx_buildSlice;rfl;rfl;rfl;(rfl);rfl;rfl))|(apply id_aw;first|apply aw_seq|apply aw_region|apply aw_block)|with_reducible apply tq_normal)
  refine aw_loopK (σ := Nat × List Cl) [0] [(0, _)] [] [] (fun k => [(4, iv (k.1 : Int)), (3, .own 0 0 k.1 4)]) (fun k => [(0, some (flat cCl k.2))]) (fun k => k.1 ≤ m.length ∧ k.2 = m.take k.1) (fun k => m.length - k.1) (0, []) ⟨by omega, rfl⟩ rfl rfl (by repeat' (first|exact trivial|refine And.intro rfl ?_)) (by repeat' (first|exact trivial|refine And.intro (.inr rfl) ?_)) ?_
  rintro ⟨i, xs⟩ ⟨hi, hxs⟩
  dsimp only at hi hxs ⊢
  have hln : xs.length = i := by rw [hxs, List.length_take]; exact Nat.min_eq_left hi
  have hst : i < m.length → m[i]!.stk.length ≤ 200 := fun h => (((OkM_iff m).1 hm).2 i h).l.2
  repeat' (first|(apply id_rw;first|(with_reducible apply rw_stop (d := 21))|(apply rx_move;rfl;rfl)|(first|(apply rx_load1;rfl;rfl;rfl;rfl)|(apply rx_loadA;rfl;rfl;(exact (rfl:_=[_, _, _, _]));rfl;rfl;rfl))|(apply rx_fieldAddr;rfl;rfl;rfl)|(apply rx_bin;rfl;rfl;rfl;rfl)|(apply rx_assign;rfl;rfl)|(apply rx_indexFN;(case hx|hi => rfl);(case hm => (omega));(case hml => (rfl));(case hα | hf|hg => infer_instance);(case hN => rfl))|(first|(apply rx_len;rfl;rfl;rfl)|(apply rx_append;rfl;rfl;rfl;rfl;rfl;(case hl => (simp [flat_length]; done));(exact sC_imm (by (rfl)));omega;omega;(exact app_nilF (by (omega)));rfl;rfl))|(apply rw_nil;kernel_rfl)|(apply rx_alloc;rfl;rfl)|(apply rx_buildSlice;rfl;rfl;rfl;(rfl);rfl;rfl)|(apply rx_store;rfl;rfl;rfl;rfl;rfl;(case hl => (simp;done));(exact (rfl:_=[_, _, _, _]))))|(apply id_aw;first|apply aw_seq|apply aw_region|(apply aw_cond;rfl;all_goals intro hc;have hq:=hc;(try simp only [bqs] at hq);try exfalso;omega)|apply aw_block|apply aw_skip|apply aw_exit|apply aw_ret)|with_reducible apply tq_normal|with_reducible apply tq_exit|with_reducible apply bq_here)
  · refine rw_go (rw_le ?_ (Le.frzD (d := 20) (i := 3) rfl rfl))
    rw [Nat.zero_add m[i]!.stk.length]
    repeat' (first|(apply id_rw;first|(apply rx_move;rfl;rfl)|(apply rx_loadA;rfl;rfl;(exact (rfl:_=[_, _, _, _]));rfl;rfl;rfl)|(apply rx_fieldAddr;rfl;rfl;rfl)|(apply rx_add;rfl;rfl;omega;rfl)|(apply rx_assign;rfl;rfl)|(apply rx_append;rfl;rfl;rfl;rfl;rfl;(rw [flat_length]; omega);(rfl);omega;omega;(exact app_cl (by (omega)));rfl;rfl)|(apply rw_nil;kernel_rfl)|((apply rx_buildSliceI (t := _));(case hze|hsm|hl => rfl);(case hfl => (exact (rfl:_=some [_, _, _, _])));(case hM|hN => rfl))|(apply rx_store;rfl;rfl;rfl;rfl;rfl;(case hl => (simp;done));(exact (rfl:_=[_, _, _, _]))))|(apply id_aw;(apply aw_region))|with_reducible apply tq_normal|with_reducible apply bq_normal)
    (apply ex3 (i + 1, _);focus (refine Le.ren [(0, 5)] rfl (by decide) ?_ ?_ <;> repeat' (first|exact trivial|refine And.intro ⟨_, rfl, ?_⟩ ?_|refine And.intro ⟨_, _, rfl, rfl, ?_⟩ ?_|exact Or.inr rfl|refine Or.inl ⟨?_, (by first|rfl|exact pur_sl _ _)⟩|rfl)))
    · exact ⟨by dsimp only;omega, by dsimp only;rw [hxs, take_succB m i (by omega)]⟩
    · dsimp only;omega
  · have hie : i = m.length := by omega
    (refine rq_ret rfl ?_; refine mc_ret () trivial ?_ ⟨.inr (Eq.trans (b := some _) rfl ?_), trivial⟩)
    · rw [hie]; rfl
    · rw [hxs, hie, List.take_length]
theorem l6Place_c (m : List Cl) (hm : OkM m) (x : Pt) : PC Tryz.prog 171 [sl cCl m, aPt x] (fun r => r = .tup [iv (if tchK m x false = 0 then tgIx m[x.cell.toNat]!.stk x.tag else 0), iv (tchK m x false)]) := by
  have hml := hm.l
  have hcv := CellsValidS_c m (by omega)
  rw [decide_eq_true hm] at hcv
  have hst : 0 ≤ x.cell → x.cell < m.length → m[x.cell.toNat]!.stk.length ≤ 1000000 := fun h1 h2 => Nat.le_trans (((OkM_iff m).1 hm).2 x.cell.toNat (by omega)).l.2 (by decide)
  (refine pc_of_aw Tryz.func171 rfl (by simp [Tryz.ntmps171]) ?_; rw [Tryz.ntmps171])
  repeat' (first|(apply id_rw;first|((with_reducible apply rx_callE (k := 99));(case ha => rfl);(case h => exact hcv);(case hp => (exact Pur.pf));(case hN => rfl))|((with_reducible apply rx_callE (k := 176));(case ha => rfl);(case h => exact l6Tag_c m[x.cell.toNat]!.stk x.tag (hst (by assumption) (by assumption)));(case hp => (exact Pur.pf));(case hN => rfl))|(apply rx_move;rfl;rfl)|(apply rx_load1;rfl;rfl;rfl;rfl)|(apply rx_fieldAddr;rfl;rfl;rfl)|(first|(apply rx_guardY;rfl;rfl;rfl;(first|rfl|assumption))|(apply rx_guardNs;rfl;rfl;rfl;(assumption))|(apply rx_guardS;(case hj|hb|hN => rfl);all_goals (intro hg;have hq := hg;(try simp only [bqs] at hq);(try (exfalso;omega)))))|(apply rx_bin;rfl;rfl;rfl;rfl)|(apply rx_assign;rfl;rfl)|(first|(apply rx_pickT;rfl;(assumption);rfl;rfl)|(apply rx_pickF;rfl;(first|rfl|assumption);rfl;rfl))|(apply rx_indexF;(case hx|hi => rfl);(case hm => (omega));(case hml => (rfl));(case hα | hf|hg => infer_instance);(case hN => rfl))|(apply rx_len;rfl;rfl;rfl)|(apply rw_nil;kernel_rfl)|(apply rx_not;rfl;rfl)|(apply rx_box;rfl;rfl;rfl;rfl))|(apply id_aw;first|apply aw_seq|apply aw_region|(apply aw_draw;kernel_rfl)|(apply aw_condT;rfl;(rfl))|(apply aw_cond;rfl;all_goals intro hc;have hq:=hc;(try simp only [bqs] at hq);try exfalso;omega)|apply aw_skip|apply aw_ret)|with_reducible apply tq_normal|with_reducible apply tq_ret)
  all_goals (refine rq_ret rfl ⟨?_, rfl⟩; simp only [oneOf])
  · rw [tchK_4 (by omega)]; rfl
  · rw [tchK_1 (by assumption) (by assumption) (by assumption)]; rfl
  · rw [tchK_2 (by assumption) (by assumption) (by assumption) (by assumption)]; rfl
  · rw [tchK_0f (by assumption) (by assumption) (by assumption) (by assumption)]; rfl
  · rw [tchK_4 (by omega)]; rfl
theorem st_clS {xs : List Cl} {k : Nat} {s : List Tg} (hk : k < xs.length) : spl (flat cCl xs) (0 + k * 4 + 3) [sl cTg s] = flat cCl (xs.set k { xs[k]! with stk := s }) := st_flat hk (by simp) rfl
theorem st_clV {xs : List Cl} {k : Nat} {v : Int} (hk : k < xs.length) : spl (flat cCl xs) (0 + k * 4 + 0) [iv v] = flat cCl (xs.set k { xs[k]! with val := v }) := st_flat hk (by simp) rfl
theorem st_clA {xs : List Cl} {k : Nat} {b : Bool} (hk : k < xs.length) : spl (flat cCl xs) (0 + k * 4 + 1) [.v (.bool b)] = flat cCl (xs.set k { xs[k]! with alive := b }) := st_flat hk (by simp) rfl
theorem sl_len {α : Type} {f : α → List AV} {xs : List α} {n : Nat} (h : n = xs.length) : AV.imm n (flat f xs) = sl f xs := by subst h; rfl
theorem ReadCellS_c (m : List Cl) (hm : OkM m) (x : Pt) : PC Tryz.prog 134 [sl cCl m, aPt x] (fun r => r = .tup [sl cCl (tchM m x false), iv (rdN m x), iv (tchK m x false)]) := by
  have hml := hm.l
  have hst : 0 ≤ x.cell → x.cell < m.length → m[x.cell.toNat]!.stk.length ≤ 1000000 := fun h1 h2 => Nat.le_trans (((OkM_iff m).1 hm).2 x.cell.toNat (by omega)).l.2 (by decide)
  by_cases hk : tchK m x false = 0
  · have hpl := l6Place_c m hm x
    rw [if_pos hk, hk] at hpl
    obtain ⟨h1, h2, h3, h4, _⟩ := tchK_in hk
    have hbd := tgIx_bd m[x.cell.toNat]!.stk x.tag
    have hrd := l6Read_c m[x.cell.toNat]!.stk (tgIx m[x.cell.toNat]!.stk x.tag).toNat (by omega) (hst h1 h2)
    rw [Int.toNat_of_nonneg h4] at hrd
    (refine pc_of_aw Tryz.func134 rfl (by simp [Tryz.ntmps134]) ?_; rw [Tryz.ntmps134])
    repeat' (first|(apply id_rw;first|(apply rx_l6CopyM;rfl;exact l6CopyM_c m hm;rfl;rfl)|((with_reducible apply rx_callE (k := 171));(case ha => rfl);(case h => exact hpl);(case hp => (exact Pur.pf));(case hN => rfl))|((with_reducible apply rx_callE (k := 172));(case ha => rfl);(case h => exact hrd);(case hp => (exact Pur.pf));(case hN => rfl))|(apply rx_move;rfl;rfl)|(first|(apply rx_load1;rfl;rfl;rfl;rfl)|(apply rx_loadA;rfl;rfl;(exact (rfl:_=[_, _]));rfl;rfl;rfl))|(apply rx_fieldAddr;rfl;rfl;rfl)|(apply rx_bin;rfl;rfl;rfl;rfl)|(apply rx_assign;rfl;rfl)|(first|(apply rx_indexF;(case hx|hi => rfl);(case hm => (omega));(case hml => (rfl));(case hα | hf|hg => infer_instance);(case hN => rfl))|(apply rx_indexO;rfl;rfl;(omega);rfl))|(apply rw_nil;kernel_rfl)|(apply rx_box;rfl;rfl;rfl;rfl)|(apply rx_extract;rfl;rfl;rfl)|(apply rx_store;rfl;rfl;rfl;rfl;rfl;(rw [flat_length]; simp only [lns] <;> omega);(exact st_clS (by (omega)))))|(apply id_aw;first|apply aw_seq|apply aw_region|(apply aw_draw;kernel_rfl)|(apply aw_condF;rfl;(rfl))|apply aw_skip|apply aw_ret)|with_reducible apply tq_normal)
    (refine rq_le (Le.frzD (d := 4) (i := 1) rfl rfl) ?_; refine rq_ret rfl ?_)
    refine ⟨?_, by (exact Pur.pf)⟩
    simp only [oneOf]
    rw [sl_len (by rw [List.length_set]), hk]
    unfold tchM rdN;rw [if_pos hk, if_pos hk]; rfl
  · have hpl := l6Place_c m hm x
    rw [if_neg hk] at hpl
    (refine pc_of_aw Tryz.func134 rfl (by simp [Tryz.ntmps134]) ?_; rw [Tryz.ntmps134])
    repeat' (first|(apply id_rw;first|(apply rx_l6CopyM;rfl;exact l6CopyM_c m hm;rfl;rfl)|((with_reducible apply rx_callE (k := 171));(case ha => rfl);(case h => exact hpl);(case hp => (exact Pur.pf));(case hN => rfl))|(apply rx_move;rfl;rfl)|(apply rx_loadA;rfl;rfl;(exact (rfl:_=[_, _]));rfl;rfl;rfl)|(apply rx_bin;rfl;rfl;rfl;rfl)|(apply rx_assign;rfl;rfl)|(apply rw_nil;kernel_rfl)|(apply rx_box;rfl;rfl;rfl;rfl)|(apply rx_extract;rfl;rfl;rfl))|(apply id_aw;first|apply aw_seq|apply aw_region|(apply aw_cond;rfl;all_goals intro hc;have hq:=hc;(try simp only [bqs] at hq);try exfalso;omega)|apply aw_ret)|with_reducible apply tq_normal|with_reducible apply tq_ret)
    (refine rq_le (Le.frzD (d := 4) (i := 1) rfl rfl) ?_; refine rq_ret rfl ?_)
    refine ⟨?_, by (exact Pur.pf)⟩
    simp only [oneOf]
    unfold tchM rdN;rw [if_neg hk, if_neg hk]
theorem spl_at {cs : List AV} {i : Nat} {c : AV} : spl cs i [c] = cs.take i ++ c :: cs.drop (i + 1) := by
  have := spl_one (cs := cs) (v := i) (c := c)
  rwa [Nat.zero_add, Nat.mul_one] at this
theorem Le.frzCl {ts : List (Nat × AV)} {hs : List (Nat × Option (List AV))} {n : Nat} {z0 : Lo} {j q v m : Nat} {u : List Cl} {r : List Tg} (hj : lkH hs j = some (spl (flat cCl u) (0 + v * 4 + 3) [.own q 0 m 2])) (hq : lkH hs q = some (flat cTg r)) (hm : m = r.length) (hv : v < u.length) (hjq : j ≠ q) :
    Le ⟨ts, hs, n, z0⟩ ⟨ts, (j, some (flat cCl (u.set v { u[v]! with stk := r }))) :: (q, none) :: hs, n, z0⟩ := by
  subst hm
  have hl : (flat cCl u).length = u.length * 4 := flat_length cCl u
  have e := st_clS (s := r) hv
  rw [spl_at] at hj e
  have h := Le.frzC (ts := ts) (n := n) (z0 := z0) ((flat cCl u).take (0 + v * 4 + 3)) hj hq hjq
  rw [← e]; exact h
theorem tchM_len {m : List Cl} {x : Pt} {wr : Bool} : (tchM m x wr).length = m.length := by
  unfold tchM;split
  · rw [List.length_set]
  · rfl
theorem rx_l6WriteM {m : List Cl} {x : Pt} {N : Nat} {Q : Exit → AS → Prop} {all : Array Oper} {rest : List Oper} {tsl : List (Nat × AV)} {hsl : List (Nat × Option (List AV))} {nidl : Nat} {z0 : Lo} {md : Md} {d : Nat} {ty : TypeId} {pos : String} {af : Array Edge} {tys : Array TypeId} {x0 x1 : Operand} (ha0 : ev (lk tsl) x0 = some (sl cCl m)) (ha1 : ev (lk tsl) x1 = some (aPt x)) (hmc : MC Tryz.prog 168 [sl cCl m, aPt x] [] 0 (fun _ : Unit => True) (fun _ => .tup [.own 1 0 m.length 4, iv (tchK m x true)]) (fun _ => [(1, some (flat cCl (tchM m x true)))])) (hM : Nat.ble (nidl + 2) big = true) (hN : Nat.blt d N = true) {md' : Md} [hmd : MdA md (rOs [x0, x1] ++ []) (List.map Sum.inr (List.map Prod.fst ([((nidl + 1), some (flat cCl (tchM m x true)))] : List (Nat × Option (List AV)))) ++ [.inl d]) md'] (kk : RW Tryz.prog N all Q md' rest ⟨(d, .tup [.own (nidl + 1) 0 m.length 4, iv (tchK m x true)]) :: tsl, wrH hsl [((nidl + 1), some (flat cCl (tchM m x true)))], nidl + 2, z0⟩) : RW Tryz.prog N all Q md (⟨some d, .call ⟨.value (.func 168), #[x0, x1], tys⟩, ty, pos, af, none⟩ :: rest) ⟨tsl, hsl, nidl, z0⟩ := by
  refine rx_mcallE [] 2 [((nidl + 1), some (flat cCl (tchM m x true)))] hmc (avs := [sl cCl m, aPt x]) ?_ rfl ?_ rfl ?_ (by simpa using hM) ?_ ?_ ?_ hN (md' := md') (hmd := hmd) kk
  · show evL (lk tsl) [x0, x1] = _
    simp only [evL, ha0, ha1]
  · exact trivial
  · (repeat' (exact RnL.purI inferInstance))
  · (repeat' (first|exact RnL.purI inferInstance|exact RnV.own rfl|refine RnL.cons ?_ ?_|refine RnV.tup ?_))
  · simp [wsAll]
  · (repeat' (first|exact trivial|(refine And.intro ⟨1, _, rfl, rfl, ?_⟩ ?_)|exact RnL.purI inferInstance))
theorem l6WriteM_c (m : List Cl) (x : Pt) (hm : OkM m) : MC Tryz.prog 168 [sl cCl m, aPt x] [] 0 (fun _ : Unit => True) (fun _ => .tup [.own 1 0 m.length 4, iv (tchK m x true)]) (fun _ => [(1, some (flat cCl (tchM m x true)))]) := by
  have hml := hm.l
  have hst : 0 ≤ x.cell → x.cell < m.length → m[x.cell.toNat]!.stk.length ≤ 200 := fun h1 h2 => (((OkM_iff m).1 hm).2 x.cell.toNat (by omega)).l.2
  have hpl := l6Place_c m hm x
  by_cases hk : tchK m x false = 0
  · rw [if_pos hk, hk] at hpl
    obtain ⟨h1, h2, h3, h4, _⟩ := tchK_in hk
    have hbd := tgIx_bd m[x.cell.toNat]!.stk x.tag
    have hs2 := hst h1 h2
    obtain ⟨k, hkk⟩ := Int.eq_ofNat_of_zero_le h4
    rw [hkk] at hpl
    have hkn : k < m[x.cell.toNat]!.stk.length := by omega
    have hkt : (tgIx m[x.cell.toNat]!.stk x.tag).toNat = k := by omega
    have hwr := tchK_wr (m := m) (x := x)
    rw [if_pos hk, hkt] at hwr
    have e1 : List.take (((k : Int) + 1).toNat - 0) (List.drop 0 m[x.cell.toNat]!.stk) = m[x.cell.toNat]!.stk.take (k + 1) := by rw [List.drop_zero]; congr 1
    have e2 : (m[x.cell.toNat]!.stk.take (k + 1)).length = k + 1 := by rw [List.length_take]; omega
    (refine mc_of_aw Tryz.func168 rfl (by simp [Tryz.ntmps168]) ?_; rw [Tryz.ntmps168])
    repeat' (first|(apply id_rw;first|(apply rx_l6CopyM;rfl;exact l6CopyM_c m hm;rfl;rfl)|((with_reducible apply rx_callE (k := 171));(case ha => rfl);(case h => exact hpl);(case hp => (exact Pur.pf));(case hN => rfl))|(with_reducible apply rw_stop (d := 46))|(apply rx_move;rfl;rfl)|(first|(apply rx_load1;rfl;rfl;rfl;rfl)|(apply rx_loadA;rfl;rfl;(exact (rfl:_=[_, _]));rfl;rfl;rfl))|(apply rx_fieldAddr;rfl;rfl;rfl)|(first|(apply rx_add;rfl;rfl;omega;rfl)|(apply rx_bin;rfl;rfl;rfl;rfl))|(apply rx_assign;rfl;rfl)|(first|(apply rx_indexFN;(case hx|hi => rfl);(case hm => (assumption));(case hml => (rfl));(case hα | hf|hg => infer_instance);(case hN => rfl))|(apply rx_indexF;(case hx|hi => rfl);(case hm => (omega));(case hml => (rfl));(case hα | hf|hg => infer_instance);(case hN => rfl)))|(apply rw_nil;kernel_rfl)|(apply rx_sliceF;rfl;infer_instance;rfl;rfl;(omega);rfl)|(apply rx_not;rfl;rfl)|(apply rx_box;rfl;rfl;rfl;rfl)|(apply rx_extract;rfl;rfl;rfl)|(apply rx_buildSlice;rfl;rfl;rfl;(rfl);rfl;rfl))|(apply id_aw;first|apply aw_seq|apply aw_region|(apply aw_draw;kernel_rfl)|(apply aw_condF;rfl;(rfl))|(apply aw_cond;rfl;all_goals intro hc;have hq:=hc;(try simp only [bqs] at hq);try exfalso;omega)|apply aw_skip|apply aw_ret)|with_reducible apply tq_normal|with_reducible apply tq_ret)
    · have hu : m[x.cell.toNat]!.stk[k]!.uq = false := by assumption
      rw [if_pos hu] at hwr
      (refine rq_ret rfl ?_; refine mc_ret () trivial ?_ ⟨.inr (Eq.trans (b := some _) rfl ?_), trivial⟩)
      · rw [hwr]; rfl
      · unfold tchM;rw [if_neg (by rw [hwr]; decide)]
    · have hu : m[x.cell.toNat]!.stk[k]!.uq = true := by assumption
      rw [if_neg (by rw [hu]; decide)] at hwr
      refine rw_go ?_
      rw [e1]
      repeat' (first|(apply id_rw;first|(with_reducible apply rw_stop (d := 49))|(apply rx_fieldAddr;rfl;rfl;rfl)|(apply rx_indexO;rfl;rfl;(omega);rfl)|(apply rx_append;rfl;rfl;rfl;rfl;rfl;(case hl => (simp [flat_length]; done));(exact sC_imm (by (rfl)));omega;omega;(exact app_nilF (by (omega)));rfl;rfl)|(apply rw_nil;kernel_rfl)|(apply rx_store;rfl;rfl;rfl;rfl;rfl;(rw [flat_length]; simp only [lns] <;> omega);(rfl)))|(apply id_aw;first|apply aw_seq|apply aw_region)|with_reducible apply tq_normal)
      refine rw_go (rw_le ?_ (Le.frzCl (j := 1) (q := 3) (v := x.cell.toNat) (u := m) (r := m[x.cell.toNat]!.stk.take (k + 1)) rfl rfl (Nat.zero_add _) (by omega) (by decide)))
      repeat' (first|(apply id_rw;first|(apply rx_move;rfl;rfl)|(apply rx_assign;rfl;rfl)|(apply rw_nil;kernel_rfl))|(apply id_aw;(apply aw_ret))|with_reducible apply tq_normal)
      (refine rq_ret rfl ?_; refine mc_ret () trivial ?_ ⟨.inr (Eq.trans (b := some _) rfl ?_), trivial⟩)
      · rw [hwr]; rfl
      · unfold tchM tchC tchS;rw [if_pos hwr, hkt, if_pos rfl]
  · rw [if_neg hk] at hpl
    have hk2 : tchK m x true = tchK m x false := by rw [tchK_wr, if_neg hk]
    (refine mc_of_aw Tryz.func168 rfl (by simp [Tryz.ntmps168]) ?_; rw [Tryz.ntmps168])
    repeat' (first|(apply id_rw;first|(apply rx_l6CopyM;rfl;exact l6CopyM_c m hm;rfl;rfl)|((with_reducible apply rx_callE (k := 171));(case ha => rfl);(case h => exact hpl);(case hp => (exact Pur.pf));(case hN => rfl))|(apply rx_move;rfl;rfl)|(apply rx_loadA;rfl;rfl;(exact (rfl:_=[_, _]));rfl;rfl;rfl)|(apply rx_bin;rfl;rfl;rfl;rfl)|(apply rx_assign;rfl;rfl)|(apply rw_nil;kernel_rfl)|(apply rx_box;rfl;rfl;rfl;rfl)|(apply rx_extract;rfl;rfl;rfl))|(apply id_aw;first|apply aw_seq|apply aw_region|(apply aw_cond;rfl;all_goals intro hc;have hq:=hc;(try simp only [bqs] at hq);try exfalso;omega)|apply aw_ret)|with_reducible apply tq_normal|with_reducible apply tq_ret)
    (refine rq_ret rfl ?_; refine mc_ret () trivial ?_ ⟨.inr (Eq.trans (b := some _) rfl ?_), trivial⟩)
    · rw [hk2]; rfl
    · unfold tchM;rw [if_neg (by rw [hk2]; exact hk)]
theorem set_set {α : Type} {l : List α} {i : Nat} {a b : α} : (l.set i a).set i b = l.set i b := by simp
theorem get_set {α : Type} [Inhabited α] {l : List α} {i : Nat} {a : α} (h : i < l.length) : (l.set i a)[i]! = a := by rw [getB _ _ (by rw [List.length_set]; exact h), List.getElem_set_self]
theorem WriteCellS_c (m : List Cl) (hm : OkM m) (x : Pt) (v : Int) : PC Tryz.prog 135 [sl cCl m, aPt x, iv v] (fun r => r = .tup [sl cCl (wrM m x v), iv (wrK m x v)]) := by
  have hml := hm.l
  have hlt := tchM_len (m := m) (x := x) (wr := true)
  have hin := tchK_in (m := m) (x := x) (wr := true)
  by_cases hv : 0 ≤ v ∧ v ≤ 9
  · have hwk : wrK m x v = tchK m x true := by unfold wrK; rw [if_pos hv]
    by_cases hk : tchK m x true = 0
    · obtain ⟨h1, h2, _⟩ := hin hk
      (refine pc_of_aw Tryz.func135 rfl (by simp [Tryz.ntmps135]) ?_; rw [Tryz.ntmps135])
      repeat' (first|(apply id_rw;first|(apply rx_l6WriteM;rfl;rfl;exact l6WriteM_c m x hm;rfl;rfl)|(apply rx_move;rfl;rfl)|(first|(apply rx_load1;rfl;rfl;rfl;rfl)|(apply rx_loadA;rfl;rfl;(exact (rfl:_=[_, _]));rfl;rfl;rfl))|(apply rx_fieldAddr;rfl;rfl;rfl)|(first|(apply rx_guardY;rfl;rfl;rfl;(assumption))|(apply rx_guardS;(case hj|hb|hN => rfl);all_goals (intro hg;have hq := hg;(try simp only [bqs] at hq);(try (exfalso;omega)))))|(apply rx_bin;rfl;rfl;rfl;rfl)|(apply rx_assign;rfl;rfl)|(apply rx_pickF;rfl;(assumption);rfl;rfl)|(apply rx_indexO;rfl;rfl;(omega);rfl)|(apply rw_nil;kernel_rfl)|(apply rx_box;rfl;rfl;rfl;rfl)|(apply rx_extract;rfl;rfl;rfl)|(apply rx_store;rfl;rfl;rfl;rfl;rfl;(rw [flat_length]; simp only [lns] <;> omega);(exact st_clV (by (omega)))))|(apply id_aw;first|apply aw_seq|apply aw_region|(apply aw_cond;rfl;all_goals intro hc;have hq:=hc;(try simp only [bqs] at hq);try exfalso;omega)|apply aw_skip|apply aw_ret)|with_reducible apply tq_normal)
      (refine rq_le (Le.frzD (d := 6) (i := 2) rfl rfl) ?_; refine rq_ret rfl ?_)
      refine ⟨?_, by (exact Pur.pf)⟩
      simp only [oneOf]
      rw [sl_len (by rw [List.length_set, hlt]), hwk]
      unfold wrM tchM;rw [if_pos hk, if_pos (by rw [hwk]; exact hk), get_set (by omega), set_set]
    · (refine pc_of_aw Tryz.func135 rfl (by simp [Tryz.ntmps135]) ?_; rw [Tryz.ntmps135])
      repeat' (first|(apply id_rw;first|(apply rx_l6WriteM;rfl;rfl;exact l6WriteM_c m x hm;rfl;rfl)|(apply rx_move;rfl;rfl)|(apply rx_loadA;rfl;rfl;(exact (rfl:_=[_, _]));rfl;rfl;rfl)|(first|(apply rx_guardY;rfl;rfl;rfl;(assumption))|(apply rx_guardS;(case hj|hb|hN => rfl);all_goals (intro hg;have hq := hg;(try simp only [bqs] at hq);(try (exfalso;omega)))))|(apply rx_bin;rfl;rfl;rfl;rfl)|(apply rx_assign;rfl;rfl)|(apply rx_pickF;rfl;(assumption);rfl;rfl)|(apply rw_nil;kernel_rfl)|(apply rx_box;rfl;rfl;rfl;rfl)|(apply rx_extract;rfl;rfl;rfl))|(apply id_aw;first|apply aw_seq|apply aw_region|(apply aw_cond;rfl;all_goals intro hc;have hq:=hc;(try simp only [bqs] at hq);try exfalso;omega)|apply aw_skip|apply aw_ret)|with_reducible apply tq_normal)
      (refine rq_le (Le.frzD (d := 6) (i := 2) rfl rfl) ?_; refine rq_ret rfl ?_)
      refine ⟨?_, by (exact Pur.pf)⟩
      simp only [oneOf]
      rw [sl_len (by rw [hlt]), hwk]
      unfold wrM tchM;rw [if_neg hk, if_neg (by rw [hwk]; exact hk)]
  · have hwk : wrK m x v = 4 := by unfold wrK; rw [if_neg hv]
    have e : wrM m x v = m := by unfold wrM;rw [if_neg (by rw [hwk]; decide)]
    (refine pc_of_aw Tryz.func135 rfl (by simp [Tryz.ntmps135]) ?_; rw [Tryz.ntmps135])
    repeat' (first|(apply id_rw;first|(apply rx_l6CopyM;rfl;exact l6CopyM_c m hm;rfl;rfl)|(apply rx_move;rfl;rfl)|(first|(apply rx_guardY;rfl;rfl;rfl;(assumption))|(apply rx_guardNs;rfl;rfl;rfl;(assumption))|(apply rx_guardS;(case hj|hb|hN => rfl);all_goals (intro hg;have hq := hg;(try simp only [bqs] at hq);(try (exfalso;omega)))))|(apply rx_bin;rfl;rfl;rfl;rfl)|(apply rx_assign;rfl;rfl)|(first|(apply rx_pickT;rfl;(assumption);rfl;rfl)|(apply rx_pickF;rfl;(assumption);rfl;rfl))|(apply rw_nil;kernel_rfl)|(apply rx_box;rfl;rfl;rfl;rfl))|(apply id_aw;first|apply aw_seq|apply aw_region|(apply aw_condT;rfl;(rfl))|(apply aw_cond;rfl;all_goals intro hc;have hq:=hc;(try simp only [bqs] at hq);try exfalso;omega)|apply aw_ret)|with_reducible apply tq_normal|with_reducible apply tq_ret)
    all_goals (try (exfalso;omega))
    all_goals (
      (refine rq_le (Le.frzD (d := 6) (i := 1) rfl rfl) ?_; refine rq_ret rfl ?_)
      refine ⟨?_, by (exact Pur.pf)⟩
      simp only [oneOf]
      rw [e, hwk])
theorem FreeCellS_c (m : List Cl) (hm : OkM m) (x : Pt) : PC Tryz.prog 127 [sl cCl m, aPt x] (fun r => r = .tup [sl cCl (frM m x), iv (tchK m x true)]) := by
  have hml := hm.l
  have hlt := tchM_len (m := m) (x := x) (wr := true)
  have hin := tchK_in (m := m) (x := x) (wr := true)
  by_cases hk : tchK m x true = 0
  · obtain ⟨h1, h2, _⟩ := hin hk
    (refine pc_of_aw Tryz.func127 rfl (by simp [Tryz.ntmps127]) ?_; rw [Tryz.ntmps127])
    repeat' (first|(apply id_rw;first|(apply rx_l6WriteM;rfl;rfl;exact l6WriteM_c m x hm;rfl;rfl)|(apply rx_move;rfl;rfl)|(first|(apply rx_load1;rfl;rfl;rfl;rfl)|(apply rx_loadA;rfl;rfl;(exact (rfl:_=[_, _]));rfl;rfl;rfl))|(apply rx_fieldAddr;rfl;rfl;rfl)|(apply rx_bin;rfl;rfl;rfl;rfl)|(apply rx_assign;rfl;rfl)|(apply rx_indexO;rfl;rfl;(omega);rfl)|(apply rw_nil;kernel_rfl)|(apply rx_box;rfl;rfl;rfl;rfl)|(apply rx_extract;rfl;rfl;rfl)|(apply rx_store;rfl;rfl;rfl;rfl;rfl;(rw [flat_length]; simp only [lns] <;> omega);(exact st_clA (by (omega)))))|(apply id_aw;first|apply aw_seq|apply aw_region|(apply aw_cond;rfl;all_goals intro hc;have hq:=hc;(try simp only [bqs] at hq);try exfalso;omega)|apply aw_ret)|with_reducible apply tq_normal)
    (refine rq_le (Le.frzD (d := 4) (i := 2) rfl rfl) ?_; refine rq_ret rfl ?_)
    refine ⟨?_, by (exact Pur.pf)⟩
    simp only [oneOf]
    rw [sl_len (by rw [List.length_set, hlt])]
    unfold frM tchM;rw [if_pos hk, if_pos hk, get_set (by omega), set_set]
  · (refine pc_of_aw Tryz.func127 rfl (by simp [Tryz.ntmps127]) ?_; rw [Tryz.ntmps127])
    repeat' (first|(apply id_rw;first|(apply rx_l6WriteM;rfl;rfl;exact l6WriteM_c m x hm;rfl;rfl)|(apply rx_move;rfl;rfl)|(apply rx_loadA;rfl;rfl;(exact (rfl:_=[_, _]));rfl;rfl;rfl)|(apply rx_bin;rfl;rfl;rfl;rfl)|(apply rx_assign;rfl;rfl)|(apply rw_nil;kernel_rfl)|(apply rx_box;rfl;rfl;rfl;rfl)|(apply rx_extract;rfl;rfl;rfl))|(apply id_aw;first|apply aw_seq|apply aw_region|(apply aw_cond;rfl;all_goals intro hc;have hq:=hc;(try simp only [bqs] at hq);try exfalso;omega)|apply aw_skip|apply aw_ret)|with_reducible apply tq_normal)
    (refine rq_le (Le.frzD (d := 4) (i := 2) rfl rfl) ?_; refine rq_ret rfl ?_)
    refine ⟨?_, by (exact Pur.pf)⟩
    simp only [oneOf]
    rw [sl_len (by rw [hlt])]
    unfold frM tchM;rw [if_neg hk, if_neg hk]
theorem NewCellS_c (m : List Cl) (hm : OkM m) (v : Int) : PC Tryz.prog 131 [sl cCl m, iv v] (fun r => r = .tup (if 0 ≤ v ∧ v ≤ 9 ∧ m.length < 200 then [sl cCl (m ++ [nwC v]), .agg [iv m.length, iv 0], bv true] else [sl cCl [], .agg [iv 0, iv 0], bv false])) := by
  have hml := hm.l
  have hcv := CellsValidS_c m (by omega)
  rw [decide_eq_true hm] at hcv
  (refine pc_of_aw Tryz.func131 rfl (by simp [Tryz.ntmps131]) ?_; rw [Tryz.ntmps131])
  repeat' (first|(apply id_rw;first|(apply rx_l6CopyM;rfl;exact l6CopyM_c m hm;rfl;rfl)|((with_reducible apply rx_callE (k := 99));(case ha => rfl);(case h => exact hcv);(case hp => (exact Pur.pf));(case hN => rfl))|(apply rx_move;rfl;rfl)|(first|(apply rx_guardY;rfl;rfl;rfl;(first|rfl|assumption))|(apply rx_guardNs;rfl;rfl;rfl;(first|rfl|assumption))|(apply rx_guardS;(case hj|hb|hN => rfl);all_goals (intro hg;have hq := hg;(try simp only [bqs] at hq);(try (exfalso;omega)))))|(apply rx_bin;rfl;rfl;rfl;rfl)|(apply rx_assign;rfl;rfl)|(first|(apply rx_pickT;rfl;(first|rfl|assumption);rfl;rfl)|(apply rx_pickF;rfl;(first|rfl|assumption);rfl;rfl))|(first|(apply rx_len;rfl;rfl;rfl)|(apply rx_append;rfl;rfl;rfl;rfl;rfl;(rw [flat_length]; omega);(rfl);omega;omega;(rfl);rfl;rfl))|(apply rw_nil;kernel_rfl)|(apply rx_buildK;rfl;(first|exact (rfl:_=some [_, _])|exact (rfl:_=some [_, _, _, _]));(first|exact (rfl:_=[_, _])|exact (rfl:_=[_, _, _, _]));rfl)|(apply rx_not;rfl;rfl)|(apply rx_alloc;rfl;rfl)|((apply rx_buildSliceI (t := _));(case hze|hsm|hl => rfl);(case hfl => (first|exact (rfl:_=some [_, _])|exact (rfl:_=some [_, _, _, _])|rfl));(case hM|hN => rfl))|(apply rx_store;rfl;rfl;rfl;rfl;rfl;(case hl => (first|decide|(simp;done)));(exact (rfl:_=[_, _]))))|(apply id_aw;first|apply aw_seq|apply aw_region|(apply aw_condT;rfl;(rfl))|(apply aw_cond;rfl;all_goals intro hc;have hq:=hc;(try simp only [bqs] at hq);try exfalso;omega)|apply aw_skip|apply aw_ret)|with_reducible apply tq_normal|with_reducible apply tq_ret)
  all_goals try exact rq_ret (l := [sl cCl [], .agg [iv 0, iv 0], bv false]) rfl ⟨by rw [if_neg (by omega)]; rfl, rfl⟩
  have e : ((flat cCl m).drop 0).take (m.length * 4) ++ [iv v, bv true, iv 1, .imm 1 [iv 0, bv true]] = flat cCl (m ++ [nwC v]) := app_flat rfl rfl
  have e2 : AV.imm (m.length + 1) (((flat cCl m).drop 0).take (m.length * 4) ++ [iv v, bv true, iv 1, .imm 1 [iv 0, bv true]]) = sl cCl (m ++ [nwC v]) := by
    rw [e]; exact sl_len (by rw [List.length_append]; rfl)
  refine rq_le (Le.frzD (d := 4) (i := 4) rfl rfl) ?_
  refine rq_ret (l := [AV.imm (m.length + 1) (((flat cCl m).drop 0).take (m.length * 4) ++ [iv v, bv true, iv 1, .imm 1 [iv 0, bv true]]), .agg [iv m.length, iv 0], bv true]) rfl ?_
  rw [e2, if_pos (by omega)]
  exact ⟨rfl, by (exact Pur.pf)⟩
def pshF (m : List Cl) (j : Nat) (r : List Tg) : Prop := r.length = 200 ∨ m[j]!.next = 1000
instance (m : List Cl) (j : Nat) (r : List Tg) : Decidable (pshF m j r) := by unfold pshF; infer_instance
def pshM (m b : List Cl) (j : Nat) (u : Bool) (r : List Tg) : List Cl := if pshF m j r then b else m.set j (psh { m[j]! with stk := r } u)
def pshP (m : List Cl) (j : Nat) (r : List Tg) : Pt := if pshF m j r then ⟨0, 0⟩ else ⟨j, m[j]!.next⟩
def pshK (m : List Cl) (j : Nat) (r : List Tg) : Int := if pshF m j r then 4 else 0
theorem rx_l6Push {m b : List Cl} {j : Nat} {u : Bool} {r : List Tg} {n k : Nat} {N : Nat} {Q : Exit → AS → Prop} {all : Array Oper} {rest : List Oper} {tsl : List (Nat × AV)} {hsl : List (Nat × Option (List AV))} {nidl : Nat} {z0 : Lo} {md : Md} {d : Nat} {ty : TypeId} {pos : String} {af : Array Edge} {tys : Array TypeId} {x0 x1 x2 x3 : Operand} {i0 i1 : Nat} (ha0 : ev (lk tsl) x0 = some (.own i0 0 n 4)) (ha1 : ev (lk tsl) x1 = some (sl cCl b)) (ha2 : ev (lk tsl) x2 = some (iv (j : Int))) (ha3 : ev (lk tsl) x3 = some (bv u)) (hH0 : lkH hsl i0 = some (flat cCo (opn m j (.own i1 0 k 2)))) (hH1 : lkH hsl i1 = some (flat cTg r)) (hdd : Go.AL.distinct [i0, i1] = true) (hmc : MC Tryz.prog 203 [.own 0 0 n 4, sl cCl b, iv (j : Int), bv u] [(0, some (flat cCo (opn m j (.own 1 0 k 2)))), (1, some (flat cTg r))] 2 (fun _ : Unit => True) (fun _ => .tup [sl cCl (pshM m b j u r), aPt (pshP m j r), iv (pshK m j r)]) (fun _ => [])) (hM : Nat.ble (nidl + 0) big = true) (hN : Nat.blt d N = true) {md' : Md} [hmd : MdA md (rOs [x0, x1, x2, x3] ++ [.inr i0, .inr i1]) (List.map Sum.inr (List.map Prod.fst ([(i0, none), (i1, none)] : List (Nat × Option (List AV)))) ++ [.inl d]) md'] (kk : RW Tryz.prog N all Q md' rest ⟨(d, .tup [sl cCl (pshM m b j u r), aPt (pshP m j r), iv (pshK m j r)]) :: tsl, wrH hsl [(i0, none), (i1, none)], nidl + 0, z0⟩) : RW Tryz.prog N all Q md (⟨some d, .call ⟨.value (.func 203), #[x0, x1, x2, x3], tys⟩, ty, pos, af, none⟩ :: rest) ⟨tsl, hsl, nidl, z0⟩ := by
  refine rx_mcallE [i0, i1] 2 [(i0, none), (i1, none)] hmc (avs := [.own i0 0 n 4, sl cCl b, iv (j : Int), bv u]) ?_ hdd ?_ rfl ?_ (by simpa using hM) ?_ ?_ ?_ hN (md' := md') (hmd := hmd) kk
  · show evL (lk tsl) [x0, x1, x2, x3] = _
    simp only [evL, ha0, ha1, ha2, ha3]
  · exact ⟨⟨_, _, rfl, hH0, by (repeat' (exact rn_opn rfl))⟩, ⟨⟨_, _, rfl, hH1, by (repeat' (exact RnL.purI inferInstance))⟩, trivial⟩⟩
  · (repeat' (first|exact RnL.purI inferInstance|exact RnV.own rfl|refine RnL.cons ?_ ?_))
  · (repeat' (exact RnV.purI inferInstance))
  · simp [wsAll]
  · (repeat' (exact trivial))
theorem l6Push_c (m b : List Cl) (j : Nat) (u : Bool) (r : List Tg) (n k : Nat) (hb : OkM b) (hn : n = m.length) (hk : k = r.length) (hj : j < m.length) (hnx : 0 ≤ m[j]!.next ∧ m[j]!.next ≤ 1000) (hr : r.length ≤ 200) (hml : m.length ≤ 200) : MC Tryz.prog 203 [.own 0 0 n 4, sl cCl b, iv (j : Int), bv u] [(0, some (flat cCo (opn m j (.own 1 0 k 2)))), (1, some (flat cTg r))] 2 (fun _ : Unit => True) (fun _ => .tup [sl cCl (pshM m b j u r), aPt (pshP m j r), iv (pshK m j r)]) (fun _ => []) := by
  have hol := opn_len (m := m) (j := j) (X := .own 1 0 k 2)
  have hog := opn_get (m := m) (j := j) (X := .own 1 0 k 2) hj
  have hol2 := opn_len (m := m) (j := j) (X := .own (2 + 1 + 1 + 1) 0 (r.length + 1) 2)
  subst hn hk
  (refine mc_of_aw Tryz.func203 rfl (by simp [Tryz.ntmps203]) ?_; rw [Tryz.ntmps203])
  repeat' (first|(apply id_rw;first|(with_reducible apply rw_stop (d := 11))|(apply rx_move;rfl;rfl)|(apply rx_loadFA;(case hx|hH => rfl);(case hf|hg|hα => infer_instance);(case hk => omega);(case h0|hN => rfl))|(apply rx_assign;rfl;rfl)|(apply rx_indexON;rfl;rfl;(assumption);rfl)|(apply rw_nil;kernel_rfl)|(apply rx_alloc;rfl;rfl))|(apply id_aw;first|apply aw_seq|apply aw_region)|with_reducible apply tq_normal)
  refine rw_go ?_
  rw [hog]
  dsimp only
  repeat' (first|(apply id_rw;first|((with_reducible apply rx_callE (k := 64));(case ha => rfl);(case h => exact l6Copy_c b hb);(case hp => (exact Pur.pf));(case hN => rfl))|(apply rx_move;rfl;rfl)|(apply rx_load1;rfl;rfl;rfl;rfl)|(apply rx_fieldAddr;rfl;rfl;rfl)|(first|(apply rx_guardY;rfl;rfl;rfl;(assumption))|(apply rx_guardNs;rfl;rfl;rfl;(assumption))|(apply rx_guardS;(case hj|hb|hN => rfl);all_goals (intro hg;have hq := hg;(try simp only [bqs] at hq);(try (exfalso;omega)))))|(first|(apply rx_add;rfl;rfl;omega;rfl)|(apply rx_bin;rfl;rfl;rfl;rfl))|(apply rx_assign;rfl;rfl)|(first|(apply rx_pickT;rfl;(assumption);rfl;rfl)|(apply rx_pickF;rfl;(assumption);rfl;rfl))|(apply rx_indexON;rfl;rfl;(assumption);rfl)|(first|(apply rx_len;rfl;rfl;rfl)|(apply rx_append;rfl;rfl;rfl;rfl;rfl;(rw [flat_length]; omega);(rfl);omega;omega;(exact app_tg (by (omega)));rfl;rfl))|(apply rw_nil;kernel_rfl)|(apply rx_buildK;rfl;(exact (rfl:_=some [_, _]));(exact (rfl:_=[_, _]));rfl)|(apply rx_alloc;rfl;rfl)|((apply rx_buildSliceI (t := _));(case hze|hsm|hl => rfl);(case hfl => (exact (rfl:_=some [_, _])));(case hM|hN => rfl))|(apply rx_store;rfl;rfl;rfl;rfl;rfl;(case hl => (first|decide|(rw [flat_length]; simp only [lns] <;> omega)|(simp;done)));(first|exact st_opn (by (assumption))|exact st_opnN (by (assumption))|exact (rfl:_=[_, _])|exact (rfl:_=[_, _, _, _]))))|(apply id_aw;first|apply aw_seq|apply aw_region|(apply aw_condT;rfl;(rfl))|(apply aw_cond;rfl;all_goals intro hc;have hq:=hc;(try simp only [bqs] at hq);try exfalso;omega)|apply aw_skip|apply aw_ret)|with_reducible apply tq_normal|with_reducible apply tq_ret)
  · have hf : pshF m j r := .inr (by assumption)
    refine rq_ret (l := [sl cCl b, .agg [iv 0, iv 0], iv 4]) rfl ?_
    refine mc_ret () trivial ?_ trivial
    unfold pshM pshP pshK;rw [if_pos hf, if_pos hf, if_pos hf]; rfl
  · have hf : ¬ pshF m j r := by unfold pshF; omega
    have hm2 : (m.set j { m[j]! with next := m[j]!.next + 1 }).length = m.length := List.length_set
    refine rq_le (Le.cls (o := 0) (q := 5) (j := j) (k := r.length + 1) (m := m.set j { m[j]! with next := m[j]!.next + 1 }) (r := r ++ [⟨m[j]!.next, u⟩]) rfl rfl (by rw [List.length_append]; rfl) (by omega) (by decide)) ?_
    refine rq_le (Le.frzD (d := 8) (i := 0) rfl rfl) ?_
    have e : (m.set j { m[j]! with next := m[j]!.next + 1 }).set j { (m.set j { m[j]! with next := m[j]!.next + 1 })[j]! with stk := r ++ [⟨m[j]!.next, u⟩] } = m.set j (psh { m[j]! with stk := r } u) := by
      rw [get_set hj, set_set]; rfl
    rw [e]
    refine rq_ret (l := [.imm m.length (flat cCl (m.set j (psh { m[j]! with stk := r } u))), .agg [iv (j : Int), iv m[j]!.next], iv 0]) rfl ?_
    refine mc_ret () trivial ?_ trivial
    unfold pshM pshP pshK;rw [if_neg hf, if_neg hf, if_neg hf, sl_len (by rw [List.length_set])]; rfl
  · have hf : pshF m j r := .inl (by omega)
    refine rq_ret (l := [sl cCl b, .agg [iv 0, iv 0], iv 4]) rfl ?_
    refine mc_ret () trivial ?_ trivial
    unfold pshM pshP pshK;rw [if_pos hf, if_pos hf, if_pos hf]; rfl
end Go.Proofs.YtlbbbmeadnelbaaGreat
