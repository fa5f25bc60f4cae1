/-
 A part of the proofs over this program: rules and contracts of its functions (the rules).
-/
import Derived.Test.YtjnhlgpbojggnaaGreatDoorS3A08
import Derived.Laws.BytesString
import Derived.Laws.StructEq
import Derived.MapKept
import Derived.Orders
import Derived.Sort.Grow
import Derived.Laws.IdiomCopy
set_option linter.unusedVariables false
set_option linter.unusedSimpArgs false
namespace Go.AL
structure Hy (T : Prop) : Prop where pf : T
theorem bqs:(∀ a b:Bool,((a && b) = true) = (a = true ∧ b = true)) ∧ (∀ a b:Bool,((a && b) = false) ↔ (a = false ∨ b = false)) ∧ (∀ a b:Bool,((a || b) = true) = (a = true ∨ b = true)) ∧ (∀ a b:Bool,((a || b) = false) ↔ (a = false ∧ b = false)) ∧
  (∀ (p : Prop) [Decidable p],(decide p = true) = p) ∧ (∀ (p : Prop) [Decidable p],(decide p = false) ↔ ¬ p) ∧ (∀ a : Bool,((!a) = true) ↔ a = false) ∧ (∀ a : Bool,((!a) = false) ↔ a = true) ∧ ((!true) = false) ∧ ((!false) = true) ∧ (∀ a b : Int,¬ a < b ↔ b ≤ a) ∧ (∀ a b : Int,¬ a ≤ b ↔ b < a) :=
 ⟨fun a b => Bool.and_eq_true a b,fun a b => Bool.and_eq_false_iff,fun a b => Bool.or_eq_true a b,fun a b => Bool.or_eq_false_iff,fun p _ => by simp,fun p _ => decide_eq_false_iff_not,fun a => by simp,fun a => by simp,rfl,rfl,fun _ _ => Int.not_lt,fun _ _ => Int.not_le⟩
theorem lns:(∀ {α:Type}(a b:List α),(a ++ b).length = a.length + b.length) ∧ (∀ {α:Type}(a:α) (b:List α),(a :: b).length = b.length + 1) ∧ (∀ {α:Type},([]:List α).length = 0) ∧ (∀ {α:Type}(a:List α) (i:Nat) (x:α),(a.set i x).length = a.length) ∧ (∀ {α:Type}(i:Nat) (a:List α),(a.take i).length = min i a.length) ∧
  (∀ {α β : Type} (f : α → β) (a : List α),(a.map f).length = a.length) ∧ (∀ {α : Type} (n : Nat) (a : α),(List.replicate n a).length = n) ∧ (∀ (l : List Stmt) (b : Nat),(ptL b l).length = npL l) ∧ (∀ n : Nat,n * 1 = n) ∧ (∀ n : Nat,0 + n = n) ∧ (∀ n : Nat,n + 0 = n) :=
 ⟨fun _ _ => List.length_append,fun _ _ => rfl,rfl,fun _ _ _ => List.length_set,fun _ _ => List.length_take,fun _ _ => List.length_map _,fun _ _ => List.length_replicate,ptL_len,Nat.mul_one,Nat.zero_add,Nat.add_zero⟩
theorem ex3 {α:Type}{p q r:α → Prop}(x:α) (h3:r x) (h1:p x) (h2:q x):∃ x,p x ∧ q x ∧ r x := ⟨x,h1,h2,h3⟩
theorem stpL {G K:Prop}(k:K) (h:Hy K → G := by first|(intro k;(first  | ((with_reducible apply rx_loadF0);(case hx => rfl);(case hH => rfl);(case hf => infer_instance);(case hg => infer_instance);(case hα => infer_instance);(case hk => omega);(case hc => rfl);(case hN => rfl)) | ((with_reducible apply rx_loadFA);(case hx => rfl);(case hH => rfl);(case hf => infer_instance);(case hg => infer_instance);(case hα => infer_instance);(case hk => omega);(case h0 => rfl);(case hN => rfl)) | ((with_reducible apply rx_load1);(case hx => rfl);(case hd => rfl);(case hc => rfl);(case hN => rfl)) | ((with_reducible apply rx_loadA);(case hx => rfl);(case hd => rfl);(case hc => (first|exact (rfl:_ = [_]) | exact (rfl:_ = [_,_]) | exact (rfl:_ = [_,_,_]) | exact (rfl:_ = [_,_,_,_]) | exact (rfl:_ = [_,_,_,_,_]) | exact (rfl:_ = [_,_,_,_,_,_]) | exact (rfl:_ = [_,_,_,_,_,_,_]) | exact (rfl:_ = [_,_,_,_,_,_,_,_]) | rfl));(case hn => rfl);(case h0 => rfl);(case hN => rfl)) | ((with_reducible apply rx_loadIArr);(case hx => rfl);(case hl => first|assumption | omega | (simp only [lns,List.length_drop] <;> omega));(case h0 => rfl);(case hN => rfl)) | ((with_reducible apply rx_loadArr0);(case hx => rfl);(case hH => rfl);(case hl => first|assumption | omega | (simp only [lns] <;> omega) | rfl);(case h0 => rfl);(case hN => rfl)) | ((with_reducible apply rx_loadArrK);(case hx => rfl);(case hH => rfl);(case hl => first|assumption | omega | (simp only [lns] <;> omega) | rfl);(case h0 => rfl);(case hN => rfl)) | ((with_reducible apply rx_loadWq);(case hx => rfl);(case hH => rfl);(case ho => first|exact off6 | exact off1);(case hq => first|assumption | omega | (simp only [lns] <;> omega));(case hN => rfl)));exact k.pf) | fail):G := h ⟨k⟩
theorem stpG {G K:Prop}(k:K) (h:Hy K → G := by first|(intro k;(first|((with_reducible apply rx_guardU);(case hj => rfl);(case hb => rfl);(case hN => rfl)) | ((with_reducible apply rx_guardY);(case hj => rfl);(case hb => rfl);(case hN => rfl);(case hw => first|rfl | assumption)) | ((with_reducible apply rx_guardNs);(case hj => rfl);(case hb => rfl);(case hN => rfl);(case hw => first|rfl | assumption)) );exact k.pf) | fail):G := h ⟨k⟩
theorem stpB {G K:Prop}(k:K) (h:Hy K → G := by first|(intro k;(first|((with_reducible apply rx_bbin);(case hx => rfl);(case hy => rfl);(case h => rfl);(case hN => rfl)) | ((with_reducible apply rx_orN);(case hx => rfl);(case hy => rfl);(case hk => infer_instance);(case ha => infer_instance);(case hb => infer_instance);(case hN => rfl)) | ((with_reducible apply rx_and1);(case hx => rfl);(case hy => rfl);(case hk => infer_instance);(case ha => infer_instance);(case hN => rfl)) | ((with_reducible apply rx_andN);(case hx => rfl);(case hy => rfl);(case hk => infer_instance);(case ha => infer_instance);(case hb => infer_instance);(case hN => rfl)) | ((with_reducible apply rx_anlN);(case hx => rfl);(case hy => rfl);(case hk => infer_instance);(case ha => infer_instance);(case hb => infer_instance);(case hN => rfl)) | ((with_reducible apply rx_shrN);(case hx => rfl);(case hy => rfl);(case hk => infer_instance);(case ha => infer_instance);(case h => omega);(case hN => rfl)) | ((with_reducible apply rx_add);(case hx => rfl);(case hy => rfl);(case h => omega);(case hN => rfl)) | ((with_reducible apply rx_sub);(case hx => rfl);(case hy => rfl);(case h => omega);(case hN => rfl)) | ((with_reducible apply rx_xor);(case hx => rfl);(case hy => rfl);(case h => omega);(case h' => omega);(case hN => rfl))  | ((with_reducible apply rx_mul);(case hx => rfl);(case hy => rfl);(case h => omega);(case hN => rfl)) | ((with_reducible apply rx_rem);(case hx => rfl);(case hy => rfl);(case h => omega);(case hN => rfl)) | ((with_reducible apply rx_quo);(case hx => rfl);(case hy => rfl);(case h => omega);(case hN => rfl)) | ((with_reducible apply rx_bin);(case hx => rfl);(case hy => rfl);(case h => rfl);(case hN => rfl)));exact k.pf) | fail):G := h ⟨k⟩
theorem stpI {G K:Prop}(k:K) (h:Hy K → G := by first|(intro k;(first|((with_reducible apply rx_indexFN);(case hx => rfl);(case hi => rfl);(case hm => (first|assumption | omega));(case hml => (first|rfl|assumption|omega));(case hα => infer_instance);(case hf => infer_instance);(case hg => infer_instance);(case hN => rfl)) | ((with_reducible apply rx_indexON);(case hx => rfl);(case hi => rfl);(case hm => (first|assumption | omega));(case hN => rfl)) | ((with_reducible apply rx_indexF);(case hx => rfl);(case hi => rfl);(case hm => (first|assumption | omega | exact ⟨Int.emod_nonneg _ (by omega),Int.emod_lt_of_pos _ (by omega)⟩));(case hml => (first|rfl|assumption|omega));(case hα => infer_instance);(case hf => infer_instance);(case hg => infer_instance);(case hN => rfl)) | ((with_reducible apply rx_indexO);(case hx => rfl);(case hi => rfl);(case hm => (first|assumption | omega | exact ⟨Int.emod_nonneg _ (by omega),Int.emod_lt_of_pos _ (by omega)⟩));(case hN => rfl)) | ((with_reducible apply rx_indexArr);(case hx => rfl);(case hi => rfl);(case hm => first|omega | assumption);(case hp => rfl);(case hN => rfl)) | ((with_reducible apply rx_indexW6);(case hx => rfl);(case hi => rfl);(case hm => first|omega | assumption);(case hN => rfl)));exact k.pf) | fail):G := h ⟨k⟩
theorem stpA {G K:Prop}(k:K) (h:Hy K → G := by first|(intro k;(first|((with_reducible apply rx_len);(case hx => rfl);(case hn => rfl);(case hN => rfl)) | ((with_reducible apply rx_lenS);(case hx => rfl);(case hN => rfl)) | ((with_reducible apply rx_append);(case hx => rfl);(case hy => rfl);(case hze => rfl);(case he0 => rfl);(case hH => rfl);(case hl => first|(rw [flat_length]; omega) | (rw [flat_length]; simp only [lns] <;> omega) | (simp [flat_length]; done) | decide | (simp;omega));(case hs' => first|rfl | exact sC_imm (by (first|rfl | assumption | omega)));(case hbig => omega);(case hmx => omega);(case hcs => first|exact app_stmt (by (first|assumption | omega | (simp only [lns] <;> omega) | decide)) | exact app_nilF (by (first|assumption | omega | (simp only [lns] <;> omega) | decide)) | exact app_iss (by (first|assumption | omega | (simp only [lns] <;> omega) | decide)) | exact app_pnt1 (by (first|assumption | omega | (simp only [lns] <;> omega) | decide)) | exact app_pnt0 (by (first|assumption | omega | (simp only [lns] <;> omega) | decide)) | exact app_int (by (first|assumption | omega | (simp only [lns] <;> omega) | decide)) | exact app_nat (by (first|assumption | omega | (simp only [lns] <;> omega) | decide))   | exact (rfl:_ = [_]) | exact (rfl:_ = [_,_]) | exact (rfl:_ = [_,_,_]) | exact (rfl:_ = [_,_,_,_]) | exact (rfl:_ = [_,_,_,_,_]) | exact (rfl:_ = [_,_,_,_,_,_]) | exact (rfl:_ = [_,_,_,_,_,_,_]) | exact (rfl:_ = [_,_,_,_,_,_,_,_]) | rfl);(case hM => rfl);(case hN => rfl)));exact k.pf) | fail):G := h ⟨k⟩
theorem stpK {G K:Prop}(k:K) (h:Hy K → G := by first|(intro k;(first|((with_reducible apply rx_buildK);(case hl => rfl);(case hf => (first|exact (rfl:_ = some [_]) | exact (rfl:_ = some [_,_]) | exact (rfl:_ = some [_,_,_]) | exact (rfl:_ = some [_,_,_,_]) | exact (rfl:_ = some [_,_,_,_,_]) | exact (rfl:_ = some [_,_,_,_,_,_]) | exact (rfl:_ = some [_,_,_,_,_,_,_]) | exact (rfl:_ = some [_,_,_,_,_,_,_,_]) | rfl));(case hk => (first|exact (rfl:_ = [_]) | exact (rfl:_ = [_,_]) | exact (rfl:_ = [_,_,_]) | exact (rfl:_ = [_,_,_,_]) | exact (rfl:_ = [_,_,_,_,_]) | exact (rfl:_ = [_,_,_,_,_,_]) | exact (rfl:_ = [_,_,_,_,_,_,_]) | exact (rfl:_ = [_,_,_,_,_,_,_,_]) | rfl));(case hN => rfl)) | ((with_reducible apply rx_build);(case hl => rfl);(case hf => (first|exact (rfl:_ = some [_]) | exact (rfl:_ = some [_,_]) | exact (rfl:_ = some [_,_,_]) | exact (rfl:_ = some [_,_,_,_]) | exact (rfl:_ = some [_,_,_,_,_]) | exact (rfl:_ = some [_,_,_,_,_,_]) | exact (rfl:_ = some [_,_,_,_,_,_,_]) | exact (rfl:_ = some [_,_,_,_,_,_,_,_]) | rfl));(case hN => rfl)));exact k.pf) | fail):G := h ⟨k⟩
theorem stpM {G K:Prop}(k:K) (h:Hy K → G := by first|(intro k;(first|((with_reducible apply rx_buildSlice);(case hze => rfl);(case hsm => rfl);(case hl => rfl);(case hfl => (first|exact (rfl:_ = some [_]) | exact (rfl:_ = some [_,_]) | exact (rfl:_ = some [_,_,_]) | exact (rfl:_ = some [_,_,_,_]) | exact (rfl:_ = some [_,_,_,_,_]) | exact (rfl:_ = some [_,_,_,_,_,_]) | exact (rfl:_ = some [_,_,_,_,_,_,_]) | exact (rfl:_ = some [_,_,_,_,_,_,_,_]) | rfl));(case hM => rfl);(case hN => rfl)) | ((with_reducible apply rx_makeSliceE);(case hx => rfl);(case hy => rfl);(case hze => rfl);(case hsm => omega);(case hmx => omega);(case hcs => first|exact mk_nat | exact mk_natW | exact mk_natW6 | exact mk_bool | rfl);(case hM => rfl);(case hN => rfl)));exact k.pf) | fail):G := h ⟨k⟩
theorem stpS {G K:Prop}(k:K) (h:Hy K → G := by first|(intro k;(first|((with_reducible apply rx_store);(case hx => rfl);(case hy => rfl);(case hc => rfl);(case hn => rfl);(case hH => rfl);(case hl => (first|decide|(rw [flat_length]; simp only [lns] <;> omega)|omega|(simp;done)|(simp;omega)));(case hcs => first|exact st_sop (by (first|assumption | omega | (simp only [lns] <;> omega) | decide)) | exact st_sx (by (first|assumption | omega | (simp only [lns] <;> omega) | decide)) | exact st_sy (by (first|assumption | omega | (simp only [lns] <;> omega) | decide)) | exact st_sn (by (first|assumption | omega | (simp only [lns] <;> omega) | decide)) | exact st_rows (by (first|assumption | omega | (simp only [lns] <;> omega) | decide)) | exact st_next1 (by (first|assumption | omega | (simp only [lns] <;> omega) | decide)) | exact st_next2 (by (first|assumption | omega | (simp only [lns] <;> omega) | decide)) | exact st_nat (by (first|assumption | omega | (simp only [lns] <;> omega) | decide)) | exact st_natW (by (first|assumption | omega | (simp only [lns] <;> omega) | decide)) | exact st_natW6 (by (first|assumption | omega | (simp only [lns] <;> omega) | decide))   | exact st_bool (by (first|assumption | omega | (simp only [lns] <;> omega) | decide))  | exact (rfl:_ = [_]) | exact (rfl:_ = [_,_]) | exact (rfl:_ = [_,_,_]) | exact (rfl:_ = [_,_,_,_]) | exact (rfl:_ = [_,_,_,_,_]) | exact (rfl:_ = [_,_,_,_,_,_]) | exact (rfl:_ = [_,_,_,_,_,_,_]) | exact (rfl:_ = [_,_,_,_,_,_,_,_]) | rfl)) | ((with_reducible apply rx_storeArr);(case hx => rfl);(case hy => rfl);(case hH => rfl);(case hl => first|assumption | omega | (simp only [lns] <;> omega));(case hc => first|rfl | (rw [flatW_len]; first|assumption | (simp only [lns] <;> omega)))));exact k.pf) | fail):G := h ⟨k⟩
theorem stp1 {G K:Prop}(k:K) (h:Hy K → G := by first|(intro k;(first|((with_reducible apply id_rw);first|((with_reducible apply rx_move);(case hx => rfl);(case hN => rfl)) | ((with_reducible apply id_load);refine stpL ?_) | ((with_reducible apply rx_fieldAddr);(case hx => rfl);(case hp => rfl);(case hN => rfl)) | ((with_reducible apply id_g);refine stpG ?_) | ((with_reducible apply id_bin);refine stpB ?_) | ((with_reducible apply rx_assign);(case hx => rfl);(case hN => rfl)) | ((with_reducible apply id_pick);first|((with_reducible apply rx_pickT);(case hc => rfl);(case hb => first|rfl | assumption);(case hx => rfl);(case hN => rfl)) | ((with_reducible apply rx_pickF);(case hc => rfl);(case hb => first|rfl | assumption);(case hx => rfl);(case hN => rfl))) | ((with_reducible apply id_idx);refine stpI ?_) | ((with_reducible apply id_bi);refine stpA ?_) | ((with_reducible apply rw_nil);(case hf => kernel_rfl)) | ((with_reducible apply id_conv);first|((with_reducible apply rx_conv64);(case hx => rfl);(case h => first|exact cU_bd _ | omega);(case hN => rfl)) ) | ((with_reducible apply id_ix);first|((with_reducible apply rx_index1W);(case hx => rfl);(case hi => rfl);(case hl => first|assumption | omega | (simp only [lns] <;> omega));(case hm => omega);(case hN => rfl))) | ((with_reducible apply id_bld);refine stpK ?_) | ((with_reducible apply id_sli);first|((with_reducible apply rx_sliceF);(case hx => rfl);(case hf => infer_instance);(case hl => rfl);(case hh => rfl);(case hb => first|omega | (simp only [List.length_take,List.length_drop,Int.toNat_natCast]; omega));(case hN => rfl))) | ((with_reducible apply rx_makeFunc);(case hf => rfl);(case hc => rfl);(case hN => rfl)) | ((with_reducible apply rx_not);(case hx => rfl);(case hN => rfl)) | ((with_reducible apply rx_nil);(case hx => rfl);(case hp => rfl);(case hN => rfl)) | ((with_reducible apply rx_box);(case hx => rfl);(case hc => rfl);(case hM => rfl);(case hN => rfl)) | ((with_reducible apply rx_alloc);(case hM => rfl);(case hN => rfl)) | ((with_reducible apply rx_extract);(case hx => rfl);(case hc => rfl);(case hN => rfl)) | refine stpM ?_ | refine stpS ?_));exact k.pf) | fail):G := h ⟨k⟩
theorem stpa {G K:Prop}(k:K) (h:Hy K → G := by first|(intro k;(first|((with_reducible apply id_aw);first|with_reducible apply aw_seq | with_reducible apply aw_region | ((with_reducible apply aw_condT);(case hc => rfl);(case hb => first|rfl | assumption)) | ((with_reducible apply aw_condF);(case hc => rfl);(case hb => first|rfl | assumption)) | with_reducible apply aw_block | with_reducible apply aw_skip | with_reducible apply aw_exit | with_reducible apply aw_ret ) | with_reducible apply tq_normal | with_reducible apply tq_ret | with_reducible apply tq_exit | with_reducible apply bq_normal | with_reducible apply bq_ret | with_reducible apply bq_here | ((with_reducible apply bq_out);(case hij => decide)));exact k.pf) | fail):G := h ⟨k⟩
theorem stp2 {G c1 q1 c2 q2 K1 K2:Prop}(k1:c1 → q1 → K1) (k2:c2 → q2 → K2) (h:Hy (c1 → q1 → K1) → Hy (c2 → q2 → K2) → G := by first|(intro k1 k2;(with_reducible apply id_aw);(with_reducible apply aw_cond);(case hc => rfl);(intro hc;have hq := hc;(try simp only [bqs] at hq);first|exact k1.pf hc hq | exact k1.pf hc trivial);(intro hc;have hq := hc;(try simp only [bqs] at hq);first|exact k2.pf hc hq | exact k2.pf hc trivial)) | fail):G := h ⟨k1⟩ ⟨k2⟩
theorem stp3 {G c1 q1 c2 q2 K1 K2:Prop}(k1:c1 → q1 → K1) (k2:c2 → q2 → K2) (h:Hy (c1 → q1 → K1) → Hy (c2 → q2 → K2) → G := by first|(intro k1 k2;(with_reducible apply id_rw);(with_reducible apply id_g);(with_reducible apply rx_guardS);(case hj => rfl);(case hb => rfl);(case hN => rfl);(intro hc;have hq := hc;(try simp only [bqs] at hq);first|exact k1.pf hc hq | exact k1.pf hc trivial);(intro hc;have hq := hc;(try simp only [bqs] at hq);first|exact k2.pf hc hq | exact k2.pf hc trivial)) | fail):G := h ⟨k1⟩ ⟨k2⟩
theorem stpd {G K:Prop}(k:K) (h:Hy K → G := by first|(intro k;(with_reducible apply id_aw);(with_reducible apply aw_draw);(case hm => kernel_rfl);exact k.pf) | fail):G := h ⟨k⟩
theorem stpr {G K:Prop}(k:K) (h:Hy K → G := by first|(intro k;(with_reducible apply rq_ret);(case hr => rfl);exact k.pf) | fail):G := h ⟨k⟩
theorem selT_nil {ts:List (Nat × AV)}:selT [] ts = [] := rfl
theorem selT_cons {k:Nat}{v:AV}{ks:List Nat}{ts kt:List (Nat × AV)}(h:lk ts k = some v) (h2:selT ks ts = kt):selT (k :: ks) ts = (k,v) :: kt:=by
 subst h2;simp [selT,h]
theorem selH_nil {hs:List (Nat × Option (List AV))}:selH [] hs = [] := rfl
theorem selH_cons {k:Nat}{v:List AV}{ks:List Nat}{hs kh:List (Nat × Option (List AV))}(h:lkH hs k = some v) (h2:selH ks hs = kh):selH (k :: ks) hs = (k,some v) :: kh:=by
 subst h2;simp [selH,h]
section
variable {P : Program} {N : Nat} {Q : Exit → AS → Prop} {σ : Type} {c : Code} {ts : List (Nat × AV)} {hs : List (Nat × Option (List AV))} {n : Nat} {z0 : Lo}
theorem aw_loopA (ks js:List Nat){kt:List (Nat × AV)}{kh:List (Nat × Option (List AV))}(ot:σ → List (Nat × AV)) (oh:σ → List (Nat × Option (List AV))) (p:σ → Prop) (μ:σ → Nat) (i0:σ) (h0:p i0)
  (round : ∀ i,p i → AW P N c (thenQ (fun s' => ∃ j,p j ∧ μ j < μ i ∧ Le s' ⟨ot j ++ kt,oh j ++ kh,n,z0⟩) Q) ⟨ot i ++ kt,oh i ++ kh,n,z0⟩)
  (hk : selT ks ts = kt := by repeat' (first|exact selT_nil|(apply selT_cons;rfl))) (hj : selH js hs = kh := by repeat' (first|exact selH_nil|(apply selH_cons;rfl)))
  (h1 : subT ts (ot i0) := by repeat' (first|exact trivial|refine And.intro rfl ?_)) (h2 : subH hs (oh i0) := by repeat' (first|exact trivial|refine And.intro (.inr rfl) ?_)) : AW P N (.loop c) Q ⟨ts,hs,n,z0⟩ :=
 aw_loopK ks kt js kh ot oh p μ i0 h0 hk hj h1 h2 round
theorem aw_loopB (Rf:σ → List (List Bool)) (ks js:List Nat){kt:List (Nat × AV)}{kh:List (Nat × Option (List AV))}(ot:σ → List (Nat × AV)) (oh:σ → List (Nat × Option (List AV))) (p:σ → Prop) (μ:σ → Nat) (i0:σ) (h0:p i0)
  (round : ∀ i,p i → AW P N c (thenQ (fun s' => ∃ j,p j ∧ μ j < μ i ∧ Le s' ⟨ot j ++ kt,(oh j ++ kh) ++ famB (Rf j),n,⟨0,big + (Rf j).length⟩⟩) Q) ⟨ot i ++ kt,(oh i ++ kh) ++ famB (Rf i),n,⟨0,big + (Rf i).length⟩⟩)
  (hk : selT ks ts = kt := by repeat' (first|exact selT_nil|(apply selT_cons;rfl))) (hj : selH js hs = kh := by repeat' (first|exact selH_nil|(apply selH_cons;rfl)))
  (h1 : subT ts (ot i0) := by repeat' (first|exact trivial|refine And.intro rfl ?_)) (h2 : subH hs (oh i0) := by repeat' (first|exact trivial|refine And.intro (.inr rfl) ?_))
  (hF : FamR (Rf i0) (Rf i0) hs hs := by repeat' (first|exact FamR.here|exact FamR.nil|(apply FamR.cons;focus rfl))) (hz : z0 = ⟨0,big + (Rf i0).length⟩ := by first|rfl|(simp only [jnR_len])) : AW P N (.loop c) Q ⟨ts,hs,n,z0⟩ :=
 aw_loopF 0 Rf ks kt js kh ot oh p μ i0 h0 hk hj h1 h2 hF hz round
end
theorem Le.renA (m:List (Nat × Nat)){ts ts':List (Nat × AV)}{hs hs':List (Nat × Option (List AV))}{n n':Nat}{lo:Lo}(hm:okI lo.lo n' m = true := by rfl) (hn:lo.lo ≤ n' := by decide)
  (h1 : renT m lo ts ts' := by repeat' (first|exact trivial|refine And.intro ⟨_,rfl,?_⟩ ?_|refine And.intro ⟨_,_,rfl,rfl,?_⟩ ?_|exact Or.inr rfl|refine Or.inl ⟨?_,(by first|rfl|exact pur_sl _ _|exact Pur.pf|exact PurV.pf)⟩|refine Or.inr (All2.cons ?_ ?_)|refine All2.cons ?_ ?_|exact All2.nil|rfl))
  (h2 : renH m lo hs hs' := by repeat' (first|exact trivial|refine And.intro ⟨_,rfl,?_⟩ ?_|refine And.intro ⟨_,_,rfl,rfl,?_⟩ ?_|exact Or.inr rfl|refine Or.inl ⟨?_,(by first|rfl|exact pur_sl _ _|exact Pur.pf|exact PurV.pf)⟩|refine Or.inr (All2.cons ?_ ?_)|refine All2.cons ?_ ?_|exact All2.nil|rfl)) : Le ⟨ts,hs,n,lo⟩ ⟨ts',hs',n',lo⟩ :=
 Le.ren m hm hn h1 h2
section
variable {P : Program} {k : FuncId} {fn : Func} {c : Code} {args : List AV} {N : Nat}
theorem pc_start {Q:AV → Prop}(hf:P.funcs[k]? = some fn) (hn:fn.ntmps = N) (h:AW P N c (retQ P fn.results (fun r _ => Q r ∧ r.pur = true)) ⟨argTs 0 args,[],0,⟨0,big⟩⟩) (hb:fn.body = some c := by rfl)
  (hN : args.length ≤ N := by simp) : PC P k args Q := by subst hn;exact pc_of_aw hf hb hN h
theorem mc_start {σ:Type}{H0:List (Nat × Option (List AV))}{n:Nat}{p:σ → Prop}{rr:σ → AV}{hh:σ → List (Nat × Option (List AV))}(hf:P.funcs[k]? = some fn) (hn:fn.ntmps = N)
  (h : AW P N c (retQ P fn.results (fun r H' => ∃ x,p x ∧ r = rr x ∧ ∀ id cs,lkH (hh x) id = some cs → H' id = some cs)) ⟨argTs 0 args,H0,n,⟨n,big⟩⟩) (hb : fn.body = some c := by rfl)
  (hN : args.length ≤ N := by simp) : MC P k args H0 n p rr hh := by subst hn;exact mc_of_aw hf hb hN h
theorem fc_start {R0:List (List Bool)}{r:AV}{hh:List (Nat × Option (List AV))}(hf:P.funcs[k]? = some fn) (hn:fn.ntmps = N)
  (h : AW P N c (retQ P fn.results (fun r' H' => r' = r ∧ ∀ id cs,lkH (hh ++ famB R0) id = some cs → H' id = some cs)) ⟨argTs 0 args,famB R0,0,⟨0,big + R0.length⟩⟩) (hb : fn.body = some c := by rfl)
  (hN : args.length ≤ N := by simp) : FCt P k args R0 r hh := by subst hn;exact fc_of_aw hf hb hN h
theorem gc_start {R1:List (List Bool)}{r:AV}(hf:P.funcs[k]? = some fn) (hn:fn.ntmps = N)
  (h : AW P N c (retQ P fn.results (fun r' H' => r' = r ∧ ∀ id cs,lkH (famB R1) id = some cs → H' id = some cs)) ⟨argTs 0 args,[],0,⟨0,big⟩⟩) (hb : fn.body = some c := by rfl)
  (hN : args.length ≤ N := by simp) : GCt P k args r R1 := by subst hn;exact gc_of_aw hf hb hN h
end
structure IsOk (nt np : Nat) (x : Iss) : Prop where
 p0 : 0 ≤ x.point
 p1 : x.point < np
 k : (x.kind = 1 ∧ 0 ≤ x.with_ ∧ x.with_ < nt) ∨ ((x.kind = 2 ∨ x.kind = 3) ∧ 0 ≤ x.with_ ∧ x.with_ < np)
theorem spP_ok {ts:List Int}{pts:List Pnt}{Aa:List Nat}{cf:List Bool}{i:Nat}(hi:i < pts.length):∀ x ∈ spP ts pts Aa cf i,IsOk ts.length pts.length x ∧ x.point = i:=by
 intro x hx
 unfold spP at hx
 rcases List.mem_append.1 hx with h|h
 ·obtain ⟨v, hv, rfl⟩ := List.mem_map.1 h
  have hv2 := List.mem_range.1 (List.mem_filter.1 hv).1
  exact ⟨⟨by dsimp only;omega,by dsimp only;omega,.inl ⟨rfl,by dsimp only;omega,by dsimp only;omega⟩⟩,rfl⟩
 ·obtain ⟨v, hv, rfl⟩ := List.mem_map.1 h
  have hv2 := List.mem_range.1 (List.mem_filter.1 hv).1
  refine ⟨⟨by dsimp only;omega,by dsimp only;omega,.inr ⟨?_,by dsimp only;omega,by dsimp only;omega⟩⟩,rfl⟩
  show spK pts v = 2 ∨ spK pts v = 3
  unfold spK;split <;> simp
theorem issF_ok {ts:List Int}{pts:List Pnt}(w:WG ts pts) (f:Flows ts pts):∀ n,n ≤ pts.length →
  (∀ x ∈ issF ts pts f.Aa f.Am f.Al f.Af f.Ap n,IsOk ts.length pts.length x ∧ x.point < n) ∧ (issF ts pts f.Aa f.Am f.Al f.Af f.Ap n).Pairwise (fun a b => a.point ≤ b.point)
 | 0, _ => by
  have : issF ts pts f.Aa f.Am f.Al f.Af f.Ap 0 = [] := rfl
  rw [this]
  exact ⟨fun x h => by simp at h,List.Pairwise.nil⟩
 | n + 1, h => by
  obtain ⟨h1,h2⟩ := issF_ok w f n (by omega)
  have h3 := spP_ok (ts := ts) (pts := pts) (Aa := f.Aa) (cf := spC ts pts f.Am f.Al f.Af f.Ap n) (i := n) (by omega)
  rw [spP_eq w f (by omega)] at h3
  rw [issF_succ]
  refine ⟨fun x hx => ?_,List.pairwise_append.2 ⟨h2,?_,fun a ha b hb => ?_⟩⟩
  ·rcases List.mem_append.1 hx with hx | hx
   ·exact ⟨(h1 x hx).1,by have := (h1 x hx).2;omega⟩
   ·exact ⟨(h3 x hx).1,by have := (h3 x hx).2;omega⟩
  ·refine List.pairwise_iff_getElem.2 fun i j hi hj _ => ?_
   have a1 := (h3 _ (List.getElem_mem hi)).2
   have a2 := (h3 _ (List.getElem_mem hj)).2
   omega
  ·have a1 := (h1 a ha).2
   have a2 := (h3 b hb).2
   omega
theorem iss_ok {ts:List Int}{pts:List Pnt}(w:WG ts pts) (f:Flows ts pts):(∀ k,k < f.iss.length → IsOk ts.length pts.length f.iss[k]!) ∧ (∀ k,k + 1 < f.iss.length → f.iss[k]!.point ≤ f.iss[k + 1]!.point):=by
 obtain ⟨h1,h2⟩ := issF_ok w f pts.length (Nat.le_refl _)
 refine ⟨fun k hk => (h1 _ (getB_mem _ k hk)).1,fun k hk => ?_⟩
 rw [getB _ _ hk,getB _ k (by omega)]
 exact List.pairwise_iff_getElem.1 h2 k (k + 1) (Nat.lt_of_succ_lt hk) hk (Nat.lt_succ_self k)
theorem spP_len (ts:List Int) (pts:List Pnt) (Aa:List Nat) (cf:List Bool) (i:Nat):(spP ts pts Aa cf i).length ≤ ts.length + pts.length:=by
 unfold spP
 rw [List.length_append,List.length_map,List.length_map]
 have h1 := List.length_filter_le (spU ts pts Aa i) (List.range ts.length)
 have h2 := List.length_filter_le (fun (l : Nat) => cf[l]!) (List.range pts.length)
 rw [List.length_range] at h1 h2
 omega
theorem iss_len {ts:List Int}{pts:List Pnt}(w:WG ts pts) (f:Flows ts pts):∀ n,n ≤ pts.length → (issF ts pts f.Aa f.Am f.Al f.Af f.Ap n).length ≤ n * (ts.length + pts.length)
 | 0,_ => by simp [issF]
 | n + 1, h => by
  have h1 := iss_len w f n (by omega)
  have h2 := spP_len ts pts f.Aa (spC ts pts f.Am f.Al f.Af f.Ap n) n
  rw [spP_eq w f (by omega)] at h2
  rw [issF_succ,List.length_append,Nat.succ_mul]
  omega
theorem iss_len' {ts:List Int}{pts:List Pnt}(w:WG ts pts) (f:Flows ts pts):f.iss.length ≤ 100000:=by
 have h := iss_len w f pts.length (Nat.le_refl _)
 have h1 := w.tl
 have h2 := w.pl
 have h3 : pts.length * (ts.length + pts.length) ≤ 61 * 67 := Nat.mul_le_mul (by omega) (by omega)
 exact Nat.le_trans h (Nat.le_trans h3 (by decide))
structure Tg where
 id : Int
 uq : Bool
 deriving Inhabited,DecidableEq
structure Cl where
 val : Int
 alive : Bool
 next : Int
 stk : List Tg
 deriving Inhabited,DecidableEq
structure Pt where
 cell : Int
 tag : Int
 deriving Inhabited,DecidableEq
structure Sl where
 set : Bool
 num : Int
 ptr : Pt
 deriving Inhabited,DecidableEq
def cTg (t : Tg) : List AV := [iv t.id,bv t.uq]
def cCl (c : Cl) : List AV := [iv c.val,bv c.alive,iv c.next,sl cTg c.stk]
def cSl (s : Sl) : List AV := [bv s.set,iv s.num,iv s.ptr.cell,iv s.ptr.tag]
instance : FlT cTg 2:=⟨fun _ => rfl⟩
instance : FlT cCl 4:=⟨fun _ => rfl⟩
instance : FlT cSl 4:=⟨fun _ => rfl⟩
instance : FE cTg (fun t => [iv t.id,bv t.uq]):=⟨fun _ => rfl⟩
instance : FE cCl (fun c => [iv c.val,bv c.alive,iv c.next,sl cTg c.stk]):=⟨fun _ => rfl⟩
instance : FE cSl (fun s => [bv s.set,iv s.num,iv s.ptr.cell,iv s.ptr.tag]):=⟨fun _ => rfl⟩
instance (t : Tg) : Pur (cTg t):=⟨rfl⟩
instance (c : Cl) : Pur (cCl c):=⟨by show (true && (true && (true && ((sl cTg c.stk).pur && true)))) = true;rw [pur_sl]; rfl⟩
instance (s : Sl) : Pur (cSl s):=⟨rfl⟩
def full (c : Cl) : Prop := c.stk.length = 200 ∨ c.next = 1000
instance (c : Cl) : Decidable (full c) := by unfold full;infer_instance
section
variable {P : Program} {C : Ctx} {ι : Pl} {F : Nat → Prop} {T : Nat → Option AV} {H : Nat → Option (List AV)} {a : Act} {w : World} {o : Oper}
theorem zeroCells_list (z:Array Value):∀ n,(Builtin.zeroCells z n).toList = (List.replicate n z.toList).flatten := fun n => by
 have := made_list z n (n * z.size) rfl
 simpa [Builtin.zeroCells,madeCells] using this
end
theorem Le.cut {ts:List (Nat × AV)}{hs:List (Nat × Option (List AV))}{n:Nat}{z0:Lo}{i:Nat}{cs:List AV}(k:Nat) (hi:lkH hs i = some cs) :
  Le ⟨ts,hs,n,z0⟩ ⟨ts,(i,some (cs.take k)) :: hs,n,z0⟩ := by
 rintro C a w ⟨h0,ι,g,gh⟩
 have hσ : ∀ id c, lkH ((i, some (cs.take k)) :: hs) id = some c → ∃ c0, lkH hs id = some c0 ∧ (c = c0 ∨ c = c0.take k) := by
  intro id c h
  rw [lkH_c] at h
  split at h
  ·rename_i e;subst e;cases h;exact ⟨cs,hi,.inr rfl⟩
  ·exact ⟨c,h,.inl rfl⟩
 have car : Carry w (badOf C.X ι (lkH hs)) ι w (badOf C.X ι (lkH ((i, some (cs.take k)) :: hs))) ι := by
  refine ⟨fun b o' x h1 h2 => ⟨?_,h2⟩,fun _ _ h => h,fun _ => Nat.le_refl _⟩
  rintro (h | ⟨id,c,β,q1,q2⟩)
  ·exact h1 (.inl h)
  ·obtain ⟨c0, r, _⟩ := hσ id c q1
   exact h1 (.inr ⟨id,c0,β,r,q2⟩)
 refine ⟨h0,ι,⟨g.df,g.sz,fun t av ht => ?_⟩,⟨fun id c h => ?_,fun id id' c c' b β β' q1 q2 q3 q4 => ?_,gh.fr,gh.ex,gh.fresh⟩⟩
 ·obtain ⟨y, hy, hr⟩ := g.tm t av ht
  exact ⟨y,hy,Rd.carry car _ _ hr⟩
 ·obtain ⟨c0, r, e⟩ := hσ id c h
  rcases gh.obj id c0 r with ⟨h1,h2⟩ | ⟨b',β',arr',e',h1,h2,h3,h4,h5,h6⟩
  ·refine .inl ⟨h1, ?_⟩
   rcases e with e|e
   ·rw [e,h2]
   ·rw [e,h2]; simp
  ·refine .inr ⟨b', β', arr', e', h1, h2, ?_, ?_, h5, h6⟩
   ·rcases e with e | e
    ·rw [e]; exact h3
    ·rw [e,List.length_take]; omega
   ·have h7 := RdC.carryB car _ _ _ (fun o x hx => hx) h4
    rcases e with e|e
    ·rw [e]; exact h7
    ·rw [e]; exact RdC.take k h7
 ·obtain ⟨_, r1, _⟩ := hσ id c q1
  obtain ⟨_,r2,_⟩ := hσ id' c' q2
  exact gh.sep _ _ _ _ _ _ _ r1 r2 q3 q4
structure Co where
 val : Int
 alive : Bool
 next : Int
 av : AV
instance : Inhabited Co:=⟨⟨0,false,0,.imm 0 []⟩⟩
def cCo (c : Co) : List AV := [iv c.val,bv c.alive,iv c.next,c.av]
instance : FlT cCo 4:=⟨fun _ => rfl⟩
instance : FE cCo (fun c => [iv c.val,bv c.alive,iv c.next,c.av]):=⟨fun _ => rfl⟩
def toCo (c : Cl) : Co := ⟨c.val,c.alive,c.next,sl cTg c.stk⟩
def opn (m : List Cl) (j : Nat) (X : AV) : List Co := (m.map toCo).set j { toCo m[j]! with av := X }
theorem flat_toCo (m:List Cl):flat cCo (m.map toCo) = flat cCl m:=by
 unfold flat;rw [List.flatMap_map]; rfl
theorem opn_flat {m:List Cl}{j:Nat}{X:AV}(h:j < m.length):flat cCo (opn m j X) = flat cCl (m.take j) ++ ([iv m[j]!.val,bv m[j]!.alive,iv m[j]!.next] ++ X :: flat cCl (m.drop (j + 1))):=by
 unfold opn
 rw [List.set_eq_take_append_cons_drop,if_pos (by rw [List.length_map]; exact h),← flat_append,← List.map_take,flat_toCo,← List.map_drop]
 congr 1
 show cCo _ ++ flat cCo _ = _
 rw [flat_toCo]; rfl
theorem rn_opn {ρ:Nat → Option Nat}{m:List Cl}{j k i i':Nat}(hr:ρ i = some i'):RnL ρ (flat cCo (opn m j (.own i 0 k 2))) (flat cCo (opn m j (.own i' 0 k 2))):=by
 by_cases h : j < m.length
 ·rw [opn_flat h, opn_flat h]
  exact RnL.app (RnL.purI inferInstance) (RnL.app (RnL.purI inferInstance) (RnL.cons (RnV.own hr) (RnL.purI inferInstance)))
 ·have e : ∀ X, opn m j X = m.map toCo := fun X => List.set_eq_of_length_le (by rw [List.length_map]; omega)
  rw [e,e,flat_toCo]
  exact RnL.purI inferInstance
theorem sE {p:Prop}{α:Type}{a c:Option α}{b:α}(h:some b = c) (e:a = some b := by rfl):p ∨ a = c := .inr (e.trans h)
section
variable {P : Program} {N : Nat} {Q : Exit → AS → Prop} {all : Array Oper} {rest : List Oper} {ts : List (Nat × AV)} {hs : List (Nat × Option (List AV))} {n : Nat} {z0 : Lo} {md : Md}
variable {ty : TypeId} {pos : String} {af : Array Edge}
theorem rx_mcallA {d:Nat}{k:FuncId}{l:List Operand}{tys:Array TypeId}{avs avs0:List AV}{H0:List (Nat × Option (List AV))}{rr rr':AV}{hh:List (Nat × Option (List AV))}
  (mp : List Nat) (n1 : Nat) (ws : List (Nat × Option (List AV))) (h : MC P k avs0 H0 mp.length (fun _ : Unit => True) (fun _ => rr) (fun _ => hh)) [hc : CaT P k] (ha : evL (lk ts) l = some avs) (hd : distinct mp = true)
  (hM : Nat.ble (n + (n1 - mp.length)) big = true) (hN : Nat.blt d N = true)
  {md' : Md} [hmd : MdA md (rOs l ++ mp.map .inr) (ws.map (fun p => .inr p.1) ++ [.inl d]) md']
  (kk : RW P N all Q md' rest ⟨(d,rr') :: ts,wrH hs ws,n + (n1 - mp.length),z0⟩)
  (hH0 : hands hs H0 mp 0 mp := by repeat' (first|exact trivial|(refine And.intro ⟨_,_,rfl,by assumption,?_⟩ ?_)|exact RnL.purI inferInstance|exact rn_opn rfl|exact RnV.purI inferInstance|exact RnV.own rfl|exact RnV.optr rfl|exact RnL.nil|refine RnL.cons ?_ ?_|refine RnV.agg ?_|refine RnV.tup ?_))
  (hk : keysLt mp.length H0 = true := by rfl)
  (har : RnL (mp[·]?) avs0 avs := by repeat' (first|exact RnL.purI inferInstance|exact rn_opn rfl|exact RnV.purI inferInstance|exact RnV.own rfl|exact RnV.optr rfl|exact RnL.nil|refine RnL.cons ?_ ?_|refine RnV.agg ?_|refine RnV.tup ?_))
  (hr : RnV (rho mp n n1) rr rr' := by repeat' (first|exact RnL.purI inferInstance|exact rn_opn rfl|exact RnV.purI inferInstance|exact RnV.own rfl|exact RnV.optr rfl|exact RnL.nil|refine RnL.cons ?_ ?_|refine RnV.agg ?_|refine RnV.tup ?_))
  (hwa : wsAll mp ws = true := by simp [wsAll])
  (hw : wsChk (rho mp n n1) hh ws := by repeat' (first|exact trivial|(refine And.intro ⟨0,_,rfl,rfl,?_⟩ ?_)|(refine And.intro ⟨1,_,rfl,rfl,?_⟩ ?_)|(refine And.intro ⟨2,_,rfl,rfl,?_⟩ ?_)|(refine And.intro ⟨3,_,rfl,rfl,?_⟩ ?_)|(refine And.intro ⟨4,_,rfl,rfl,?_⟩ ?_)|(refine And.intro ⟨5,_,rfl,rfl,?_⟩ ?_)|(refine And.intro ⟨6,_,rfl,rfl,?_⟩ ?_)|exact RnL.purI inferInstance|exact rn_opn rfl|exact RnV.purI inferInstance|exact RnV.own rfl|exact RnV.optr rfl|exact RnL.nil|refine RnL.cons ?_ ?_|refine RnV.agg ?_|refine RnV.tup ?_)) :
  RW P N all Q md (⟨some d,.call ⟨.value (.func k),l.toArray,tys⟩,ty,pos,af,none⟩ :: rest) ⟨ts,hs,n,z0⟩ :=
 rx_mcallE mp n1 ws h (avs := avs) ha hd hH0 hk har hM hr hwa hw hN (md' := md') (hmd := hmd) kk
end
theorem stpb {G K:Prop}(k:K) (h:Hy K → G := by first|(intro k;(first|refine stp1 ?_ | refine stpa ?_);exact k.pf) | fail):G := h ⟨k⟩
def sbin (op : BinOp) (a b : ByteArray) : Option Value :=
 match op with
 | .add => if a.size + b.size ≤ 9000000000000000000 then some (.string (a ++ b)) else none
 | .eql => some (.bool (a.toList == b.toList))
 | .neq => some (.bool (!(a.toList == b.toList)))
 | _ => none
def bytF (s : ByteArray) (l : List Int) : ByteArray := l.foldl (fun r n => r.push (UInt8.ofNat n.toNat)) s
section
variable {P : Program} {C : Ctx} {ι : Pl} {T : Nat → Option AV} {F : Nat → Prop} {H : Nat → Option (List AV)} {a : Act} {w : World} {o : Oper}
theorem pu_sbin (g:TG C ι T H a w){op:BinOp}{t t':TypeId}{x y:Operand}{m n:ByteArray}{v:Value}(ho:o.op = .binOp op t x y t')
  (hx : ev T x = some (.v (.string m))) (hy : ev T y = some (.v (.string n))) (h : sbin op m n = some v) : Pu P C ι H a w o (.v v) := by
 have h1 := ev_ok g hx
 have h2 := ev_ok g hy
 simp only [Rd] at h1 h2
 refine ⟨v,?_,by simp [Rd]⟩
 have hg : (eqGuard op t x y (.string m) (.string n)).run P w = .ok () w := by
  unfold eqGuard
  cases op <;> simp
 have hb : (binOp op t (.string m) (.string n)).run P w = .ok v w := by
  cases op <;> simp only [sbin] at h <;> first|(cases h;done)|skip
  ·split at h
   ·rename_i hs
    cases h
    have h9 : ¬ (((m.size + n.size : Nat) : Int) > IntKind.i64.max) := by
     have : IntKind.i64.max = 9223372036854775807 := rfl
     omega
    show ((if ((m.size + n.size : Nat) : Int) > IntKind.i64.max then _ else pure (.string (m ++ n)) : Sem Value)).run P w = _
    rw [if_neg h9]; simp
   ·cases h
  all_goals (cases h;simp [binOp,Op.stringOp])
 simp only [execOp,ho,h1,h2,Sem.run_bind,hg,Result.andThen_ok,hb,Sem.run_pure]
theorem RdL_ints {bad:Nat → Prop}{k:IntKind}:∀ {ns:List Int}{l:List Value},RdL w bad ι (ns.map fun n => .v (.int k n)) l → l = ns.map (Value.int k)
 | [],l,h => by simp only [List.map_nil,RdL] at h;exact h
 | n :: ns, l, h => by
  simp only [List.map_cons,RdL] at h
  obtain ⟨x,l',rfl,h0,h1,h2⟩ := h
  simp only [Rd] at h1
  rw [h1,RdL_ints h2,List.map_cons]
theorem pu_b2s (g:TG C ι T H a w) (gh:HG C ι F H w){s t el:TypeId}{x:Operand}{av:AV}{m:Nat}{ns:List Int}(ho:o.op = .convert s t x) (hx:ev T x = some av)
  (ht : slOf P s = some el) (hu : inOf P el = some .u8) (hst : P.underlying t = some .string) (hs : sCells H 1 (kAV av) = some (m,ns.map fun n => .v (.int .u8 n))) :
  Pu P C ι H a w o (.v (.string (bytF .empty ns))) := by
 obtain ⟨ad,c,l,h1,h2,h3,h4,h5⟩ := sCells_ok gh (Rd_kAV (ev_ok g hx)) hs
 have hl := RdL_ints h3
 have hll : ns.length = m := by have := h2;rw [hl] at this;simpa using this
 refine ⟨.string (bytF .empty ns),?_,by simp [Rd]⟩
 have hcv : (convert s t (.slice ad m c)).run P w = (Conv.bytesToString (.slice ad m c)).run P w := run_convert_bytes_string w s t el ad m c (slOf_u ht) (inOf_u hu) hst
 have hrun : (Conv.bytesToString (.slice ad m c)).run P w = .ok (.string (bytF .empty ns)) w := by
  cases ad with
  | none =>
   rcases h5 with ⟨b,o',h⟩|h
   ·cases h
   ·subst h
    have : ns = [] := List.eq_nil_of_length_eq_zero hll
    subst this
    rfl
  | some ad =>
   have hload : (loadCells ad m).run P w = .ok (ns.map (Value.int .u8)).toArray w := by
    rcases h5 with ⟨b,o',h⟩|h
    ·cases h
     have := run_loadCells_list (P := P) w ⟨b,o',none⟩ l (fun j v hj => by rw [Addr.add_lit]; exact h4 b o' rfl j v hj)
     rw [h2,Nat.mul_one,hl] at this
     exact this
    ·subst h
     have : ns = [] := List.eq_nil_of_length_eq_zero hll
     subst this
     simp [loadCells,loadCellsFrom]
   exact run_bytesToString w ad m c ns hload
 simp only [execOp,ho,h1,Sem.run_bind,hcv,hrun,Result.andThen_ok,Sem.run_pure]
end
section
variable {P : Program} {N : Nat} {Q : Exit → AS → Prop} {all : Array Oper} {rest : List Oper} {ts : List (Nat × AV)} {hs : List (Nat × Option (List AV))} {n : Nat} {z0 : Lo} {md : Md}
variable {d : Nat} {ty : TypeId} {pos : String} {af : Array Edge}
theorem rx_sbin {op:BinOp}{t t':TypeId}{x y:Operand}{m m':ByteArray}{v:Value}(hx:ev (lk ts) x = some (.v (.string m))) (hy:ev (lk ts) y = some (.v (.string m')))
  (h : sbin op m m' = some v) (hN : Nat.blt d N = true) {md' : Md} [hmd : MdA md (rO x ++ rO y) [.inl d] md'] (kk : RW P N all Q md' rest ⟨(d,.v v) :: ts,hs,n,z0⟩) : RW P N all Q md (⟨some d,.binOp op t x y t',ty,pos,af,none⟩ :: rest) ⟨ts,hs,n,z0⟩ :=
 rw_pu rfl rfl (ltb hN) (fun C ι F T H a w ag g gh => pu_sbin g rfl (ag.l.ev.trans hx) (ag.r.ev.trans hy) h) (by rw [hmd.pf]; exact kk)
theorem rx_b2s {s t el:TypeId}{x:Operand}{av:AV}{m:Nat}(ns:List Int) [ht:SlT P s el] [hu:InT P el .u8] [hst:StT P t] (hx:ev (lk ts) x = some av)
  (hs' : sCells (lkH hs) 1 (kAV av) = some (m,ns.map fun n => .v (.int .u8 n))) (hN : Nat.blt d N = true) {md' : Md} [hmd : MdA md (rO x ++ rA av) [.inl d] md'] (kk : RW P N all Q md' rest ⟨(d,.v (.string (bytF .empty ns))) :: ts,hs,n,z0⟩) :
  RW P N all Q md (⟨some d,.convert s t x,ty,pos,af,none⟩ :: rest) ⟨ts,hs,n,z0⟩ :=
 rw_pu rfl rfl (ltb hN) (fun C ι F T H a w ag g gh => pu_b2s g gh rfl (ag.l.ev.trans hx) ht.pf hu.pf hst.pf (ag.r.sCells.trans hs')) (by rw [hmd.pf]; exact kk)
theorem rx_indexS {t:TypeId}{x i:Operand}{s:ByteArray}{k:IntKind}{m:Int}[ht:StT P t] (hx:ev (lk ts) x = some (.v (.string s)))
  (hi : ev (lk ts) i = some (.v (.int k m))) (hm : 0 ≤ m ∧ m < (s.size : Int)) (hN : Nat.blt d N = true) {md' : Md} [hmd : MdA md (rO x ++ rO i) [.inl d] md'] (kk : RW P N all Q md' rest ⟨(d,.v (.int .u8 ((s[m.toNat]!).toNat : Int))) :: ts,hs,n,z0⟩) :
  RW P N all Q md (⟨some d,.index t x i,ty,pos,af,none⟩ :: rest) ⟨ts,hs,n,z0⟩ :=
 rw_indexS (b := s[m.toNat]!) hx hi ht.pf hm.1 (by rw [getElem!_pos s m.toNat (by omega),getElem?_pos s m.toNat (by omega)]) (ltb hN) (by rw [hmd.pf]; exact kk)
theorem rx_sliceS {t:TypeId}{x:Operand}{lo hi:Option Operand}{s:ByteArray}{l h:Nat}[ht:StT P t] (hx:ev (lk ts) x = some (.v (.string s)))
  (hl : bndA (lk ts) lo 0 = some l) (hh : bndA (lk ts) hi s.size = some h) (hc : l ≤ h ∧ h ≤ s.size) (hN : Nat.blt d N = true) {md' : Md} [hmd : MdA md (rO x ++ (rB lo ++ rB hi)) [.inl d] md'] (kk : RW P N all Q md' rest ⟨(d,.v (.string (s.extract l h))) :: ts,hs,n,z0⟩) :
  RW P N all Q md (⟨some d,.slice t x lo hi none,ty,pos,af,none⟩ :: rest) ⟨ts,hs,n,z0⟩ := rw_sliceS hx ht.pf hl hh hc (ltb hN) (by rw [hmd.pf]; exact kk)
theorem u8_in (m:Int) (h:0 ≤ m ∧ m ≤ 255):IntKind.u8.wrap m = m:=by
 have : IntKind.u8.wrap m = m % 256 := rfl
 rw [this]; omega
theorem rx_addU {t t':TypeId}{x y:Operand}{m m':Int}(hx:ev (lk ts) x = some (.v (.int .u8 m))) (hy:ev (lk ts) y = some (.v (.int .u8 m')))
  (h : 0 ≤ m + m' ∧ m + m' ≤ 255) (hN : Nat.blt d N = true) {md' : Md} [hmd : MdA md (rO x ++ rO y) [.inl d] md'] (kk : RW P N all Q md' rest ⟨(d,.v (.int .u8 (m + m'))) :: ts,hs,n,z0⟩) : RW P N all Q md (⟨some d,.binOp .add t x y t',ty,pos,af,none⟩ :: rest) ⟨ts,hs,n,z0⟩ :=
 rw_ibin hx hy (.inl rfl) (v := .int .u8 (m + m')) (by simp only [ibin,u8_in _ h]) (ltb hN) (by rw [hmd.pf]; exact kk)
theorem rx_subU {t t':TypeId}{x y:Operand}{m m':Int}(hx:ev (lk ts) x = some (.v (.int .u8 m))) (hy:ev (lk ts) y = some (.v (.int .u8 m')))
  (h : 0 ≤ m - m' ∧ m - m' ≤ 255) (hN : Nat.blt d N = true) {md' : Md} [hmd : MdA md (rO x ++ rO y) [.inl d] md'] (kk : RW P N all Q md' rest ⟨(d,.v (.int .u8 (m - m'))) :: ts,hs,n,z0⟩) : RW P N all Q md (⟨some d,.binOp .sub t x y t',ty,pos,af,none⟩ :: rest) ⟨ts,hs,n,z0⟩ :=
 rw_ibin hx hy (.inl rfl) (v := .int .u8 (m - m')) (by simp only [ibin,u8_in _ h]) (ltb hN) (by rw [hmd.pf]; exact kk)
theorem rx_convU {s t:TypeId}{x:Operand}{k':IntKind}{m:Int}[hd:InT P t .u8] [hs':InT P s k'] (hx:ev (lk ts) x = some (.v (.int k' m))) (h:0 ≤ m ∧ m ≤ 255) (hN:Nat.blt d N = true){md':Md}[hmd:MdA md (rO x) [.inl d] md'] (kk:RW P N all Q md' rest ⟨(d,.v (.int .u8 m)) :: ts,hs,n,z0⟩) :
  RW P N all Q md (⟨some d,.convert s t x,ty,pos,af,none⟩ :: rest) ⟨ts,hs,n,z0⟩ := rw_conv hx hd.pf hs'.pf (ltb hN) (by rw [hmd.pf,u8_in _ h]; exact kk)
end
theorem bytF_size (n:Int):(bytF .empty [n]).size = 1 := rfl
theorem sadd_ok {a b:ByteArray}(h:a.size + b.size ≤ 9000000000000000000):sbin .add a b = some (.string (a ++ b)) := if_pos h
def bytF' (l : List Int) : ByteArray := l.foldl (fun r n => r.push (UInt8.ofNat n.toNat)) .empty
def letF (v : Int) : ByteArray := bytF' [97 + v]
def decF (n : Int) : ByteArray := bytF' [48 + n] ++ .empty
theorem bsz_lit (l:List UInt8):ByteArray.size ⟨l.toArray⟩ = l.length := rfl
theorem letF_size (v:Int):(letF v).size = 1 := rfl
theorem decF_size (v:Int):(decF v).size = 1 := by simp [decF,bytF',ByteArray.size_append]
def joinF (out : ByteArray) (k : Nat) (t : ByteArray) : ByteArray := (if 0 < k then out ++ ⟨#[59]⟩ else out) ++ t
mutual
def textS : Stmt → ByteArray
 | .mk op x y n th el =>
  if op = 1 then (letF x ++ ⟨#[61]⟩) ++ decF n
  else if op = 2 then (letF x ++ ⟨#[61,98,111,120,32]⟩) ++ decF n
  else if op = 3 then (letF x ++ ⟨#[61]⟩) ++ letF y
  else if op = 4 then (letF x ++ ⟨#[61,38]⟩) ++ letF y
  else if op = 5 then (letF x ++ ⟨#[61,38,109,117,116,32]⟩) ++ letF y
  else if op = 6 then (letF x ++ ⟨#[61,42]⟩) ++ letF y
  else if op = 7 then ((⟨#[42]⟩ ++ letF x) ++ ⟨#[61]⟩) ++ letF y
  else if op = 8 then ⟨#[100,114,111,112,32]⟩ ++ letF x
  else if op = 10 then (⟨#[108,111,111,112,123]⟩ ++ textA .empty 0 th) ++ ⟨#[125]⟩
  else (((⟨#[105,102,123]⟩ ++ textA .empty 0 th) ++ ⟨#[125,123]⟩) ++ textA .empty 0 el) ++ ⟨#[125]⟩
def textA (out : ByteArray) (k : Nat) : List Stmt → ByteArray
 | [] => out
 | s :: l => textA (joinF out k (textS s)) (k + 1) l
end
def textL (l : List Stmt) : ByteArray := textA .empty 0 l
theorem textA_snoc:∀ (l:List Stmt) (out:ByteArray) (k:Nat) (s:Stmt),textA out k (l ++ [s]) = joinF (textA out k l) (k + l.length) (textS s)
 | [],out,k,s => by simp only [List.nil_append,textA,List.length_nil,Nat.add_zero]
 | x :: l, out, k, s => by
  simp only [List.cons_append,textA,textA_snoc l,List.length_cons]
  rw [show k + 1 + l.length = k + (l.length + 1) from by omega]
theorem textL_succ (l:List Stmt) (k:Nat) (h:k < l.length):textL (l.take (k + 1)) = joinF (textL (l.take k)) k (textS l[k]!):=by
 rw [take_succB _ _ h,textL,textA_snoc,List.length_take,Nat.min_eq_left (by omega),Nat.zero_add]; rfl
theorem textS_def (s:Stmt):textS s = 
  if s.op = 1 then (letF s.x ++ ⟨#[61]⟩) ++ decF s.n
  else if s.op = 2 then (letF s.x ++ ⟨#[61,98,111,120,32]⟩) ++ decF s.n
  else if s.op = 3 then (letF s.x ++ ⟨#[61]⟩) ++ letF s.y
  else if s.op = 4 then (letF s.x ++ ⟨#[61,38]⟩) ++ letF s.y
  else if s.op = 5 then (letF s.x ++ ⟨#[61,38,109,117,116,32]⟩) ++ letF s.y
  else if s.op = 6 then (letF s.x ++ ⟨#[61,42]⟩) ++ letF s.y
  else if s.op = 7 then ((⟨#[42]⟩ ++ letF s.x) ++ ⟨#[61]⟩) ++ letF s.y
  else if s.op = 8 then ⟨#[100,114,111,112,32]⟩ ++ letF s.x
  else if s.op = 10 then (⟨#[108,111,111,112,123]⟩ ++ textL s.th) ++ ⟨#[125]⟩
  else (((⟨#[105,102,123]⟩ ++ textL s.th) ++ ⟨#[125,123]⟩) ++ textL s.el) ++ ⟨#[125]⟩ := by
 cases s;rw [textS]; rfl
mutual
theorem textS_size:∀ s,(textS s).size + 1 ≤ 11 * cntS s
 | .mk op x y n th el => by
  have h1 := textA_size th .empty 0
  have h2 := textA_size el .empty 0
  have h3 : ByteArray.size .empty = 0 := rfl
  rw [textS]
  simp only [cntS]
  repeat' split
  all_goals simp only [ByteArray.size_append,bsz_lit,List.length_cons,List.length_nil,letF_size,decF_size]
  all_goals omega
theorem textA_size:∀ (l:List Stmt) (out:ByteArray) (k:Nat),(textA out k l).size ≤ out.size + 11 * cntL l
 | [],out,k => by simp only [textA,cntL]; omega
 | s :: l, out, k => by
  have h1 := textS_size s
  have h2 := textA_size l (joinF out k (textS s)) (k + 1)
  have h3 : (joinF out k (textS s)).size ≤ out.size + 1 + (textS s).size := by
   unfold joinF;split <;> simp only [ByteArray.size_append,bsz_lit,List.length_cons,List.length_nil] <;> omega
  simp only [textA,cntL]
  omega
end
theorem textL_size (l:List Stmt):(textL l).size ≤ 11 * cntL l:=by
 have := textA_size l .empty 0
 have h3 : ByteArray.size .empty = 0 := rfl
 unfold textL;omega
theorem simple_bd {ts:List Int}{s:Stmt}(ht:typesOk ts = true) (h:simpleF ts s = true):1 ≤ s.op ∧ s.op ≤ 8 ∧ 0 ≤ s.x ∧ s.x ≤ 5 ∧ 0 ≤ s.y ∧ s.y ≤ 5 ∧ (s.op = 1 ∨ s.op = 2 → 0 ≤ s.n ∧ s.n ≤ 9):=by
 have hl := typesOk_len ht
 have hx := typeAt_pos ht s.x
 have hy := typeAt_pos ht s.y
 unfold simpleF at h
 dsimp only at h
 repeat' split at h
 all_goals (first|(simp only [decide_eq_true_eq] at h;omega)|(simp at h;done))
end Go.AL
namespace Go.AL
theorem lt_bits {A n:Nat}(hv:∀ v,A.testBit v = true → v < n):A < 2 ^ n := Nat.lt_pow_two_of_testBit _ fun v h => by
 cases hq : Nat.testBit _ v with
 | false => rfl
 | true => have := hv v hq;omega
theorem sm_bits {A n:Nat}(hn:n ≤ 62) (hv:A < 2 ^ n):Sm A := ⟨Nat.lt_of_lt_of_le hv (Nat.pow_le_pow_right (by decide) hn)⟩
structure FB (ts : List Int) (pts : List Pnt) (f : Flows ts pts) : Prop where
 la : f.Aa.length = pts.length
 lm : f.Am.length = pts.length
 ln : f.An.length = pts.length
 ll : f.Al.length = pts.length
 lp : f.Ap.length = pts.length
 bA : ∀ i : Nat,f.Aa[i]! < 2 ^ ts.length
 bM : ∀ i : Nat,f.Am[i]! < 2 ^ ts.length
 bN : ∀ i : Nat,f.An[i]! < 2 ^ ts.length
 bL : ∀ i : Nat,f.Al[i]! < 2 ^ ts.length
 bP : ∀ i : Nat,f.Ap[i]! < 2 ^ pts.length
 sA : ∀ i : Nat,Sm f.Aa[i]!
 sM : ∀ i : Nat,Sm f.Am[i]!
 sN : ∀ i : Nat,Sm f.An[i]!
 sL : ∀ i : Nat,Sm f.Al[i]!
 sP : ∀ i : Nat,Sm f.Ap[i]!
 rl : ∀ i,i < pts.length → (row6 f.Af i).length = 6
 rs : ∀ i,i < pts.length → ∀ z : Nat,Sm (row6 f.Af i)[z]!
 af : ∀ i,i < pts.length → afF pts f.An i = f.Al[i]!
 kp : ∀ i,i < pts.length → kpF ts pts[i]! f.Al[i]! (row6 f.Af i) < 2 ^ pts.length
 lo : ∀ i,i < pts.length → kpF ts pts[i]! f.Al[i]! (row6 f.Af i) &&& f.Ap[i]! < 2 ^ pts.length
 cf : ∀ i,i < pts.length → cfN ts pts f.Am f.Al f.Af f.Ap i < 2 ^ pts.length
theorem Flows.bnd {ts:List Int}{pts:List Pnt}(f:Flows ts pts) (w:WG ts pts):FB ts pts f:=by
 have hpl := w.pl
 have htl := w.tl
 have off : ∀ {A : List Nat} {n : Nat} {i : Nat}, A.length = pts.length → ¬ i < pts.length → A[i]! < 2 ^ n := fun {A n i} h hi => by
  rw [getElem!_neg A i (by omega)]; exact Nat.pow_pos (by decide)
 have bA : ∀ i : Nat, f.Aa[i]! < 2 ^ ts.length := fun i => by
  by_cases hi : i < pts.length
  ·exact lt_bits fun v hv => ((f.ga.2 i hi v).1 hv).1
  ·exact off f.ga.1 hi
 have bM : ∀ i : Nat, f.Am[i]! < 2 ^ ts.length := fun i => by
  by_cases hi : i < pts.length
  ·exact lt_bits fun v hv => Mb_lt w ((f.gm.2 i hi v).1 hv)
  ·exact off f.gm.1 hi
 have bN : ∀ i : Nat, f.An[i]! < 2 ^ ts.length := fun i => by
  by_cases hi : i < pts.length
  ·exact lt_bits fun v hv => Nd_lt w ((f.gn.2 i hi v).1 hv)
  ·exact off f.gn.1 hi
 have bL : ∀ i : Nat, f.Al[i]! < 2 ^ ts.length := fun i => by
  by_cases hi : i < pts.length
  ·exact lt_bits fun v hv => by obtain ⟨k,_,h⟩ := (f.gl.2 i hi v).1 hv;exact Nd_lt w h
  ·exact off f.gl.1 hi
 have bP : ∀ i : Nat, f.Ap[i]! < 2 ^ pts.length := fun i => by
  by_cases hi : i < pts.length
  ·exact lt_bits fun v hv => (Pl_ln ((f.gp.2 i hi v).1 hv)).1
  ·exact off f.gp.1 hi
 have rs : ∀ i, i < pts.length → ∀ z : Nat, (row6 f.Af i)[z]! < 2 ^ pts.length := fun i hi z => by
  by_cases hz : z < 6
  ·rw [row6_at f.gf.1 hi hz]
   exact lt_bits fun v hv => (Fr_lt w ((f.gf.2 i z hi hz v).1 hv)).2.2
  ·rw [getElem!_neg _ z (by rw [row6_len f.gf.1 hi]; exact hz)]; exact Nat.pow_pos (by decide)
 have kp : ∀ i, i < pts.length → kpF ts pts[i]! f.Al[i]! (row6 f.Af i) < 2 ^ pts.length := fun i hi => lt_bits fun v hv => by
  unfold kpF at hv
  rw [testBit_orL] at hv
  rcases hv with hv | ⟨z,hz,hv⟩
  ·simp at hv
  ·exact lt_of_bits (rs i hi _) hv
 have lo : ∀ i,i < pts.length → kpF ts pts[i]! f.Al[i]! (row6 f.Af i) &&& f.Ap[i]! < 2 ^ pts.length := fun i hi => Nat.and_lt_two_pow _ (bP i)
 refine ⟨f.ga.1, f.gm.1, f.gn.1, f.gl.1, f.gp.1, bA, bM, bN, bL, bP, fun i => sm_bits (by omega) (bA i), fun i => sm_bits (by omega) (bM i), fun i => sm_bits (by omega) (bN i), fun i => sm_bits (by omega) (bL i), fun i => sm_bits (by omega) (bP i),
  fun i hi => row6_len f.gf.1 hi,fun i hi z => sm_bits (by omega) (rs i hi z),fun i hi => ?_,kp,lo,fun i hi => cfN_lt w (bP i)⟩
 rw [goodL_ext f.gl (goodL_of w f.gn),mapR_get _ _ _ hi]
end Go.AL
namespace Go.AL
open Go.RowKit
section
variable {P : Program} {C : Ctx} {ι : Pl} {T : Nat → Option AV} {F : Nat → Prop} {H : Nat → Option (List AV)} {a : Act} {w : World} {o : Oper}
theorem run_bounds3 (g:TG C ι T H a w){lo hi:Option Operand}{mx:Operand}{n cap l h m:Nat}(hl:bndA T lo 0 = some l) (hh:bndA T hi n = some h) (hm:bndA T (some mx) n = some m) (his:hi.isSome = true) (hlh:l ≤ h) (hn:h ≤ m) (hc:m ≤ cap) :
  (Instr.sliceBounds true n cap (lo.map a.eval) (hi.map a.eval) (some (a.eval mx))).run P w = .ok (l,h,m) w := by
 have hl2 : (l : Int) ≤ (h : Int) := by omega
 have hm2 : (m : Int) ≤ (cap : Int) := by omega
 have hh2 : (h : Int) ≤ (m : Int) := by omega
 obtain ⟨x3, k3, e3, hx3⟩ : ∃ x k, some mx = some x ∧ a.eval x = .int k (m : Int) := by
  rcases bnd_ok g hm with ⟨e,_⟩|h
  ·cases e
  ·exact h
 cases e3
 rcases bnd_ok g hl with ⟨rfl,rfl⟩ | ⟨x,k,rfl,hx⟩ <;> rcases bnd_ok g hh with ⟨rfl,rfl⟩ | ⟨y,k',rfl,hy⟩ <;> first|(cases his;done)|simp [Instr.sliceBounds,Instr.sliceBound,asIntOf, *]
theorem run_boundsC (g:TG C ι T H a w){lo hi:Option Operand}{n cap l h:Nat}(hl:bndA T lo 0 = some l) (hh:bndA T hi n = some h) (hlh:l ≤ h) (hn:h ≤ cap) (hc:n ≤ cap) :
  (Instr.sliceBounds true n cap (lo.map a.eval) (hi.map a.eval) none).run P w = .ok (l,h,cap) w := by
 have hc2 : (h : Int) ≤ (cap : Int) := by omega
 have hl2 : (l : Int) ≤ (h : Int) := by omega
 rcases bnd_ok g hl with ⟨rfl, rfl⟩ | ⟨x, k, rfl, hx⟩ <;> rcases bnd_ok g hh with ⟨rfl, rfl⟩ | ⟨y, k', rfl, hy⟩ <;>
  simp [Instr.sliceBounds,Instr.sliceBound,asIntOf, *]
theorem pu_slice3 (g:TG C ι T H a w){t el:TypeId}{x mx:Operand}{lo hi:Option Operand}{id off n e l h m:Nat}(ho:o.op = .slice t x lo hi (some mx)) (hx:ev T x = some (.own id off n e))
  (ht : slOf P t = some el) (he : szOf P el = some e) (his : hi.isSome = true) (hl : bndA T lo 0 = some l) (hh : bndA T hi n = some h) (hm : bndA T (some mx) n = some m) (hc : l ≤ h ∧ h ≤ m ∧ m ≤ n) : Pu P C ι H a w o (.own id (off + l * e) (h - l) e) := by
 have h1 := ev_ok g hx
 have hu := slOf_u ht
 simp only [Rd] at h1
 rcases h1 with ⟨⟨p,h1⟩,rfl,a',h3⟩ | ⟨b,β,c,h1,h3,h4,h5⟩
 ·have hr := run_bounds3 (P := P) (w := w) (cap := 0) g hl hh hm his hc.1 hc.2.1 hc.2.2
  have e1 : m = 0 := by omega
  have e2 : h = 0 := by omega
  have e3 : l = 0 := by omega
  subst e1 e2 e3
  refine ⟨.slice a' 0 0,?_,?_⟩
  ·simp [execOp,ho,h3,Instr.sliceAt,run_und hu,Instr.slice,hr,run_sz he]
  ·simp only [Rd]; exact .inl ⟨⟨p,h1⟩,by simp,a',rfl⟩
 ·have hr := run_bounds3 (P := P) (w := w) (cap := c) g hl hh hm his hc.1 hc.2.1 (by omega)
  by_cases h0 : m = l
  ·have e1 : h = l := by omega
   subst e1 h0
   refine ⟨.slice (some ⟨b,β + off,none⟩) 0 0,?_,?_⟩
   ·simp [execOp,ho,h3,Instr.sliceAt,run_und hu,Instr.slice,hr,run_sz he]
   ·simp only [Rd]; exact .inl ⟨⟨_,h1⟩,by simp,some ⟨b,β + off,none⟩,by simp⟩
  ·refine ⟨.slice (some ⟨b, β + (off + l * e), none⟩) (h - l) (m - l), ?_, ?_⟩
   ·simp [execOp,ho,h3,Instr.sliceAt,run_und hu,Instr.slice,hr,run_sz he,h0,Addr.add_lit,Nat.add_assoc]
   ·simp only [Rd]
    refine .inr ⟨b,β,m - l,h1,rfl,by omega,?_⟩
    rw [Nat.sub_mul]
    have q1 : l * e ≤ m * e := Nat.mul_le_mul_right _ (by omega)
    have q2 : m * e ≤ c * e := Nat.mul_le_mul_right _ (by omega)
    omega
theorem pu_sliceC (g:TG C ι T H a w){t el:TypeId}{x:Operand}{hi:Option Operand}{id off n e h:Nat}(ho:o.op = .slice t x none hi none) (hx:ev T x = some (.own id off n e))
  (ht : slOf P t = some el) (he : szOf P el = some e) (hh : bndA T hi n = some h) (hc : h ≤ n) (h0 : 0 < n) : Pu P C ι H a w o (.ownc id off h n e) := by
 have h1 := ev_ok g hx
 have hu := slOf_u ht
 simp only [Rd] at h1
 rcases h1 with ⟨_,rfl,_⟩ | ⟨b,β,c,h1,h3,h4,h5⟩
 ·omega
 ·have hr := run_bounds (P := P) (w := w) (is := true) (cap := c) g (lo := none) rfl hh (Nat.zero_le _) hc h4
  refine ⟨.slice (some ⟨b,β + off,none⟩) h c,?_,?_⟩
  ·have hr' : (Instr.sliceBounds true n c none (hi.map a.eval) none).run P w = .ok (0, h, c) w := hr
   simp [execOp,ho,h3,Instr.sliceAt,run_und hu,Instr.slice,hr',run_sz he,Addr.add_lit]
  ·simp only [Rd]; exact ⟨b,β,c,h1,rfl,hc,h4,h5⟩
theorem pu_sliceCC (g:TG C ι T H a w){t el:TypeId}{x:Operand}{lo hi:Option Operand}{id off n k e l h:Nat}(ho:o.op = .slice t x lo hi none) (hx:ev T x = some (.ownc id off n k e))
  (ht : slOf P t = some el) (he : szOf P el = some e) (hl : bndA T lo 0 = some l) (hh : bndA T hi n = some h) (hc : l < h ∧ h ≤ k) : Pu P C ι H a w o (.own id (off + l * e) (h - l) e) := by
 have h1 := ev_ok g hx
 have hu := slOf_u ht
 simp only [Rd] at h1
 obtain ⟨b,β,c,h1,h3,h4,h4',h5⟩ := h1
 have hr := run_boundsC (P := P) (w := w) (cap := c) g hl hh (by omega) (by omega) (by omega)
 refine ⟨.slice (some ⟨b,β + (off + l * e),none⟩) (h - l) (c - l),?_,?_⟩
 ·simp [execOp,ho,h3,Instr.sliceAt,run_und hu,Instr.slice,hr,run_sz he,show ¬ c = l from by omega,Addr.add_lit,Nat.add_assoc]
 ·simp only [Rd]
  refine .inr ⟨b,β,c - l,h1,rfl,by omega,?_⟩
  rw [Nat.sub_mul]
  have : l * e ≤ c * e := Nat.mul_le_mul_right _ (by omega)
  omega
theorem pu_lenC (g:TG C ι T H a w){t:TypeId}{x:Operand}{ts:Array TypeId}{el:TypeId}{id off n k e:Nat}(ho:o.op = .call ⟨.builtin .len,#[x],ts⟩) (hts:ts[0]? = some t) (hx:ev T x = some (.ownc id off n k e))
  (ht : slOf P t = some el) : Pu P C ι H a w o (.v (.int .i64 n)) := by
 have h1 := ev_ok g hx
 have hu := slOf_u ht
 simp only [Rd] at h1
 obtain ⟨b,β,c,h1,h3,h4,h4',h5⟩ := h1
 refine ⟨.int .i64 n,?_,by simp only [Rd]⟩
 simp [execOp,ho,resolve,invoke,builtin,Builtin.len_,hts,h3,run_und hu,goInt]
theorem ef_appendIn (gh:HG C ι F H w){t el:TypeId}{x y:Operand}{id off n m k e:Nat}{av:AV}{cs new:List AV}{zs:List Value}
  (ho : o.op = .call ⟨.builtin .append,#[x,y],#[t,t]⟩) (hx : Rd w (badOf C.X ι H) ι (.ownc id off n k e) (a.eval x)) (hy : Rd w (badOf C.X ι H) ι av (a.eval y))
  (ht : slOf P t = some el) (he : szOf P el = some e) (hz : zrOf P el = some zs)
  (hH : H id = some cs) (hs : sCells H e (kAV av) = some (m,new)) (hk : n + m ≤ k) (hl : off + n * e + new.length ≤ cs.length) :
  Ef P C ι F H a w o (.ownc id off (n + m) k e) (upd H id (some (spl cs (off + n * e) new))) := by
 obtain ⟨i,z,h1,h2,h3,h4⟩ := zrOf_i hz
 have hu := slOf_u ht
 have hsz := szOf_i he h1
 obtain ⟨ad,c2,l,hy2,hll,hrl,hcell,had⟩ := sCells_ok gh (Rd_kAV hy) hs
 simp only [Rd] at hx
 obtain ⟨b,β,c,p1,p2,p3,p4,p5⟩ := hx
 have hlenx : (Builtin.lenOf (a.eval y)).run P w = .ok m w := by rw [hy2]; rfl
 have hnew : (Builtin.firstCells i.size m (a.eval y)).run P w = .ok l.toArray w := by
  rw [hy2]
  rcases had with ⟨b,o',rfl⟩|h0
  ·rw [hsz]; exact first_some hll (hcell b o' rfl) w (fun _ => rfl) m
  ·subst h0
   have : l = [] := List.eq_nil_of_length_eq_zero (by simpa using hll)
   subst this
   cases ad with
   | none => rfl
   | some ad => simp [Builtin.firstCells,loadCells,loadCellsFrom]
 obtain ⟨w',q1,q2,q3⟩ := store_ok (P := P) gh hH p1 hl hrl
 have hroom : n + m ≤ c := by omega
 have hst : (storeCells ⟨b,β + off + n * i.size,none⟩ l).run P w = .ok () w' := by rw [hsz,Nat.add_assoc]; exact q1
 have hr : (Builtin.append_ #[t, t] o.type #[a.eval x, a.eval y]).run P w = .ok (.slice (some ⟨b, β + off, none⟩) (n + m) c) w' := by
  rw [p2]
  simp [Builtin.append_,run_und hu,sizeOf,typeInfo,h1,hlenx,hroom,hnew,Addr.add_lit,hst]
 refine ⟨_,.slice (some ⟨b,β + off,none⟩) (n + m) c,ι,w',?_,.inl ⟨rfl,?_⟩,q2,q3⟩
 ·simp [execOp,ho,resolve,invoke,builtin,hr]
 ·simp only [Rd]
  exact ⟨b,β,c,p1,rfl,hk,p4,Nat.le_trans p5 (q3.bs b)⟩
theorem RdL_flat {bad:Nat → Prop}{zs:List Value}(h:zs.all (·.oneCell') = true):∀ n,RdL w bad ι (List.replicate n (zs.map AV.v)).flatten (List.replicate n zs).flatten
 | 0 => by simp [RdL]
 | n + 1 => by
  rw [List.replicate_succ,List.replicate_succ,List.flatten_cons,List.flatten_cons]
  exact RdL.append (RdL_v h) (RdL_flat h n)
theorem ef_clear (gh:HG C ι F H w){t el:TypeId}{x:Operand}{id off n e:Nat}{cs:List AV}{zs:List Value}
  (ho : o.op = .call ⟨.builtin .clear,#[x],#[t]⟩) (hx : Rd w (badOf C.X ι H) ι (.own id off n e) (a.eval x)) (hd : o.dst = none)
  (ht : slOf P t = some el) (he : szOf P el = some e) (hz : zrOf P el = some zs) (hze : zs.length = e)
  (hH : H id = some cs) (h0 : 0 < n) (hl : off + n * e ≤ cs.length) :
  Ef P C ι F H a w o (.tup []) (upd H id (some (spl cs off (List.replicate n (zs.map AV.v)).flatten))) := by
 obtain ⟨i,z,h1,h2,h3,h4⟩ := zrOf_i hz
 have hu := slOf_u ht
 have hsz := szOf_i he h1
 simp only [Rd] at hx
 rcases hx with ⟨_,rfl,_⟩ | ⟨b,β,c,p1,p2,p3,p4⟩
 ·omega
 have hlen : ((List.replicate n (zs.map AV.v)).flatten).length = n * e := by
  rw [List.length_flatten]; simp [hze]
 obtain ⟨w',q1,q2,q3⟩ := store_ok (P := P) gh hH p1 (off := off) (new := (List.replicate n (zs.map AV.v)).flatten) (by rw [hlen]; exact hl) (RdL_flat h4 n)
 have hr : (Builtin.clear_ #[t] o.type #[a.eval x]).run P w = .ok (.tuple #[]) w' := by
  rw [p2]
  cases n with
  | zero => omega
  | succ n =>
   have hzc : (Builtin.zeroCells z.cells (n + 1)).toList = (List.replicate (n + 1) zs).flatten := by rw [zeroCells_list,h3]
   simp [Builtin.clear_,run_und hu,zeroValue,typeInfo,h1,h2,hzc,q1]
 refine ⟨.value (.tuple #[]),.tuple #[],ι,w',?_,.inl ⟨rfl,?_⟩,q2,q3⟩
 ·simp [execOp,ho,resolve,invoke,builtin,hr]
 ·simp only [Rd]; exact ⟨[],rfl,by simp [RdV]⟩
end
section
variable {P : Program} {N : Nat} {Q : Exit → AS → Prop} {all : Array Oper} {rest : List Oper} {ts : List (Nat × AV)} {hs : List (Nat × Option (List AV))} {n : Nat} {z0 : Lo} {md : Md}
variable {d : Nat} {ty : TypeId} {pos : String} {af : Array Edge}
theorem rx_slice3 {t el e:TypeId}{x hi mx:Operand}{lo:Option Operand}{id off m l h k:Nat}[ht:SlT P t el] [he:SzT P el e] (hx:ev (lk ts) x = some (.own id off m e))
  (hl : bndA (lk ts) lo 0 = some l) (hh : bndA (lk ts) (some hi) m = some h) (hm : bndA (lk ts) (some mx) m = some k) (hc : l ≤ h ∧ h ≤ k ∧ k ≤ m) (hN : Nat.blt d N = true) {md' : Md} [hmd : MdA md (rO x ++ (rB lo ++ (rB (some hi) ++ rB (some mx)))) [.inl d] md']
  (kk : RW P N all Q md' rest ⟨(d,.own id (off + l * e) (h - l) e) :: ts,hs,n,z0⟩) : RW P N all Q md (⟨some d,.slice t x lo (some hi) (some mx),ty,pos,af,none⟩ :: rest) ⟨ts,hs,n,z0⟩ :=
 rw_pu rfl rfl (ltb hN) (fun C ι F T H a w ag g gh => pu_slice3 g rfl (ag.l.ev.trans hx) ht.pf he.pf rfl (ag.r.l.bnd.trans hl) (ag.r.r.l.bnd.trans hh) (ag.r.r.r.bnd.trans hm) hc) (by rw [hmd.pf]; exact kk)
theorem rx_sliceC {t el e:TypeId}{x:Operand}{hi:Option Operand}{id off m h:Nat}[ht:SlT P t el] [he:SzT P el e] (hx:ev (lk ts) x = some (.own id off m e))
  (hh : bndA (lk ts) hi m = some h) (hc : h ≤ m) (h0 : 0 < m) (hN : Nat.blt d N = true) {md' : Md} [hmd : MdA md (rO x ++ rB hi) [.inl d] md']
  (kk : RW P N all Q md' rest ⟨(d,.ownc id off h m e) :: ts,hs,n,z0⟩) : RW P N all Q md (⟨some d,.slice t x none hi none,ty,pos,af,none⟩ :: rest) ⟨ts,hs,n,z0⟩ :=
 rw_pu rfl rfl (ltb hN) (fun C ι F T H a w ag g gh => pu_sliceC g rfl (ag.l.ev.trans hx) ht.pf he.pf (ag.r.bnd.trans hh) hc h0) (by rw [hmd.pf]; exact kk)
theorem rx_sliceCC {t el e:TypeId}{x:Operand}{lo hi:Option Operand}{id off m k l h:Nat}[ht:SlT P t el] [he:SzT P el e] (hx:ev (lk ts) x = some (.ownc id off m k e))
  (hl : bndA (lk ts) lo 0 = some l) (hh : bndA (lk ts) hi m = some h) (hc : l < h ∧ h ≤ k) (hN : Nat.blt d N = true) {md' : Md} [hmd : MdA md (rO x ++ (rB lo ++ rB hi)) [.inl d] md']
  (kk : RW P N all Q md' rest ⟨(d,.own id (off + l * e) (h - l) e) :: ts,hs,n,z0⟩) : RW P N all Q md (⟨some d,.slice t x lo hi none,ty,pos,af,none⟩ :: rest) ⟨ts,hs,n,z0⟩ :=
 rw_pu rfl rfl (ltb hN) (fun C ι F T H a w ag g gh => pu_sliceCC g rfl (ag.l.ev.trans hx) ht.pf he.pf (ag.r.l.bnd.trans hl) (ag.r.r.bnd.trans hh) hc) (by rw [hmd.pf]; exact kk)
theorem rx_lenC {t el:TypeId}{x:Operand}{l:List TypeId}{id off m k e:Nat}[ht:SlT P t el] (hx:ev (lk ts) x = some (.ownc id off m k e)) (hN:Nat.blt d N = true){md':Md}[hmd:MdA md (rO x) [.inl d] md']
  (kk : RW P N all Q md' rest ⟨(d,.v (.int .i64 (m : Int))) :: ts,hs,n,z0⟩) : RW P N all Q md (⟨some d,.call ⟨.builtin .len,#[x],(t :: l).toArray⟩,ty,pos,af,none⟩ :: rest) ⟨ts,hs,n,z0⟩ :=
 rw_pu rfl rfl (ltb hN) (fun C ι F T H a w ag g gh => pu_lenC g rfl (by simp) (ag.ev.trans hx) ht.pf) (by rw [hmd.pf]; exact kk)
theorem rx_appendIn {t el id off m m' k e:Nat}{x y:Operand}{av:AV}{cs new cs':List AV}{zs:List Value}[ht:SlT P t el] [he:SzT P el e] [hz:ZrT P el zs]
  (hx : ev (lk ts) x = some (.ownc id off m k e)) (hy : ev (lk ts) y = some av)
  (hH : lkH hs id = some cs) (hs' : sCells (lkH hs) e (kAV av) = some (m',new)) (hk : m + m' ≤ k) (hl : off + m * e + new.length ≤ cs.length)
  (hcs : spl cs (off + m * e) new = cs') (hN : Nat.blt d N = true) {md' : Md} [hmd : MdA md (rO x ++ (rO y ++ ([.inr id] ++ rA av))) [.inr id,.inl d] md'] (kk : RW P N all Q md' rest ⟨(d,.ownc id off (m + m') k e) :: ts,(id,some cs') :: hs,n,z0⟩) :
  RW P N all Q md (⟨some d,.call ⟨.builtin .append,#[x,y],#[t,t]⟩,ty,pos,af,none⟩ :: rest) ⟨ts,hs,n,z0⟩ := by
 subst hcs
 exact rw_ef (rs := rO x ++ (rO y ++ ([.inr id] ++ rA av))) (ws := [(id, some (spl cs (off + m * e) new))]) (n' := n) (out := .ownc id off (m + m') k e) rfl (fun _ h => by cases h; exact ltb hN) (Nat.le_refl n) (.inl rfl)
  (fun C ι F T H a w ag hF g gh => ef_same (ef_appendIn gh rfl (ev_ok g (ag.l.ev.trans hx)) (ev_ok g (ag.r.l.ev.trans hy)) ht.pf he.pf hz.pf ((ag.r.r.l.h id (by simp)).trans hH) (ag.r.r.r.sCells.trans hs') hk hl)) (by
   show RW P N all Q (md.add (rO x ++ (rO y ++ ([.inr id] ++ rA av))) [.inr id,.inl d]) rest ⟨(d,.ownc id off (m + m') k e) :: ts,(id,some (spl cs (off + m * e) new)) :: hs,n,z0⟩
   rw [hmd.pf]; exact kk)
theorem rx_clear {t el id off m e:Nat}{x:Operand}{cs cs':List AV}{zs:List Value}[ht:SlT P t el] [he:SzT P el e] [hz:ZrT P el zs]
  (hx : ev (lk ts) x = some (.own id off m e)) (hze : zs.length = e) (h0 : 0 < m) (hH : lkH hs id = some cs) (hl : off + m * e ≤ cs.length)
  (hcs : spl cs off (List.replicate m (zs.map AV.v)).flatten = cs') {md' : Md} [hmd : MdA md (rO x ++ [.inr id]) [.inr id] md'] (kk : RW P N all Q md' rest ⟨ts,(id,some cs') :: hs,n,z0⟩) :
  RW P N all Q md (⟨none,.call ⟨.builtin .clear,#[x],#[t]⟩,ty,pos,af,none⟩ :: rest) ⟨ts,hs,n,z0⟩ := by
 subst hcs
 exact rw_ef (rs := rO x ++ [.inr id]) (ws := [(id, some (spl cs off (List.replicate m (zs.map AV.v)).flatten))]) (n' := n) (out := .tup []) rfl (fun _ h => by cases h) (Nat.le_refl n) (.inl rfl)
  (fun C ι F T H a w ag hF g gh => ef_same (ef_clear gh rfl (ev_ok g (ag.l.ev.trans hx)) rfl ht.pf he.pf hz.pf hze ((ag.r.h id (by simp)).trans hH) h0 hl)) (by
   show RW P N all Q (md.add (rO x ++ [.inr id]) [.inr id]) rest ⟨ts,(id,some (spl cs off (List.replicate m (zs.map AV.v)).flatten)) :: hs,n,z0⟩
   rw [hmd.pf]; exact kk)
theorem Le.noroom {id off m k e:Nat}(h:lk ts d = some (.ownc id off m k e)):Le ⟨ts,hs,n,z0⟩ ⟨(d,.own id off m e) :: ts,hs,n,z0⟩:=by
 rintro C a w ⟨hlo,ι,g1,g2⟩
 refine ⟨hlo,ι,⟨g1.df,g1.sz,fun t av ht => ?_⟩,g2⟩
 have ht' : lk ((d,.own id off m e) :: ts) t = some av := ht
 rw [lk_c] at ht'
 split at ht'
 ·rename_i q; subst q
  cases ht'
  obtain ⟨y,h1,h2⟩ := g1.tm t _ h
  refine ⟨y,h1,?_⟩
  simp only [Rd] at h2 ⊢
  obtain ⟨b,β,c,p1,p2,p3,p4,p5⟩ := h2
  exact .inr ⟨b,β,c,p1,p2,by omega,p5⟩
 ·exact g1.tm t av ht'
end
def delL {α : Type} (k : Nat) (xs : List α) : List α := xs.take k ++ xs.drop (k + 1)
def dropP (q : Prg) (k : Nat) : Prg := ⟨q.types,delL k q.body⟩
theorem delL_len {α:Type}{k:Nat}{xs:List α}(h:k < xs.length):(delL k xs).length + 1 = xs.length:=by
 unfold delL;rw [List.length_append,List.length_take,List.length_drop]; omega
theorem delL_mem {α:Type}{k:Nat}{xs:List α}{x:α}(h:x ∈ delL k xs):x ∈ xs:=by
 unfold delL at h
 rcases List.mem_append.1 h with h|h
 ·exact List.mem_of_mem_take h
 ·exact List.mem_of_mem_drop h
theorem cntL_delL:∀ (xs:List Stmt) (k:Nat),cntL (delL k xs) ≤ cntL xs
 | [],k => by simp [delL,cntL]
 | x :: xs,0 => by simp [delL,cntL]
 | x :: xs, k + 1 => by
  have := cntL_delL xs k
  unfold delL at this ⊢
  simp only [List.take_succ_cons,List.drop_succ_cons,List.cons_append,cntL]; omega
theorem dropP_valid {q:Prg}{k:Nat}(h:validF q = true):validF (dropP q k) = true:=by
 unfold validF at h ⊢
 simp only [Bool.and_eq_true,decide_eq_true_eq] at h ⊢
 obtain ⟨⟨h1,h2⟩,h3⟩ := h
 refine ⟨⟨h1,?_⟩,Nat.le_trans (cntL_delL _ _) h3⟩
 rw [okL_eq,List.all_eq_true] at h2 ⊢
 exact fun x hx => h2 x (delL_mem hx)
theorem npL_mono (b:List Stmt){i j:Nat}(h:i ≤ j):npL (b.take i) ≤ npL (b.take j):=by
 have := npL_take_le (b.take j) i
 rwa [List.take_take,Nat.min_eq_left h] at this
structure AtS (b : List Stmt) (x : Int) (k : Nat) : Prop where
 lt : k < b.length
 lo : (npL (b.take k) : Int) ≤ x
 hi : k + 1 < b.length → x < npL (b.take (k + 1))
theorem AtS.uniq {b:List Stmt}{x:Int}{k k':Nat}(h:AtS b x k) (h':AtS b x k'):k = k':=by
 have key : ∀ {k k'}, AtS b x k → AtS b x k' → ¬ k < k' := fun {k k'} h h' hlt => by
  have h1 := h.hi (by have := h'.lt;omega)
  have h2 := npL_mono b (i := k + 1) (j := k') hlt
  have h3 := h'.lo
  omega
 have h1 := key h h'
 have h2 := key h' h
 omega
theorem AtS.ex {b:List Stmt}{x:Int}:∀ d n,b.length - n ≤ d → n < b.length → (npL (b.take n):Int) ≤ x → ∃ k,AtS b x k
 | 0,n,h,hn,_ => by omega
 | d + 1, n, h, hn, hx => by
  by_cases h1 : n + 1 < b.length
  ·by_cases h2 : x < npL (b.take (n + 1))
   ·exact ⟨n,hn,hx,fun _ => h2⟩
   ·exact AtS.ex d (n + 1) (by omega) h1 (by omega)
  ·exact ⟨n,hn,hx,fun h => absurd h h1⟩
inductive RepS (FI : Prg → List Iss → Prop) : Prg → List Int → List Int → Prg → List Int → Prop
 | done {q : Prg} {l m : List Int} : FI q [] → RepS FI q l m q m
 | step {q q' : Prg} {l m m' : List Int} {x : Iss} {L : List Iss} {k : Nat} : FI q (x :: L) → AtS q.body x.point k → RepS FI (dropP q k) (delL k l) (m ++ [l[k]!]) q' m' → RepS FI q l m q' m'
theorem RepS.ex {FI:Prg → List Iss → Prop}(h1:∀ q,validF q = true → ∃ L,FI q L ∧ (∀ x ∈ L,0 ≤ x.point) ∧ (q.body = [] → L = [])) :
  ∀ n q l m,q.body.length ≤ n → validF q = true → ∃ q' m',RepS FI q l m q' m'
 | n, q, l, m, hn, hv => by
  obtain ⟨L,hF,hp,he⟩ := h1 q hv
  cases L with
  | nil => exact ⟨q,m,.done hF⟩
  | cons x L =>
   have hne : q.body ≠ [] := fun e => by have := he e;cases this
   have hlen : 0 < q.body.length := List.length_pos_iff.2 hne
   obtain ⟨k,hk⟩ := AtS.ex (b := q.body) (x := x.point) q.body.length 0 (by omega) hlen (by have := hp x List.mem_cons_self;simpa [npL] using this)
   have hd := delL_len hk.lt
   cases n with
   | zero => omega
   | succ n =>
    obtain ⟨q',m',h⟩ := RepS.ex h1 n (dropP q k) (delL k l) (m ++ [l[k]!]) (by show (delL k q.body).length ≤ n;omega) (dropP_valid hv)
    exact ⟨q',m',.step hF hk h⟩
theorem RepS.fin {FI:Prg → List Iss → Prop}{q q':Prg}{l m m':List Int}(h:RepS FI q l m q' m'):validF q = true → FI q' [] ∧ validF q' = true ∧ q'.types = q.types ∧ cntL q'.body ≤ cntL q.body ∧ m'.length + q'.body.length = m.length + q.body.length:=by
 induction h with
 | done h => exact fun hv => ⟨h,hv,rfl,Nat.le_refl _,rfl⟩
 | @step q q' l m m' x L k _ hk _ ih =>
  intro hv
  obtain ⟨h1,h2,h3,h4,h5⟩ := ih (dropP_valid hv)
  have hd := delL_len hk.lt
  refine ⟨h1,h2,h3,Nat.le_trans h4 (cntL_delL _ _),?_⟩
  rw [h5,List.length_append,List.length_singleton]
  show m.length + 1 + (delL k q.body).length = _
  omega
theorem RepS.inv {FI:Prg → List Iss → Prop}{q q':Prg}{l m m':List Int}(h:RepS FI q l m q' m'):(FI q [] ∧ q' = q ∧ m' = m) ∨ ∃ x L k,FI q (x :: L) ∧ AtS q.body x.point k ∧ RepS FI (dropP q k) (delL k l) (m ++ [l[k]!]) q' m':=by
 cases h with
 | done h => exact .inl ⟨h,rfl,rfl⟩
 | step h1 h2 h3 => exact .inr ⟨_,_,_,h1,h2,h3⟩
def lfN (n : Nat) (m : List Int) : List Int := ((List.range n).filter (fun (i : Nat) => decide (¬ (i : Int) ∈ m))).map (fun (i : Nat) => (i : Int))
theorem RepS.empty {FI:Prg → List Iss → Prop}{q q':Prg}{l m':List Int}(h:RepS FI q l [] q' m') (hv:validF q = true):∃ L,FI q L ∧ (m' = [] ↔ L = []):=by
 cases h with
 | done h => exact ⟨[],h,by simp⟩
 | @step _ _ _ _ _ x L k hF hk hr =>
  refine ⟨x :: L,hF,?_⟩
  have h5 := (RepS.fin hr (dropP_valid hv)).2.2.2.2
  have hb : q'.body.length ≤ (dropP q k).body.length := by
   clear h5 hF
   generalize dropP q k = z at hr
   generalize delL k l = l1 at hr
   generalize ([] : List Int) ++ [l[k]!] = m1 at hr
   induction hr with
   | done _ => exact Nat.le_refl _
   | @step q q' l m m' x L k _ hk2 _ ih =>
    have := delL_len hk2.lt
    have hh : (dropP q k).body.length + 1 = q.body.length := this
    omega
  constructor
  ·intro e;rw [e] at h5;simp at h5;omega
  ·intro e;cases e
theorem iss_empty {ts:List Int}{p:Prg}(hb:p.body = []) (f:Flows ts (ptsF p)):f.iss = []:=by
 have hp : ptsF p = [⟨11,0,0,0,[]⟩] := by unfold ptsF;rw [hb]; rfl
 have h0 : (ptsF p)[0]! = ⟨11,0,0,0,[]⟩ := by rw [hp]; rfl
 unfold Flows.iss issF
 rw [show (ptsF p).length = 1 by rw [hp]; rfl]
 have hw : wS ts (ptsF p)[0]! [1, 2, 3] = 0 := by
  apply Nat.eq_of_testBit_eq
  intro v
  rw [testBit_wS,Nat.zero_testBit,Bool.and_eq_false_iff]
  refine .inr ?_
  rw [h0,decide_eq_false_iff_not]
  have : useAt ts ⟨11,0,0,0,[]⟩ v = 0 := by simp [useAt]
  rw [this]; decide
 have ha : ∀ b,accF ts (ptsF p)[0]! b = [] := fun b => by rw [h0]; simp [accF,setAt]
 have hb0 : bitsI 0 = [] := by unfold bitsI;simp
 have hc : cfN ts (ptsF p) f.Am f.Al f.Af f.Ap 0 = 0 := by unfold cfN;rw [ha]; rfl
 have hu : anl 0 f.Aa[0]! = 0 := by
  apply Nat.eq_of_testBit_eq
  intro v
  rw [testBit_anl,Nat.zero_testBit,Bool.false_and]
 show (List.range 1).flatMap _ = []
 rw [show List.range 1 = [0] from rfl]
 simp only [List.flatMap_cons,List.flatMap_nil,List.append_nil]
 unfold issP
 rw [hw,hc,hu,hb0]; rfl
end Go.AL
namespace Go.AL
open Go.RowKit
section
variable {P : Program} {N : Nat} {Q : Exit → AS → Prop} {all : Array Oper} {rest : List Oper} {ts : List (Nat × AV)} {hs : List (Nat × Option (List AV))} {n : Nat} {z0 : Lo} {md : Md}
variable {d : Nat} {ty : TypeId} {pos : String} {af : Array Edge}
theorem run_eqNil (w:World) (t el:TypeId) (hu:P.underlying t = some (.slice el)) (a:Option Addr) (m c:Nat):(binOp .eql t (.slice a m c) (.slice none 0 0)).run P w = .ok (.bool a.isNone) w:=by
 have h0 : ∀ d : Nat, (Op.equalIn (d + 1) t (.slice a m c) (.slice none 0 0)).run P w = .ok a.isNone w := fun d => by
  cases a <;> simp [Op.equalIn,run_und hu]
 have h := h0 9999
 simp only [binOp]
 simp [Op.equal,Op.maxDepth,h]
theorem rx_eqNil {t t' el:TypeId}{x:Operand}{m:Nat}{cs:List AV}[ht:SlT P t el] (hx:ev (lk ts) x = some (.imm m cs)) (hN:Nat.blt d N = true)
  (kk : ∀ b : Bool,(b = true → m = 0) → RW P N all Q .txt rest ⟨(d,.v (.bool b)) :: ts,hs,n,z0⟩) : RW P N all Q .txt (⟨some d,.binOp .eql t x (.const (.slice none 0 0)) t',ty,pos,af,none⟩ :: rest) ⟨ts,hs,n,z0⟩ := by
 rintro C a w hCN ⟨h0,ι,g,gh⟩
 refine wpList_plain rfl (fun K hK => ?_)
 have h1 := ev_ok g hx
 simp only [Rd] at h1
 obtain ⟨a',c,h2,h3⟩ := h1
 have hu := slOf_u ht.pf
 have hb : a'.isNone = true → m = 0 := fun hn => by
  rcases h3 with h3 | ⟨b,o,_,rfl,_⟩
  ·exact h3
  ·cases hn
 have hg : (eqGuard .eql t x (.const (.slice none 0 0)) (.slice a' m c) (.slice none 0 0)).run P w = .ok () w := by simp [eqGuard]
 have hr : (execOp a.eval ⟨some d, .binOp .eql t x (.const (.slice none 0 0)) t', ty, pos, af, none⟩).run P w = .ok (.value (.bool a'.isNone)) w := by
  have e2 : a.eval (.const (.slice none 0 0)) = .slice none 0 0 := rfl
  simp only [execOp,h2,e2,Sem.run_bind,hg,Result.andThen_ok,run_eqNil w t el hu,Sem.run_pure]
 simp only [Oper.wp,hr,Oper.upon]
 refine hK _ _ (kk a'.isNone hb C _ _ hCN ⟨h0,ι,?_,gh⟩)
 show TG C ι (lk ((d,AV.v (.bool a'.isNone)) :: ts)) _ _ _
 rw [lk_cons]
 exact g.put (by have := ltb hN;omega) (by simp [Rd])
end
theorem spl_del {α:Type}{f:α → List AV}{e:Nat}[h:FlT f e] {xs:List α}{k:Nat}(hk:k < xs.length):spl (flat f xs) (0 + k * e) (flat f (xs.drop (k + 1))) = flat f (delL k xs) ++ flat f (xs.drop (xs.length - 1)):=by
 unfold spl delL
 have hl : (flat f (xs.drop (k + 1))).length = (xs.length - (k + 1)) * e := by rw [flat_length f (e := e),List.length_drop]
 rw [Nat.zero_add,hl,← Nat.add_mul,show k + (xs.length - (k + 1)) = xs.length - 1 by omega,flat_take f (e := e),← flat_append]
 congr 1
 have h4 : flat f xs = flat f (xs.take (xs.length - 1)) ++ flat f (xs.drop (xs.length - 1)) := by rw [flat_append,List.take_append_drop]
 have h5 : (flat f (xs.take (xs.length - 1))).length = (xs.length - 1) * e := by rw [flat_length f (e := e),List.length_take,Nat.min_eq_left (by omega)]
 rw [h4,← h5,List.drop_left]
theorem spl_clr {α:Type}{f:α → List AV}{e:Nat}[h:FlT f e] {xs:List α}{k:Nat}{z:List AV}(hk:k < xs.length) (hz:z.length = e):spl (flat f (delL k xs) ++ flat f (xs.drop (xs.length - 1))) (0 + (xs.length - 1) * e) z = flat f (delL k xs) ++ z:=by
 have hd := delL_len hk
 have h1 : (flat f (delL k xs)).length = (xs.length - 1) * e := by rw [flat_length f (e := e)]; congr 1;omega
 have h2 : (flat f (xs.drop (xs.length - 1))).length = e := by rw [flat_length f (e := e),List.length_drop,show xs.length - (xs.length - 1) = 1 by omega,Nat.one_mul]
 unfold spl
 rw [Nat.zero_add,← h1,List.take_left,hz,List.drop_of_length_le (by rw [List.length_append,h2]; omega),List.append_nil]
theorem spl_clr1 {α:Type}{f:α → List AV}{e:Nat}[h:FlT f e] {xs:List α}{k m:Nat}{z:List AV}(hk:k < xs.length) (hm:m = 1) (hz:z.length = e):spl (flat f (delL k xs) ++ flat f (xs.drop (xs.length - 1))) (0 + (xs.length - 1) * e) (List.replicate m z).flatten = flat f (delL k xs) ++ z:=by
 subst hm
 have e1 : (List.replicate 1 z).flatten = z := by simp
 rw [e1]; exact spl_clr hk hz
theorem sC_tail {α:Type}{f:α → List AV}{e:Nat}[h:FlT f e] {hs:List (Nat × Option (List AV))}{xs:List α}{i k n:Nat}(hH:lkH hs i = some (flat f xs)) (hn:n = xs.length - k):sCells (lkH hs) e (kAV (.own i (0 + k * e) n e)) = some (n,flat f (xs.drop k)):=by
 show ((lkH hs i).bind fun cs => if n * e ≤ (cs.drop (0 + k * e)).length then some (n,(cs.drop (0 + k * e)).take (n * e)) else none) = _
 rw [hH,Option.bind_some,Nat.zero_add]
 have h1 : (flat f xs).length = xs.length * e := flat_length f xs
 have h3 : (flat f xs).drop (k * e) = flat f (xs.drop k) := by
  have h4 : flat f xs = flat f (xs.take k) ++ flat f (xs.drop k) := by rw [flat_append,List.take_append_drop]
  have h5 : (flat f (xs.take k)).length = (xs.take k).length * e := flat_length f _
  by_cases hk : k ≤ xs.length
  ·rw [h4,← show (flat f (xs.take k)).length = k * e from by rw [h5,List.length_take]; congr 1;omega,List.drop_left]
  ·rw [List.drop_of_length_le (by rw [h1]; exact Nat.mul_le_mul_right _ (by omega)),List.drop_of_length_le (by omega)]; rfl
 rw [h3]
 have h2 : (flat f (xs.drop k)).length = (xs.length - k) * e := by rw [flat_length f (e := e),List.length_drop]
 rw [h2,hn,if_pos (Nat.le_refl _),List.take_of_length_le (by rw [h2]; exact Nat.le_refl _)]
theorem bnd_to {T:Nat → Option AV}{x:Operand}{dd:Nat}{k:IntKind}{m:Int}{h:Nat}(hx:ev T x = some (.v (.int k m))) (e:m = (h:Int)):bndA T (some x) dd = some h:=by
 simp only [bndA,hx]; rw [if_pos (by omega)]; congr 1;omega
structure Mc where
 slots : List Sl
 cells : List Cl
 read : List Int
 deriving Inhabited
end Go.AL
