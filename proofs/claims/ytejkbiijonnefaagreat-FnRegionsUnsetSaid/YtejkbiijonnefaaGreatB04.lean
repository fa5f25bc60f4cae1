/-
  A part of the proofs over this program: rules and contracts of its functions (the contracts).
-/
import Derived.Test.YtejkbiijonnefaaGreatB03
set_option linter.unusedVariables false
set_option linter.unusedSimpArgs false
set_option maxHeartbeats 8000000
set_option maxRecDepth 4000
attribute [local irreducible] Go.AL.RW Go.AL.AW Go.AL.Stop
namespace Go.Proofs.YtejkbiijonnefaaGreat
open Go.AL Go.RowKit

theorem rx_l4Add2 {a b : List Bool} {m m2 : Nat} {N : Nat} {Q : Exit → AS → Prop} {all : Array Oper} {rest : List Oper} {tsl : List (Nat × AV)} {hsl : List (Nat × Option (List AV))} {nidl : Nat} {z0 : Lo} {md : Md} {d : Nat} {ty : TypeId} {pos : String} {af : Array Edge} {tys : Array TypeId} {x0 x1 : Operand} {i0 i1 : Nat} (ha0 : ev (lk tsl) x0 = some (.own i0 0 m 1)) (ha1 : ev (lk tsl) x1 = some (.own i1 0 m2 1)) (hH0 : lkH hsl i0 = some (flat cB a)) (hH1 : lkH hsl i1 = some (flat cB b)) (hdd : Go.AL.distinct [i0, i1] = true) (hmc : MC Tryz.prog 148 [.own 0 0 m 1, .own 1 0 m2 1] [(0, some (flat cB a)), (1, some (flat cB b))] 2 (fun _ : Unit => True) (fun _ => .tup []) (fun _ => [(0, some (flat cB (addB a b))), (1, some (flat cB b))])) (hM : Nat.ble (nidl + 0) big = true) (hN : Nat.blt d N = true) {md' : Md} [hmd : MdA md (rOs [x0, x1] ++ [.inr i0, .inr i1]) (List.map Sum.inr (List.map Prod.fst ([(i0, some (flat cB (addB a b))), (i1, some (flat cB b))] : List (Nat × Option (List AV)))) ++ [.inl d]) md'] (kk : RW Tryz.prog N all Q md' rest ⟨(d, .tup []) :: tsl, wrH hsl [(i0, some (flat cB (addB a b))), (i1, some (flat cB b))], nidl + 0, z0⟩) : RW Tryz.prog N all Q md (⟨some d, .call ⟨.value (.func 148), #[x0, x1], tys⟩, ty, pos, af, none⟩ :: rest) ⟨tsl, hsl, nidl, z0⟩ := by
  refine rx_mcallE [i0, i1] 2 [(i0, some (flat cB (addB a b))), (i1, some (flat cB b))] hmc (avs := [.own i0 0 m 1, .own i1 0 m2 1]) ?_ hdd ?_ rfl ?_ (by simpa using hM) ?_ ?_ ?_ hN (md' := md') (hmd := hmd) kk
  · show evL (lk tsl) [x0, x1] = _
    simp only [evL, ha0, ha1]
  · exact ⟨⟨_, _, rfl, hH0, by (repeat' (exact RnL.purI inferInstance))⟩, ⟨⟨_, _, rfl, hH1, by (repeat' (exact RnL.purI inferInstance))⟩, trivial⟩⟩
  · (repeat' (first | exact RnL.purI inferInstance | exact RnV.own rfl | refine RnL.cons ?_ ?_))
  · (repeat' (exact RnV.purI inferInstance))
  · simp [wsAll]
  · (repeat' (first | exact trivial | (refine And.intro ⟨0, _, rfl, rfl, ?_⟩ ?_) | (refine And.intro ⟨1, _, rfl, rfl, ?_⟩ ?_) | exact RnL.purI inferInstance))

theorem l4Add2_c (a b : List Bool) (m m2 : Nat) (hm : m = a.length) (hm' : m2 = b.length) (hab : b.length ≤ a.length) (hl : a.length ≤ 1000000) : MC Tryz.prog 148 [.own 0 0 m 1, .own 1 0 m2 1] [(0, some (flat cB a)), (1, some (flat cB b))] 2 (fun _ : Unit => True) (fun _ => .tup []) (fun _ => [(0, some (flat cB (addB a b))), (1, some (flat cB b))]) := by
  subst hm hm'
  (refine mc_of_aw Tryz.func148 rfl (by simp [Tryz.ntmps148]) ?_; rw [Tryz.ntmps148])
  repeat' (first | (apply id_rw; first | (apply rx_assign;rfl;rfl) | (apply rw_nil;kernel_rfl)) | (apply id_aw; first | apply aw_seq | apply aw_region | apply aw_block) | with_reducible apply tq_normal)
  refine aw_loopK (σ := Nat × List Bool) [0, 1] [(0, _), (1, _)] [1] [(1, some _)] (fun k => [(4, iv (k.1 : Int))]) (fun k => [(0, some (flat cB k.2))]) (fun k => k.1 ≤ b.length ∧ k.2.length = a.length ∧ (∀ l, l < a.length → k.2[l]! = (a[l]! || (decide (l < k.1) && b[l]!)))) (fun k => b.length - k.1) (0, a) ⟨by omega, rfl, fun l hl => by simp⟩ rfl rfl (by repeat' (first | exact trivial | refine And.intro rfl ?_)) (by repeat' (first | exact trivial | refine And.intro (.inr rfl) ?_)) ?_
  rintro ⟨k, u⟩ ⟨hk, hul, hu⟩
  dsimp only at hk hul hu
  try dsimp only
  repeat' (first | (apply id_rw; first | (apply rx_move;rfl;rfl) | (apply rx_loadF0; (case hx | hH => rfl); (case hf | hg | hα => infer_instance); (case hk => omega); (case hc | hN => rfl)) | (first | (apply rx_guardY;rfl;rfl;rfl;(assumption)) | (apply rx_guardNs;rfl;rfl;rfl;(assumption)) | (apply rx_guardS; (case hj | hb | hN => rfl); all_goals (intro hg; have hq := hg; (try simp only [bqs] at hq); (try (exfalso; omega))))) | (first | (apply rx_add;rfl;rfl;omega;rfl) | (apply rx_bin;rfl;rfl;rfl;rfl)) | (apply rx_assign;rfl;rfl) | (first | (apply rx_pickT;rfl;(assumption);rfl;rfl) | (apply rx_pickF;rfl;(assumption);rfl;rfl)) | (apply rx_indexON;rfl;rfl;(omega);rfl) | (apply rx_len;rfl;rfl;rfl) | (apply rw_nil;kernel_rfl) | (apply rx_store;rfl;rfl;rfl;rfl;rfl;(rw [flat_length]; simp only [lns] <;> omega);(exact st_bool (by (omega))))) | (apply id_aw; first | apply aw_seq | apply aw_region | (apply aw_cond;rfl;all_goals intro hc;have hq:=hc;(try simp only [bqs] at hq);try exfalso;omega) | apply aw_block | apply aw_skip | apply aw_exit) | with_reducible apply tq_normal | with_reducible apply tq_exit | with_reducible apply bq_normal | with_reducible apply bq_here)
  · (apply ex3 (k + 1, _); focus (refine Le.ren [] rfl (by decide) ?_ ?_ <;> repeat' (first | exact trivial | refine And.intro ⟨_, rfl, ?_⟩ ?_ | refine And.intro ⟨_, _, rfl, rfl, ?_⟩ ?_ | exact Or.inr rfl | refine Or.inl ⟨?_, (by first | rfl | exact pur_sl _ _)⟩ | rfl)))
    · refine ⟨(by show k + 1 ≤ b.length; omega), (by show (u.set k _).length = a.length; rw [List.length_set]; exact hul), fun l hl => ?_⟩
      show (u.set k _)[l]! = (a[l]! || (decide (l < k + 1) && b[l]!))
      have h1 := hu l hl
      have h2 := hu k (by omega)
      rw [set_get]
      clear hu
      grind
    · show b.length - (k + 1) < b.length - k; omega
  · (apply ex3 (k + 1, _); focus (refine Le.ren [] rfl (by decide) ?_ ?_ <;> repeat' (first | exact trivial | refine And.intro ⟨_, rfl, ?_⟩ ?_ | refine And.intro ⟨_, _, rfl, rfl, ?_⟩ ?_ | exact Or.inr rfl | refine Or.inl ⟨?_, (by first | rfl | exact pur_sl _ _)⟩ | rfl)))
    · refine ⟨(by show k + 1 ≤ b.length; omega), (by show (u.set k _).length = a.length; rw [List.length_set]; exact hul), fun l hl => ?_⟩
      show (u.set k _)[l]! = (a[l]! || (decide (l < k + 1) && b[l]!))
      have h1 := hu l hl
      have h2 := hu k (by omega)
      rw [set_get]
      clear hu
      grind
    · show b.length - (k + 1) < b.length - k; omega
  · refine rq_end (l := []) rfl ?_
    refine mc_ret () trivial rfl ⟨.inr (Eq.trans (b := some _) rfl ?_), .inr rfl, trivial⟩
    have e : u = addB a b := ext_get (by rw [addB_len, hul]) fun l hl => by
      rw [addB_get _ _ _ (by omega), hu l (by omega)]
      clear hu
      grind
    rw [e]

theorem rx_l4AddF1 {a : List Bool} {R : List (List Bool)} {k m m2 : Nat} {N : Nat} {Q : Exit → AS → Prop} {all : Array Oper} {rest : List Oper} {tsl : List (Nat × AV)} {hsl : List (Nat × Option (List AV))} {nidl : Nat} {z0 : Lo} {d : Nat} {ty : TypeId} {pos : String} {af : Array Edge} {tys : Array TypeId} {x0 x1 : Operand} {i0 : Nat} (ha0 : ev (lk tsl) x0 = some (.own i0 0 m 1)) (ha1 : ev (lk tsl) x1 = some (.own (k + big) 0 m2 1))
    (hH0 : lkH hsl i0 = some (flat cB a)) (hF : FamR R R hsl hsl) (hk : k < R.length) (hi : Nat.blt i0 big = true) (hm : m = a.length) (hm2 : m2 = R[k]!.length) (hab : R[k]!.length ≤ a.length) (hl : a.length ≤ 1000000) (hM : Nat.ble (nidl + 0) big = true) (hN : Nat.blt d N = true)
    (kk : RW Tryz.prog N all Q .txt rest ⟨(d, .tup []) :: tsl, (i0, some (flat cB (addB a R[k]!))) :: hsl, nidl + 0, z0⟩) : RW Tryz.prog N all Q .txt (⟨some d, .call ⟨.value (.func 148), #[x0, x1], tys⟩, ty, pos, af, none⟩ :: rest) ⟨tsl, hsl, nidl, z0⟩ :=
  rx_l4Add2 (a := a) (b := R[k]!) (i0 := i0) (i1 := k + big) ha0 ha1 hH0 (hF.get hk) (dist2 hi) (l4Add2_c a R[k]! m m2 hm hm2 hab hl) hM hN (md' := .txt) (rw_le kk (Le.fdrop (FamR.cons hi hF) hk))
theorem l4After_c (ts : List Int) (pts : List Pnt) (w : WG ts pts) (i : Nat) (hi : i < pts.length) (R0 : List (List Bool)) (hl : R0.length = ts.length + 1) (hr : ∀ k, k < ts.length + 1 → R0[k]!.length = pts.length) : FCt Tryz.prog 146 [sl cI ts, sl cPnt pts, iv (i : Int), aSt 0 ts.length pts.length] R0 (.agg [sl cBB (afR ts pts i (R0.take ts.length)), sl cB (afQ ts pts i R0[ts.length]!)]) [] := by
  have hrn := hr ts.length (by omega)
  have htl := w.tl
  have hpl := w.pl
  have hy := w.y i hi
  have hset := w.set i hi
  (refine fc_of_aw Tryz.func146 rfl (by simp [Tryz.ntmps146]) ?_; rw [Tryz.ntmps146])
  repeat' (first | (apply id_rw; first | (with_reducible apply rw_stop (d := 19)) | (apply rx_move;rfl;rfl) | (apply rx_loadA;rfl;rfl;(first | exact (rfl:_=[_, _]) | exact (rfl:_=[_, _, _, _, _]));rfl;rfl;rfl) | (apply rx_indexFN; (case hx | hi => rfl); (case hm => (assumption)); (case hml => (rfl)); (case hα | hf | hg => infer_instance); (case hN => rfl)) | (apply rw_nil;kernel_rfl) | (apply rx_box;rfl;rfl;rfl;rfl) | (apply rx_alloc;rfl;rfl) | (apply rx_store;rfl;rfl;rfl;rfl;rfl;(case hl => (simp;done));(exact (rfl:_=[_, _, _, _, _])))) | (apply id_aw; first | apply aw_seq | apply aw_region) | with_reducible apply tq_normal)
  refine rw_go ?_
  refine rx_fcall (R := R0) (R0 := R0) (avs := [aSt 0 ts.length pts.length]) (b := 0) (n1 := 2) (D := (List.range R0.length).map fun k => 0 + k + big) (ws := [(3, some (flat cBB (R0.take ts.length))), (4, some (flat cB R0[ts.length]!))]) (rr' := .agg [.own 3 0 ts.length 1, .own 4 0 pts.length 1]) (md' := .txt) rfl (l4Copy_c ts.length pts.length R0 htl hpl hl hr) (by (repeat' (first | exact FamR.here | (apply FamR.cons; focus rfl)))) (by omega) (fun k hk => by rw [Nat.zero_add]) (fun k hk => List.mem_map.2 ⟨k, by rw [List.mem_range]; exact hk, rfl⟩) ?_ rfl ?_ ?_ rfl rfl ?_
  · refine .cons (.agg (.cons (.imm (rn_rows fun k hk => ?_)) (.cons (.own ?_) .nil))) .nil
    · rw [Nat.zero_add, mpC_big (by omega), Nat.zero_add]
    · rw [Nat.zero_add, mpC_big (by omega), Nat.zero_add]
  · exact .agg (.cons (.own (rhC_lit (j := 0) (by decide) (by decide))) (.cons (.own (rhC_lit (j := 1) (by decide) (by decide))) .nil))
  · exact ⟨⟨0, _, rhC_lit (j := 0) (by decide) (by decide), rfl, RnL.purI inferInstance⟩, ⟨1, _, rhC_lit (j := 1) (by decide) (by decide), rfl, RnL.purI inferInstance⟩, trivial⟩
  have hfr : ∀ v, v < ts.length → (R0.take ts.length)[v]! = R0[v]! := fun v hv => by rw [getB _ _ (by rw [List.length_take]; omega), getB _ _ (by omega), List.getElem_take]
  have hY : ∀ l, l < pts.length → pts[i]!.op = 3 ∨ pts[i]!.op = 4 ∨ pts[i]!.op = 5 → (R0.take ts.length)[pts[i]!.y.toNat]![l]! = R0[0 + pts[i]!.y.toNat]![l]! ∧ R0[0 + pts[i]!.y.toNat]!.length = pts.length := fun l hl h => by
    rw [Nat.zero_add]; exact ⟨by rw [hfr _ (by omega)], hr _ (by omega)⟩
  have eA : pts[i]!.op = 3 → addB (List.replicate pts.length false) R0[0 + pts[i]!.y.toNat]! = valB ts pts i (R0.take ts.length) := fun h => ext_get (by rw [addB_len, valB_len]; simp) fun l hl => by
    rw [addB_len, List.length_replicate] at hl
    have h1 := hY l hl (.inl h)
    rw [addB_get _ _ _ (by simpa using hl), valB_get _ _ _ _ _ hl, if_pos h, rep_get _ _ _ hl, h1.1, decide_eq_true (by omega)]; rfl
  have eB : pts[i]!.op = 4 ∨ pts[i]!.op = 5 → isRef ts[pts[i]!.y.toNat]! = true → addB ((List.replicate pts.length false).set i true) R0[0 + pts[i]!.y.toNat]! = valB ts pts i (R0.take ts.length) := fun h h' => ext_get (by rw [addB_len, valB_len]; simp) fun l hl => by
    rw [addB_len, List.length_set, List.length_replicate] at hl
    have h1 := hY l hl (.inr h)
    have h2 : isLn pts[i]! = true := by unfold isLn; rcases h with h | h <;> rw [h] <;> rfl
    rw [addB_get _ _ _ (by simpa using hl), valB_get _ _ _ _ _ hl, if_neg (by omega), h1.1, h2, h', set_get, rep_get _ _ _ hl, decide_eq_true (by omega)]
    by_cases e : l = i
    · subst e; simp [hl]
    · rw [if_neg (fun q => e q.1.symm), decide_eq_false e]; simp
  have eC : pts[i]!.op = 4 ∨ pts[i]!.op = 5 → isRef ts[pts[i]!.y.toNat]! = false → (List.replicate pts.length false).set i true = valB ts pts i (R0.take ts.length) := fun h h' => ext_get (by rw [valB_len]; simp) fun l hl => by
    rw [List.length_set, List.length_replicate] at hl
    have h2 : isLn pts[i]! = true := by unfold isLn; rcases h with h | h <;> rw [h] <;> rfl
    rw [valB_get _ _ _ _ _ hl, if_neg (by omega), h2, h', set_get, rep_get _ _ _ hl]
    by_cases e : l = i
    · subst e; simp [hl]
    · rw [if_neg (fun q => e q.1.symm), decide_eq_false e]; simp
  have eD : ¬ pts[i]!.op = 3 → ¬ pts[i]!.op = 4 → ¬ pts[i]!.op = 5 → List.replicate pts.length false = valB ts pts i (R0.take ts.length) := fun h3 h4 h5 => ext_get (by rw [valB_len]; simp) fun l hl => by
    rw [List.length_replicate] at hl
    have h2 : isLn pts[i]! = false := by unfold isLn; rw [decide_eq_false h4, decide_eq_false h5]; rfl
    rw [valB_get _ _ _ _ _ hl, if_neg h3, h2, rep_get _ _ _ hl]; rfl
  have hvl := valB_len ts pts i (R0.take ts.length)
  have hneg : setAt pts[i]! < 0 → ¬ pts[i]!.op = 4 ∧ ¬ pts[i]!.op = 5 := fun h => by
    have h1 := w.x i hi
    unfold setAt at h
    split at h
    · omega
    · omega
  have hQ0 : ∀ (v : Nat) (q : List Bool), ts.length ≤ v → (∀ l, l < pts.length → q[l]! = (R0[ts.length]![l]! && !(isLn pts[l]! && (decide (pts[l]!.y < v) && decide (useAt ts pts[i]! pts[l]!.y = 2))))) → ∀ l, l < pts.length → q[l]! = (R0[ts.length]![l]! && !(isLn pts[l]! && decide (useAt ts pts[i]! pts[l]!.y = 2))) := fun v q hv h l hl => by
    rw [h l hl]
    cases hln : isLn pts[l]! with
    | false => rfl
    | true => have := isLn_y w hl hln; rw [decide_eq_true (by omega : pts[l]!.y < (v : Int))]; rfl
  apply cut
  case' main =>
   intro key
   repeat' (first | (apply id_rw; first | (apply rx_l4AddF1;rfl;rfl;rfl;(case hF => (repeat' (first | exact FamR.here | (apply FamR.cons; focus rfl))));(simp only [Nat.zero_add] <;> omega);rfl;(case hm => (simp; done));(simp only [Nat.zero_add]; symm; exact hr _ (by omega));(simp only [Nat.zero_add]; rw [hr _ (by omega)]; simp);(simp; omega);rfl;rfl) | (apply rx_move;rfl;rfl) | (apply rx_load1;rfl;rfl;rfl;rfl) | (apply rx_fieldAddr;rfl;rfl;rfl) | (apply rx_bin;rfl;rfl;rfl;rfl) | (apply rx_assign;rfl;rfl) | (first | (apply rx_indexRgI;rfl;rfl;(omega);rfl;infer_instance;infer_instance;rfl) | (apply rx_indexON;rfl;rfl;(assumption);rfl) | (apply rx_indexF; (case hx | hi => rfl); (case hm => (omega)); (case hml => (rfl)); (case hα | hf | hg => infer_instance); (case hN => rfl))) | ((with_reducible apply rx_callE (k := 184)); (case ha => rfl); (case h => (apply isRefS_c <;> (fail))); (case hp => (rfl)); (case hN => rfl)) | (apply rx_len;rfl;rfl;rfl) | (apply rw_nil;kernel_rfl) | (apply rx_alloc;rfl;rfl) | (apply rx_store;rfl;rfl;rfl;rfl;rfl;(case hl => (first | (rw [flat_length]; simp only [lns] <;> omega) | (simp;done)));(first | exact st_bool (by (simp only [lns] <;> omega)) | exact (rfl:_=[_, _]))) | (apply rx_makeSliceE;rfl;rfl;rfl;omega;omega;(exact mk_bool);rfl;rfl)) | (apply id_aw; first | apply aw_seq | apply aw_region | (apply aw_condT;rfl;(assumption)) | (apply aw_cond;rfl;all_goals intro hc;have hq:=hc;(try simp only [bqs] at hq);try exfalso;omega) | apply aw_block | apply aw_skip) | with_reducible apply tq_normal | with_reducible apply bq_normal)
   all_goals first
     | rw [eA (by assumption)]
     | rw [eB (.inl (by assumption)) (by assumption)]
     | rw [eB (.inr (by assumption)) (by assumption)]
     | rw [eC (.inl (by assumption)) (by assumption)]
     | rw [eC (.inr (by assumption)) (by assumption)]
     | rw [eD (by assumption) (by assumption) (by assumption)]
   all_goals refine aw_loopF (σ := Nat × List (List Bool) × List Bool) 0 (fun s => R0) [0, 1, 2, 8, 9, 10, 11] [(0, _), (1, _), (2, _), (8, _), (9, _), (10, _), (11, _)] [6, 5, 2, 1, 0] [(6, some _), (5, some _), (2, some _), (1, some _), (0, some _)] (fun s => [(12, iv (s.1 : Int))]) (fun s => [(3, some (flat cBB s.2.1)), (4, some (flat cB s.2.2))]) (fun s => s.1 ≤ ts.length ∧ s.2.1.length = ts.length ∧ (∀ v, v < ts.length → s.2.1[v]! = if v < s.1 ∧ useAt ts pts[i]! v = 2 then List.replicate pts.length false else R0[v]!) ∧ s.2.2.length = pts.length ∧ (∀ l, l < pts.length → s.2.2[l]! = (R0[ts.length]![l]! && !(isLn pts[l]! && (decide (pts[l]!.y < s.1) && decide (useAt ts pts[i]! pts[l]!.y = 2)))))) (fun s => ts.length - s.1) (0, R0.take ts.length, R0[ts.length]!) ⟨by omega, (by show (R0.take ts.length).length = _; rw [List.length_take]; omega), fun v hv => (by show (R0.take ts.length)[v]! = _; rw [hfr v hv, if_neg (by omega)]), hrn, fun l hl => (by
      show R0[ts.length]![l]! = _
      cases hln : isLn pts[l]! with
      | false => simp
      | true => have := isLn_y w hl hln; rw [decide_eq_false (by omega : ¬ pts[l]!.y < ((0 : Nat) : Int))]; simp)⟩ rfl rfl (by repeat' (first | exact trivial | refine And.intro rfl ?_)) (by repeat' (first | exact trivial | refine And.intro (.inr rfl) ?_)) (by (repeat' (first | exact FamR.here | (apply FamR.cons; focus rfl)))) (by (rfl)) key.pf
  rintro ⟨v, u, q⟩ ⟨hv, hul, hu, hql, hq'⟩
  dsimp only at hv hul hu hql hq'
  try dsimp only
  repeat' (first | (apply id_rw; first | (with_reducible apply rw_stop (d := 73)) | (with_reducible apply rw_stop (d := 86)) | (apply rx_move;rfl;rfl) | (first | (apply rx_load1;rfl;rfl;rfl;rfl) | (apply rx_loadA;rfl;rfl;(first | exact (rfl:_=[_, _]) | exact (rfl:_=[_, _, _, _, _]));rfl;rfl;rfl)) | (apply rx_fieldAddr;rfl;rfl;rfl) | (first | (apply rx_guardY;rfl;rfl;rfl;(assumption)) | (apply rx_guardS; (case hj | hb | hN => rfl); all_goals (intro hg; have hq := hg; (try simp only [bqs] at hq); (try (exfalso; omega))))) | (first | (apply rx_add;rfl;rfl;omega;rfl) | (apply rx_bin;rfl;rfl;rfl;rfl)) | (apply rx_assign;rfl;rfl) | (apply rx_pickF;rfl;(assumption);rfl;rfl) | (first | (apply rx_indexON;rfl;rfl;(omega);rfl) | (apply rx_indexO;rfl;rfl;(omega);rfl)) | (first | ((with_reducible apply rx_callE (k := 132)); (case ha => rfl); (case h => (apply l3Use_c <;> (omega))); (case hp => (exact Pur.pf)); (case hN => rfl)) | ((with_reducible apply rx_callE (k := 149)); (case ha => rfl); (case h => (apply l3Set_c <;> (fail))); (case hp => (exact Pur.pf)); (case hN => rfl))) | (apply rx_len;rfl;rfl;rfl) | (apply rw_nil;kernel_rfl) | (apply rx_store;rfl;rfl;rfl;rfl;rfl;(case hl => (first | (rw [flat_length]; simp only [lns] <;> omega) | (simp;done)));(first | exact (rfl:_=[_, _]) | rfl)) | (apply rx_makeSliceE;rfl;rfl;rfl;omega;omega;(exact mk_bool);rfl;rfl)) | (apply id_aw; first | apply aw_seq | apply aw_region | (apply aw_draw;kernel_rfl) | (apply aw_cond;rfl;all_goals intro hc;have hq:=hc;(try simp only [bqs] at hq);try exfalso;omega) | apply aw_block | apply aw_skip | apply aw_exit | apply aw_ret) | with_reducible apply tq_normal | with_reducible apply tq_exit | with_reducible apply bq_normal | with_reducible apply bq_here)
  · refine rw_go (rw_le ?_ (Le.frzRow (j := 3) (q := 7) (v := v) (u := u) (r := List.replicate pts.length false) rfl rfl (by simp) (by omega) (by decide)))
    repeat' (first | (apply id_rw; first | (apply rx_move;rfl;rfl) | (apply rx_loadA;rfl;rfl;(exact (rfl:_=[_, _]));rfl;rfl;rfl) | (apply rx_add;rfl;rfl;omega;rfl) | (apply rx_assign;rfl;rfl) | (apply rx_l4Lose;rfl;rfl;rfl;(rfl);(rfl);rfl;(apply l4Lose_c <;> (first | assumption | omega));rfl;rfl) | (apply rw_nil;kernel_rfl)) | (apply id_aw; (apply aw_region)) | with_reducible apply tq_normal | with_reducible apply bq_normal)
    (apply ex3 (v + 1, u.set v (List.replicate pts.length false), loB pts v q); focus (refine Le.renF0 [(0, 0), (1, 1), (2, 2), (3, 3), (4, 4), (5, 5), (6, 6)] (R := ?qA3) (hF := ?qF3) (hz := ?qz3) (hm := ?qm3) (hn := ?qn3) (h1 := ?q13) (h2 := ?q23); (case qF3 => (repeat' (first | exact FamR.here | (apply FamR.cons; focus rfl)))); (case qz3 => (rfl)); (case qm3 => rfl); (case qn3 => decide); all_goals (repeat' (first | exact trivial | refine And.intro ⟨_, rfl, ?_⟩ ?_ | refine And.intro ⟨_, _, rfl, rfl, ?_⟩ ?_ | exact RnL.purI inferInstance | exact RnV.purI inferInstance | exact RnV.own rfl | exact RnV.optr rfl | exact RnL.nil | refine RnL.cons ?_ ?_ | exact RnV.imm (rn_rowsF (by (simp only [List.length_replicate, List.length_set, List.length_append, List.length_singleton] at * <;> omega))) | exact RnV.own (rhoF_big (by omega) (by show _ < big + _; (omega)))))))
    · refine ⟨(by show v + 1 ≤ ts.length; omega), (by show (u.set v _).length = ts.length; rw [List.length_set]; exact hul), fun v' hv' => ?_, (by show (loB pts v q).length = pts.length; rw [loB_len]; exact hql), fun l hl => ?_⟩
      · show (u.set v (List.replicate pts.length false))[v']! = if v' < v + 1 ∧ useAt ts pts[i]! v' = 2 then _ else _
        rw [set_get, hu v' hv']
        by_cases e : v = v'
        · subst e; rw [if_pos ⟨rfl, by omega⟩, if_pos ⟨by omega, by assumption⟩]
        · rw [if_neg (fun h => e h.1)]
          by_cases e2 : v' < v ∧ useAt ts pts[i]! v' = 2
          · rw [if_pos e2, if_pos ⟨by omega, e2.2⟩]
          · rw [if_neg e2, if_neg (fun h => e2 ⟨by omega, h.2⟩)]
      · show (loB pts v q)[l]! = _
        have hu2 : useAt ts pts[i]! v = 2 := by assumption
        rw [loB_get _ _ _ _ (by omega), hq' l hl]
        clear hu hq'
        by_cases hln : isLn pts[l]! = true
        · rw [hln]
          by_cases e : pts[l]!.y = v
          · rw [e, hu2, decide_eq_true (by omega : (v : Int) < ((v + 1 : Nat) : Int))]; simp
          · rw [decide_eq_false e]
            have e3 : decide (pts[l]!.y < ((v + 1 : Nat) : Int)) = decide (pts[l]!.y < (v : Int)) := by
              have : (pts[l]!.y < ((v + 1 : Nat) : Int)) ↔ (pts[l]!.y < (v : Int)) := by omega
              simp only [this]
            rw [e3]; simp
        · rw [Bool.not_eq_true] at hln; rw [hln]; simp
    · show ts.length - (v + 1) < ts.length - v; omega
  · (apply ex3 (v + 1, u, q); focus (refine Le.renF0 [(0, 0), (1, 1), (2, 2), (3, 3), (4, 4), (5, 5), (6, 6)] (R := ?qA4) (hF := ?qF4) (hz := ?qz4) (hm := ?qm4) (hn := ?qn4) (h1 := ?q14) (h2 := ?q24); (case qF4 => (repeat' (first | exact FamR.here | (apply FamR.cons; focus rfl)))); (case qz4 => (rfl)); (case qm4 => rfl); (case qn4 => decide); all_goals (repeat' (first | exact trivial | refine And.intro ⟨_, rfl, ?_⟩ ?_ | refine And.intro ⟨_, _, rfl, rfl, ?_⟩ ?_ | exact RnL.purI inferInstance | exact RnV.purI inferInstance | exact RnV.own rfl | exact RnV.optr rfl | exact RnL.nil | refine RnL.cons ?_ ?_ | exact RnV.imm (rn_rowsF (by (simp only [List.length_replicate, List.length_set, List.length_append, List.length_singleton] at * <;> omega))) | exact RnV.own (rhoF_big (by omega) (by show _ < big + _; (omega)))))))
    · refine ⟨(by show v + 1 ≤ ts.length; omega), hul, fun v' hv' => ?_, hql, fun l hl => ?_⟩
      · show u[v']! = if v' < v + 1 ∧ useAt ts pts[i]! v' = 2 then _ else _
        rw [hu v' hv']
        have hu2 : ¬ useAt ts pts[i]! v = 2 := by assumption
        by_cases e2 : v' < v ∧ useAt ts pts[i]! v' = 2
        · rw [if_pos e2, if_pos ⟨by omega, e2.2⟩]
        · rw [if_neg e2, if_neg (fun h => (by
            by_cases e : v = v'
            · subst e; exact hu2 h.2
            · exact e2 ⟨by omega, h.2⟩))]
      · show q[l]! = _
        have hu2 : ¬ useAt ts pts[i]! v = 2 := by assumption
        rw [hq' l hl]
        clear hu hq'
        by_cases e : pts[l]!.y = v
        · rw [e, decide_eq_false hu2]; simp
        · have e3 : decide (pts[l]!.y < ((v + 1 : Nat) : Int)) = decide (pts[l]!.y < (v : Int)) := by
            have : (pts[l]!.y < ((v + 1 : Nat) : Int)) ↔ (pts[l]!.y < (v : Int)) := by omega
            simp only [this]
          rw [e3]
    · show ts.length - (v + 1) < ts.length - v; omega
  · refine rw_go (rw_le ?_ (Le.frzRow (j := 3) (q := 6) (v := (setAt pts[i]!).toNat) (u := u) (r := valB ts pts i (R0.take ts.length)) rfl rfl (by omega) (by omega) (by decide)))
    have hlo : (loB pts (setAt pts[i]!) q).length = pts.length := by rw [loB_len]; exact hql
    have hQ := fun l hl => hQ0 v q (by omega) hq' l hl
    have eU : u.set (setAt pts[i]!).toNat (valB ts pts i (R0.take ts.length)) = afR ts pts i (R0.take ts.length) := ext_get (by rw [afR_len]; simp; omega) fun v' hv' => by
      rw [List.length_set] at hv'
      rw [set_get, afR_get _ _ _ _ _ (by omega), hu v' (by omega), hfr v' (by omega)]
      by_cases e : setAt pts[i]! = v'
      · rw [if_pos ⟨by omega, hv'⟩, if_pos e]
      · rw [if_neg (fun h => e (by omega)), if_neg e]
        by_cases e2 : useAt ts pts[i]! v' = 2
        · rw [if_pos ⟨by omega, e2⟩, if_pos e2]
        · rw [if_neg (fun h => e2 h.2), if_neg e2]
    have eL : ∀ l, l < pts.length → (loB pts (setAt pts[i]!) q)[l]! = (R0[ts.length]![l]! && !(isLn pts[l]! && (decide (useAt ts pts[i]! pts[l]!.y = 2) || decide (setAt pts[i]! = pts[l]!.y)))) := fun l hl => by
      rw [loB_get _ _ _ _ (by omega), hQ l hl]
      have : decide (pts[l]!.y = setAt pts[i]!) = decide (setAt pts[i]! = pts[l]!.y) := by simp only [eq_comm]
      rw [this]
      cases R0[ts.length]![l]! <;> cases isLn pts[l]! <;> cases decide (useAt ts pts[i]! pts[l]!.y = 2) <;> cases decide (setAt pts[i]! = pts[l]!.y) <;> rfl
    have eQ1 : isLn pts[i]! = true → (loB pts (setAt pts[i]!) q).set i true = afQ ts pts i R0[ts.length]! := fun h => ext_get (by rw [afQ_len, List.length_set, hlo]) fun l hl => by
      rw [List.length_set, hlo] at hl
      rw [set_get, afQ_get _ _ _ _ _ hl, eL l hl, h, hlo]
      by_cases e : l = i
      · subst e; rw [if_pos ⟨rfl, hl⟩, decide_eq_true rfl]; rfl
      · rw [if_neg (fun q => e q.1.symm), decide_eq_false e]; rfl
    have eQ0 : isLn pts[i]! = false → loB pts (setAt pts[i]!) q = afQ ts pts i R0[ts.length]! := fun h => ext_get (by rw [afQ_len, hlo]) fun l hl => by
      rw [hlo] at hl
      rw [afQ_get _ _ _ _ _ hl, eL l hl, h]; rfl
    repeat' (first | (apply id_rw; first | (apply rx_move;rfl;rfl) | (first | (apply rx_load1;rfl;rfl;rfl;rfl) | (apply rx_loadA;rfl;rfl;(exact (rfl:_=[_, _]));rfl;rfl;rfl)) | (apply rx_fieldAddr;rfl;rfl;rfl) | (first | (apply rx_guardY;rfl;rfl;rfl;(assumption)) | (apply rx_guardNs;rfl;rfl;rfl;(assumption)) | (apply rx_guardS; (case hj | hb | hN => rfl); all_goals (intro hg; have hq := hg; (try simp only [bqs] at hq); (try (exfalso; omega))))) | (apply rx_bin;rfl;rfl;rfl;rfl) | (first | (apply rx_pickT;rfl;(assumption);rfl;rfl) | (apply rx_pickF;rfl;(assumption);rfl;rfl)) | (apply rx_indexON;rfl;rfl;(assumption);rfl) | (apply rx_l4Lose;rfl;rfl;rfl;(rfl);(rfl);rfl;(apply l4Lose_c <;> (first | assumption | omega));rfl;rfl) | (apply rw_nil;kernel_rfl) | (apply rx_store;rfl;rfl;rfl;rfl;rfl;(case hl => (first | (rw [flat_length]; simp only [lns] <;> omega) | (simp;done)));(first | exact st_bool (by (omega)) | exact (rfl:_=[_, _])))) | (apply id_aw; first | apply aw_seq | apply aw_region | (apply aw_condT;rfl;(rfl)) | (apply aw_cond;rfl;all_goals intro hc;have hq:=hc;(try simp only [bqs] at hq);try exfalso;omega) | apply aw_skip | apply aw_ret) | with_reducible apply tq_normal)
    · refine rq_le ((Le.frzC (j := 1) (i := 3) [] rfl rfl (by decide)).trans (Le.frzC (j := 1) (i := 4) [_] rfl rfl (by decide))) ?_
      refine rq_ret (l := [.agg [_, _]]) rfl ?_
      refine fc_ret ?_ trivial (by (repeat' (first | exact FamR.here | (apply FamR.cons; focus rfl))))
      simp only [oneOf]
      rw [eU, eQ1 (by unfold isLn; rw [decide_eq_true ‹pts[i]!.op = 5›]; simp)]
      simp only [sl, afR_len, afQ_len]
    · refine rq_le ((Le.frzC (j := 1) (i := 3) [] rfl rfl (by decide)).trans (Le.frzC (j := 1) (i := 4) [_] rfl rfl (by decide))) ?_
      refine rq_ret (l := [.agg [_, _]]) rfl ?_
      refine fc_ret ?_ trivial (by (repeat' (first | exact FamR.here | (apply FamR.cons; focus rfl))))
      simp only [oneOf]
      rw [eU, eQ0 (by unfold isLn; rw [decide_eq_false ‹¬ pts[i]!.op = 4›, decide_eq_false ‹¬ pts[i]!.op = 5›]; rfl)]
      simp only [sl, afR_len, afQ_len]
    · refine rq_le ((Le.frzC (j := 1) (i := 3) [] rfl rfl (by decide)).trans (Le.frzC (j := 1) (i := 4) [_] rfl rfl (by decide))) ?_
      refine rq_ret (l := [.agg [_, _]]) rfl ?_
      refine fc_ret ?_ trivial (by (repeat' (first | exact FamR.here | (apply FamR.cons; focus rfl))))
      simp only [oneOf]
      rw [eU, eQ1 (by unfold isLn; rw [decide_eq_true ‹pts[i]!.op = 4›]; rfl)]
      simp only [sl, afR_len, afQ_len]
  · have hQ := fun l hl => hQ0 v q (by omega) hq' l hl
    have eU : u = afR ts pts i (R0.take ts.length) := ext_get (by rw [afR_len]; omega) fun v' hv' => by
      rw [afR_get _ _ _ _ _ (by omega), hu v' (by omega), hfr v' (by omega), if_neg (by omega : ¬ setAt pts[i]! = (v' : Int))]
      by_cases e2 : useAt ts pts[i]! v' = 2
      · rw [if_pos ⟨by omega, e2⟩, if_pos e2]
      · rw [if_neg (fun h => e2 h.2), if_neg e2]
    have eQ0 : isLn pts[i]! = false → q = afQ ts pts i R0[ts.length]! := fun h => ext_get (by rw [afQ_len, hql]) fun l hl => by
      rw [hql] at hl
      rw [afQ_get _ _ _ _ _ hl, hQ l hl, h]
      cases hln : isLn pts[l]! with
      | false => simp
      | true => have := isLn_y w hl hln; rw [decide_eq_false (by omega : ¬ setAt pts[i]! = pts[l]!.y)]; simp
    refine rq_le ((Le.frzC (j := 1) (i := 3) [] rfl rfl (by decide)).trans (Le.frzC (j := 1) (i := 4) [_] rfl rfl (by decide))) ?_
    refine rq_ret (l := [.agg [_, _]]) rfl ?_
    refine fc_ret ?_ trivial (by (repeat' (first | exact FamR.here | (apply FamR.cons; focus rfl))))
    simp only [oneOf]
    rw [eU, eQ0 (by unfold isLn; rw [decide_eq_false ‹¬ pts[i]!.op = 4›, decide_eq_false ‹¬ pts[i]!.op = 5›]; rfl)]
    simp only [sl, afR_len, afQ_len]
end Go.Proofs.YtejkbiijonnefaaGreat

namespace Go.Proofs.YtejkbiijonnefaaGreat
open Go.AL Go.RowKit

def cSt (nv N : Nat) (i : Nat) : List AV := [.imm nv (flat (cRw (i * (nv + 1)) N) (List.range nv)), .own (i * (nv + 1) + nv + big) 0 N 1]
instance (nv N : Nat) : FlT (cSt nv N) 2 := ⟨fun _ => rfl⟩
instance (nv N : Nat) : FE (cSt nv N) (fun i => [.imm nv (flat (cRw (i * (nv + 1)) N) (List.range nv)), .own (i * (nv + 1) + nv + big) 0 N 1]) := ⟨fun _ => rfl⟩
theorem rn_cSt {m : List (Nat × Nat)} {lo : Lo} {pn : Option Nat} {nv N k M : Nat} (hk : k ≤ M) (h : lo.fb = big + M * (nv + 1)) : RnL (rhoF m lo pn) (flat (cSt nv N) (List.range k)) (flat (cSt nv N) (List.range k)) :=
  RnL.flt fun i hi => by
    rw [List.mem_range] at hi
    have h1 : i * (nv + 1) + nv < M * (nv + 1) := ix_lt (by omega) (by omega)
    exact .cons (.imm (rn_rowsF (by rw [h]; omega))) (.cons (.own (rhoF_big (by omega) (by rw [h]; omega))) .nil)
theorem rn_pushS {m : List (Nat × Nat)} {lo : Lo} {pn : Option Nat} {nv N k : Nat} (h : lo.fb = big + (k + 1) * (nv + 1)) : RnL (rhoF m lo pn) (flat (cSt nv N) (List.range (k + 1))) (((flat (cSt nv N) (List.range k)).drop 0).take (k * 2) ++ cSt nv N k) := by
  have e : ((flat (cSt nv N) (List.range k)).drop 0).take (k * 2) = flat (cSt nv N) (List.range k) := List.take_of_length_le (by rw [List.drop_zero, flat_length (cSt nv N) (e := 2)]; simp)
  have := rn_cSt (m := m) (pn := pn) (N := N) (Nat.le_refl (k + 1)) h
  rw [e]
  rw [List.range_succ, ← flat_append, flat_one] at this ⊢
  exact this
def cFl (s : List (List Bool) × List Bool) : List AV := [sl cBB s.1, sl cB s.2]
instance : FlT cFl 2 := ⟨fun _ => rfl⟩
instance : FE cFl (fun s => [sl cBB s.1, sl cB s.2]) := ⟨fun _ => rfl⟩
theorem ld_st {D : List Nat} {hs : List (Nat × Option (List AV))} {R : List (List Bool)} {nv N M n : Nat} (hF : FamR R R hs hs) (hD : ∀ k, k < nv + 1 → n * (nv + 1) + k + big ∈ D) (hlo : R.length = M * (nv + 1)) (hn : n < M) (hro : ∀ q, q < R.length → R[q]!.length = N) :
    LdL D (lkH hs) (cSt nv N n) [sl cBB (rwF nv R n), sl cB (rwP nv R n)] := by
  have h1 : n * (nv + 1) + nv < M * (nv + 1) := ix_lt hn (by omega)
  have h2 : (rwF nv R n).length = nv := rwF_len hlo hn
  have h3 : (rwP nv R n).length = N := hro _ (by omega)
  have e1 : sl cBB (rwF nv R n) = .imm nv (flat cBB ((R.drop (n * (nv + 1))).take nv)) := by unfold sl; rw [h2]; rfl
  have e2 : sl cB (rwP nv R n) = .imm N (flat cB (rwP nv R n)) := by unfold sl; rw [h3]
  rw [e1, e2]
  exact .cons (.imm (LdL.rows hF (fun k hk => hD k (by omega)) (by omega) (fun k hk => hro _ (by omega)))) (.cons (.own (hD nv (by omega)) (hF.get (by omega)) (.pur (inferInstance : Pur (flat cB _)).pf)) .nil)
def ids7 (b : Nat) : List Nat := [b + 0 + big, b + 1 + big, b + 2 + big, b + 3 + big, b + 4 + big, b + 5 + big, b + 6 + big]
theorem mem_ids7 {b k : Nat} (h : k < 7) : b + k + big ∈ ids7 b := by
  unfold ids7
  match k, h with
  | 0, _ => simp
  | 1, _ => simp
  | 2, _ => simp
  | 3, _ => simp
  | 4, _ => simp
  | 5, _ => simp
  | 6, _ => simp
theorem subR_get {nv N n k : Nat} {R : List (List Bool)} (hlo : R.length = N * (nv + 1)) (hn : n < N) (hk : k < nv + 1) : ((R.drop (n * (nv + 1))).take (nv + 1))[k]! = R[n * (nv + 1) + k]! := by
  have h1 := ix_lt hn hk
  have h2 : n * (nv + 1) + nv < N * (nv + 1) := ix_lt hn (by omega)
  rw [getB _ _ (by rw [List.length_take, List.length_drop]; omega), getB _ _ (by omega), List.getElem_take, List.getElem_drop]
theorem subR_len {nv N n : Nat} {R : List (List Bool)} (hlo : R.length = N * (nv + 1)) (hn : n < N) : ((R.drop (n * (nv + 1))).take (nv + 1)).length = nv + 1 := by
  have h2 : n * (nv + 1) + nv < N * (nv + 1) := ix_lt hn (by omega)
  rw [List.length_take, List.length_drop]; omega
theorem l4After_r (ts : List Int) (pts : List Pnt) (w : WG ts pts) (i : Nat) (hi : i < pts.length) (R : List (List Bool)) (h : FSd ts pts R) :
    FCt Tryz.prog 146 [sl cI ts, sl cPnt pts, iv (i : Int), aSt 0 ts.length pts.length] ((R.drop (i * (ts.length + 1))).take (ts.length + 1)) (.agg [sl cBB (afR ts pts i (rwF ts.length R i)), sl cB (afQ ts pts i (rwP ts.length R i))]) [] := by
  have h1 := l4After_c ts pts w i hi ((R.drop (i * (ts.length + 1))).take (ts.length + 1)) (subR_len h.lo hi) (fun k hk => by rw [subR_get h.lo hi hk]; exact h.ro _ (by rw [h.lo]; exact ix_lt hi hk))
  rw [subR_get h.lo hi (by omega), List.take_take, show min ts.length (ts.length + 1) = ts.length from by omega] at h1
  exact h1
theorem afR_row {ts : List Int} {pts : List Pnt} (w : WG ts pts) {R : List (List Bool)} (h : FSd ts pts R) {i v : Nat} (hi : i < pts.length) (hv : v < ts.length) : (afR ts pts i (rwF ts.length R i))[v]!.length = pts.length := by
  rw [afR_get _ _ _ _ _ hv]
  split
  · exact valB_len _ _ _ _
  · split
    · simp
    · rw [rwF_get h.lo hi hv]; exact h.ro _ (by rw [h.lo]; exact ix_lt hi (by omega))
theorem rx_l4AddF2 {b : List Bool} {R : List (List Bool)} {k m : Nat} {N : Nat} {Q : Exit → AS → Prop} {all : Array Oper} {rest : List Oper} {tsl : List (Nat × AV)} {hsl : List (Nat × Option (List AV))} {nidl : Nat} {z0 : Lo} {md : Md} {d : Nat} {ty : TypeId} {pos : String} {af : Array Edge} {tys : Array TypeId} {x0 x1 : Operand} (ha0 : ev (lk tsl) x0 = some (.own (k + big) 0 m 1)) (ha1 : ev (lk tsl) x1 = some (sl cB b))
    (hF : FamR R R hsl hsl) (hk : k < R.length) (hm : m = R[k]!.length) (hab : b.length ≤ R[k]!.length) (hl : R[k]!.length ≤ 1000000) (hM : Nat.ble (nidl + 0) big = true) (hN : Nat.blt d N = true) {md' : Md} [hmd : MdA md (rOs [x0, x1] ++ [.inr (k + big)]) [.inr (k + big), .inl d] md']
    (kk : RW Tryz.prog N all Q md' rest ⟨(d, .tup []) :: tsl, (k + big, some (flat cB (addB R[k]! b))) :: hsl, nidl + 0, z0⟩) : RW Tryz.prog N all Q md (⟨some d, .call ⟨.value (.func 148), #[x0, x1], tys⟩, ty, pos, af, none⟩ :: rest) ⟨tsl, hsl, nidl, z0⟩ :=
  rx_l4Add (a := R[k]!) (b := b) (i0 := k + big) ha0 ha1 (hF.get hk) (l4Add_c R[k]! b m hm hab hl) hM hN (md' := md') (hmd := hmd) kk
theorem l4Flow_c (p : Prg) (Af Ap : List Nat) (hs : cntL p.body ≤ 1000000) (w : WG p.types (ptsF p)) (hAf : GoodF p.types (ptsF p) Af) (hAp : GoodP p.types (ptsF p) Ap) : PC Tryz.prog 75 [aPrg p] (fun r => r = sl cFl ((List.range (ptsF p).length).map (flB p.types.length (ptsF p).length Af Ap))) := by
  have hpl := w.pl
  have hp0 := w.p0
  have htl := w.tl
  (refine pc_of_aw Tryz.func75 rfl (by simp [Tryz.ntmps75]) ?_; rw [Tryz.ntmps75])
  repeat' (first | (apply id_rw; first | ((with_reducible apply rx_callE (k := 106)); (case ha => rfl); (case h => exact l2Points_c p hs); (case hp => (exact Pur.pf)); (case hN => rfl)) | (apply rx_loadA;rfl;rfl;(exact (rfl:_=[_, _]));rfl;rfl;rfl) | (apply rx_assign;rfl;rfl) | (apply rw_nil;kernel_rfl) | (apply rx_box;rfl;rfl;rfl;rfl) | (apply rx_buildSlice;rfl;rfl;rfl;(rfl);rfl;rfl)) | (apply id_aw; first | apply aw_seq | apply aw_region | apply aw_block) | with_reducible apply tq_normal)
  refine aw_loopF (σ := Nat) 0 (fun k => List.replicate ((p.types.length + 1) * k) (List.replicate (ptsF p).length false)) [1, 3] [(1, _), (3, _)] [0] [(0, some _)] (fun k => [(5, iv (k : Int)), (4, .own 1 0 k 2)]) (fun k => [(1, some (flat (cSt p.types.length (ptsF p).length) (List.range k)))]) (fun k => k ≤ (ptsF p).length) (fun k => (ptsF p).length - k) (0) (Nat.zero_le _) rfl rfl (by repeat' (first | exact trivial | refine And.intro rfl ?_)) (by repeat' (first | exact trivial | refine And.intro (.inr rfl) ?_)) (by (repeat' (first | exact FamR.here | (apply FamR.cons; focus rfl)))) (by (rfl)) ?_
  intro k hk
  try dsimp only
  repeat' (first | (apply id_rw; first | (with_reducible apply rw_stop (d := 27)) | (with_reducible apply rw_stop (d := 6)) | (apply rx_move;rfl;rfl) | (apply rx_load1;rfl;rfl;rfl;rfl) | (apply rx_fieldAddr;rfl;rfl;rfl) | (apply rx_bin;rfl;rfl;rfl;rfl) | (apply rx_len;rfl;rfl;rfl) | (apply rw_nil;kernel_rfl)) | (apply id_aw; first | apply aw_seq | apply aw_region | (apply aw_cond;rfl;all_goals intro hc;have hq:=hc;(try simp only [bqs] at hq);try exfalso;omega) | apply aw_block | apply aw_skip | apply aw_exit) | with_reducible apply tq_normal | with_reducible apply tq_exit | with_reducible apply bq_here)
  · have hrep : List.replicate ((p.types.length + 1) * k) (List.replicate (ptsF p).length false) ++ List.replicate (p.types.length + 1) (List.replicate (ptsF p).length false) = List.replicate ((p.types.length + 1) * (k + 1)) (List.replicate (ptsF p).length false) := by
      rw [List.replicate_append_replicate, Nat.mul_succ]
    refine rw_go ?_
    have hst := l4Start_c p.types.length (ptsF p).length htl hpl
    apply rx_gcall (R := List.replicate ((p.types.length + 1) * k) (List.replicate (ptsF p).length false)) (avs := [iv (p.types.length : Int), iv ((ptsF p).length : Int)]) (rr' := aSt (k * (p.types.length + 1)) p.types.length (ptsF p).length) (h := hst)
    case ha => rfl
    case hp => rfl
    case hF => (repeat' (first | exact FamR.here | (apply FamR.cons; focus rfl)))
    case hz => rfl
    case hM => rfl
    case hN => rfl
    case hr =>
      refine .agg (.cons (.imm (rn_rows fun j hj => ?_)) (.cons (.own ?_) .nil))
      · rw [if_pos (by rw [List.length_replicate]; omega)]; congr 1; rw [List.length_replicate, Nat.mul_comm]; omega
      · rw [if_pos (by rw [List.length_replicate]; omega)]; congr 1; rw [List.length_replicate, Nat.mul_comm]; omega
    rw [hrep]
    repeat' (first | (apply id_rw; first | (apply rx_move;rfl;rfl) | (apply rx_add;rfl;rfl;omega;rfl) | (apply rx_assign;rfl;rfl) | (apply rx_append;rfl;rfl;rfl;rfl;rfl;(case hl => (simp [flat_length]; done));(rfl);omega;omega;(rfl);rfl;rfl) | (apply rw_nil;kernel_rfl) | (apply rx_buildSlice;rfl;rfl;rfl;(exact (rfl:_=some [_, _]));rfl;rfl)) | (apply id_aw; (apply aw_region)) | with_reducible apply tq_normal | with_reducible apply bq_normal)
    (apply ex3 (k + 1); focus (refine Le.renF0 [(0, 0), (1, 3)] (R := ?qA1) (hF := ?qF1) (hz := ?qz1) (hm := ?qm1) (hn := ?qn1) (h1 := ?q11) (h2 := ?q21); (case qF1 => (repeat' (first | exact FamR.here | (apply FamR.cons; focus rfl)))); (case qz1 => (rfl)); (case qm1 => rfl); (case qn1 => decide); all_goals (repeat' (first | exact trivial | refine And.intro ⟨_, rfl, ?_⟩ ?_ | refine And.intro ⟨_, _, rfl, rfl, ?_⟩ ?_ | exact RnL.purI inferInstance | exact RnV.purI inferInstance | exact RnV.own rfl | exact RnV.optr rfl | exact rn_pushS (by show big + (List.replicate ((p.types.length + 1) * (k + 1)) (List.replicate (ptsF p).length false)).length = _; rw [List.length_replicate, Nat.mul_comm])))))
    · show k + 1 ≤ (ptsF p).length; omega
    · show (ptsF p).length - (k + 1) < (ptsF p).length - k; omega
  · have hkN : k = (ptsF p).length := by omega
    subst hkN
    refine rw_go (rw_le ?_ (Le.frzD (d := 4) (i := 1) rfl rfl))
    rw [Nat.mul_comm]
    repeat' (first | (apply id_rw; first | (apply rx_assign;rfl;rfl) | (apply rw_nil;kernel_rfl)) | (apply id_aw; first | apply aw_seq | apply aw_block) | with_reducible apply tq_normal)
    refine aw_loopF (σ := List (List Bool) × Bool) 0 (fun s => s.1) [1, 3, 4] [(1, _), (3, _), (4, _)] [0] [(0, some _)] (fun s => [(6, bv s.2)]) (fun s => []) (fun s => FH p.types (ptsF p) s.1 s.2) (fun s => muF p.types (ptsF p) s.1 s.2) (List.replicate ((ptsF p).length * (p.types.length + 1)) (List.replicate (ptsF p).length false), true) (FH.init _ _) rfl rfl (by repeat' (first | exact trivial | refine And.intro rfl ?_)) (by repeat' (exact trivial)) (by (repeat' (first | exact FamR.here | (apply FamR.cons; focus rfl)))) (by (rfl)) ?_
    rintro ⟨R, c⟩ hFH
    try dsimp only at hFH
    try dsimp only
    have hRl := hFH.d.lo
    have hRr := hFH.d.ro
    cases c with
    | false =>
      repeat' (first | (apply id_rw; first | (apply rx_move;rfl;rfl) | (apply rx_assign;rfl;rfl) | (apply rw_nil;kernel_rfl)) | (apply id_aw; first | apply aw_seq | apply aw_region | (apply aw_condF;rfl;(rfl)) | apply aw_exit | apply aw_ret) | with_reducible apply tq_normal | with_reducible apply tq_exit | with_reducible apply bq_here)
      have hfin := hFH.final w hAf hAp
      refine rq_le (Le.frzAll (d := 2) (D := (List.range R.length).map fun k => k + big) rfl (.imm (LdL.flt fun n hn => ld_st (R := R) (M := (ptsF p).length) (by (repeat' (first | exact FamR.here | (apply FamR.cons; focus rfl)))) (fun k hk => List.mem_map.2 ⟨n * (p.types.length + 1) + k, by rw [List.mem_range, hRl]; exact ix_lt (List.mem_range.1 hn) hk, rfl⟩) hRl (List.mem_range.1 hn) hRr))) ?_
      refine rq_ret rfl ⟨?_, (by (exact pur_sl _ _))⟩
      simp only [oneOf]
      have e1 : (List.range (ptsF p).length).map (fun n => (rwF p.types.length R n, rwP p.types.length R n)) = (List.range (ptsF p).length).map (flB p.types.length (ptsF p).length Af Ap) := List.map_congr_left fun n hn => by
        have := hfin n (List.mem_range.1 hn)
        rw [this.1, this.2]
      have e2 : flat (fun n => [sl cBB (rwF p.types.length R n), sl cB (rwP p.types.length R n)]) (List.range (ptsF p).length) = flat cFl ((List.range (ptsF p).length).map (flB p.types.length (ptsF p).length Af Ap)) := by
        rw [← e1, flat, flat, List.flatMap_map]; rfl
      rw [e2]
      simp only [sl, List.length_map, List.length_range]
    | true =>
      have hst := hFH.start
      repeat' (first | (apply id_rw; first | (apply rx_move;rfl;rfl) | (apply rx_assign;rfl;rfl) | (apply rw_nil;kernel_rfl)) | (apply id_aw; first | apply aw_seq | apply aw_region | (apply aw_condT;rfl;(rfl)) | apply aw_block | apply aw_skip) | with_reducible apply tq_normal)
      refine aw_loopF (σ := Nat × List (List Bool) × Bool) 0 (fun s => s.2.1) [1, 3, 4] [(1, _), (3, _), (4, _)] [0] [(0, some _)] (fun s => [(6, bv s.2.2), (7, iv (s.1 : Int))]) (fun s => []) (fun s => s.1 ≤ (ptsF p).length ∧ FS p.types (ptsF p) R s.2.1 s.2.2 (DF s.1 0)) (fun s => (ptsF p).length - s.1) (0, R, false) ⟨Nat.zero_le _, hst⟩ rfl rfl (by repeat' (first | exact trivial | refine And.intro rfl ?_)) (by repeat' (exact trivial)) (by (repeat' (first | exact FamR.here | (apply FamR.cons; focus rfl)))) (by (rfl)) ?_
      rintro ⟨j, R1, c1⟩ ⟨hj, hS1⟩
      dsimp only at hj hS1
      have hl1 := hS1.d.lo
      try dsimp only
      by_cases hjn : j < (ptsF p).length
      · have hnl := w.nl j hjn
        repeat' (first | (apply id_rw; first | ((apply rx_fcall (k := 146) (R := R1) (avs0 := [sl cI p.types, sl cPnt (ptsF p), iv (j : Int), aSt 0 p.types.length (ptsF p).length]) (b := j * (p.types.length + 1)) (n1 := 0) (D := ids7 (j * (p.types.length + 1))) (ws := []) (h := l4After_r p.types (ptsF p) w j hjn R1 hS1.d) (rr' := .agg [sl cBB (afR p.types (ptsF p) j (rwF p.types.length R1 j)), sl cB (afQ p.types (ptsF p) j (rwP p.types.length R1 j))])); (case ha => rfl); (case hF => (repeat' (first | exact FamR.here | (apply FamR.cons; focus rfl)))); (case hb => (rw [subR_len hl1 hjn]; have := ix_lt (v := p.types.length) hjn (Nat.lt_succ_self _); omega)); (case hR => exact fun k hk => subR_get hl1 hjn (by rwa [subR_len hl1 hjn] at hk)); (case hD => exact fun k hk => mem_ids7 (by rw [subR_len hl1 hjn] at hk; omega)); (case har => exact .cons (RnV.purI inferInstance) (.cons (RnV.purI inferInstance) (.cons (RnV.purI inferInstance) (.cons (.agg (.cons (.imm (rn_rows fun k hk => (by rw [Nat.zero_add, mpC_big (by rw [subR_len hl1 hjn]; omega)]))) (.cons (.own (by rw [Nat.zero_add, mpC_big (by rw [subR_len hl1 hjn]; omega)])) .nil))) .nil)))); (case hk => rfl); (case hr => exact RnV.purI inferInstance); (case hw => exact trivial); (case hM | hN => rfl)) | (apply rx_move;rfl;rfl) | (first | (apply rx_load1;rfl;rfl;rfl;rfl) | (apply rx_loadA;rfl;rfl;(exact (rfl:_=[_, _]));rfl;rfl;rfl)) | (apply rx_fieldAddr;rfl;rfl;rfl) | (apply rx_bin;rfl;rfl;rfl;rfl) | (apply rx_assign;rfl;rfl) | (apply rx_indexRg;rfl;rfl;(assumption);rfl;infer_instance;infer_instance;rfl) | (apply rx_len;rfl;rfl;rfl) | (apply rw_nil;kernel_rfl) | (apply rx_alloc;rfl;rfl) | (apply rx_store;rfl;rfl;rfl;rfl;rfl;(case hl => (simp;done));(exact (rfl:_=[_, _])))) | (apply id_aw; first | apply aw_seq | apply aw_region | (apply aw_draw;kernel_rfl) | (apply aw_cond;rfl;all_goals intro hc;have hq:=hc;(try simp only [bqs] at hq);try exfalso;omega) | apply aw_block | apply aw_skip) | with_reducible apply tq_normal)
        refine aw_loopF (σ := Nat × List (List Bool) × Bool) 0 (fun s => s.2.1) [1, 3, 4, 7, 8] [(1, _), (3, _), (4, _), (7, _), (8, _)] [0, 2] [(0, some _), (2, some _)] (fun s => [(6, bv s.2.2), (9, iv (s.1 : Int))]) (fun s => []) (fun s => s.1 ≤ (ptsF p)[j]!.next.length ∧ FS p.types (ptsF p) R s.2.1 s.2.2 (DF j s.1) ∧ (s.2.2 = false → s.2.1 = R1)) (fun s => (ptsF p)[j]!.next.length - s.1) (0, R1, c1) ⟨Nat.zero_le _, hS1, fun _ => rfl⟩ rfl rfl (by repeat' (first | exact trivial | refine And.intro rfl ?_)) (by repeat' (exact trivial)) (by (repeat' (first | exact FamR.here | (apply FamR.cons; focus rfl)))) (by (rfl)) ?_
        rintro ⟨kk, R2, c2⟩ ⟨hk, hS2, hc2⟩
        dsimp only at hk hS2 hc2
        have hl2 := hS2.d.lo
        have hr2 := hS2.d.ro
        try dsimp only
        by_cases hkn : kk < (ptsF p)[j]!.next.length
        · have hnx := w.nx j hjn _ (getB_mem _ _ hkn)
          have hnn : ((ptsF p)[j]!.next[kk]!).toNat < (ptsF p).length := by omega
          have hix : ((ptsF p)[j]!.next[kk]!).toNat * (p.types.length + 1) + p.types.length < R2.length := by rw [hl2]; exact ix_lt hnn (by omega)
          have hrix := hr2 _ hix
          have hqa := afQ_len p.types (ptsF p) j (rwP p.types.length R1 j)
          have hw1 := l4Within_c (afR p.types (ptsF p) j (rwF p.types.length R1 j)) (rwF p.types.length R2 ((ptsF p)[j]!.next[kk]!).toNat) (afQ p.types (ptsF p) j (rwP p.types.length R1 j)) (rwP p.types.length R2 ((ptsF p)[j]!.next[kk]!).toNat) (by rw [afQ_len]; exact hpl) (by rw [afR_len]; exact htl)
            (by rw [afQ_len]; exact hr2 _ (by rw [hl2]; exact ix_lt hnn (by omega))) (by rw [afR_len]; exact rwF_len hl2 hnn) (fun v hv => by rw [afR_len] at hv; rw [afQ_len]; exact afR_row w hS1.d hjn hv) (fun v hv => by rw [afR_len] at hv; rw [afQ_len, rwF_get hl2 hnn hv]; exact hr2 _ (by rw [hl2]; exact ix_lt hnn (by omega)))
          repeat' (first | (apply id_rw; first | ((with_reducible apply rx_lendG (k := 147) (D := ids7 (((ptsF p)[j]!.next[kk]!).toNat * (p.types.length + 1))) (h := hw1)); (case ha => rfl); (case hl => exact .cons (.pur (PurV.pf)) (.cons (.agg (ld_st (R := R2) (M := (ptsF p).length) (by (repeat' (first | exact FamR.here | (apply FamR.cons; focus rfl)))) (fun k hk => mem_ids7 (by omega)) hl2 hnn hr2)) .nil)); (case hfr | hN => rfl)) | (apply rx_l4AddF2;rfl;rfl;(case hF => (repeat' (first | exact FamR.here | (apply FamR.cons; focus rfl))));omega;omega;omega;omega;rfl;rfl) | (with_reducible apply rw_stop (d := 11)) | (apply rx_move;rfl;rfl) | (first | (apply rx_load1;rfl;rfl;rfl;rfl) | (apply rx_loadA;rfl;rfl;(exact (rfl:_=[_, _]));rfl;rfl;rfl)) | (apply rx_fieldAddr;rfl;rfl;rfl) | (first | (apply rx_add;rfl;rfl;omega;rfl) | (apply rx_bin;rfl;rfl;rfl;rfl)) | (apply rx_assign;rfl;rfl) | (first | (apply rx_indexRgI;rfl;rfl;(assumption);rfl;infer_instance;infer_instance;rfl) | (apply rx_indexFN; (case hx | hi => rfl); (case hm => (assumption)); (case hml => (rfl)); (case hα | hf | hg => infer_instance); (case hN => rfl))) | (apply rx_len;rfl;rfl;rfl) | (apply rw_nil;kernel_rfl) | (apply rx_not;rfl;rfl)) | (apply id_aw; first | apply aw_seq | apply aw_region | (apply aw_draw;kernel_rfl) | (apply aw_cond;rfl;all_goals intro hc;have hq:=hc;(try simp only [bqs] at hq);try exfalso;omega) | apply aw_block | apply aw_skip) | with_reducible apply tq_normal | with_reducible apply bq_normal)
          · refine rw_go ?_
            apply rw_le
            case k =>
              apply Le.fset (R := R2) (hk := hix)
              (repeat' (first | exact FamR.here | (apply FamR.cons; focus rfl)))
            rw [jnR_zero hix]
            repeat' (first | (apply id_rw; first | (apply rx_assign;rfl;rfl) | (apply rw_nil;kernel_rfl)) | (apply id_aw; (apply aw_block)) | with_reducible apply tq_normal)
            refine aw_loopF (σ := Nat) 0 (fun v => jnR R2 (((ptsF p)[j]!.next[kk]!).toNat * (p.types.length + 1)) p.types.length (afR p.types (ptsF p) j (rwF p.types.length R1 j)) (afQ p.types (ptsF p) j (rwP p.types.length R1 j)) v) [1, 3, 4, 7, 8, 9, 10] [(1, _), (3, _), (4, _), (7, _), (8, _), (9, _), (10, _)] [0, 2] [(0, some _), (2, some _)] (fun v => [(11, iv (v : Int))]) (fun v => []) (fun v => v ≤ p.types.length) (fun v => p.types.length - v) (0) (Nat.zero_le _) rfl rfl (by repeat' (first | exact trivial | refine And.intro rfl ?_)) (by repeat' (exact trivial)) (by (repeat' (first | exact FamR.here | (apply FamR.cons; focus rfl)))) (by (simp only [jnR_len])) ?_
            intro v hv
            try dsimp only
            have hjl := jnR_len R2 (((ptsF p)[j]!.next[kk]!).toNat * (p.types.length + 1)) p.types.length (afR p.types (ptsF p) j (rwF p.types.length R1 j)) (afQ p.types (ptsF p) j (rwP p.types.length R1 j)) v
            have hal := afR_len p.types (ptsF p) j (rwF p.types.length R1 j)
            by_cases hvn : v < p.types.length
            · have hav := afR_row w hS1.d hjn hvn
              have hjr : (jnR R2 (((ptsF p)[j]!.next[kk]!).toNat * (p.types.length + 1)) p.types.length (afR p.types (ptsF p) j (rwF p.types.length R1 j)) (afQ p.types (ptsF p) j (rwP p.types.length R1 j)) v)[((ptsF p)[j]!.next[kk]!).toNat * (p.types.length + 1) + v]!.length = (ptsF p).length := by
                rw [jnR_get _ _ _ _ _ _ _ (by omega), if_neg (by omega), if_neg (by omega)]; exact hr2 _ (by omega)
              repeat' (first | (apply id_rw; first | (apply rx_l4AddF2;rfl;rfl;(case hF => (repeat' (first | exact FamR.here | (apply FamR.cons; focus rfl))));omega;omega;omega;omega;rfl;rfl) | (with_reducible apply rw_stop (d := 84)) | (apply rx_move;rfl;rfl) | (apply rx_load1;rfl;rfl;rfl;rfl) | (apply rx_fieldAddr;rfl;rfl;rfl) | (apply rx_bin;rfl;rfl;rfl;rfl) | (first | (apply rx_indexRg;rfl;rfl;(assumption);rfl;infer_instance;infer_instance;rfl) | (apply rx_indexRgI;rfl;rfl;(assumption);rfl;infer_instance;infer_instance;rfl) | (apply rx_indexFN; (case hx | hi => rfl); (case hm => (omega)); (case hml => (rfl)); (case hα | hf | hg => infer_instance); (case hN => rfl))) | (apply rx_len;rfl;rfl;rfl) | (apply rw_nil;kernel_rfl)) | (apply id_aw; first | apply aw_seq | apply aw_region | (apply aw_draw;kernel_rfl) | (apply aw_cond;rfl;all_goals intro hc;have hq:=hc;(try simp only [bqs] at hq);try exfalso;omega) | apply aw_block | apply aw_skip) | with_reducible apply tq_normal | with_reducible apply bq_normal)
              refine rw_go ?_
              apply rw_le
              case k =>
                apply Le.fset (R := jnR R2 (((ptsF p)[j]!.next[kk]!).toNat * (p.types.length + 1)) p.types.length (afR p.types (ptsF p) j (rwF p.types.length R1 j)) (afQ p.types (ptsF p) j (rwP p.types.length R1 j)) v) (hk := (by omega))
                (repeat' (first | exact FamR.here | (apply FamR.cons; focus rfl)))
              rw [jnR_succ hix hvn]
              repeat' (first | (apply id_rw; first | (apply rx_move;rfl;rfl) | (apply rx_add;rfl;rfl;omega;rfl) | (apply rx_assign;rfl;rfl) | (apply rw_nil;kernel_rfl)) | with_reducible apply tq_normal)
              (apply ex3 (v + 1); focus (refine Le.renF0 [(0, 0), (2, 2)] (R := ?qA2) (hF := ?qF2) (hz := ?qz2) (hm := ?qm2) (hn := ?qn2) (h1 := ?q12) (h2 := ?q22); (case qF2 => (repeat' (first | exact FamR.here | (apply FamR.cons; focus rfl)))); (case qz2 => (simp only [jnR_len])); (case qm2 => rfl); (case qn2 => decide); all_goals (repeat' (first | exact trivial | refine And.intro ⟨_, rfl, ?_⟩ ?_ | refine And.intro ⟨_, _, rfl, rfl, ?_⟩ ?_ | exact RnL.purI inferInstance | exact RnV.purI inferInstance | exact RnV.optr rfl | exact RnV.imm (rn_cSt (M := (ptsF p).length) (Nat.le_refl _) (by show big + (jnR _ _ _ _ _ _).length = _; rw [jnR_len, hl2]))))))
              · show v + 1 ≤ p.types.length; omega
              · show p.types.length - (v + 1) < p.types.length - v; omega
            · repeat' (first | (apply id_rw; first | (apply rx_move;rfl;rfl) | (apply rx_load1;rfl;rfl;rfl;rfl) | (apply rx_fieldAddr;rfl;rfl;rfl) | (first | (apply rx_add;rfl;rfl;omega;rfl) | (apply rx_bin;rfl;rfl;rfl;rfl)) | (apply rx_assign;rfl;rfl) | (apply rx_len;rfl;rfl;rfl) | (apply rw_nil;kernel_rfl)) | (apply id_aw; first | apply aw_seq | apply aw_region | (apply aw_cond;rfl;all_goals intro hc;have hq:=hc;(try simp only [bqs] at hq);try exfalso;omega) | apply aw_exit) | with_reducible apply tq_normal | with_reducible apply tq_exit | with_reducible apply bq_normal | with_reducible apply bq_here)
              have hvN : v = p.types.length := by omega
              subst hvN
              have hw3 : wiB (afR p.types (ptsF p) j (rwF p.types.length R1 j)) (rwF p.types.length R2 ((ptsF p)[j]!.next[kk]!).toNat) (afQ p.types (ptsF p) j (rwP p.types.length R1 j)) (rwP p.types.length R2 ((ptsF p)[j]!.next[kk]!).toNat) = false := by assumption
              (apply ex3 (kk + 1, _, true); focus (refine Le.renF0 [(0, 0), (2, 2)] (R := ?qA3) (hF := ?qF3) (hz := ?qz3) (hm := ?qm3) (hn := ?qn3) (h1 := ?q13) (h2 := ?q23); (case qF3 => (repeat' (first | exact FamR.here | (apply FamR.cons; focus rfl)))); (case qz3 => (rfl)); (case qm3 => rfl); (case qn3 => decide); all_goals (repeat' (first | exact trivial | refine And.intro ⟨_, rfl, ?_⟩ ?_ | refine And.intro ⟨_, _, rfl, rfl, ?_⟩ ?_ | exact RnL.purI inferInstance | exact RnV.purI inferInstance | exact RnV.optr rfl | exact RnV.imm (rn_cSt (M := (ptsF p).length) (Nat.le_refl _) (by show big + (jnR _ _ _ _ _ _).length = _; rw [jnR_len, hl2]))))))
              · exact ⟨(by show kk + 1 ≤ (ptsF p)[j]!.next.length; omega), hS2.hit w (DF j (kk + 1)) hS1.d hjn hkn hw3, fun h => (by cases h)⟩
              · show (ptsF p)[j]!.next.length - (kk + 1) < (ptsF p)[j]!.next.length - kk; omega
          · (apply ex3 (kk + 1, R2, c2); focus (refine Le.renF0 [(0, 0), (2, 2)] (R := ?qA4) (hF := ?qF4) (hz := ?qz4) (hm := ?qm4) (hn := ?qn4) (h1 := ?q14) (h2 := ?q24); (case qF4 => (repeat' (first | exact FamR.here | (apply FamR.cons; focus rfl)))); (case qz4 => (rfl)); (case qm4 => rfl); (case qn4 => decide); all_goals (repeat' (first | exact trivial | refine And.intro ⟨_, rfl, ?_⟩ ?_ | refine And.intro ⟨_, _, rfl, rfl, ?_⟩ ?_ | exact RnL.purI inferInstance | exact RnV.purI inferInstance | exact RnV.optr rfl | exact RnV.imm (rn_cSt (M := (ptsF p).length) (Nat.le_refl _) (by show big + R2.length = _; rw [hl2]))))))
            · refine ⟨(by show kk + 1 ≤ (ptsF p)[j]!.next.length; omega), hS2.skip (i := j) (k := kk) hc2 (by assumption) (fun i' k' _ _ hd => by unfold DF at hd ⊢; omega), hc2⟩
            · show (ptsF p)[j]!.next.length - (kk + 1) < (ptsF p)[j]!.next.length - kk; omega
        · repeat' (first | (apply id_rw; first | (apply rx_move;rfl;rfl) | (apply rx_load1;rfl;rfl;rfl;rfl) | (apply rx_fieldAddr;rfl;rfl;rfl) | (first | (apply rx_add;rfl;rfl;omega;rfl) | (apply rx_bin;rfl;rfl;rfl;rfl)) | (apply rx_assign;rfl;rfl) | (apply rx_indexFN; (case hx | hi => rfl); (case hm => (assumption)); (case hml => (rfl)); (case hα | hf | hg => infer_instance); (case hN => rfl)) | (apply rx_len;rfl;rfl;rfl) | (apply rw_nil;kernel_rfl)) | (apply id_aw; first | apply aw_seq | apply aw_region | (apply aw_cond;rfl;all_goals intro hc;have hq:=hc;(try simp only [bqs] at hq);try exfalso;omega) | apply aw_exit) | with_reducible apply tq_normal | with_reducible apply tq_exit | with_reducible apply bq_normal | with_reducible apply bq_here)
          (apply ex3 (j + 1, R2, c2); focus (refine Le.renF0 [(0, 0)] (R := ?qA5) (hF := ?qF5) (hz := ?qz5) (hm := ?qm5) (hn := ?qn5) (h1 := ?q15) (h2 := ?q25); (case qF5 => (repeat' (first | exact FamR.here | (apply FamR.cons; focus rfl)))); (case qz5 => (rfl)); (case qm5 => rfl); (case qn5 => decide); all_goals (repeat' (first | exact trivial | refine And.intro ⟨_, rfl, ?_⟩ ?_ | refine And.intro ⟨_, _, rfl, rfl, ?_⟩ ?_ | exact RnL.purI inferInstance | exact RnV.purI inferInstance | exact RnV.optr rfl | exact RnV.imm (rn_cSt (M := (ptsF p).length) (Nat.le_refl _) (by show big + R2.length = _; rw [hl2]))))))
          · refine ⟨(by show j + 1 ≤ (ptsF p).length; omega), hS2.mono fun i' k' _ hk' hd => ?_⟩
            unfold DF at hd ⊢
            by_cases e : i' = j
            · subst e; omega
            · omega
          · show (ptsF p).length - (j + 1) < (ptsF p).length - j; omega
      · repeat' (first | (apply id_rw; first | (apply rx_move;rfl;rfl) | (apply rx_bin;rfl;rfl;rfl;rfl) | (apply rx_len;rfl;rfl;rfl) | (apply rw_nil;kernel_rfl)) | (apply id_aw; first | apply aw_seq | apply aw_region | (apply aw_cond;rfl;all_goals intro hc;have hq:=hc;(try simp only [bqs] at hq);try exfalso;omega) | apply aw_exit) | with_reducible apply tq_normal | with_reducible apply tq_exit | with_reducible apply bq_normal | with_reducible apply bq_here)
        (apply ex3 (R1, c1); focus (refine Le.renF0 [(0, 0)] (R := ?qA6) (hF := ?qF6) (hz := ?qz6) (hm := ?qm6) (hn := ?qn6) (h1 := ?q16) (h2 := ?q26); (case qF6 => (repeat' (first | exact FamR.here | (apply FamR.cons; focus rfl)))); (case qz6 => (rfl)); (case qm6 => rfl); (case qn6 => decide); all_goals (repeat' (first | exact trivial | refine And.intro ⟨_, rfl, ?_⟩ ?_ | refine And.intro ⟨_, _, rfl, rfl, ?_⟩ ?_ | exact RnL.purI inferInstance | exact RnV.purI inferInstance | exact RnV.optr rfl | exact RnV.imm (rn_cSt (M := (ptsF p).length) (Nat.le_refl _) (by show big + R1.length = _; rw [hl1]))))))
        · exact (hS1.fin (by omega)).1
        · exact (hS1.fin (by omega)).2
end Go.Proofs.YtejkbiijonnefaaGreat

namespace Go.Proofs.YtejkbiijonnefaaGreat
open Go.AL Go.RowKit

instance (s : List (List Bool) × List Bool) : Pur (cFl s) := ⟨by show ((sl cBB s.1).pur && ((sl cB s.2).pur && true)) = true; rw [pur_sl, pur_sl]; rfl⟩
def spV (ts : List Int) (pts : List Pnt) (Aa : List Nat) (i k : Nat) : List Iss := ((List.range k).filter (spU ts pts Aa i)).map (fun (v : Nat) => ⟨i, 1, v⟩)
def spL (pts : List Pnt) (cf : List Bool) (i k : Nat) : List Iss := ((List.range k).filter (fun (l : Nat) => cf[l]!)).map (fun (l : Nat) => ⟨i, spK pts l, l⟩)
theorem spV_hit {ts : List Int} {pts : List Pnt} {Aa : List Nat} {i k : Nat} (h : spU ts pts Aa i k = true) : spV ts pts Aa i (k + 1) = spV ts pts Aa i k ++ [⟨i, 1, k⟩] := by
  unfold spV; rw [filt_succ, if_pos h, List.map_append]; rfl
theorem spV_skip {ts : List Int} {pts : List Pnt} {Aa : List Nat} {i k : Nat} (h : spU ts pts Aa i k = false) : spV ts pts Aa i (k + 1) = spV ts pts Aa i k := by
  unfold spV; rw [filt_succ, if_neg (by rw [h]; decide), List.append_nil]
theorem spL_hit {pts : List Pnt} {cf : List Bool} {i k : Nat} (h : cf[k]! = true) : spL pts cf i (k + 1) = spL pts cf i k ++ [⟨i, spK pts k, k⟩] := by
  unfold spL; rw [filt_succ, if_pos h, List.map_append]; rfl
theorem spL_skip {pts : List Pnt} {cf : List Bool} {i k : Nat} (h : cf[k]! = false) : spL pts cf i (k + 1) = spL pts cf i k := by
  unfold spL; rw [filt_succ, if_neg (by rw [h]; decide), List.append_nil]
end Go.Proofs.YtejkbiijonnefaaGreat

namespace Go.Proofs.YtejkbiijonnefaaGreat
open Go.AL Go.RowKit

abbrev cRd (bs : List UInt8) (p : Nat) : List AV := [sl cU bs, iv (p : Int)]
def pickX (bs : List UInt8) (q : Int) : Int := ((bs[(q % (bs.length : Int)).toNat]!).toNat : Int) * 131 + ((bs[((q * 7 + 3) % (bs.length : Int)).toNat]!).toNat : Int) * 1117 + q * 29 + q / (bs.length : Int) * 53
def pickF (bs : List UInt8) (p : Nat) (n : Int) : Int :=
  if n < 1 then 0 else if (bs.length : Int) = 0 then 0 else
  if (p : Int) + 1 - 1 < (bs.length : Int) then ((bs[((p : Int) + 1 - 1).toNat]!).toNat : Int) % n
  else (((pickX bs ((p : Int) + 1 - 1)).toNat ^^^ (pickX bs ((p : Int) + 1 - 1) / 64).toNat : Nat) : Int) % n
theorem pickF_bd (bs : List UInt8) (p : Nat) (n : Int) : 0 ≤ pickF bs p n ∧ (pickF bs p n < n ∨ n < 1 ∧ pickF bs p n = 0) := by
  unfold pickF
  split
  · omega
  · split
    · omega
    · split
      · exact ⟨Int.emod_nonneg _ (by omega), .inl (Int.emod_lt_of_pos _ (by omega))⟩
      · exact ⟨Int.emod_nonneg _ (by omega), .inl (Int.emod_lt_of_pos _ (by omega))⟩
def numF (bs : List UInt8) (p : Nat) (xs : List Int) : Int := xs[(pickF bs p (xs.length : Int)).toNat]!
class NumL (cs : List AV) (xs : outParam (List Int)) : Prop where h : cs = flat cI xs
instance NumL.nil : NumL [] [] := ⟨rfl⟩
instance NumL.cons {n : Int} {cs : List AV} {xs : List Int} [h : NumL cs xs] : NumL (.v (.int .i64 n) :: cs) (n :: xs) := ⟨by rw [h.h]; rfl⟩
theorem rx_pick {bs : List UInt8} {p : Nat} {n : Int} {N : Nat} {Q : Exit → AS → Prop} {all : Array Oper} {rest : List Oper} {tsl : List (Nat × AV)} {hsl : List (Nat × Option (List AV))} {nidl : Nat} {z0 : Lo} {md : Md} {d : Nat} {ty : TypeId} {pos : String} {af : Array Edge} {tys : Array TypeId} {x0 x1 : Operand} {i0 : Nat} (ha0 : ev (lk tsl) x0 = some (.optr i0 0)) (ha1 : ev (lk tsl) x1 = some (iv n)) (hH0 : lkH hsl i0 = some (cRd bs p)) (hmc : MC Tryz.prog 93 [.optr 0 0, iv n] [(0, some (cRd bs p))] 1 (fun _ : Unit => True) (fun _ => iv (pickF bs p n)) (fun _ => [(0, some (cRd bs (p + 1)))])) (hM : Nat.ble (nidl + 0) big = true) (hN : Nat.blt d N = true) {md' : Md} [hmd : MdA md (rOs [x0, x1] ++ [.inr i0]) (List.map Sum.inr (List.map Prod.fst ([(i0, some (cRd bs (p + 1)))] : List (Nat × Option (List AV)))) ++ [.inl d]) md'] (kk : RW Tryz.prog N all Q md' rest ⟨(d, iv (pickF bs p n)) :: tsl, wrH hsl [(i0, some (cRd bs (p + 1)))], nidl + 0, z0⟩) : RW Tryz.prog N all Q md (⟨some d, .call ⟨.value (.func 93), #[x0, x1], tys⟩, ty, pos, af, none⟩ :: rest) ⟨tsl, hsl, nidl, z0⟩ := by
  refine rx_mcallE [i0] 1 [(i0, some (cRd bs (p + 1)))] hmc (avs := [.optr i0 0, iv n]) ?_ rfl ?_ rfl ?_ (by simpa using hM) ?_ ?_ ?_ hN (md' := md') (hmd := hmd) kk
  · show evL (lk tsl) [x0, x1] = _
    simp only [evL, ha0, ha1]
  · exact ⟨⟨_, _, rfl, hH0, by (repeat' (exact RnL.purI inferInstance))⟩, trivial⟩
  · (repeat' (first | exact RnL.purI inferInstance | exact RnV.optr rfl | refine RnL.cons ?_ ?_))
  · (repeat' (exact RnV.purI inferInstance))
  · simp [wsAll]
  · (repeat' (first | exact trivial | (refine And.intro ⟨0, _, rfl, rfl, ?_⟩ ?_) | exact RnL.purI inferInstance))

theorem rx_num0 {bs : List UInt8} {p : Nat} {xs : List Int} {N : Nat} {Q : Exit → AS → Prop} {all : Array Oper} {rest : List Oper} {tsl : List (Nat × AV)} {hsl : List (Nat × Option (List AV))} {nidl : Nat} {z0 : Lo} {md : Md} {d : Nat} {ty : TypeId} {pos : String} {af : Array Edge} {tys : Array TypeId} {x0 x1 : Operand} {i0 : Nat} (ha0 : ev (lk tsl) x0 = some (.optr i0 0)) (ha1 : ev (lk tsl) x1 = some (sl cI xs)) (hH0 : lkH hsl i0 = some (cRd bs p)) (hmc : MC Tryz.prog 94 [.optr 0 0, sl cI xs] [(0, some (cRd bs p))] 1 (fun _ : Unit => True) (fun _ => iv (numF bs p xs)) (fun _ => [(0, some (cRd bs (p + 1)))])) (hM : Nat.ble (nidl + 0) big = true) (hN : Nat.blt d N = true) {md' : Md} [hmd : MdA md (rOs [x0, x1] ++ [.inr i0]) (List.map Sum.inr (List.map Prod.fst ([(i0, some (cRd bs (p + 1)))] : List (Nat × Option (List AV)))) ++ [.inl d]) md'] (kk : RW Tryz.prog N all Q md' rest ⟨(d, iv (numF bs p xs)) :: tsl, wrH hsl [(i0, some (cRd bs (p + 1)))], nidl + 0, z0⟩) : RW Tryz.prog N all Q md (⟨some d, .call ⟨.value (.func 94), #[x0, x1], tys⟩, ty, pos, af, none⟩ :: rest) ⟨tsl, hsl, nidl, z0⟩ := by
  refine rx_mcallE [i0] 1 [(i0, some (cRd bs (p + 1)))] hmc (avs := [.optr i0 0, sl cI xs]) ?_ rfl ?_ rfl ?_ (by simpa using hM) ?_ ?_ ?_ hN (md' := md') (hmd := hmd) kk
  · show evL (lk tsl) [x0, x1] = _
    simp only [evL, ha0, ha1]
  · exact ⟨⟨_, _, rfl, hH0, by (repeat' (exact RnL.purI inferInstance))⟩, trivial⟩
  · (repeat' (first | exact RnL.purI inferInstance | exact RnV.optr rfl | refine RnL.cons ?_ ?_))
  · (repeat' (exact RnV.purI inferInstance))
  · simp [wsAll]
  · (repeat' (first | exact trivial | (refine And.intro ⟨0, _, rfl, rfl, ?_⟩ ?_) | exact RnL.purI inferInstance))

theorem rx_num0O {bs : List UInt8} {p : Nat} {xs : List Int} {N : Nat} {Q : Exit → AS → Prop} {all : Array Oper} {rest : List Oper} {tsl : List (Nat × AV)} {hsl : List (Nat × Option (List AV))} {nidl : Nat} {z0 : Lo} {md : Md} {d : Nat} {ty : TypeId} {pos : String} {af : Array Edge} {tys : Array TypeId} {x0 x1 : Operand} {i0 i1 : Nat} (ha0 : ev (lk tsl) x0 = some (.optr i0 0)) (ha1 : ev (lk tsl) x1 = some (.own i1 0 xs.length 1)) (hH0 : lkH hsl i0 = some (cRd bs p)) (hH1 : lkH hsl i1 = some (flat cI xs)) (hdd : Go.AL.distinct [i0, i1] = true) (hmc : MC Tryz.prog 94 [.optr 0 0, .own 1 0 xs.length 1] [(0, some (cRd bs p)), (1, some (flat cI xs))] 2 (fun _ : Unit => True) (fun _ => iv (numF bs p xs)) (fun _ => [(0, some (cRd bs (p + 1)))])) (hM : Nat.ble (nidl + 0) big = true) (hN : Nat.blt d N = true) {md' : Md} [hmd : MdA md (rOs [x0, x1] ++ [.inr i0, .inr i1]) (List.map Sum.inr (List.map Prod.fst ([(i0, some (cRd bs (p + 1))), (i1, none)] : List (Nat × Option (List AV)))) ++ [.inl d]) md'] (kk : RW Tryz.prog N all Q md' rest ⟨(d, iv (numF bs p xs)) :: tsl, wrH hsl [(i0, some (cRd bs (p + 1))), (i1, none)], nidl + 0, z0⟩) : RW Tryz.prog N all Q md (⟨some d, .call ⟨.value (.func 94), #[x0, x1], tys⟩, ty, pos, af, none⟩ :: rest) ⟨tsl, hsl, nidl, z0⟩ := by
  refine rx_mcallE [i0, i1] 2 [(i0, some (cRd bs (p + 1))), (i1, none)] hmc (avs := [.optr i0 0, .own i1 0 xs.length 1]) ?_ hdd ?_ rfl ?_ (by simpa using hM) ?_ ?_ ?_ hN (md' := md') (hmd := hmd) kk
  · show evL (lk tsl) [x0, x1] = _
    simp only [evL, ha0, ha1]
  · exact ⟨⟨_, _, rfl, hH0, by (repeat' (exact RnL.purI inferInstance))⟩, ⟨⟨_, _, rfl, hH1, by (repeat' (exact RnL.purI inferInstance))⟩, trivial⟩⟩
  · (repeat' (first | exact RnL.purI inferInstance | exact RnV.own rfl | exact RnV.optr rfl | refine RnL.cons ?_ ?_))
  · (repeat' (exact RnV.purI inferInstance))
  · simp [wsAll]
  · (repeat' (first | exact trivial | (refine And.intro ⟨0, _, rfl, rfl, ?_⟩ ?_) | exact RnL.purI inferInstance))

theorem pick_c (bs : List UInt8) (p : Nat) (n : Int) (hb : bs.length ≤ 2000) (hp : p ≤ 1000000) (hn0 : 0 ≤ n) (hn : n ≤ 1000000) : MC Tryz.prog 93 [.optr 0 0, iv n] [(0, some (cRd bs p))] 1 (fun _ : Unit => True) (fun _ => iv (pickF bs p n)) (fun _ => [(0, some (cRd bs (p + 1)))]) := by
  have hdiv : 0 ≤ ((p : Int) + 1 - 1) / (bs.length : Int) ∧ ((p : Int) + 1 - 1) / (bs.length : Int) ≤ p + 1 - 1 := ⟨Int.ediv_nonneg (by omega) (by omega), Int.ediv_le_self _ (by omega)⟩
  (refine mc_of_aw Tryz.func93 rfl (by simp [Tryz.ntmps93]) ?_; rw [Tryz.ntmps93])
  repeat' (first | (apply id_rw; first | (apply rx_move;rfl;rfl) | (apply rx_load1;rfl;rfl;rfl;rfl) | (apply rx_fieldAddr;rfl;rfl;rfl) | (first | (apply rx_guardY;rfl;rfl;rfl;(assumption)) | (apply rx_guardNs;rfl;rfl;rfl;(assumption)) | (apply rx_guardS; (case hj | hb | hN => rfl); all_goals (intro hg; have hq := hg; (try simp only [bqs] at hq); (try (exfalso; omega))))) | (first | (apply rx_add;rfl;rfl;omega;rfl) | (apply rx_sub;rfl;rfl;omega;rfl) | (apply rx_xor;rfl;rfl;omega;omega;rfl) | (apply rx_mul;rfl;rfl;omega;rfl) | (apply rx_rem;rfl;rfl;omega;rfl) | (apply rx_quo;rfl;rfl;omega;rfl) | (apply rx_bin;rfl;rfl;rfl;rfl)) | (apply rx_assign;rfl;rfl) | (first | (apply rx_pickT;rfl;(assumption);rfl;rfl) | (apply rx_pickF;rfl;(assumption);rfl;rfl)) | (apply rx_indexF; (case hx | hi => rfl); (case hm => (first | omega | exact ⟨Int.emod_nonneg _ (by omega), Int.emod_lt_of_pos _ (by omega)⟩)); (case hml => (rfl)); (case hα | hf | hg => infer_instance); (case hN => rfl)) | (apply rx_len;rfl;rfl;rfl) | (apply rw_nil;kernel_rfl) | (apply rx_convB;rfl;rfl; (case' kk => intro hbd)) | (apply rx_nil;rfl;rfl;rfl) | (apply rx_store;rfl;rfl;rfl;rfl;rfl;(case hl => (simp;done));(exact (rfl:_=[_, _])))) | (apply id_aw; first | apply aw_seq | apply aw_region | (apply aw_draw;kernel_rfl) | (apply aw_condT;rfl;(rfl)) | (apply aw_cond;rfl;all_goals intro hc;have hq:=hc;(try simp only [bqs] at hq);try exfalso;omega) | apply aw_skip | apply aw_ret) | with_reducible apply tq_normal | with_reducible apply tq_ret)
  all_goals (refine rq_ret rfl ?_; refine mc_ret () trivial ?_ ⟨.inr (Eq.trans (b := some _) rfl ?_), trivial⟩)
  all_goals first | rfl | skip
  all_goals simp only [oneOf, AV.v.injEq, Value.int.injEq, true_and, pickF]
  · rw [if_neg (by omega), if_pos (by omega)]
  · rw [if_neg (by omega), if_neg (by omega), if_pos (by omega)]
  · rw [if_neg (by omega), if_neg (by omega), if_neg (by omega)]; rfl
  · rw [if_pos (by omega)]
theorem num0_c (bs : List UInt8) (p : Nat) (xs : List Int) (hb : bs.length ≤ 2000) (hp : p ≤ 1000000) (h0 : 0 < xs.length) (hn : xs.length ≤ 1000000) : MC Tryz.prog 94 [.optr 0 0, sl cI xs] [(0, some (cRd bs p))] 1 (fun _ : Unit => True) (fun _ => iv (numF bs p xs)) (fun _ => [(0, some (cRd bs (p + 1)))]) := by
  have hpf := pickF_bd bs p xs.length
  (refine mc_of_aw Tryz.func94 rfl (by simp [Tryz.ntmps94]) ?_; rw [Tryz.ntmps94])
  repeat' (first | (apply id_rw; first | (apply rx_move;rfl;rfl) | (apply rx_load1;rfl;rfl;rfl;rfl) | (apply rx_assign;rfl;rfl) | (apply rx_indexF; (case hx | hi => rfl); (case hm => (omega)); (case hml => (rfl)); (case hα | hf | hg => infer_instance); (case hN => rfl)) | (apply rx_pick;rfl;rfl;(rfl);(apply pick_c <;> (first | assumption | omega));rfl;rfl) | (apply rx_len;rfl;rfl;rfl) | (apply rw_nil;kernel_rfl)) | (apply id_aw; first | apply aw_seq | apply aw_region | apply aw_ret) | with_reducible apply tq_normal)
  (refine rq_ret rfl ?_; refine mc_ret () trivial ?_ ⟨.inr (Eq.trans (b := some _) rfl ?_), trivial⟩)
  · rfl
  · rfl
theorem rx_num {Q : Exit → AS → Prop} {all : Array Oper} {rest : List Oper} {N : Nat} {tsl : List (Nat × AV)} {hsl : List (Nat × Option (List AV))} {nidl : Nat} {z0 : Lo} {md : Md} {d : Nat} {ty : TypeId} {pos : String} {af : Array Edge} {tys : Array TypeId}
    {bs : List UInt8} {p m : Nat} {cs : List AV} {xs : List Int} {x0 x1 : Operand} {i0 : Nat} (ha0 : ev (lk tsl) x0 = some (.optr i0 0)) (ha1 : ev (lk tsl) x1 = some (.imm m cs)) (hcs : NumL cs xs) (hH0 : lkH hsl i0 = some (cRd bs p))
    (hm : m = xs.length) (hb : bs.length ≤ 2000) (hp : p ≤ 1000000) (h0 : 0 < xs.length) (hn : xs.length ≤ 1000000) (hM : Nat.ble (nidl + 0) big = true) (hN : Nat.blt d N = true) {md' : Md}
    [hmd : MdA md (rOs [x0, x1] ++ [.inr i0]) [.inr i0, .inl d] md']
    (kk : RW Tryz.prog N all Q md' rest ⟨(d, iv (numF bs p xs)) :: tsl, (i0, some (cRd bs (p + 1))) :: hsl, nidl + 0, z0⟩) : RW Tryz.prog N all Q md (⟨some d, .call ⟨.value (.func 94), #[x0, x1], tys⟩, ty, pos, af, none⟩ :: rest) ⟨tsl, hsl, nidl, z0⟩ := by
  have h := hcs.h
  subst hm h
  exact rx_num0 ha0 ha1 hH0 (num0_c bs p xs hb hp h0 hn) hM hN (hmd := hmd) kk

theorem num0O_c (bs : List UInt8) (p : Nat) (xs : List Int) (hb : bs.length ≤ 2000) (hp : p ≤ 1000000) (h0 : 0 < xs.length) (hn : xs.length ≤ 1000000) : MC Tryz.prog 94 [.optr 0 0, .own 1 0 xs.length 1] [(0, some (cRd bs p)), (1, some (flat cI xs))] 2 (fun _ : Unit => True) (fun _ => iv (numF bs p xs)) (fun _ => [(0, some (cRd bs (p + 1)))]) := by
  have hpf := pickF_bd bs p xs.length
  (refine mc_of_aw Tryz.func94 rfl (by simp [Tryz.ntmps94]) ?_; rw [Tryz.ntmps94])
  repeat' (first | (apply id_rw; first | (apply rx_move;rfl;rfl) | (apply rx_loadF0; (case hx | hH => rfl); (case hf | hg | hα => infer_instance); (case hk => omega); (case hc | hN => rfl)) | (apply rx_assign;rfl;rfl) | (apply rx_indexO;rfl;rfl;(omega);rfl) | (apply rx_pick;rfl;rfl;(rfl);(apply pick_c <;> (first | assumption | omega));rfl;rfl) | (apply rx_len;rfl;rfl;rfl) | (apply rw_nil;kernel_rfl)) | (apply id_aw; first | apply aw_seq | apply aw_region | apply aw_ret) | with_reducible apply tq_normal)
  (refine rq_ret rfl ?_; refine mc_ret () trivial ?_ ⟨.inr (Eq.trans (b := some _) rfl ?_), trivial⟩)
  · rfl
  · rfl
theorem rx_numO {Q : Exit → AS → Prop} {all : Array Oper} {rest : List Oper} {N : Nat} {tsl : List (Nat × AV)} {hsl : List (Nat × Option (List AV))} {nidl : Nat} {z0 : Lo} {md : Md} {d : Nat} {ty : TypeId} {pos : String} {af : Array Edge} {tys : Array TypeId}
    {bs : List UInt8} {p m : Nat} {cs : List AV} {xs : List Int} {x0 x1 : Operand} {i0 i1 : Nat} (ha0 : ev (lk tsl) x0 = some (.optr i0 0)) (ha1 : ev (lk tsl) x1 = some (.own i1 0 m 1)) (hH0 : lkH hsl i0 = some (cRd bs p)) (hH1 : lkH hsl i1 = some cs) (hcs : NumL cs xs)
    (hdd : Go.AL.distinct [i0, i1] = true) (hm : m = xs.length) (hb : bs.length ≤ 2000) (hp : p ≤ 1000000) (h0 : 0 < xs.length) (hn : xs.length ≤ 1000000) (hM : Nat.ble (nidl + 0) big = true) (hN : Nat.blt d N = true) {md' : Md}
    [hmd : MdA md (rOs [x0, x1] ++ [.inr i0, .inr i1]) [.inr i0, .inr i1, .inl d] md']
    (kk : RW Tryz.prog N all Q md' rest ⟨(d, iv (numF bs p xs)) :: tsl, wrH hsl [(i0, some (cRd bs (p + 1))), (i1, none)], nidl + 0, z0⟩) : RW Tryz.prog N all Q md (⟨some d, .call ⟨.value (.func 94), #[x0, x1], tys⟩, ty, pos, af, none⟩ :: rest) ⟨tsl, hsl, nidl, z0⟩ := by
  have h := hcs.h
  subst hm h
  exact rx_num0O ha0 ha1 hH0 hH1 hdd (num0O_c bs p xs hb hp h0 hn) hM hN (hmd := hmd) kk

theorem open_c (bs : List UInt8) (hb : bs.length ≤ 1048576) : MC Tryz.prog 83 [sl cU bs] [] 0 (fun _ : Unit => True) (fun _ => .optr 0 0) (fun _ => [(0, some (cRd (bs.take 2000) 0))]) := by
  (refine mc_of_aw Tryz.func83 rfl (by simp [Tryz.ntmps83]) ?_; rw [Tryz.ntmps83])
  repeat' (first | (apply id_rw; first | (apply rx_move;rfl;rfl) | (apply rx_bin;rfl;rfl;rfl;rfl) | (apply rx_assign;rfl;rfl) | (apply rx_len;rfl;rfl;rfl) | (apply rw_nil;kernel_rfl) | (apply rx_buildK;rfl;(exact (rfl:_=some [_, _]));(exact (rfl:_=[_, _]));rfl) | (apply rx_sliceF;rfl;infer_instance;rfl;rfl;(omega);rfl) | (apply rx_box;rfl;rfl;rfl;rfl)) | (apply id_aw; first | apply aw_seq | apply aw_region | (apply aw_cond;rfl;all_goals intro hc;have hq:=hc;(try simp only [bqs] at hq);try exfalso;omega) | apply aw_skip | apply aw_ret) | with_reducible apply tq_normal)
  · (refine rq_ret rfl ?_; refine mc_ret () trivial ?_ ⟨.inr (Eq.trans (b := some _) rfl ?_), trivial⟩)
    · rfl
    · rfl
  · (refine rq_ret rfl ?_; refine mc_ret () trivial ?_ ⟨.inr (Eq.trans (b := some _) rfl ?_), trivial⟩)
    · rfl
    · rw [List.take_of_length_le (by omega)]; rfl
end Go.Proofs.YtejkbiijonnefaaGreat

namespace Go.Proofs.YtejkbiijonnefaaGreat
open Go.AL Go.RowKit

def st (op x y n : Int) : AL.Stmt := .mk op x y n [] []
def one0F (bs : List UInt8) (p : Nat) : AL.Stmt × Nat :=
  let box := 1 + pickF bs p 2
  let owner := numF bs (p + 1) [1, 2, 1, 4, 5]
  let c := pickF bs (p + 1 + 1) 11
  if c = 0 then (st 1 0 0 (pickF bs (p + 1 + 1 + 1) 10), p + 4)
  else if c = 1 then (st 2 box 0 (pickF bs (p + 1 + 1 + 1) 10), p + 4)
  else if c = 2 then (st 3 box (3 - box) 0, p + 3)
  else if c = 3 then (st 4 3 owner 0, p + 3)
  else if c = 4 ∨ c = 5 then (st 5 4 (numF bs (p + 1 + 1 + 1) [1, 2, 1, 5]) 0, p + 4)
  else if c = 6 then (st 6 0 (numF bs (p + 1 + 1 + 1) [3, 4, 1, 2, 5]) 0, p + 4)
  else if c = 7 then (st 7 (numF bs (p + 1 + 1 + 1) [4, 1, 2, 5]) 0 0, p + 4)
  else if c = 8 then (st 8 box 0 0, p + 3)
  else (st 5 5 (numF bs (p + 1 + 1 + 1) [4, 1, 2]) 0, p + 4)
def someL (one : Nat → AL.Stmt × Nat) (s : AL.Stmt) (p : Nat) : Nat → List AL.Stmt × Nat
  | 0 => ([s], p)
  | k + 1 => ((someL one s p k).1 ++ [(one (someL one s p k).2).1], (one (someL one s p k).2).2)
def oneN (bs : List UInt8) : Nat → Nat → AL.Stmt × Nat
  | 0, p => one0F bs p
  | d + 1, p =>
    let c := pickF bs (p + 1 + 1) 11
    if c = 9 then
      let r := someL (oneN bs d) (st 2 1 0 (pickF bs (p + 1 + 1 + 1 + 1) 10)) (p + 1 + 1 + 1 + 1 + 1) (pickF bs (p + 1 + 1 + 1) 3).toNat
      let e := one0F bs r.2
      (.mk 9 0 0 0 r.1 [e.1], e.2)
    else if c = 10 then
      let a := one0F bs (p + 1 + 1 + 1)
      let b := one0F bs a.2
      (.mk 10 0 0 0 [a.1, b.1] [], b.2)
    else one0F bs p
def oneF (bs : List UInt8) (d : Int) (p : Nat) : AL.Stmt × Nat := oneN bs d.toNat p
def someF (bs : List UInt8) (d n : Int) (p : Nat) : List AL.Stmt × Nat := someL (oneF bs d) (st 2 1 0 (pickF bs p 10)) (p + 1) n.toNat
theorem one0_p (bs : List UInt8) (p : Nat) : (one0F bs p).2 ≤ p + 4 := by
  unfold one0F; dsimp only; repeat' split
  all_goals omega
theorem one0_n (bs : List UInt8) (p : Nat) : cntS (one0F bs p).1 = 1 := by
  unfold one0F st; dsimp only; repeat' split
  all_goals simp [cntS, cntL]
theorem someL_p {one : Nat → AL.Stmt × Nat} {c : Nat} (h : ∀ p, (one p).2 ≤ p + c) (s : AL.Stmt) (p : Nat) : ∀ k, (someL one s p k).2 ≤ p + k * c
  | 0 => by simp [someL]
  | k + 1 => by
    have := someL_p h s p k
    have := h (someL one s p k).2
    simp only [someL, Nat.succ_mul]; omega
theorem someL_n {one : Nat → AL.Stmt × Nat} {c : Nat} (h : ∀ p, cntS (one p).1 ≤ c) (s : AL.Stmt) (p : Nat) : ∀ k, cntL (someL one s p k).1 ≤ cntS s + k * c
  | 0 => by simp [someL, cntL]
  | k + 1 => by
    have := someL_n h s p k
    have := h (someL one s p k).2
    simp only [someL, Nat.succ_mul, cntL_append, cntL]; omega
def cstP : Nat → Nat
  | 0 => 4
  | d + 1 => 9 + 2 * cstP d
def cstN : Nat → Nat
  | 0 => 1
  | d + 1 => 3 + 2 * cstN d
theorem k3 (bs : List UInt8) (p : Nat) : (pickF bs p 3).toNat ≤ 2 := by have := pickF_bd bs p 3; omega
theorem oneN_p (bs : List UInt8) : ∀ d p, (oneN bs d p).2 ≤ p + cstP d
  | 0, p => one0_p bs p
  | d + 1, p => by
    have h0 := one0_p bs p
    have h1 := someL_p (oneN_p bs d) (st 2 1 0 (pickF bs (p + 1 + 1 + 1 + 1) 10)) (p + 1 + 1 + 1 + 1 + 1) (pickF bs (p + 1 + 1 + 1) 3).toNat
    have h2 := k3 bs (p + 1 + 1 + 1)
    have h3 : (pickF bs (p + 1 + 1 + 1) 3).toNat * cstP d ≤ 2 * cstP d := Nat.mul_le_mul_right _ h2
    have h4 := one0_p bs (someL (oneN bs d) (st 2 1 0 (pickF bs (p + 1 + 1 + 1 + 1) 10)) (p + 1 + 1 + 1 + 1 + 1) (pickF bs (p + 1 + 1 + 1) 3).toNat).2
    have h5 := one0_p bs (p + 1 + 1 + 1)
    have h6 := one0_p bs (one0F bs (p + 1 + 1 + 1)).2
    have h7 : 1 ≤ cstP d := by cases d <;> simp only [cstP] <;> omega
    simp only [oneN, cstP]
    split
    · dsimp only; omega
    · split
      · dsimp only; omega
      · omega
theorem oneN_n (bs : List UInt8) : ∀ d p, cntS (oneN bs d p).1 ≤ cstN d
  | 0, p => by rw [oneN, one0_n]; decide
  | d + 1, p => by
    have h0 := one0_n bs p
    have h1 := someL_n (oneN_n bs d) (st 2 1 0 (pickF bs (p + 1 + 1 + 1 + 1) 10)) (p + 1 + 1 + 1 + 1 + 1) (pickF bs (p + 1 + 1 + 1) 3).toNat
    have h2 := k3 bs (p + 1 + 1 + 1)
    have h3 : (pickF bs (p + 1 + 1 + 1) 3).toNat * cstN d ≤ 2 * cstN d := Nat.mul_le_mul_right _ h2
    have h4 := one0_n bs (someL (oneN bs d) (st 2 1 0 (pickF bs (p + 1 + 1 + 1 + 1) 10)) (p + 1 + 1 + 1 + 1 + 1) (pickF bs (p + 1 + 1 + 1) 3).toNat).2
    have h5 := one0_n bs (p + 1 + 1 + 1)
    have h6 := one0_n bs (one0F bs (p + 1 + 1 + 1)).2
    have h7 : cntS (st 2 1 0 (pickF bs (p + 1 + 1 + 1 + 1) 10)) = 1 := by simp [st, cntS, cntL]
    simp only [oneN, cstN]
    split
    · simp only [cntS, cntL]; omega
    · split
      · simp only [cntS, cntL]; omega
      · omega
theorem oneF_p (bs : List UInt8) {d : Int} (h : d ≤ 2) (p : Nat) : (oneF bs d p).2 ≤ p + 43 := by
  have h1 := oneN_p bs d.toNat p
  have h2 : cstP d.toNat ≤ 43 := by
    have : d.toNat = 0 ∨ d.toNat = 1 ∨ d.toNat = 2 := by omega
    rcases this with h | h | h <;> rw [h] <;> decide
  exact Nat.le_trans h1 (by omega)
theorem oneF_n (bs : List UInt8) {d : Int} (h : d ≤ 2) (p : Nat) : cntS (oneF bs d p).1 ≤ 13 := by
  have h1 := oneN_n bs d.toNat p
  have h2 : cstN d.toNat ≤ 13 := by
    have : d.toNat = 0 ∨ d.toNat = 1 ∨ d.toNat = 2 := by omega
    rcases this with h | h | h <;> rw [h] <;> decide
  exact Nat.le_trans h1 h2
theorem someL_len {one : Nat → AL.Stmt × Nat} (s : AL.Stmt) (p : Nat) : ∀ k, (someL one s p k).1.length = k + 1
  | 0 => rfl
  | k + 1 => by simp only [someL, List.length_append, someL_len s p k, List.length_cons, List.length_nil]
theorem someF_len (bs : List UInt8) (d : Int) (n p : Nat) : (someF bs d (n : Int) p).1.length = n + 1 := someL_len _ _ _
theorem someF_S (bs : List UInt8) (d : Int) (k p : Nat) : someF bs d ((k + 1 : Nat) : Int) p = ((someF bs d (k : Int) p).1 ++ [(oneF bs d (someF bs d (k : Int) p).2).1], (oneF bs d (someF bs d (k : Int) p).2).2) := rfl
theorem app_stmt {xs : List AL.Stmt} {m : Nat} {s : AL.Stmt} (hm : m = xs.length) : ((flat cStmt xs).drop 0).take (m * 6) ++ [iv s.op, iv s.x, iv s.y, iv s.n, sl cStmt s.th, sl cStmt s.el] = flat cStmt (xs ++ [s]) := app_flat hm (cStmt_def s).symm
def uOp (s : AL.Stmt) (a : Int) : AL.Stmt := .mk a s.x s.y s.n s.th s.el
def uX (s : AL.Stmt) (a : Int) : AL.Stmt := .mk s.op a s.y s.n s.th s.el
def uY (s : AL.Stmt) (a : Int) : AL.Stmt := .mk s.op s.x a s.n s.th s.el
def uN (s : AL.Stmt) (a : Int) : AL.Stmt := .mk s.op s.x s.y a s.th s.el
theorem st_sop {xs : List AL.Stmt} {k : Nat} {a : Int} (hk : k < xs.length) : spl (flat cStmt xs) (0 + k * 6 + 0) [iv a] = flat cStmt (xs.set k (uOp xs[k]! a)) := st_flat hk (by simp) (by rw [cStmt_def, cStmt_def]; rfl)
theorem st_sx {xs : List AL.Stmt} {k : Nat} {a : Int} (hk : k < xs.length) : spl (flat cStmt xs) (0 + k * 6 + 1) [iv a] = flat cStmt (xs.set k (uX xs[k]! a)) := st_flat hk (by simp) (by rw [cStmt_def, cStmt_def]; rfl)
theorem st_sy {xs : List AL.Stmt} {k : Nat} {a : Int} (hk : k < xs.length) : spl (flat cStmt xs) (0 + k * 6 + 2) [iv a] = flat cStmt (xs.set k (uY xs[k]! a)) := st_flat hk (by simp) (by rw [cStmt_def, cStmt_def]; rfl)
theorem st_sn {xs : List AL.Stmt} {k : Nat} {a : Int} (hk : k < xs.length) : spl (flat cStmt xs) (0 + k * 6 + 3) [iv a] = flat cStmt (xs.set k (uN xs[k]! a)) := st_flat hk (by simp) (by rw [cStmt_def, cStmt_def]; rfl)
theorem someF_p (bs : List UInt8) {d : Int} (h : d ≤ 2) (n : Int) (p : Nat) : (someF bs d n p).2 ≤ p + 1 + n.toNat * 43 := someL_p (oneF_p bs h) _ _ _
theorem someF_n (bs : List UInt8) {d : Int} (h : d ≤ 2) (n : Int) (p : Nat) : cntL (someF bs d n p).1 ≤ 1 + n.toNat * 13 := by
  have h7 : cntS (st 2 1 0 (pickF bs p 10)) = 1 := by simp [st, cntS, cntL]
  have := someL_n (oneF_n bs h) (st 2 1 0 (pickF bs p 10)) (p + 1) n.toNat
  rw [h7] at this
  exact this
theorem oneF_S (bs : List UInt8) {d : Int} (h : 0 < d) (p : Nat) : oneF bs d p = 
    let c := pickF bs (p + 1 + 1) 11
    if c = 9 then
      let r := someF bs (d - 1) (pickF bs (p + 1 + 1 + 1) 3) (p + 1 + 1 + 1 + 1)
      let e := oneF bs 0 r.2
      (.mk 9 0 0 0 r.1 [e.1], e.2)
    else if c = 10 then
      let a := oneF bs 0 (p + 1 + 1 + 1)
      let b := oneF bs 0 a.2
      (.mk 10 0 0 0 [a.1, b.1] [], b.2)
    else one0F bs p := by
  have : d.toNat = (d - 1).toNat + 1 := by omega
  simp only [oneF, this, oneN, someF]
  rfl
theorem flat1 (s : AL.Stmt) : flat cStmt [s] = [iv s.op, iv s.x, iv s.y, iv s.n, sl cStmt s.th, sl cStmt s.el] := by simp [flat, cStmt_def]
theorem flat2 (s t : AL.Stmt) : flat cStmt [s, t] = [iv s.op, iv s.x, iv s.y, iv s.n, sl cStmt s.th, sl cStmt s.el, iv t.op, iv t.x, iv t.y, iv t.n, sl cStmt t.th, sl cStmt t.el] := by simp [flat, cStmt_def]
theorem oneF_b (bs : List UInt8) {d : Int} (h0 : 0 ≤ d) (p : Nat) (h : ¬ 0 < d ∨ (pickF bs (p + 1 + 1) 11 ≠ 9 ∧ pickF bs (p + 1 + 1) 11 ≠ 10)) : oneF bs d p = one0F bs p := by
  by_cases hd : 0 < d
  · rw [oneF_S bs hd p]
    dsimp only
    rw [if_neg (by omega), if_neg (by omega)]
  · have : d = 0 := by omega
    subst this; rfl
theorem oneF_9 (bs : List UInt8) {d : Int} (hd : 0 < d) (p : Nat) (h : pickF bs (p + 1 + 1) 11 = 9) : oneF bs d p = (.mk 9 0 0 0 (someF bs (d - 1) (pickF bs (p + 1 + 1 + 1) 3) (p + 1 + 1 + 1 + 1)).1 [(oneF bs 0 (someF bs (d - 1) (pickF bs (p + 1 + 1 + 1) 3) (p + 1 + 1 + 1 + 1)).2).1], (oneF bs 0 (someF bs (d - 1) (pickF bs (p + 1 + 1 + 1) 3) (p + 1 + 1 + 1 + 1)).2).2) := by
  rw [oneF_S bs hd p]
  dsimp only
  rw [if_pos h]
theorem oneF_10 (bs : List UInt8) {d : Int} (hd : 0 < d) (p : Nat) (h : pickF bs (p + 1 + 1) 11 = 10) : oneF bs d p = (.mk 10 0 0 0 [(oneF bs 0 (p + 1 + 1 + 1)).1, (oneF bs 0 (oneF bs 0 (p + 1 + 1 + 1)).2).1] [], (oneF bs 0 (oneF bs 0 (p + 1 + 1 + 1)).2).2) := by
  rw [oneF_S bs hd p]
  dsimp only
  rw [if_neg (by omega), if_pos h]
theorem rx_l1One {bs : List UInt8} {p : Nat} {ts : List Int} {dp : Int} {N : Nat} {Q : Exit → AS → Prop} {all : Array Oper} {rest : List Oper} {tsl : List (Nat × AV)} {hsl : List (Nat × Option (List AV))} {nidl : Nat} {z0 : Lo} {md : Md} {d : Nat} {ty : TypeId} {pos : String} {af : Array Edge} {tys : Array TypeId} {x0 x1 x2 : Operand} {i0 : Nat} (ha0 : ev (lk tsl) x0 = some (.optr i0 0)) (ha1 : ev (lk tsl) x1 = some (sl cI ts)) (ha2 : ev (lk tsl) x2 = some (iv dp)) (hH0 : lkH hsl i0 = some (cRd bs p)) (hmc : MC Tryz.prog 188 [.optr 0 0, sl cI ts, iv dp] [(0, some (cRd bs p))] 1 (fun _ : Unit => True) (fun _ => aStmt (oneF bs dp p).1) (fun _ => [(0, some (cRd bs (oneF bs dp p).2))])) (hM : Nat.ble (nidl + 0) big = true) (hN : Nat.blt d N = true) {md' : Md} [hmd : MdA md (rOs [x0, x1, x2] ++ [.inr i0]) (List.map Sum.inr (List.map Prod.fst ([(i0, some (cRd bs (oneF bs dp p).2))] : List (Nat × Option (List AV)))) ++ [.inl d]) md'] (kk : RW Tryz.prog N all Q md' rest ⟨(d, aStmt (oneF bs dp p).1) :: tsl, wrH hsl [(i0, some (cRd bs (oneF bs dp p).2))], nidl + 0, z0⟩) : RW Tryz.prog N all Q md (⟨some d, .call ⟨.value (.func 188), #[x0, x1, x2], tys⟩, ty, pos, af, none⟩ :: rest) ⟨tsl, hsl, nidl, z0⟩ := by
  refine rx_mcallE [i0] 1 [(i0, some (cRd bs (oneF bs dp p).2))] hmc (avs := [.optr i0 0, sl cI ts, iv dp]) ?_ rfl ?_ rfl ?_ (by simpa using hM) ?_ ?_ ?_ hN (md' := md') (hmd := hmd) kk
  · show evL (lk tsl) [x0, x1, x2] = _
    simp only [evL, ha0, ha1, ha2]
  · exact ⟨⟨_, _, rfl, hH0, by (repeat' (exact RnL.purI inferInstance))⟩, trivial⟩
  · (repeat' (first | exact RnL.purI inferInstance | exact RnV.optr rfl | refine RnL.cons ?_ ?_))
  · (repeat' (exact RnV.purI inferInstance))
  · simp [wsAll]
  · (repeat' (first | exact trivial | (refine And.intro ⟨0, _, rfl, rfl, ?_⟩ ?_) | exact RnL.purI inferInstance))

theorem rx_l1Some {bs : List UInt8} {p : Nat} {ts : List Int} {dp cn : Int} {N : Nat} {Q : Exit → AS → Prop} {all : Array Oper} {rest : List Oper} {tsl : List (Nat × AV)} {hsl : List (Nat × Option (List AV))} {nidl : Nat} {z0 : Lo} {md : Md} {d : Nat} {ty : TypeId} {pos : String} {af : Array Edge} {tys : Array TypeId} {x0 x1 x2 x3 : Operand} {i0 : Nat} (ha0 : ev (lk tsl) x0 = some (.optr i0 0)) (ha1 : ev (lk tsl) x1 = some (sl cI ts)) (ha2 : ev (lk tsl) x2 = some (iv dp)) (ha3 : ev (lk tsl) x3 = some (iv cn)) (hH0 : lkH hsl i0 = some (cRd bs p)) (hmc : MC Tryz.prog 157 [.optr 0 0, sl cI ts, iv dp, iv cn] [(0, some (cRd bs p))] 1 (fun _ : Unit => True) (fun _ => sl cStmt (someF bs dp cn p).1) (fun _ => [(0, some (cRd bs (someF bs dp cn p).2))])) (hM : Nat.ble (nidl + 0) big = true) (hN : Nat.blt d N = true) {md' : Md} [hmd : MdA md (rOs [x0, x1, x2, x3] ++ [.inr i0]) (List.map Sum.inr (List.map Prod.fst ([(i0, some (cRd bs (someF bs dp cn p).2))] : List (Nat × Option (List AV)))) ++ [.inl d]) md'] (kk : RW Tryz.prog N all Q md' rest ⟨(d, sl cStmt (someF bs dp cn p).1) :: tsl, wrH hsl [(i0, some (cRd bs (someF bs dp cn p).2))], nidl + 0, z0⟩) : RW Tryz.prog N all Q md (⟨some d, .call ⟨.value (.func 157), #[x0, x1, x2, x3], tys⟩, ty, pos, af, none⟩ :: rest) ⟨tsl, hsl, nidl, z0⟩ := by
  refine rx_mcallE [i0] 1 [(i0, some (cRd bs (someF bs dp cn p).2))] hmc (avs := [.optr i0 0, sl cI ts, iv dp, iv cn]) ?_ rfl ?_ rfl ?_ (by simpa using hM) ?_ ?_ ?_ hN (md' := md') (hmd := hmd) kk
  · show evL (lk tsl) [x0, x1, x2, x3] = _
    simp only [evL, ha0, ha1, ha2, ha3]
  · exact ⟨⟨_, _, rfl, hH0, by (repeat' (exact RnL.purI inferInstance))⟩, trivial⟩
  · (repeat' (first | exact RnL.purI inferInstance | exact RnV.optr rfl | refine RnL.cons ?_ ?_))
  · (repeat' (exact RnV.purI inferInstance))
  · simp [wsAll]
  · (repeat' (first | exact trivial | (refine And.intro ⟨0, _, rfl, rfl, ?_⟩ ?_) | exact RnL.purI inferInstance))

attribute [local irreducible] pickF
theorem l1One_c0 (D : Int) (hD0 : 0 ≤ D) (hD : D ≤ 2) (l1One_ih : ∀ bs p ts, 0 < D → bs.length ≤ 2000 → p ≤ 900000 → ∀ dp : Int, dp = 0 → MC Tryz.prog 188 [.optr 0 0, sl cI ts, iv dp] [(0, some (cRd bs p))] 1 (fun _ : Unit => True) (fun _ => aStmt (oneF bs dp p).1) (fun _ => [(0, some (cRd bs (oneF bs dp p).2))])) (l1Some_ih : ∀ bs (p : Nat) ts cn, 0 < D → bs.length ≤ 2000 → (p : Int) ≤ 850000 - 100000 * (D - 1) → 0 ≤ cn → cn ≤ 2 → ∀ dp : Int, dp = D - 1 → MC Tryz.prog 157 [.optr 0 0, sl cI ts, iv dp, iv cn] [(0, some (cRd bs p))] 1 (fun _ : Unit => True) (fun _ => sl cStmt (someF bs dp cn p).1) (fun _ => [(0, some (cRd bs (someF bs dp cn p).2))])) (bs : List UInt8) (p : Nat) (ts : List Int) (dp : Int) (hd : dp = D) (hb : bs.length ≤ 2000) (hp : (p : Int) ≤ 900000 - 100000 * D) : MC Tryz.prog 188 [.optr 0 0, sl cI ts, iv dp] [(0, some (cRd bs p))] 1 (fun _ : Unit => True) (fun _ => aStmt (oneF bs dp p).1) (fun _ => [(0, some (cRd bs (oneF bs dp p).2))]) := by
  subst hd
  have h0 := pickF_bd bs p 2
  have h2 := pickF_bd bs (p + 1 + 1) 11
  have h3 := pickF_bd bs (p + 1 + 1 + 1) 3
  have h3' := k3 bs (p + 1 + 1 + 1)
  have h4 := oneF_p bs (d := 0) (by omega) (p + 1 + 1 + 1)
  have h5 := someF_p bs (d := dp - 1) (by omega) (pickF bs (p + 1 + 1 + 1) 3) (p + 1 + 1 + 1 + 1)
  have h6 : (pickF bs (p + 1 + 1 + 1) 3).toNat * 43 ≤ 2 * 43 := Nat.mul_le_mul_right _ h3'
  (refine mc_of_aw Tryz.func188 rfl (by simp [Tryz.ntmps188]) ?_; rw [Tryz.ntmps188])
  repeat' (first | (apply id_rw; first | (apply rx_move;rfl;rfl) | (first | (apply rx_add;rfl;rfl;omega;rfl) | (apply rx_sub;rfl;rfl;omega;rfl) | (apply rx_bin;rfl;rfl;rfl;rfl)) | (apply rx_assign;rfl;rfl) | (first | (apply rx_pick;rfl;rfl;(rfl);(apply pick_c <;> (first | assumption | omega));rfl;rfl) | (apply rx_num;rfl;rfl;infer_instance;rfl;(rfl);assumption;omega;(decide);(decide);rfl;rfl) | (apply rx_l1Some;rfl;rfl;rfl;rfl;(rfl);(apply l1Some_ih <;> (first | assumption | omega));rfl;rfl) | (apply rx_l1One;rfl;rfl;rfl;(rfl);(apply l1One_ih <;> (first | assumption | omega));rfl;rfl)) | (apply rw_nil;kernel_rfl) | (apply rx_buildK;rfl;(exact (rfl:_=some [_, _, _, _, _, _]));(exact (rfl:_=[_, _, _, _, _, _]));rfl) | (apply rx_alloc;rfl;rfl) | ((apply rx_buildSliceI (t := _)); (case hze | hsm | hl => rfl); (case hfl => (first | exact (rfl:_=some [_, _, _]) | exact (rfl:_=some [_, _, _, _]) | exact (rfl:_=some [_, _, _, _, _]) | exact (rfl:_=some [_, _, _, _, _, _]) | rfl)); (case hM | hN => rfl)) | (apply rx_store;rfl;rfl;rfl;rfl;rfl;(case hl => (simp;done));(exact (rfl:_=[_, _, _, _, _, _])))) | (apply id_aw; first | apply aw_seq | apply aw_region | (apply aw_condT;rfl;(assumption)) | (apply aw_cond;rfl;all_goals intro hc;have hq:=hc;(try simp only [bqs] at hq);try exfalso;omega) | apply aw_block | apply aw_skip | apply aw_ret) | with_reducible apply tq_normal | with_reducible apply tq_ret | with_reducible apply bq_normal | with_reducible apply bq_ret)
  all_goals try (refine rq_ret rfl ?_; refine mc_ret () trivial ?_ ⟨.inr (Eq.trans (b := some _) rfl ?_), trivial⟩)
  all_goals try (rw [oneF_b bs hD0 p (by omega)]; unfold one0F; dsimp only; repeat' split
                 all_goals (first | rfl | (exfalso; omega)); done)
  iterate 2
    rewrite [oneF_9 bs (d := dp) (by assumption) p (by assumption)]
    first | rfl | (refine Eq.trans (b := AV.agg [_, _, _, _, _, AV.imm 1 (flat cStmt [_])]) ?_ rfl; rw [flat1]; rfl)
  iterate 2
    rewrite [oneF_10 bs (d := dp) (by omega) p (by omega)]
    first | rfl | (refine Eq.trans (b := AV.agg [_, _, _, _, AV.imm 2 (flat cStmt [_, _]), _]) ?_ rfl; rw [flat2]; rfl)
theorem l1Some_c0 (D : Int) (hD0 : 0 ≤ D) (hD : D ≤ 2) (l1One_ih : ∀ bs (p : Nat) ts, bs.length ≤ 2000 → (p : Int) ≤ 900000 - 100000 * D → ∀ dp : Int, dp = D → MC Tryz.prog 188 [.optr 0 0, sl cI ts, iv dp] [(0, some (cRd bs p))] 1 (fun _ : Unit => True) (fun _ => aStmt (oneF bs dp p).1) (fun _ => [(0, some (cRd bs (oneF bs dp p).2))])) (bs : List UInt8) (p : Nat) (ts : List Int) (dp : Int) (hd : dp = D) (cn : Int) (hb : bs.length ≤ 2000) (hp : (p : Int) ≤ 850000 - 100000 * D) (hc0 : 0 ≤ cn) (hc : cn ≤ 8) : MC Tryz.prog 157 [.optr 0 0, sl cI ts, iv dp, iv cn] [(0, some (cRd bs p))] 1 (fun _ : Unit => True) (fun _ => sl cStmt (someF bs dp cn p).1) (fun _ => [(0, some (cRd bs (someF bs dp cn p).2))]) := by
  subst hd
  (refine mc_of_aw Tryz.func157 rfl (by simp [Tryz.ntmps157]) ?_; rw [Tryz.ntmps157])
  repeat' (first | (apply id_rw; first | (apply rx_move;rfl;rfl) | (apply rx_assign;rfl;rfl) | (apply rx_pick;rfl;rfl;(rfl);(apply pick_c <;> (first | assumption | omega));rfl;rfl) | (apply rw_nil;kernel_rfl) | (apply rx_buildK;rfl;(exact (rfl:_=some [_, _, _, _, _, _]));(exact (rfl:_=[_, _, _, _, _, _]));rfl) | (apply rx_buildSlice;rfl;rfl;rfl;(exact (rfl:_=some [_, _, _, _, _, _]));rfl;rfl)) | (apply id_aw; first | apply aw_seq | apply aw_region | apply aw_block) | with_reducible apply tq_normal)
  refine aw_loopK (σ := Nat × List AL.Stmt × Nat) [0, 1, 2, 3] [(0, _), (1, _), (2, _), (3, _)] [] [] (fun k => [(10, iv (k.1 : Int)), (9, .own 1 0 (k.1 + 1) 6)]) (fun k => [(0, some (cRd bs k.2.2)), (1, some (flat cStmt k.2.1))]) (fun k => (k.1 : Int) ≤ cn ∧ k.2 = someF bs dp (k.1 : Int) p) (fun k => cn.toNat - k.1) (0, [st 2 1 0 (pickF bs p 10)], p + 1) ⟨by omega, rfl⟩ rfl rfl (by repeat' (first | exact trivial | refine And.intro rfl ?_)) (by repeat' (first | exact trivial | refine And.intro (.inr rfl) ?_)) ?_
  rintro ⟨k, xs, q⟩ ⟨hk, hse⟩
  dsimp only at hk hse ⊢
  have hp2 := someF_p bs (d := dp) (by omega) (k : Int) p
  have hkk : (k : Int).toNat * 43 ≤ 8 * 43 := Nat.mul_le_mul_right _ (by omega)
  have hln := someF_len bs dp k p
  rw [← hse] at hp2 hln
  dsimp only at hp2 hln
  repeat' (first | (apply id_rw; first | (apply rx_move;rfl;rfl) | (first | (apply rx_add;rfl;rfl;omega;rfl) | (apply rx_bin;rfl;rfl;rfl;rfl)) | (apply rx_assign;rfl;rfl) | (apply rx_l1One;rfl;rfl;rfl;(rfl);(apply l1One_ih <;> (first | assumption | omega));rfl;rfl) | (apply rx_append;rfl;rfl;rfl;rfl;rfl;(rw [flat_length]; omega);(rfl);omega;omega;(exact app_stmt (by (omega)));rfl;rfl) | (apply rw_nil;kernel_rfl) | ((apply rx_buildSliceI (t := _)); (case hze | hsm | hl => rfl); (case hfl => (exact (rfl:_=some [_, _, _, _, _, _]))); (case hM | hN => rfl))) | (apply id_aw; first | apply aw_seq | apply aw_region | (apply aw_cond;rfl;all_goals intro hc;have hq:=hc;(try simp only [bqs] at hq);try exfalso;omega) | apply aw_block | apply aw_skip | apply aw_exit | apply aw_ret) | with_reducible apply tq_normal | with_reducible apply tq_exit | with_reducible apply bq_normal | with_reducible apply bq_here)
  · (apply ex3 (k + 1, _, _); focus (refine Le.ren [(1, 3)] rfl (by decide) ?_ ?_ <;> repeat' (first | exact trivial | refine And.intro ⟨_, rfl, ?_⟩ ?_ | refine And.intro ⟨_, _, rfl, rfl, ?_⟩ ?_ | exact Or.inr rfl | refine Or.inl ⟨?_, (by first | rfl | exact pur_sl _ _ | exact Pur.pf)⟩ | rfl)))
    · dsimp only
      refine ⟨by omega, ?_⟩
      rw [someF_S, ← hse]
    · dsimp only; omega
  · have hke : (k : Int) = cn := by omega
    rw [hke] at hse
    (refine rq_le (Le.frzD (d := 8) (i := 1) rfl rfl) ?_; refine rq_ret rfl ?_)
    refine mc_ret () trivial ?_ ⟨.inr (Eq.trans (b := some _) rfl ?_), trivial⟩
    · rw [← hse]; show AV.imm (k + 1) (flat cStmt xs) = AV.imm xs.length (flat cStmt xs)
      rw [hln]
    · rw [← hse]
theorem l1One_both : ∀ D : Nat, D ≤ 2 → (∀ bs (p : Nat) ts, bs.length ≤ 2000 → (p : Int) ≤ 900000 - 100000 * (D : Int) → ∀ dp : Int, dp = (D : Int) → MC Tryz.prog 188 [.optr 0 0, sl cI ts, iv dp] [(0, some (cRd bs p))] 1 (fun _ : Unit => True) (fun _ => aStmt (oneF bs dp p).1) (fun _ => [(0, some (cRd bs (oneF bs dp p).2))])) ∧ (∀ bs (p : Nat) ts (cn : Int), bs.length ≤ 2000 → (p : Int) ≤ 850000 - 100000 * (D : Int) → 0 ≤ cn → cn ≤ 8 → ∀ dp : Int, dp = (D : Int) → MC Tryz.prog 157 [.optr 0 0, sl cI ts, iv dp, iv cn] [(0, some (cRd bs p))] 1 (fun _ : Unit => True) (fun _ => sl cStmt (someF bs dp cn p).1) (fun _ => [(0, some (cRd bs (someF bs dp cn p).2))]))
  | 0, _ => by
    have h1 : ∀ bs (p : Nat) ts, bs.length ≤ 2000 → (p : Int) ≤ 900000 - 100000 * ((0 : Nat) : Int) → ∀ dp : Int, dp = ((0 : Nat) : Int) → MC Tryz.prog 188 [.optr 0 0, sl cI ts, iv dp] [(0, some (cRd bs p))] 1 (fun _ : Unit => True) (fun _ => aStmt (oneF bs dp p).1) (fun _ => [(0, some (cRd bs (oneF bs dp p).2))]) :=
      fun bs p ts hb hp dp hd => l1One_c0 ((0 : Nat) : Int) (by omega) (by omega) (fun _ _ _ h => by omega) (fun _ _ _ _ h => by omega) bs p ts dp hd hb hp
    exact ⟨h1, fun bs p ts cn hb hp h0 h8 dp hd => l1Some_c0 ((0 : Nat) : Int) (by omega) (by omega) h1 bs p ts dp hd cn hb hp h0 h8⟩
  | D + 1, hD => by
    have ih := l1One_both D (by omega)
    have i0 := l1One_both 0 (by omega)
    have h1 : ∀ bs (p : Nat) ts, bs.length ≤ 2000 → (p : Int) ≤ 900000 - 100000 * ((D + 1 : Nat) : Int) → ∀ dp : Int, dp = ((D + 1 : Nat) : Int) → MC Tryz.prog 188 [.optr 0 0, sl cI ts, iv dp] [(0, some (cRd bs p))] 1 (fun _ : Unit => True) (fun _ => aStmt (oneF bs dp p).1) (fun _ => [(0, some (cRd bs (oneF bs dp p).2))]) :=
      fun bs p ts hb hp dp hd => l1One_c0 ((D + 1 : Nat) : Int) (by omega) (by omega) (fun bs p ts _ hb hp dp hd => i0.1 bs p ts hb (by omega) dp (by omega)) (fun bs p ts cn _ hb hp h0 h2 dp hd => ih.2 bs p ts cn hb (by omega) h0 (by omega) dp (by omega)) bs p ts dp hd hb hp
    exact ⟨h1, fun bs p ts cn hb hp h0 h8 dp hd => l1Some_c0 ((D + 1 : Nat) : Int) (by omega) (by omega) h1 bs p ts dp hd cn hb hp h0 h8⟩
theorem l1Some_c (bs : List UInt8) (p : Nat) (ts : List Int) (dp cn : Int) (hb : bs.length ≤ 2000) (hp : p ≤ 600000) (h0 : 0 ≤ cn) (h8 : cn ≤ 8) (hd0 : 0 ≤ dp) (hd : dp ≤ 2) : MC Tryz.prog 157 [.optr 0 0, sl cI ts, iv dp, iv cn] [(0, some (cRd bs p))] 1 (fun _ : Unit => True) (fun _ => sl cStmt (someF bs dp cn p).1) (fun _ => [(0, some (cRd bs (someF bs dp cn p).2))]) :=
  (l1One_both dp.toNat (by omega)).2 bs p ts cn hb (by omega) h0 h8 dp (by omega)
end Go.Proofs.YtejkbiijonnefaaGreat

namespace Go.Proofs.YtejkbiijonnefaaGreat
open Go.AL Go.RowKit

theorem RdC_kav {w : World} {bad : Nat → Prop} {ι : Pl} : ∀ {cs cs' : List AV}, All2 (fun c c' => c' = c ∨ c' = kAV c) cs cs' → ∀ {b β : Nat}, RdC w bad ι cs b β → RdC w bad ι cs' b β
  | _, _, .nil, _, _, h => h
  | _, _, .cons h1 h2, b, β, h => by
    simp only [RdC] at h ⊢
    obtain ⟨⟨x, q1, q2, q3⟩, q4⟩ := h
    refine ⟨⟨x, q1, q2, ?_⟩, RdC_kav h2 q4⟩
    rcases h1 with rfl | rfl
    · exact q3
    · exact Rd_kAV q3
theorem kav_app : ∀ (l : List AV) {a b : List AV}, All2 (fun c c' => c' = c ∨ c' = kAV c) a b → All2 (fun c c' => c' = c ∨ c' = kAV c) (l ++ a) (l ++ b)
  | [], _, _, h => h
  | _ :: l, _, _, h => .cons (.inl rfl) (kav_app l h)
theorem end_le {α : Type} {p q : α → Prop} {F : α → AS} {s s' : AS} (L : Le s s') (h : ∃ j, p j ∧ q j ∧ Le s' (F j)) : ∃ j, p j ∧ q j ∧ Le s (F j) := by
  obtain ⟨j, h1, h2, h3⟩ := h
  exact ⟨j, h1, h2, L.trans h3⟩
theorem Le.stmtN {ts : List (Nat × AV)} {hs : List (Nat × Option (List AV))} {n i : Nat} {z0 : Lo} {xs : List AL.Stmt} (s : AL.Stmt) {m : Nat} {a b : AV} (hm : m = xs.length)
    (ha : a = sl cStmt s.th ∨ (a = .v (.slice none 0 0) ∧ s.th = [])) (hb : b = sl cStmt s.el ∨ (b = .v (.slice none 0 0) ∧ s.el = []))
    (hi : lkH hs i = some (((flat cStmt xs).drop 0).take (m * 6) ++ List.take (1 * 6) [iv s.op, iv s.x, iv s.y, iv s.n, a, b])) : Le ⟨ts, hs, n, z0⟩ ⟨ts, (i, some (flat cStmt (xs ++ [s]))) :: hs, n, z0⟩ := by
  have e : flat cStmt (xs ++ [s]) = ((flat cStmt xs).drop 0).take (m * 6) ++ [iv s.op, iv s.x, iv s.y, iv s.n, sl cStmt s.th, sl cStmt s.el] := (app_stmt hm).symm
  have k : All2 (fun c c' => c' = c ∨ c' = kAV c) (((flat cStmt xs).drop 0).take (m * 6) ++ List.take (1 * 6) [iv s.op, iv s.x, iv s.y, iv s.n, a, b]) (flat cStmt (xs ++ [s])) := by
    rw [e]
    refine kav_app _ (.cons (.inl rfl) (.cons (.inl rfl) (.cons (.inl rfl) (.cons (.inl rfl) (.cons ?_ (.cons ?_ .nil))))))
    · rcases ha with h | ⟨h, h2⟩
      · exact .inl h.symm
      · refine .inr ?_; rw [h2, h]; rfl
    · rcases hb with h | ⟨h, h2⟩
      · exact .inl h.symm
      · refine .inr ?_; rw [h2, h]; rfl
  refine Le.cells hi ?_ fun w bad ι b β h => RdC_kav k h
  rw [e]; simp

theorem copy_c0 (mm : Nat) (hmm : mm ≤ 1000000) (copy_ih : ∀ l, cntL l < mm → PC Tryz.prog 167 [sl cStmt l] (fun r => r = sl cStmt l)) (l : List AL.Stmt) (hs : cntL l ≤ mm) : PC Tryz.prog 167 [sl cStmt l] (fun r => r = sl cStmt l) := by
  have hlen := cntL_len l
  (refine pc_of_aw Tryz.func167 rfl (by simp [Tryz.ntmps167]) ?_; rw [Tryz.ntmps167])
  repeat' (first | (apply id_rw; first | (apply rx_assign;rfl;rfl) | (apply rw_nil;kernel_rfl) | (apply rx_buildSlice;rfl;rfl;rfl;(rfl);rfl;rfl)) | (apply id_aw; first | apply aw_seq | apply aw_region | apply aw_block) | with_reducible apply tq_normal)
  refine aw_loopK (σ := Nat × List AL.Stmt) [0] [(0, _)] [] [] (fun k => [(4, iv (k.1 : Int)), (3, .own 0 0 k.1 6)]) (fun k => [(0, some (flat cStmt k.2))]) (fun k => k.1 ≤ l.length ∧ k.2 = l.take k.1) (fun k => l.length - k.1) (0, []) ⟨by omega, rfl⟩ rfl rfl (by repeat' (first | exact trivial | refine And.intro rfl ?_)) (by repeat' (first | exact trivial | refine And.intro (.inr rfl) ?_)) ?_
  rintro ⟨k, xs⟩ ⟨hk, hxs⟩
  dsimp only at hk hxs ⊢
  have hck := cntL_at l k
  have hct := cnt_th l[k]!
  have hln : xs.length = k := by rw [hxs, List.length_take]; omega
  repeat' (first | (apply id_rw; first | (apply rx_move;rfl;rfl) | (first | (apply rx_load1;rfl;rfl;rfl;rfl) | (apply rx_loadA;rfl;rfl;(exact (rfl:_=[_, _, _, _, _, _]));rfl;rfl;rfl)) | (apply rx_fieldAddr;rfl;rfl;rfl) | (first | (apply rx_add;rfl;rfl;omega;rfl) | (apply rx_bin;rfl;rfl;rfl;rfl)) | (apply rx_assign;rfl;rfl) | (apply rx_indexFN; (case hx | hi => rfl); (case hm => (omega)); (case hml => (rfl)); (case hα | hf | hg => infer_instance); (case hN => rfl)) | ((with_reducible apply rx_callE (k := 167)); (case ha => rfl); (case h => (apply copy_ih <;> (omega))); (case hp => (exact Pur.pf)); (case hN => rfl)) | (first | (apply rx_len;rfl;rfl;rfl) | (apply rx_append;rfl;rfl;rfl;rfl;rfl;(rw [flat_length]; omega);(rfl);omega;omega;(first | exact app_stmt (by (omega)) | rfl);rfl;rfl)) | (apply rw_nil;kernel_rfl) | (apply rx_alloc;rfl;rfl) | ((apply rx_buildSliceI (t := _)); (case hze | hsm | hl => rfl); (case hfl => (exact (rfl:_=some [_, _, _, _, _, _]))); (case hM | hN => rfl)) | (apply rx_store;rfl;rfl;rfl;rfl;rfl;(case hl => (simp;done));(exact (rfl:_=[_, _, _, _, _, _])))) | (apply id_aw; first | apply aw_seq | apply aw_region | (apply aw_cond;rfl;all_goals intro hc;have hq:=hc;(try simp only [bqs] at hq);try exfalso;omega) | apply aw_block | apply aw_skip | apply aw_exit | apply aw_ret) | with_reducible apply tq_normal | with_reducible apply tq_exit | with_reducible apply bq_normal | with_reducible apply bq_here)
  · (apply ex3 (k + 1, _); focus (refine Le.ren [(0, 3)] rfl (by decide) ?_ ?_ <;> repeat' (first | exact trivial | refine And.intro ⟨_, rfl, ?_⟩ ?_ | refine And.intro ⟨_, _, rfl, rfl, ?_⟩ ?_ | exact Or.inr rfl | refine Or.inl ⟨?_, (by first | rfl | exact pur_sl _ _)⟩ | rfl)))
    · exact ⟨by dsimp only; omega, by dsimp only; rw [hxs, take_succB l k (by omega)]⟩
    · dsimp only; omega
  · have hel : l[k]!.el = [] := List.eq_nil_of_length_eq_zero (by omega)
    refine end_le (Le.stmtN (i := 3) l[k]! hln.symm (.inl rfl) (.inr ⟨rfl, hel⟩) rfl) ?_
    (apply ex3 (k + 1, _); focus (refine Le.ren [(0, 3)] rfl (by decide) ?_ ?_ <;> repeat' (first | exact trivial | refine And.intro ⟨_, rfl, ?_⟩ ?_ | refine And.intro ⟨_, _, rfl, rfl, ?_⟩ ?_ | exact Or.inr rfl | refine Or.inl ⟨?_, (by first | rfl | exact pur_sl _ _)⟩ | rfl)))
    · exact ⟨by dsimp only; omega, by dsimp only; rw [hxs, take_succB l k (by omega)]⟩
    · dsimp only; omega
  · have hth : l[k]!.th = [] := List.eq_nil_of_length_eq_zero (by omega)
    refine end_le (Le.stmtN (i := 3) l[k]! hln.symm (.inr ⟨rfl, hth⟩) (.inl rfl) rfl) ?_
    (apply ex3 (k + 1, _); focus (refine Le.ren [(0, 3)] rfl (by decide) ?_ ?_ <;> repeat' (first | exact trivial | refine And.intro ⟨_, rfl, ?_⟩ ?_ | refine And.intro ⟨_, _, rfl, rfl, ?_⟩ ?_ | exact Or.inr rfl | refine Or.inl ⟨?_, (by first | rfl | exact pur_sl _ _)⟩ | rfl)))
    · exact ⟨by dsimp only; omega, by dsimp only; rw [hxs, take_succB l k (by omega)]⟩
    · dsimp only; omega
  · have hth : l[k]!.th = [] := List.eq_nil_of_length_eq_zero (by omega)
    have hel : l[k]!.el = [] := List.eq_nil_of_length_eq_zero (by omega)
    refine end_le (Le.stmtN (i := 3) l[k]! hln.symm (.inr ⟨rfl, hth⟩) (.inr ⟨rfl, hel⟩) rfl) ?_
    (apply ex3 (k + 1, _); focus (refine Le.ren [(0, 3)] rfl (by decide) ?_ ?_ <;> repeat' (first | exact trivial | refine And.intro ⟨_, rfl, ?_⟩ ?_ | refine And.intro ⟨_, _, rfl, rfl, ?_⟩ ?_ | exact Or.inr rfl | refine Or.inl ⟨?_, (by first | rfl | exact pur_sl _ _)⟩ | rfl)))
    · exact ⟨by dsimp only; omega, by dsimp only; rw [hxs, take_succB l k (by omega)]⟩
    · dsimp only; omega
  · have hke : k = l.length := by omega
    (refine rq_le (Le.frzD (d := 2) (i := 0) rfl rfl) ?_; refine rq_ret rfl ?_)
    refine ⟨?_, Pur.pf⟩
    rw [hxs, hke, List.take_length]; rfl
theorem copy_c (l : List AL.Stmt) (hb : cntL l ≤ 1000000) : PC Tryz.prog 167 [sl cStmt l] (fun r => r = sl cStmt l) := by
  have key : ∀ m, m ≤ 1000000 → ∀ l, cntL l ≤ m → PC Tryz.prog 167 [sl cStmt l] (fun r => r = sl cStmt l) := by
    intro m
    induction m with
    | zero => intro hm l hl; exact copy_c0 0 hm (fun l h => by omega) l hl
    | succ m ih => intro hm l hl; exact copy_c0 (m + 1) hm (fun l h => ih (by omega) l (by omega)) l hl
  exact key (cntL l) hb l (Nat.le_refl _)
end Go.Proofs.YtejkbiijonnefaaGreat

namespace Go.Proofs.YtejkbiijonnefaaGreat
open Go.AL Go.RowKit

theorem copyM_c (l : List AL.Stmt) (hs : cntL l ≤ 1000000) : MC Tryz.prog 167 [sl cStmt l] [] 0 (fun _ : Unit => True) (fun _ => .own 0 0 l.length 6) (fun _ => [(0, some (flat cStmt l))]) := by
  have hlen := cntL_len l
  (refine mc_of_aw Tryz.func167 rfl (by simp [Tryz.ntmps167]) ?_; rw [Tryz.ntmps167])
  repeat' (first | (apply id_rw; first | (apply rx_assign;rfl;rfl) | (apply rw_nil;kernel_rfl) | (apply rx_buildSlice;rfl;rfl;rfl;(rfl);rfl;rfl)) | (apply id_aw; first | apply aw_seq | apply aw_region | apply aw_block) | with_reducible apply tq_normal)
  refine aw_loopK (σ := Nat × List AL.Stmt) [0] [(0, _)] [] [] (fun k => [(4, iv (k.1 : Int)), (3, .own 0 0 k.1 6)]) (fun k => [(0, some (flat cStmt k.2))]) (fun k => k.1 ≤ l.length ∧ k.2 = l.take k.1) (fun k => l.length - k.1) (0, []) ⟨by omega, rfl⟩ rfl rfl (by repeat' (first | exact trivial | refine And.intro rfl ?_)) (by repeat' (first | exact trivial | refine And.intro (.inr rfl) ?_)) ?_
  rintro ⟨k, xs⟩ ⟨hk, hxs⟩
  dsimp only at hk hxs ⊢
  have hck := cntL_at l k
  have hct := cnt_th l[k]!
  have hln : xs.length = k := by rw [hxs, List.length_take]; omega
  repeat' (first | (apply id_rw; first | (apply rx_move;rfl;rfl) | (first | (apply rx_load1;rfl;rfl;rfl;rfl) | (apply rx_loadA;rfl;rfl;(exact (rfl:_=[_, _, _, _, _, _]));rfl;rfl;rfl)) | (apply rx_fieldAddr;rfl;rfl;rfl) | (first | (apply rx_add;rfl;rfl;omega;rfl) | (apply rx_bin;rfl;rfl;rfl;rfl)) | (apply rx_assign;rfl;rfl) | (apply rx_indexFN; (case hx | hi => rfl); (case hm => (omega)); (case hml => (rfl)); (case hα | hf | hg => infer_instance); (case hN => rfl)) | ((with_reducible apply rx_callE (k := 167)); (case ha => rfl); (case h => (apply copy_c <;> (omega))); (case hp => (exact Pur.pf)); (case hN => rfl)) | (first | (apply rx_len;rfl;rfl;rfl) | (apply rx_append;rfl;rfl;rfl;rfl;rfl;(rw [flat_length]; omega);(rfl);omega;omega;(first | exact app_stmt (by (omega)) | rfl);rfl;rfl)) | (apply rw_nil;kernel_rfl) | (apply rx_alloc;rfl;rfl) | ((apply rx_buildSliceI (t := _)); (case hze | hsm | hl => rfl); (case hfl => (exact (rfl:_=some [_, _, _, _, _, _]))); (case hM | hN => rfl)) | (apply rx_store;rfl;rfl;rfl;rfl;rfl;(case hl => (simp;done));(exact (rfl:_=[_, _, _, _, _, _])))) | (apply id_aw; first | apply aw_seq | apply aw_region | (apply aw_cond;rfl;all_goals intro hc;have hq:=hc;(try simp only [bqs] at hq);try exfalso;omega) | apply aw_block | apply aw_skip | apply aw_exit | apply aw_ret) | with_reducible apply tq_normal | with_reducible apply tq_exit | with_reducible apply bq_normal | with_reducible apply bq_here)
  · (apply ex3 (k + 1, _); focus (refine Le.ren [(0, 3)] rfl (by decide) ?_ ?_ <;> repeat' (first | exact trivial | refine And.intro ⟨_, rfl, ?_⟩ ?_ | refine And.intro ⟨_, _, rfl, rfl, ?_⟩ ?_ | exact Or.inr rfl | refine Or.inl ⟨?_, (by first | rfl | exact pur_sl _ _)⟩ | rfl)))
    · exact ⟨by dsimp only; omega, by dsimp only; rw [hxs, take_succB l k (by omega)]⟩
    · dsimp only; omega
  · have hel : l[k]!.el = [] := List.eq_nil_of_length_eq_zero (by omega)
    refine end_le (Le.stmtN (i := 3) l[k]! hln.symm (.inl rfl) (.inr ⟨rfl, hel⟩) rfl) ?_
    (apply ex3 (k + 1, _); focus (refine Le.ren [(0, 3)] rfl (by decide) ?_ ?_ <;> repeat' (first | exact trivial | refine And.intro ⟨_, rfl, ?_⟩ ?_ | refine And.intro ⟨_, _, rfl, rfl, ?_⟩ ?_ | exact Or.inr rfl | refine Or.inl ⟨?_, (by first | rfl | exact pur_sl _ _)⟩ | rfl)))
    · exact ⟨by dsimp only; omega, by dsimp only; rw [hxs, take_succB l k (by omega)]⟩
    · dsimp only; omega
  · have hth : l[k]!.th = [] := List.eq_nil_of_length_eq_zero (by omega)
    refine end_le (Le.stmtN (i := 3) l[k]! hln.symm (.inr ⟨rfl, hth⟩) (.inl rfl) rfl) ?_
    (apply ex3 (k + 1, _); focus (refine Le.ren [(0, 3)] rfl (by decide) ?_ ?_ <;> repeat' (first | exact trivial | refine And.intro ⟨_, rfl, ?_⟩ ?_ | refine And.intro ⟨_, _, rfl, rfl, ?_⟩ ?_ | exact Or.inr rfl | refine Or.inl ⟨?_, (by first | rfl | exact pur_sl _ _)⟩ | rfl)))
    · exact ⟨by dsimp only; omega, by dsimp only; rw [hxs, take_succB l k (by omega)]⟩
    · dsimp only; omega
  · have hth : l[k]!.th = [] := List.eq_nil_of_length_eq_zero (by omega)
    have hel : l[k]!.el = [] := List.eq_nil_of_length_eq_zero (by omega)
    refine end_le (Le.stmtN (i := 3) l[k]! hln.symm (.inr ⟨rfl, hth⟩) (.inr ⟨rfl, hel⟩) rfl) ?_
    (apply ex3 (k + 1, _); focus (refine Le.ren [(0, 3)] rfl (by decide) ?_ ?_ <;> repeat' (first | exact trivial | refine And.intro ⟨_, rfl, ?_⟩ ?_ | refine And.intro ⟨_, _, rfl, rfl, ?_⟩ ?_ | exact Or.inr rfl | refine Or.inl ⟨?_, (by first | rfl | exact pur_sl _ _)⟩ | rfl)))
    · exact ⟨by dsimp only; omega, by dsimp only; rw [hxs, take_succB l k (by omega)]⟩
    · dsimp only; omega
  · have hke : k = l.length := by omega
    have hxl : xs = l := by rw [hxs, hke, List.take_length]
    subst hke
    refine rq_ret rfl ?_
    refine mc_ret () trivial ?_ ⟨.inr (Eq.trans (b := some _) rfl ?_), trivial⟩
    · rfl
    · rw [hxl]

theorem rx_copyM {l : List AL.Stmt} {N : Nat} {Q : Exit → AS → Prop} {all : Array Oper} {rest : List Oper} {tsl : List (Nat × AV)} {hsl : List (Nat × Option (List AV))} {nidl : Nat} {z0 : Lo} {md : Md} {d : Nat} {ty : TypeId} {pos : String} {af : Array Edge} {tys : Array TypeId} {x0 : Operand} (ha0 : ev (lk tsl) x0 = some (sl cStmt l)) (hmc : MC Tryz.prog 167 [sl cStmt l] [] 0 (fun _ : Unit => True) (fun _ => .own 0 0 l.length 6) (fun _ => [(0, some (flat cStmt l))])) (hM : Nat.ble (nidl + 1) big = true) (hN : Nat.blt d N = true) {md' : Md} [hmd : MdA md (rOs [x0] ++ []) (List.map Sum.inr (List.map Prod.fst ([(nidl, some (flat cStmt l))] : List (Nat × Option (List AV)))) ++ [.inl d]) md'] (kk : RW Tryz.prog N all Q md' rest ⟨(d, .own nidl 0 l.length 6) :: tsl, wrH hsl [(nidl, some (flat cStmt l))], nidl + 1, z0⟩) : RW Tryz.prog N all Q md (⟨some d, .call ⟨.value (.func 167), #[x0], tys⟩, ty, pos, af, none⟩ :: rest) ⟨tsl, hsl, nidl, z0⟩ := by
  refine rx_mcallE [] 1 [(nidl, some (flat cStmt l))] hmc (avs := [sl cStmt l]) ?_ rfl ?_ rfl ?_ (by simpa using hM) ?_ ?_ ?_ hN (md' := md') (hmd := hmd) kk
  · show evL (lk tsl) [x0] = _
    simp only [evL, ha0]
  · exact trivial
  · (repeat' (exact RnL.purI inferInstance))
  · (repeat' (exact RnV.own rfl))
  · simp [wsAll]
  · (repeat' (first | exact trivial | (refine And.intro ⟨0, _, rfl, rfl, ?_⟩ ?_) | exact RnL.purI inferInstance))

theorem rx_copyOf {q : Prg} {N : Nat} {Q : Exit → AS → Prop} {all : Array Oper} {rest : List Oper} {tsl : List (Nat × AV)} {hsl : List (Nat × Option (List AV))} {nidl : Nat} {z0 : Lo} {md : Md} {d : Nat} {ty : TypeId} {pos : String} {af : Array Edge} {tys : Array TypeId} {x0 : Operand} (ha0 : ev (lk tsl) x0 = some (aPrg q)) (hmc : MC Tryz.prog 111 [aPrg q] [] 0 (fun _ : Unit => True) (fun _ => .agg [.own 3 0 q.types.length 1, .own 4 0 q.body.length 6]) (fun _ => [(3, some (flat cI q.types)), (4, some (flat cStmt q.body))])) (hM : Nat.ble (nidl + 5) big = true) (hN : Nat.blt d N = true) {md' : Md} [hmd : MdA md (rOs [x0] ++ []) (List.map Sum.inr (List.map Prod.fst ([((nidl + 3), some (flat cI q.types)), ((nidl + 4), some (flat cStmt q.body))] : List (Nat × Option (List AV)))) ++ [.inl d]) md'] (kk : RW Tryz.prog N all Q md' rest ⟨(d, .agg [.own (nidl + 3) 0 q.types.length 1, .own (nidl + 4) 0 q.body.length 6]) :: tsl, wrH hsl [((nidl + 3), some (flat cI q.types)), ((nidl + 4), some (flat cStmt q.body))], nidl + 5, z0⟩) : RW Tryz.prog N all Q md (⟨some d, .call ⟨.value (.func 111), #[x0], tys⟩, ty, pos, af, none⟩ :: rest) ⟨tsl, hsl, nidl, z0⟩ := by
  refine rx_mcallE [] 5 [((nidl + 3), some (flat cI q.types)), ((nidl + 4), some (flat cStmt q.body))] hmc (avs := [aPrg q]) ?_ rfl ?_ rfl ?_ (by simpa using hM) ?_ ?_ ?_ hN (md' := md') (hmd := hmd) kk
  · show evL (lk tsl) [x0] = _
    simp only [evL, ha0]
  · exact trivial
  · (repeat' (exact RnL.purI inferInstance))
  · (repeat' (first | exact RnL.purI inferInstance | exact RnV.own rfl | refine RnL.cons ?_ ?_ | refine RnV.agg ?_))
  · simp [wsAll]
  · (repeat' (first | exact trivial | (refine And.intro ⟨3, _, rfl, rfl, ?_⟩ ?_) | (refine And.intro ⟨4, _, rfl, rfl, ?_⟩ ?_) | exact RnL.purI inferInstance))

theorem copyOf_c (q : Prg) (hs : cntL q.body ≤ 1000000) (ht : q.types.length ≤ 1000000) : MC Tryz.prog 111 [aPrg q] [] 0 (fun _ : Unit => True) (fun _ => .agg [.own 3 0 q.types.length 1, .own 4 0 q.body.length 6]) (fun _ => [(3, some (flat cI q.types)), (4, some (flat cStmt q.body))]) := by
  (refine mc_of_aw Tryz.func111 rfl (by simp [Tryz.ntmps111]) ?_; rw [Tryz.ntmps111])
  repeat' (first | (apply id_rw; first | (apply rx_copyM;rfl;(apply copyM_c; assumption);rfl;rfl) | (apply rx_load1;rfl;rfl;rfl;rfl) | (apply rx_fieldAddr;rfl;rfl;rfl) | (apply rx_append;rfl;rfl;rfl;rfl;rfl;(case hl => (simp [flat_length]; done));(exact sC_imm (by (rfl)));omega;omega;(exact app_nilF (by (omega)));rfl;rfl) | (apply rw_nil;kernel_rfl) | (apply rx_buildK;rfl;(exact (rfl:_=some [_, _]));(exact (rfl:_=[_, _]));rfl) | (apply rx_box;rfl;rfl;rfl;rfl) | (apply rx_alloc;rfl;rfl) | (apply rx_buildSlice;rfl;rfl;rfl;(rfl);rfl;rfl) | (apply rx_store;rfl;rfl;rfl;rfl;rfl;(case hl => (simp;done));(exact (rfl:_=[_, _])))) | (apply id_aw; first | apply aw_seq | apply aw_region | (apply aw_draw;kernel_rfl) | apply aw_ret) | with_reducible apply tq_normal)
  refine rq_ret rfl ?_
  refine mc_ret () trivial ?_ ⟨.inr (Eq.trans (b := some _) rfl ?_), .inr (Eq.trans (b := some _) rfl ?_), trivial⟩
  · show AV.agg [AV.own 3 0 (0 + q.types.length) 1, AV.own 4 0 q.body.length 6] = _
    rw [Nat.zero_add]
  · rfl
  · rfl
end Go.Proofs.YtejkbiijonnefaaGreat
