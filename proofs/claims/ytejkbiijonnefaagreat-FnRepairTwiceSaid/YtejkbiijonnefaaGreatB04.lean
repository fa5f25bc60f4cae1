/-
  A part of the proofs over this program: rules and contracts of its functions (the contracts).
-/
import Derived.Test.YtejkbiijonnefaaGreatB03
set_option linter.unusedVariables false
set_option linter.unusedSimpArgs false
set_option maxHeartbeats 8000000
set_option maxRecDepth 4000
attribute [local irreducible] Go.AL.RW Go.AL.AW Go.AL.Stop
namespace Go.Proofs.YtejkbiijonnefaaGreat
open Go.AL Go.RowKit

theorem rx_l4Add2 {a b : List Bool} {m m2 : Nat} {N : Nat} {Q : Exit → AS → Prop} {all : Array Oper} {rest : List Oper} {tsl : List (Nat × AV)} {hsl : List (Nat × Option (List AV))} {nidl : Nat} {z0 : Lo} {md : Md} {d : Nat} {ty : TypeId} {pos : String} {af : Array Edge} {tys : Array TypeId} {x0 x1 : Operand} {i0 i1 : Nat} (ha0 : ev (lk tsl) x0 = some (.own i0 0 m 1)) (ha1 : ev (lk tsl) x1 = some (.own i1 0 m2 1)) (hH0 : lkH hsl i0 = some (flat cB a)) (hH1 : lkH hsl i1 = some (flat cB b)) (hdd : Go.AL.distinct [i0, i1] = true) (hmc : MC Tryz.prog 148 [.own 0 0 m 1, .own 1 0 m2 1] [(0, some (flat cB a)), (1, some (flat cB b))] 2 (fun _ : Unit => True) (fun _ => .tup []) (fun _ => [(0, some (flat cB (addB a b))), (1, some (flat cB b))])) (hM : Nat.ble (nidl + 0) big = true) (hN : Nat.blt d N = true) {md' : Md} [hmd : MdA md (rOs [x0, x1] ++ [.inr i0, .inr i1]) (List.map Sum.inr (List.map Prod.fst ([(i0, some (flat cB (addB a b))), (i1, some (flat cB b))] : List (Nat × Option (List AV)))) ++ [.inl d]) md'] (kk : RW Tryz.prog N all Q md' rest ⟨(d, .tup []) :: tsl, wrH hsl [(i0, some (flat cB (addB a b))), (i1, some (flat cB b))], nidl + 0, z0⟩) : RW Tryz.prog N all Q md (⟨some d, .call ⟨.value (.func 148), #[x0, x1], tys⟩, ty, pos, af, none⟩ :: rest) ⟨tsl, hsl, nidl, z0⟩ := by
  refine rx_mcallE [i0, i1] 2 [(i0, some (flat cB (addB a b))), (i1, some (flat cB b))] hmc (avs := [.own i0 0 m 1, .own i1 0 m2 1]) ?_ hdd ?_ rfl ?_ (by simpa using hM) ?_ ?_ ?_ hN (md' := md') (hmd := hmd) kk
  · show evL (lk tsl) [x0, x1] = _
    simp only [evL, ha0, ha1]
  · exact ⟨⟨_, _, rfl, hH0, by (repeat' (exact RnL.purI inferInstance))⟩, ⟨⟨_, _, rfl, hH1, by (repeat' (exact RnL.purI inferInstance))⟩, trivial⟩⟩
  · (repeat' (first | exact RnL.purI inferInstance | exact RnV.own rfl | refine RnL.cons ?_ ?_))
  · (repeat' (exact RnV.purI inferInstance))
  · simp [wsAll]
  · (repeat' (first | exact trivial | (refine And.intro ⟨0, _, rfl, rfl, ?_⟩ ?_) | (refine And.intro ⟨1, _, rfl, rfl, ?_⟩ ?_) | exact RnL.purI inferInstance))

theorem l4Add2_c (a b : List Bool) (m m2 : Nat) (hm : m = a.length) (hm' : m2 = b.length) (hab : b.length ≤ a.length) (hl : a.length ≤ 1000000) : MC Tryz.prog 148 [.own 0 0 m 1, .own 1 0 m2 1] [(0, some (flat cB a)), (1, some (flat cB b))] 2 (fun _ : Unit => True) (fun _ => .tup []) (fun _ => [(0, some (flat cB (addB a b))), (1, some (flat cB b))]) := by
  subst hm hm'
  (refine mc_of_aw Tryz.func148 rfl (by simp [Tryz.ntmps148]) ?_; rw [Tryz.ntmps148])
  repeat' (first | (apply id_rw; first | (apply rx_assign;rfl;rfl) | (apply rw_nil;kernel_rfl)) | (apply id_aw; first | apply aw_seq | apply aw_region | apply aw_block) | with_reducible apply tq_normal)
  refine aw_loopK (σ := Nat × List Bool) [0, 1] [(0, _), (1, _)] [1] [(1, some _)] (fun k => [(4, iv (k.1 : Int))]) (fun k => [(0, some (flat cB k.2))]) (fun k => k.1 ≤ b.length ∧ k.2.length = a.length ∧ (∀ l, l < a.length → k.2[l]! = (a[l]! || (decide (l < k.1) && b[l]!)))) (fun k => b.length - k.1) (0, a) ⟨by omega, rfl, fun l hl => by simp⟩ rfl rfl (by repeat' (first | exact trivial | refine And.intro rfl ?_)) (by repeat' (first | exact trivial | refine And.intro (.inr rfl) ?_)) ?_
  rintro ⟨k, u⟩ ⟨hk, hul, hu⟩
  dsimp only at hk hul hu
  try dsimp only
  repeat' (first | (apply id_rw; first | (apply rx_move;rfl;rfl) | (apply rx_loadF0; (case hx | hH => rfl); (case hf | hg | hα => infer_instance); (case hk => omega); (case hc | hN => rfl)) | (first | (apply rx_guardY;rfl;rfl;rfl;(assumption)) | (apply rx_guardNs;rfl;rfl;rfl;(assumption)) | (apply rx_guardS; (case hj | hb | hN => rfl); all_goals (intro hg; have hq := hg; (try simp only [bqs] at hq); (try (exfalso; omega))))) | (first | (apply rx_add;rfl;rfl;omega;rfl) | (apply rx_bin;rfl;rfl;rfl;rfl)) | (apply rx_assign;rfl;rfl) | (first | (apply rx_pickT;rfl;(assumption);rfl;rfl) | (apply rx_pickF;rfl;(assumption);rfl;rfl)) | (apply rx_indexON;rfl;rfl;(omega);rfl) | (apply rx_len;rfl;rfl;rfl) | (apply rw_nil;kernel_rfl) | (apply rx_store;rfl;rfl;rfl;rfl;rfl;(rw [flat_length]; simp only [lns] <;> omega);(exact st_bool (by (omega))))) | (apply id_aw; first | apply aw_seq | apply aw_region | (apply aw_cond;rfl;all_goals intro hc;have hq:=hc;(try simp only [bqs] at hq);try exfalso;omega) | apply aw_block | apply aw_skip | apply aw_exit) | with_reducible apply tq_normal | with_reducible apply tq_exit | with_reducible apply bq_normal | with_reducible apply bq_here)
  · (apply ex3 (k + 1, _); focus (refine Le.ren [] rfl (by decide) ?_ ?_ <;> repeat' (first | exact trivial | refine And.intro ⟨_, rfl, ?_⟩ ?_ | refine And.intro ⟨_, _, rfl, rfl, ?_⟩ ?_ | exact Or.inr rfl | refine Or.inl ⟨?_, (by first | rfl | exact pur_sl _ _)⟩ | rfl)))
    · refine ⟨(by show k + 1 ≤ b.length; omega), (by show (u.set k _).length = a.length; rw [List.length_set]; exact hul), fun l hl => ?_⟩
      show (u.set k _)[l]! = (a[l]! || (decide (l < k + 1) && b[l]!))
      have h1 := hu l hl
      have h2 := hu k (by omega)
      rw [set_get]
      clear hu
      grind
    · show b.length - (k + 1) < b.length - k; omega
  · (apply ex3 (k + 1, _); focus (refine Le.ren [] rfl (by decide) ?_ ?_ <;> repeat' (first | exact trivial | refine And.intro ⟨_, rfl, ?_⟩ ?_ | refine And.intro ⟨_, _, rfl, rfl, ?_⟩ ?_ | exact Or.inr rfl | refine Or.inl ⟨?_, (by first | rfl | exact pur_sl _ _)⟩ | rfl)))
    · refine ⟨(by show k + 1 ≤ b.length; omega), (by show (u.set k _).length = a.length; rw [List.length_set]; exact hul), fun l hl => ?_⟩
      show (u.set k _)[l]! = (a[l]! || (decide (l < k + 1) && b[l]!))
      have h1 := hu l hl
      have h2 := hu k (by omega)
      rw [set_get]
      clear hu
      grind
    · show b.length - (k + 1) < b.length - k; omega
  · refine rq_end (l := []) rfl ?_
    refine mc_ret () trivial rfl ⟨.inr (Eq.trans (b := some _) rfl ?_), .inr rfl, trivial⟩
    have e : u = addB a b := ext_get (by rw [addB_len, hul]) fun l hl => by
      rw [addB_get _ _ _ (by omega), hu l (by omega)]
      clear hu
      grind
    rw [e]

theorem rx_l4AddF1 {a : List Bool} {R : List (List Bool)} {k m m2 : Nat} {N : Nat} {Q : Exit → AS → Prop} {all : Array Oper} {rest : List Oper} {tsl : List (Nat × AV)} {hsl : List (Nat × Option (List AV))} {nidl : Nat} {z0 : Lo} {d : Nat} {ty : TypeId} {pos : String} {af : Array Edge} {tys : Array TypeId} {x0 x1 : Operand} {i0 : Nat} (ha0 : ev (lk tsl) x0 = some (.own i0 0 m 1)) (ha1 : ev (lk tsl) x1 = some (.own (k + big) 0 m2 1))
    (hH0 : lkH hsl i0 = some (flat cB a)) (hF : FamR R R hsl hsl) (hk : k < R.length) (hi : Nat.blt i0 big = true) (hm : m = a.length) (hm2 : m2 = R[k]!.length) (hab : R[k]!.length ≤ a.length) (hl : a.length ≤ 1000000) (hM : Nat.ble (nidl + 0) big = true) (hN : Nat.blt d N = true)
    (kk : RW Tryz.prog N all Q .txt rest ⟨(d, .tup []) :: tsl, (i0, some (flat cB (addB a R[k]!))) :: hsl, nidl + 0, z0⟩) : RW Tryz.prog N all Q .txt (⟨some d, .call ⟨.value (.func 148), #[x0, x1], tys⟩, ty, pos, af, none⟩ :: rest) ⟨tsl, hsl, nidl, z0⟩ :=
  rx_l4Add2 (a := a) (b := R[k]!) (i0 := i0) (i1 := k + big) ha0 ha1 hH0 (hF.get hk) (dist2 hi) (l4Add2_c a R[k]! m m2 hm hm2 hab hl) hM hN (md' := .txt) (rw_le kk (Le.fdrop (FamR.cons hi hF) hk))
theorem l4After_c (ts : List Int) (pts : List Pnt) (w : WG ts pts) (i : Nat) (hi : i < pts.length) (R0 : List (List Bool)) (hl : R0.length = ts.length + 1) (hr : ∀ k, k < ts.length + 1 → R0[k]!.length = pts.length) : FCt Tryz.prog 146 [sl cI ts, sl cPnt pts, iv (i : Int), aSt 0 ts.length pts.length] R0 (.agg [sl cBB (afR ts pts i (R0.take ts.length)), sl cB (afQ ts pts i R0[ts.length]!)]) [] := by
  have hrn := hr ts.length (by omega)
  have htl := w.tl
  have hpl := w.pl
  have hy := w.y i hi
  have hset := w.set i hi
  (refine fc_of_aw Tryz.func146 rfl (by simp [Tryz.ntmps146]) ?_; rw [Tryz.ntmps146])
  repeat' (first | (apply id_rw; first | (with_reducible apply rw_stop (d := 19)) | (apply rx_move;rfl;rfl) | (apply rx_loadA;rfl;rfl;(first | exact (rfl:_=[_, _]) | exact (rfl:_=[_, _, _, _, _]));rfl;rfl;rfl) | (apply rx_indexFN; (case hx | hi => rfl); (case hm => (assumption)); (case hml => (rfl)); (case hα | hf | hg => infer_instance); (case hN => rfl)) | (apply rw_nil;kernel_rfl) | (apply rx_box;rfl;rfl;rfl;rfl) | (apply rx_alloc;rfl;rfl) | (apply rx_store;rfl;rfl;rfl;rfl;rfl;(case hl => (simp;done));(exact (rfl:_=[_, _, _, _, _])))) | (apply id_aw; first | apply aw_seq | apply aw_region) | with_reducible apply tq_normal)
  refine rw_go ?_
  refine rx_fcall (R := R0) (R0 := R0) (avs := [aSt 0 ts.length pts.length]) (b := 0) (n1 := 2) (D := (List.range R0.length).map fun k => 0 + k + big) (ws := [(3, some (flat cBB (R0.take ts.length))), (4, some (flat cB R0[ts.length]!))]) (rr' := .agg [.own 3 0 ts.length 1, .own 4 0 pts.length 1]) (md' := .txt) rfl (l4Copy_c ts.length pts.length R0 htl hpl hl hr) (by (repeat' (first | exact FamR.here | (apply FamR.cons; focus rfl)))) (by omega) (fun k hk => by rw [Nat.zero_add]) (fun k hk => List.mem_map.2 ⟨k, by rw [List.mem_range]; exact hk, rfl⟩) ?_ rfl ?_ ?_ rfl rfl ?_
  · refine .cons (.agg (.cons (.imm (rn_rows fun k hk => ?_)) (.cons (.own ?_) .nil))) .nil
    · rw [Nat.zero_add, mpC_big (by omega), Nat.zero_add]
    · rw [Nat.zero_add, mpC_big (by omega), Nat.zero_add]
  · exact .agg (.cons (.own (rhC_lit (j := 0) (by decide) (by decide))) (.cons (.own (rhC_lit (j := 1) (by decide) (by decide))) .nil))
  · exact ⟨⟨0, _, rhC_lit (j := 0) (by decide) (by decide), rfl, RnL.purI inferInstance⟩, ⟨1, _, rhC_lit (j := 1) (by decide) (by decide), rfl, RnL.purI inferInstance⟩, trivial⟩
  have hfr : ∀ v, v < ts.length → (R0.take ts.length)[v]! = R0[v]! := fun v hv => by rw [getB _ _ (by rw [List.length_take]; omega), getB _ _ (by omega), List.getElem_take]
  have hY : ∀ l, l < pts.length → pts[i]!.op = 3 ∨ pts[i]!.op = 4 ∨ pts[i]!.op = 5 → (R0.take ts.length)[pts[i]!.y.toNat]![l]! = R0[0 + pts[i]!.y.toNat]![l]! ∧ R0[0 + pts[i]!.y.toNat]!.length = pts.length := fun l hl h => by
    rw [Nat.zero_add]; exact ⟨by rw [hfr _ (by omega)], hr _ (by omega)⟩
  have eA : pts[i]!.op = 3 → addB (List.replicate pts.length false) R0[0 + pts[i]!.y.toNat]! = valB ts pts i (R0.take ts.length) := fun h => ext_get (by rw [addB_len, valB_len]; simp) fun l hl => by
    rw [addB_len, List.length_replicate] at hl
    have h1 := hY l hl (.inl h)
    rw [addB_get _ _ _ (by simpa using hl), valB_get _ _ _ _ _ hl, if_pos h, rep_get _ _ _ hl, h1.1, decide_eq_true (by omega)]; rfl
  have eB : pts[i]!.op = 4 ∨ pts[i]!.op = 5 → isRef ts[pts[i]!.y.toNat]! = true → addB ((List.replicate pts.length false).set i true) R0[0 + pts[i]!.y.toNat]! = valB ts pts i (R0.take ts.length) := fun h h' => ext_get (by rw [addB_len, valB_len]; simp) fun l hl => by
    rw [addB_len, List.length_set, List.length_replicate] at hl
    have h1 := hY l hl (.inr h)
    have h2 : isLn pts[i]! = true := by unfold isLn; rcases h with h | h <;> rw [h] <;> rfl
    rw [addB_get _ _ _ (by simpa using hl), valB_get _ _ _ _ _ hl, if_neg (by omega), h1.1, h2, h', set_get, rep_get _ _ _ hl, decide_eq_true (by omega)]
    by_cases e : l = i
    · subst e; simp [hl]
    · rw [if_neg (fun q => e q.1.symm), decide_eq_false e]; simp
  have eC : pts[i]!.op = 4 ∨ pts[i]!.op = 5 → isRef ts[pts[i]!.y.toNat]! = false → (List.replicate pts.length false).set i true = valB ts pts i (R0.take ts.length) := fun h h' => ext_get (by rw [valB_len]; simp) fun l hl => by
    rw [List.length_set, List.length_replicate] at hl
    have h2 : isLn pts[i]! = true := by unfold isLn; rcases h with h | h <;> rw [h] <;> rfl
    rw [valB_get _ _ _ _ _ hl, if_neg (by omega), h2, h', set_get, rep_get _ _ _ hl]
    by_cases e : l = i
    · subst e; simp [hl]
    · rw [if_neg (fun q => e q.1.symm), decide_eq_false e]; simp
  have eD : ¬ pts[i]!.op = 3 → ¬ pts[i]!.op = 4 → ¬ pts[i]!.op = 5 → List.replicate pts.length false = valB ts pts i (R0.take ts.length) := fun h3 h4 h5 => ext_get (by rw [valB_len]; simp) fun l hl => by
    rw [List.length_replicate] at hl
    have h2 : isLn pts[i]! = false := by unfold isLn; rw [decide_eq_false h4, decide_eq_false h5]; rfl
    rw [valB_get _ _ _ _ _ hl, if_neg h3, h2, rep_get _ _ _ hl]; rfl
  have hvl := valB_len ts pts i (R0.take ts.length)
  have hneg : setAt pts[i]! < 0 → ¬ pts[i]!.op = 4 ∧ ¬ pts[i]!.op = 5 := fun h => by
    have h1 := w.x i hi
    unfold setAt at h
    split at h
    · omega
    · omega
  have hQ0 : ∀ (v : Nat) (q : List Bool), ts.length ≤ v → (∀ l, l < pts.length → q[l]! = (R0[ts.length]![l]! && !(isLn pts[l]! && (decide (pts[l]!.y < v) && decide (useAt ts pts[i]! pts[l]!.y = 2))))) → ∀ l, l < pts.length → q[l]! = (R0[ts.length]![l]! && !(isLn pts[l]! && decide (useAt ts pts[i]! pts[l]!.y = 2))) := fun v q hv h l hl => by
    rw [h l hl]
    cases hln : isLn pts[l]! with
    | false => rfl
    | true => have := isLn_y w hl hln; rw [decide_eq_true (by omega : pts[l]!.y < (v : Int))]; rfl
  apply cut
  case' main =>
   intro key
   repeat' (first | (apply id_rw; first | (apply rx_l4AddF1;rfl;rfl;rfl;(case hF => (repeat' (first | exact FamR.here | (apply FamR.cons; focus rfl))));(simp only [Nat.zero_add] <;> omega);rfl;(case hm => (simp; done));(simp only [Nat.zero_add]; symm; exact hr _ (by omega));(simp only [Nat.zero_add]; rw [hr _ (by omega)]; simp);(simp; omega);rfl;rfl) | (apply rx_move;rfl;rfl) | (apply rx_load1;rfl;rfl;rfl;rfl) | (apply rx_fieldAddr;rfl;rfl;rfl) | (apply rx_bin;rfl;rfl;rfl;rfl) | (apply rx_assign;rfl;rfl) | (first | (apply rx_indexRgI;rfl;rfl;(omega);rfl;infer_instance;infer_instance;rfl) | (apply rx_indexON;rfl;rfl;(assumption);rfl) | (apply rx_indexF; (case hx | hi => rfl); (case hm => (omega)); (case hml => (rfl)); (case hα | hf | hg => infer_instance); (case hN => rfl))) | ((with_reducible apply rx_callE (k := 184)); (case ha => rfl); (case h => (apply isRefS_c <;> (fail))); (case hp => (rfl)); (case hN => rfl)) | (apply rx_len;rfl;rfl;rfl) | (apply rw_nil;kernel_rfl) | (apply rx_alloc;rfl;rfl) | (apply rx_store;rfl;rfl;rfl;rfl;rfl;(case hl => (first | (rw [flat_length]; simp only [lns] <;> omega) | (simp;done)));(first | exact st_bool (by (simp only [lns] <;> omega)) | exact (rfl:_=[_, _]))) | (apply rx_makeSliceE;rfl;rfl;rfl;omega;omega;(exact mk_bool);rfl;rfl)) | (apply id_aw; first | apply aw_seq | apply aw_region | (apply aw_condT;rfl;(assumption)) | (apply aw_cond;rfl;all_goals intro hc;have hq:=hc;(try simp only [bqs] at hq);try exfalso;omega) | apply aw_block | apply aw_skip) | with_reducible apply tq_normal | with_reducible apply bq_normal)
   all_goals first
     | rw [eA (by assumption)]
     | rw [eB (.inl (by assumption)) (by assumption)]
     | rw [eB (.inr (by assumption)) (by assumption)]
     | rw [eC (.inl (by assumption)) (by assumption)]
     | rw [eC (.inr (by assumption)) (by assumption)]
     | rw [eD (by assumption) (by assumption) (by assumption)]
   all_goals refine aw_loopF (σ := Nat × List (List Bool) × List Bool) 0 (fun s => R0) [0, 1, 2, 8, 9, 10, 11] [(0, _), (1, _), (2, _), (8, _), (9, _), (10, _), (11, _)] [6, 5, 2, 1, 0] [(6, some _), (5, some _), (2, some _), (1, some _), (0, some _)] (fun s => [(12, iv (s.1 : Int))]) (fun s => [(3, some (flat cBB s.2.1)), (4, some (flat cB s.2.2))]) (fun s => s.1 ≤ ts.length ∧ s.2.1.length = ts.length ∧ (∀ v, v < ts.length → s.2.1[v]! = if v < s.1 ∧ useAt ts pts[i]! v = 2 then List.replicate pts.length false else R0[v]!) ∧ s.2.2.length = pts.length ∧ (∀ l, l < pts.length → s.2.2[l]! = (R0[ts.length]![l]! && !(isLn pts[l]! && (decide (pts[l]!.y < s.1) && decide (useAt ts pts[i]! pts[l]!.y = 2)))))) (fun s => ts.length - s.1) (0, R0.take ts.length, R0[ts.length]!) ⟨by omega, (by show (R0.take ts.length).length = _; rw [List.length_take]; omega), fun v hv => (by show (R0.take ts.length)[v]! = _; rw [hfr v hv, if_neg (by omega)]), hrn, fun l hl => (by
      show R0[ts.length]![l]! = _
      cases hln : isLn pts[l]! with
      | false => simp
      | true => have := isLn_y w hl hln; rw [decide_eq_false (by omega : ¬ pts[l]!.y < ((0 : Nat) : Int))]; simp)⟩ rfl rfl (by repeat' (first | exact trivial | refine And.intro rfl ?_)) (by repeat' (first | exact trivial | refine And.intro (.inr rfl) ?_)) (by (repeat' (first | exact FamR.here | (apply FamR.cons; focus rfl)))) (by (rfl)) key.pf
  rintro ⟨v, u, q⟩ ⟨hv, hul, hu, hql, hq'⟩
  dsimp only at hv hul hu hql hq'
  try dsimp only
  repeat' (first | (apply id_rw; first | (with_reducible apply rw_stop (d := 73)) | (with_reducible apply rw_stop (d := 86)) | (apply rx_move;rfl;rfl) | (first | (apply rx_load1;rfl;rfl;rfl;rfl) | (apply rx_loadA;rfl;rfl;(first | exact (rfl:_=[_, _]) | exact (rfl:_=[_, _, _, _, _]));rfl;rfl;rfl)) | (apply rx_fieldAddr;rfl;rfl;rfl) | (first | (apply rx_guardY;rfl;rfl;rfl;(assumption)) | (apply rx_guardS; (case hj | hb | hN => rfl); all_goals (intro hg; have hq := hg; (try simp only [bqs] at hq); (try (exfalso; omega))))) | (first | (apply rx_add;rfl;rfl;omega;rfl) | (apply rx_bin;rfl;rfl;rfl;rfl)) | (apply rx_assign;rfl;rfl) | (apply rx_pickF;rfl;(assumption);rfl;rfl) | (first | (apply rx_indexON;rfl;rfl;(omega);rfl) | (apply rx_indexO;rfl;rfl;(omega);rfl)) | (first | ((with_reducible apply rx_callE (k := 132)); (case ha => rfl); (case h => (apply l3Use_c <;> (omega))); (case hp => (exact Pur.pf)); (case hN => rfl)) | ((with_reducible apply rx_callE (k := 149)); (case ha => rfl); (case h => (apply l3Set_c <;> (fail))); (case hp => (exact Pur.pf)); (case hN => rfl))) | (apply rx_len;rfl;rfl;rfl) | (apply rw_nil;kernel_rfl) | (apply rx_store;rfl;rfl;rfl;rfl;rfl;(case hl => (first | (rw [flat_length]; simp only [lns] <;> omega) | (simp;done)));(first | exact (rfl:_=[_, _]) | rfl)) | (apply rx_makeSliceE;rfl;rfl;rfl;omega;omega;(exact mk_bool);rfl;rfl)) | (apply id_aw; first | apply aw_seq | apply aw_region | (apply aw_draw;kernel_rfl) | (apply aw_cond;rfl;all_goals intro hc;have hq:=hc;(try simp only [bqs] at hq);try exfalso;omega) | apply aw_block | apply aw_skip | apply aw_exit | apply aw_ret) | with_reducible apply tq_normal | with_reducible apply tq_exit | with_reducible apply bq_normal | with_reducible apply bq_here)
  · refine rw_go (rw_le ?_ (Le.frzRow (j := 3) (q := 7) (v := v) (u := u) (r := List.replicate pts.length false) rfl rfl (by simp) (by omega) (by decide)))
    repeat' (first | (apply id_rw; first | (apply rx_move;rfl;rfl) | (apply rx_loadA;rfl;rfl;(exact (rfl:_=[_, _]));rfl;rfl;rfl) | (apply rx_add;rfl;rfl;omega;rfl) | (apply rx_assign;rfl;rfl) | (apply rx_l4Lose;rfl;rfl;rfl;(rfl);(rfl);rfl;(apply l4Lose_c <;> (first | assumption | omega));rfl;rfl) | (apply rw_nil;kernel_rfl)) | (apply id_aw; (apply aw_region)) | with_reducible apply tq_normal | with_reducible apply bq_normal)
    (apply ex3 (v + 1, u.set v (List.replicate pts.length false), loB pts v q); focus (refine Le.renF0 [(0, 0), (1, 1), (2, 2), (3, 3), (4, 4), (5, 5), (6, 6)] (R := ?qA3) (hF := ?qF3) (hz := ?qz3) (hm := ?qm3) (hn := ?qn3) (h1 := ?q13) (h2 := ?q23); (case qF3 => (repeat' (first | exact FamR.here | (apply FamR.cons; focus rfl)))); (case qz3 => (rfl)); (case qm3 => rfl); (case qn3 => decide); all_goals (repeat' (first | exact trivial | refine And.intro ⟨_, rfl, ?_⟩ ?_ | refine And.intro ⟨_, _, rfl, rfl, ?_⟩ ?_ | exact RnL.purI inferInstance | exact RnV.purI inferInstance | exact RnV.own rfl | exact RnV.optr rfl | exact RnL.nil | refine RnL.cons ?_ ?_ | exact RnV.imm (rn_rowsF (by (simp only [List.length_replicate, List.length_set, List.length_append, List.length_singleton] at * <;> omega))) | exact RnV.own (rhoF_big (by omega) (by show _ < big + _; (omega)))))))
    · refine ⟨(by show v + 1 ≤ ts.length; omega), (by show (u.set v _).length = ts.length; rw [List.length_set]; exact hul), fun v' hv' => ?_, (by show (loB pts v q).length = pts.length; rw [loB_len]; exact hql), fun l hl => ?_⟩
      · show (u.set v (List.replicate pts.length false))[v']! = if v' < v + 1 ∧ useAt ts pts[i]! v' = 2 then _ else _
        rw [set_get, hu v' hv']
        by_cases e : v = v'
        · subst e; rw [if_pos ⟨rfl, by omega⟩, if_pos ⟨by omega, by assumption⟩]
        · rw [if_neg (fun h => e h.1)]
          by_cases e2 : v' < v ∧ useAt ts pts[i]! v' = 2
          · rw [if_pos e2, if_pos ⟨by omega, e2.2⟩]
          · rw [if_neg e2, if_neg (fun h => e2 ⟨by omega, h.2⟩)]
      · show (loB pts v q)[l]! = _
        have hu2 : useAt ts pts[i]! v = 2 := by assumption
        rw [loB_get _ _ _ _ (by omega), hq' l hl]
        clear hu hq'
        by_cases hln : isLn pts[l]! = true
        · rw [hln]
          by_cases e : pts[l]!.y = v
          · rw [e, hu2, decide_eq_true (by omega : (v : Int) < ((v + 1 : Nat) : Int))]; simp
          · rw [decide_eq_false e]
            have e3 : decide (pts[l]!.y < ((v + 1 : Nat) : Int)) = decide (pts[l]!.y < (v : Int)) := by
              have : (pts[l]!.y < ((v + 1 : Nat) : Int)) ↔ (pts[l]!.y < (v : Int)) := by omega
              simp only [this]
            rw [e3]; simp
        · rw [Bool.not_eq_true] at hln; rw [hln]; simp
    · show ts.length - (v + 1) < ts.length - v; omega
  · (apply ex3 (v + 1, u, q); focus (refine Le.renF0 [(0, 0), (1, 1), (2, 2), (3, 3), (4, 4), (5, 5), (6, 6)] (R := ?qA4) (hF := ?qF4) (hz := ?qz4) (hm := ?qm4) (hn := ?qn4) (h1 := ?q14) (h2 := ?q24); (case qF4 => (repeat' (first | exact FamR.here | (apply FamR.cons; focus rfl)))); (case qz4 => (rfl)); (case qm4 => rfl); (case qn4 => decide); all_goals (repeat' (first | exact trivial | refine And.intro ⟨_, rfl, ?_⟩ ?_ | refine And.intro ⟨_, _, rfl, rfl, ?_⟩ ?_ | exact RnL.purI inferInstance | exact RnV.purI inferInstance | exact RnV.own rfl | exact RnV.optr rfl | exact RnL.nil | refine RnL.cons ?_ ?_ | exact RnV.imm (rn_rowsF (by (simp only [List.length_replicate, List.length_set, List.length_append, List.length_singleton] at * <;> omega))) | exact RnV.own (rhoF_big (by omega) (by show _ < big + _; (omega)))))))
    · refine ⟨(by show v + 1 ≤ ts.length; omega), hul, fun v' hv' => ?_, hql, fun l hl => ?_⟩
      · show u[v']! = if v' < v + 1 ∧ useAt ts pts[i]! v' = 2 then _ else _
        rw [hu v' hv']
        have hu2 : ¬ useAt ts pts[i]! v = 2 := by assumption
        by_cases e2 : v' < v ∧ useAt ts pts[i]! v' = 2
        · rw [if_pos e2, if_pos ⟨by omega, e2.2⟩]
        · rw [if_neg e2, if_neg (fun h => (by
            by_cases e : v = v'
            · subst e; exact hu2 h.2
            · exact e2 ⟨by omega, h.2⟩))]
      · show q[l]! = _
        have hu2 : ¬ useAt ts pts[i]! v = 2 := by assumption
        rw [hq' l hl]
        clear hu hq'
        by_cases e : pts[l]!.y = v
        · rw [e, decide_eq_false hu2]; simp
        · have e3 : decide (pts[l]!.y < ((v + 1 : Nat) : Int)) = decide (pts[l]!.y < (v : Int)) := by
            have : (pts[l]!.y < ((v + 1 : Nat) : Int)) ↔ (pts[l]!.y < (v : Int)) := by omega
            simp only [this]
          rw [e3]
    · show ts.length - (v + 1) < ts.length - v; omega
  · refine rw_go (rw_le ?_ (Le.frzRow (j := 3) (q := 6) (v := (setAt pts[i]!).toNat) (u := u) (r := valB ts pts i (R0.take ts.length)) rfl rfl (by omega) (by omega) (by decide)))
    have hlo : (loB pts (setAt pts[i]!) q).length = pts.length := by rw [loB_len]; exact hql
    have hQ := fun l hl => hQ0 v q (by omega) hq' l hl
    have eU : u.set (setAt pts[i]!).toNat (valB ts pts i (R0.take ts.length)) = afR ts pts i (R0.take ts.length) := ext_get (by rw [afR_len]; simp; omega) fun v' hv' => by
      rw [List.length_set] at hv'
      rw [set_get, afR_get _ _ _ _ _ (by omega), hu v' (by omega), hfr v' (by omega)]
      by_cases e : setAt pts[i]! = v'
      · rw [if_pos ⟨by omega, hv'⟩, if_pos e]
      · rw [if_neg (fun h => e (by omega)), if_neg e]
        by_cases e2 : useAt ts pts[i]! v' = 2
        · rw [if_pos ⟨by omega, e2⟩, if_pos e2]
        · rw [if_neg (fun h => e2 h.2), if_neg e2]
    have eL : ∀ l, l < pts.length → (loB pts (setAt pts[i]!) q)[l]! = (R0[ts.length]![l]! && !(isLn pts[l]! && (decide (useAt ts pts[i]! pts[l]!.y = 2) || decide (setAt pts[i]! = pts[l]!.y)))) := fun l hl => by
      rw [loB_get _ _ _ _ (by omega), hQ l hl]
      have : decide (pts[l]!.y = setAt pts[i]!) = decide (setAt pts[i]! = pts[l]!.y) := by simp only [eq_comm]
      rw [this]
      cases R0[ts.length]![l]! <;> cases isLn pts[l]! <;> cases decide (useAt ts pts[i]! pts[l]!.y = 2) <;> cases decide (setAt pts[i]! = pts[l]!.y) <;> rfl
    have eQ1 : isLn pts[i]! = true → (loB pts (setAt pts[i]!) q).set i true = afQ ts pts i R0[ts.length]! := fun h => ext_get (by rw [afQ_len, List.length_set, hlo]) fun l hl => by
      rw [List.length_set, hlo] at hl
      rw [set_get, afQ_get _ _ _ _ _ hl, eL l hl, h, hlo]
      by_cases e : l = i
      · subst e; rw [if_pos ⟨rfl, hl⟩, decide_eq_true rfl]; rfl
      · rw [if_neg (fun q => e q.1.symm), decide_eq_false e]; rfl
    have eQ0 : isLn pts[i]! = false → loB pts (setAt pts[i]!) q = afQ ts pts i R0[ts.length]! := fun h => ext_get (by rw [afQ_len, hlo]) fun l hl => by
      rw [hlo] at hl
      rw [afQ_get _ _ _ _ _ hl, eL l hl, h]; rfl
    repeat' (first | (apply id_rw; first | (apply rx_move;rfl;rfl) | (first | (apply rx_load1;rfl;rfl;rfl;rfl) | (apply rx_loadA;rfl;rfl;(exact (rfl:_=[_, _]));rfl;rfl;rfl)) | (apply rx_fieldAddr;rfl;rfl;rfl) | (first | (apply rx_guardY;rfl;rfl;rfl;(assumption)) | (apply rx_guardNs;rfl;rfl;rfl;(assumption)) | (apply rx_guardS; (case hj | hb | hN => rfl); all_goals (intro hg; have hq := hg; (try simp only [bqs] at hq); (try (exfalso; omega))))) | (apply rx_bin;rfl;rfl;rfl;rfl) | (first | (apply rx_pickT;rfl;(assumption);rfl;rfl) | (apply rx_pickF;rfl;(assumption);rfl;rfl)) | (apply rx_indexON;rfl;rfl;(assumption);rfl) | (apply rx_l4Lose;rfl;rfl;rfl;(rfl);(rfl);rfl;(apply l4Lose_c <;> (first | assumption | omega));rfl;rfl) | (apply rw_nil;kernel_rfl) | (apply rx_store;rfl;rfl;rfl;rfl;rfl;(case hl => (first | (rw [flat_length]; simp only [lns] <;> omega) | (simp;done)));(first | exact st_bool (by (omega)) | exact (rfl:_=[_, _])))) | (apply id_aw; first | apply aw_seq | apply aw_region | (apply aw_condT;rfl;(rfl)) | (apply aw_cond;rfl;all_goals intro hc;have hq:=hc;(try simp only [bqs] at hq);try exfalso;omega) | apply aw_skip | apply aw_ret) | with_reducible apply tq_normal)
    · refine rq_le ((Le.frzC (j := 1) (i := 3) [] rfl rfl (by decide)).trans (Le.frzC (j := 1) (i := 4) [_] rfl rfl (by decide))) ?_
      refine rq_ret (l := [.agg [_, _]]) rfl ?_
      refine fc_ret ?_ trivial (by (repeat' (first | exact FamR.here | (apply FamR.cons; focus rfl))))
      simp only [oneOf]
      rw [eU, eQ1 (by unfold isLn; rw [decide_eq_true ‹pts[i]!.op = 5›]; simp)]
      simp only [sl, afR_len, afQ_len]
    · refine rq_le ((Le.frzC (j := 1) (i := 3) [] rfl rfl (by decide)).trans (Le.frzC (j := 1) (i := 4) [_] rfl rfl (by decide))) ?_
      refine rq_ret (l := [.agg [_, _]]) rfl ?_
      refine fc_ret ?_ trivial (by (repeat' (first | exact FamR.here | (apply FamR.cons; focus rfl))))
      simp only [oneOf]
      rw [eU, eQ0 (by unfold isLn; rw [decide_eq_false ‹¬ pts[i]!.op = 4›, decide_eq_false ‹¬ pts[i]!.op = 5›]; rfl)]
      simp only [sl, afR_len, afQ_len]
    · refine rq_le ((Le.frzC (j := 1) (i := 3) [] rfl rfl (by decide)).trans (Le.frzC (j := 1) (i := 4) [_] rfl rfl (by decide))) ?_
      refine rq_ret (l := [.agg [_, _]]) rfl ?_
      refine fc_ret ?_ trivial (by (repeat' (first | exact FamR.here | (apply FamR.cons; focus rfl))))
      simp only [oneOf]
      rw [eU, eQ1 (by unfold isLn; rw [decide_eq_true ‹pts[i]!.op = 4›]; rfl)]
      simp only [sl, afR_len, afQ_len]
  · have hQ := fun l hl => hQ0 v q (by omega) hq' l hl
    have eU : u = afR ts pts i (R0.take ts.length) := ext_get (by rw [afR_len]; omega) fun v' hv' => by
      rw [afR_get _ _ _ _ _ (by omega), hu v' (by omega), hfr v' (by omega), if_neg (by omega : ¬ setAt pts[i]! = (v' : Int))]
      by_cases e2 : useAt ts pts[i]! v' = 2
      · rw [if_pos ⟨by omega, e2⟩, if_pos e2]
      · rw [if_neg (fun h => e2 h.2), if_neg e2]
    have eQ0 : isLn pts[i]! = false → q = afQ ts pts i R0[ts.length]! := fun h => ext_get (by rw [afQ_len, hql]) fun l hl => by
      rw [hql] at hl
      rw [afQ_get _ _ _ _ _ hl, hQ l hl, h]
      cases hln : isLn pts[l]! with
      | false => simp
      | true => have := isLn_y w hl hln; rw [decide_eq_false (by omega : ¬ setAt pts[i]! = pts[l]!.y)]; simp
    refine rq_le ((Le.frzC (j := 1) (i := 3) [] rfl rfl (by decide)).trans (Le.frzC (j := 1) (i := 4) [_] rfl rfl (by decide))) ?_
    refine rq_ret (l := [.agg [_, _]]) rfl ?_
    refine fc_ret ?_ trivial (by (repeat' (first | exact FamR.here | (apply FamR.cons; focus rfl))))
    simp only [oneOf]
    rw [eU, eQ0 (by unfold isLn; rw [decide_eq_false ‹¬ pts[i]!.op = 4›, decide_eq_false ‹¬ pts[i]!.op = 5›]; rfl)]
    simp only [sl, afR_len, afQ_len]
end Go.Proofs.YtejkbiijonnefaaGreat

namespace Go.Proofs.YtejkbiijonnefaaGreat
open Go.AL Go.RowKit

def cSt (nv N : Nat) (i : Nat) : List AV := [.imm nv (flat (cRw (i * (nv + 1)) N) (List.range nv)), .own (i * (nv + 1) + nv + big) 0 N 1]
instance (nv N : Nat) : FlT (cSt nv N) 2 := ⟨fun _ => rfl⟩
instance (nv N : Nat) : FE (cSt nv N) (fun i => [.imm nv (flat (cRw (i * (nv + 1)) N) (List.range nv)), .own (i * (nv + 1) + nv + big) 0 N 1]) := ⟨fun _ => rfl⟩
theorem rn_cSt {m : List (Nat × Nat)} {lo : Lo} {pn : Option Nat} {nv N k M : Nat} (hk : k ≤ M) (h : lo.fb = big + M * (nv + 1)) : RnL (rhoF m lo pn) (flat (cSt nv N) (List.range k)) (flat (cSt nv N) (List.range k)) :=
  RnL.flt fun i hi => by
    rw [List.mem_range] at hi
    have h1 : i * (nv + 1) + nv < M * (nv + 1) := ix_lt (by omega) (by omega)
    exact .cons (.imm (rn_rowsF (by rw [h]; omega))) (.cons (.own (rhoF_big (by omega) (by rw [h]; omega))) .nil)
theorem rn_pushS {m : List (Nat × Nat)} {lo : Lo} {pn : Option Nat} {nv N k : Nat} (h : lo.fb = big + (k + 1) * (nv + 1)) : RnL (rhoF m lo pn) (flat (cSt nv N) (List.range (k + 1))) (((flat (cSt nv N) (List.range k)).drop 0).take (k * 2) ++ cSt nv N k) := by
  have e : ((flat (cSt nv N) (List.range k)).drop 0).take (k * 2) = flat (cSt nv N) (List.range k) := List.take_of_length_le (by rw [List.drop_zero, flat_length (cSt nv N) (e := 2)]; simp)
  have := rn_cSt (m := m) (pn := pn) (N := N) (Nat.le_refl (k + 1)) h
  rw [e]
  rw [List.range_succ, ← flat_append, flat_one] at this ⊢
  exact this
def cFl (s : List (List Bool) × List Bool) : List AV := [sl cBB s.1, sl cB s.2]
instance : FlT cFl 2 := ⟨fun _ => rfl⟩
instance : FE cFl (fun s => [sl cBB s.1, sl cB s.2]) := ⟨fun _ => rfl⟩
theorem ld_st {D : List Nat} {hs : List (Nat × Option (List AV))} {R : List (List Bool)} {nv N M n : Nat} (hF : FamR R R hs hs) (hD : ∀ k, k < nv + 1 → n * (nv + 1) + k + big ∈ D) (hlo : R.length = M * (nv + 1)) (hn : n < M) (hro : ∀ q, q < R.length → R[q]!.length = N) :
    LdL D (lkH hs) (cSt nv N n) [sl cBB (rwF nv R n), sl cB (rwP nv R n)] := by
  have h1 : n * (nv + 1) + nv < M * (nv + 1) := ix_lt hn (by omega)
  have h2 : (rwF nv R n).length = nv := rwF_len hlo hn
  have h3 : (rwP nv R n).length = N := hro _ (by omega)
  have e1 : sl cBB (rwF nv R n) = .imm nv (flat cBB ((R.drop (n * (nv + 1))).take nv)) := by unfold sl; rw [h2]; rfl
  have e2 : sl cB (rwP nv R n) = .imm N (flat cB (rwP nv R n)) := by unfold sl; rw [h3]
  rw [e1, e2]
  exact .cons (.imm (LdL.rows hF (fun k hk => hD k (by omega)) (by omega) (fun k hk => hro _ (by omega)))) (.cons (.own (hD nv (by omega)) (hF.get (by omega)) (.pur (inferInstance : Pur (flat cB _)).pf)) .nil)
def ids7 (b : Nat) : List Nat := [b + 0 + big, b + 1 + big, b + 2 + big, b + 3 + big, b + 4 + big, b + 5 + big, b + 6 + big]
theorem mem_ids7 {b k : Nat} (h : k < 7) : b + k + big ∈ ids7 b := by
  unfold ids7
  match k, h with
  | 0, _ => simp
  | 1, _ => simp
  | 2, _ => simp
  | 3, _ => simp
  | 4, _ => simp
  | 5, _ => simp
  | 6, _ => simp
theorem subR_get {nv N n k : Nat} {R : List (List Bool)} (hlo : R.length = N * (nv + 1)) (hn : n < N) (hk : k < nv + 1) : ((R.drop (n * (nv + 1))).take (nv + 1))[k]! = R[n * (nv + 1) + k]! := by
  have h1 := ix_lt hn hk
  have h2 : n * (nv + 1) + nv < N * (nv + 1) := ix_lt hn (by omega)
  rw [getB _ _ (by rw [List.length_take, List.length_drop]; omega), getB _ _ (by omega), List.getElem_take, List.getElem_drop]
theorem subR_len {nv N n : Nat} {R : List (List Bool)} (hlo : R.length = N * (nv + 1)) (hn : n < N) : ((R.drop (n * (nv + 1))).take (nv + 1)).length = nv + 1 := by
  have h2 : n * (nv + 1) + nv < N * (nv + 1) := ix_lt hn (by omega)
  rw [List.length_take, List.length_drop]; omega
theorem l4After_r (ts : List Int) (pts : List Pnt) (w : WG ts pts) (i : Nat) (hi : i < pts.length) (R : List (List Bool)) (h : FSd ts pts R) :
    FCt Tryz.prog 146 [sl cI ts, sl cPnt pts, iv (i : Int), aSt 0 ts.length pts.length] ((R.drop (i * (ts.length + 1))).take (ts.length + 1)) (.agg [sl cBB (afR ts pts i (rwF ts.length R i)), sl cB (afQ ts pts i (rwP ts.length R i))]) [] := by
  have h1 := l4After_c ts pts w i hi ((R.drop (i * (ts.length + 1))).take (ts.length + 1)) (subR_len h.lo hi) (fun k hk => by rw [subR_get h.lo hi hk]; exact h.ro _ (by rw [h.lo]; exact ix_lt hi hk))
  rw [subR_get h.lo hi (by omega), List.take_take, show min ts.length (ts.length + 1) = ts.length from by omega] at h1
  exact h1
theorem afR_row {ts : List Int} {pts : List Pnt} (w : WG ts pts) {R : List (List Bool)} (h : FSd ts pts R) {i v : Nat} (hi : i < pts.length) (hv : v < ts.length) : (afR ts pts i (rwF ts.length R i))[v]!.length = pts.length := by
  rw [afR_get _ _ _ _ _ hv]
  split
  · exact valB_len _ _ _ _
  · split
    · simp
    · rw [rwF_get h.lo hi hv]; exact h.ro _ (by rw [h.lo]; exact ix_lt hi (by omega))
theorem rx_l4AddF2 {b : List Bool} {R : List (List Bool)} {k m : Nat} {N : Nat} {Q : Exit → AS → Prop} {all : Array Oper} {rest : List Oper} {tsl : List (Nat × AV)} {hsl : List (Nat × Option (List AV))} {nidl : Nat} {z0 : Lo} {md : Md} {d : Nat} {ty : TypeId} {pos : String} {af : Array Edge} {tys : Array TypeId} {x0 x1 : Operand} (ha0 : ev (lk tsl) x0 = some (.own (k + big) 0 m 1)) (ha1 : ev (lk tsl) x1 = some (sl cB b))
    (hF : FamR R R hsl hsl) (hk : k < R.length) (hm : m = R[k]!.length) (hab : b.length ≤ R[k]!.length) (hl : R[k]!.length ≤ 1000000) (hM : Nat.ble (nidl + 0) big = true) (hN : Nat.blt d N = true) {md' : Md} [hmd : MdA md (rOs [x0, x1] ++ [.inr (k + big)]) [.inr (k + big), .inl d] md']
    (kk : RW Tryz.prog N all Q md' rest ⟨(d, .tup []) :: tsl, (k + big, some (flat cB (addB R[k]! b))) :: hsl, nidl + 0, z0⟩) : RW Tryz.prog N all Q md (⟨some d, .call ⟨.value (.func 148), #[x0, x1], tys⟩, ty, pos, af, none⟩ :: rest) ⟨tsl, hsl, nidl, z0⟩ :=
  rx_l4Add (a := R[k]!) (b := b) (i0 := k + big) ha0 ha1 (hF.get hk) (l4Add_c R[k]! b m hm hab hl) hM hN (md' := md') (hmd := hmd) kk
theorem l4Flow_c (p : Prg) (Af Ap : List Nat) (hs : cntL p.body ≤ 1000000) (w : WG p.types (ptsF p)) (hAf : GoodF p.types (ptsF p) Af) (hAp : GoodP p.types (ptsF p) Ap) : PC Tryz.prog 75 [aPrg p] (fun r => r = sl cFl ((List.range (ptsF p).length).map (flB p.types.length (ptsF p).length Af Ap))) := by
  have hpl := w.pl
  have hp0 := w.p0
  have htl := w.tl
  (refine pc_of_aw Tryz.func75 rfl (by simp [Tryz.ntmps75]) ?_; rw [Tryz.ntmps75])
  repeat' (first | (apply id_rw; first | ((with_reducible apply rx_callE (k := 106)); (case ha => rfl); (case h => exact l2Points_c p hs); (case hp => (exact Pur.pf)); (case hN => rfl)) | (apply rx_loadA;rfl;rfl;(exact (rfl:_=[_, _]));rfl;rfl;rfl) | (apply rx_assign;rfl;rfl) | (apply rw_nil;kernel_rfl) | (apply rx_box;rfl;rfl;rfl;rfl) | (apply rx_buildSlice;rfl;rfl;rfl;(rfl);rfl;rfl)) | (apply id_aw; first | apply aw_seq | apply aw_region | apply aw_block) | with_reducible apply tq_normal)
  refine aw_loopF (σ := Nat) 0 (fun k => List.replicate ((p.types.length + 1) * k) (List.replicate (ptsF p).length false)) [1, 3] [(1, _), (3, _)] [0] [(0, some _)] (fun k => [(5, iv (k : Int)), (4, .own 1 0 k 2)]) (fun k => [(1, some (flat (cSt p.types.length (ptsF p).length) (List.range k)))]) (fun k => k ≤ (ptsF p).length) (fun k => (ptsF p).length - k) (0) (Nat.zero_le _) rfl rfl (by repeat' (first | exact trivial | refine And.intro rfl ?_)) (by repeat' (first | exact trivial | refine And.intro (.inr rfl) ?_)) (by (repeat' (first | exact FamR.here | (apply FamR.cons; focus rfl)))) (by (rfl)) ?_
  intro k hk
  try dsimp only
  repeat' (first | (apply id_rw; first | (with_reducible apply rw_stop (d := 27)) | (with_reducible apply rw_stop (d := 6)) | (apply rx_move;rfl;rfl) | (apply rx_load1;rfl;rfl;rfl;rfl) | (apply rx_fieldAddr;rfl;rfl;rfl) | (apply rx_bin;rfl;rfl;rfl;rfl) | (apply rx_len;rfl;rfl;rfl) | (apply rw_nil;kernel_rfl)) | (apply id_aw; first | apply aw_seq | apply aw_region | (apply aw_cond;rfl;all_goals intro hc;have hq:=hc;(try simp only [bqs] at hq);try exfalso;omega) | apply aw_block | apply aw_skip | apply aw_exit) | with_reducible apply tq_normal | with_reducible apply tq_exit | with_reducible apply bq_here)
  · have hrep : List.replicate ((p.types.length + 1) * k) (List.replicate (ptsF p).length false) ++ List.replicate (p.types.length + 1) (List.replicate (ptsF p).length false) = List.replicate ((p.types.length + 1) * (k + 1)) (List.replicate (ptsF p).length false) := by
      rw [List.replicate_append_replicate, Nat.mul_succ]
    refine rw_go ?_
    have hst := l4Start_c p.types.length (ptsF p).length htl hpl
    apply rx_gcall (R := List.replicate ((p.types.length + 1) * k) (List.replicate (ptsF p).length false)) (avs := [iv (p.types.length : Int), iv ((ptsF p).length : Int)]) (rr' := aSt (k * (p.types.length + 1)) p.types.length (ptsF p).length) (h := hst)
    case ha => rfl
    case hp => rfl
    case hF => (repeat' (first | exact FamR.here | (apply FamR.cons; focus rfl)))
    case hz => rfl
    case hM => rfl
    case hN => rfl
    case hr =>
      refine .agg (.cons (.imm (rn_rows fun j hj => ?_)) (.cons (.own ?_) .nil))
      · rw [if_pos (by rw [List.length_replicate]; omega)]; congr 1; rw [List.length_replicate, Nat.mul_comm]; omega
      · rw [if_pos (by rw [List.length_replicate]; omega)]; congr 1; rw [List.length_replicate, Nat.mul_comm]; omega
    rw [hrep]
    repeat' (first | (apply id_rw; first | (apply rx_move;rfl;rfl) | (apply rx_add;rfl;rfl;omega;rfl) | (apply rx_assign;rfl;rfl) | (apply rx_append;rfl;rfl;rfl;rfl;rfl;(case hl => (simp [flat_length]; done));(rfl);omega;omega;(rfl);rfl;rfl) | (apply rw_nil;kernel_rfl) | (apply rx_buildSlice;rfl;rfl;rfl;(exact (rfl:_=some [_, _]));rfl;rfl)) | (apply id_aw; (apply aw_region)) | with_reducible apply tq_normal | with_reducible apply bq_normal)
    (apply ex3 (k + 1); focus (refine Le.renF0 [(0, 0), (1, 3)] (R := ?qA1) (hF := ?qF1) (hz := ?qz1) (hm := ?qm1) (hn := ?qn1) (h1 := ?q11) (h2 := ?q21); (case qF1 => (repeat' (first | exact FamR.here | (apply FamR.cons; focus rfl)))); (case qz1 => (rfl)); (case qm1 => rfl); (case qn1 => decide); all_goals (repeat' (first | exact trivial | refine And.intro ⟨_, rfl, ?_⟩ ?_ | refine And.intro ⟨_, _, rfl, rfl, ?_⟩ ?_ | exact RnL.purI inferInstance | exact RnV.purI inferInstance | exact RnV.own rfl | exact RnV.optr rfl | exact rn_pushS (by show big + (List.replicate ((p.types.length + 1) * (k + 1)) (List.replicate (ptsF p).length false)).length = _; rw [List.length_replicate, Nat.mul_comm])))))
    · show k + 1 ≤ (ptsF p).length; omega
    · show (ptsF p).length - (k + 1) < (ptsF p).length - k; omega
  · have hkN : k = (ptsF p).length := by omega
    subst hkN
    refine rw_go (rw_le ?_ (Le.frzD (d := 4) (i := 1) rfl rfl))
    rw [Nat.mul_comm]
    repeat' (first | (apply id_rw; first | (apply rx_assign;rfl;rfl) | (apply rw_nil;kernel_rfl)) | (apply id_aw; first | apply aw_seq | apply aw_block) | with_reducible apply tq_normal)
    refine aw_loopF (σ := List (List Bool) × Bool) 0 (fun s => s.1) [1, 3, 4] [(1, _), (3, _), (4, _)] [0] [(0, some _)] (fun s => [(6, bv s.2)]) (fun s => []) (fun s => FH p.types (ptsF p) s.1 s.2) (fun s => muF p.types (ptsF p) s.1 s.2) (List.replicate ((ptsF p).length * (p.types.length + 1)) (List.replicate (ptsF p).length false), true) (FH.init _ _) rfl rfl (by repeat' (first | exact trivial | refine And.intro rfl ?_)) (by repeat' (exact trivial)) (by (repeat' (first | exact FamR.here | (apply FamR.cons; focus rfl)))) (by (rfl)) ?_
    rintro ⟨R, c⟩ hFH
    try dsimp only at hFH
    try dsimp only
    have hRl := hFH.d.lo
    have hRr := hFH.d.ro
    cases c with
    | false =>
      repeat' (first | (apply id_rw; first | (apply rx_move;rfl;rfl) | (apply rx_assign;rfl;rfl) | (apply rw_nil;kernel_rfl)) | (apply id_aw; first | apply aw_seq | apply aw_region | (apply aw_condF;rfl;(rfl)) | apply aw_exit | apply aw_ret) | with_reducible apply tq_normal | with_reducible apply tq_exit | with_reducible apply bq_here)
      have hfin := hFH.final w hAf hAp
      refine rq_le (Le.frzAll (d := 2) (D := (List.range R.length).map fun k => k + big) rfl (.imm (LdL.flt fun n hn => ld_st (R := R) (M := (ptsF p).length) (by (repeat' (first | exact FamR.here | (apply FamR.cons; focus rfl)))) (fun k hk => List.mem_map.2 ⟨n * (p.types.length + 1) + k, by rw [List.mem_range, hRl]; exact ix_lt (List.mem_range.1 hn) hk, rfl⟩) hRl (List.mem_range.1 hn) hRr))) ?_
      refine rq_ret rfl ⟨?_, (by (exact pur_sl _ _))⟩
      simp only [oneOf]
      have e1 : (List.range (ptsF p).length).map (fun n => (rwF p.types.length R n, rwP p.types.length R n)) = (List.range (ptsF p).length).map (flB p.types.length (ptsF p).length Af Ap) := List.map_congr_left fun n hn => by
        have := hfin n (List.mem_range.1 hn)
        rw [this.1, this.2]
      have e2 : flat (fun n => [sl cBB (rwF p.types.length R n), sl cB (rwP p.types.length R n)]) (List.range (ptsF p).length) = flat cFl ((List.range (ptsF p).length).map (flB p.types.length (ptsF p).length Af Ap)) := by
        rw [← e1, flat, flat, List.flatMap_map]; rfl
      rw [e2]
      simp only [sl, List.length_map, List.length_range]
    | true =>
      have hst := hFH.start
      repeat' (first | (apply id_rw; first | (apply rx_move;rfl;rfl) | (apply rx_assign;rfl;rfl) | (apply rw_nil;kernel_rfl)) | (apply id_aw; first | apply aw_seq | apply aw_region | (apply aw_condT;rfl;(rfl)) | apply aw_block | apply aw_skip) | with_reducible apply tq_normal)
      refine aw_loopF (σ := Nat × List (List Bool) × Bool) 0 (fun s => s.2.1) [1, 3, 4] [(1, _), (3, _), (4, _)] [0] [(0, some _)] (fun s => [(6, bv s.2.2), (7, iv (s.1 : Int))]) (fun s => []) (fun s => s.1 ≤ (ptsF p).length ∧ FS p.types (ptsF p) R s.2.1 s.2.2 (DF s.1 0)) (fun s => (ptsF p).length - s.1) (0, R, false) ⟨Nat.zero_le _, hst⟩ rfl rfl (by repeat' (first | exact trivial | refine And.intro rfl ?_)) (by repeat' (exact trivial)) (by (repeat' (first | exact FamR.here | (apply FamR.cons; focus rfl)))) (by (rfl)) ?_
      rintro ⟨j, R1, c1⟩ ⟨hj, hS1⟩
      dsimp only at hj hS1
      have hl1 := hS1.d.lo
      try dsimp only
      by_cases hjn : j < (ptsF p).length
      · have hnl := w.nl j hjn
        repeat' (first | (apply id_rw; first | ((apply rx_fcall (k := 146) (R := R1) (avs0 := [sl cI p.types, sl cPnt (ptsF p), iv (j : Int), aSt 0 p.types.length (ptsF p).length]) (b := j * (p.types.length + 1)) (n1 := 0) (D := ids7 (j * (p.types.length + 1))) (ws := []) (h := l4After_r p.types (ptsF p) w j hjn R1 hS1.d) (rr' := .agg [sl cBB (afR p.types (ptsF p) j (rwF p.types.length R1 j)), sl cB (afQ p.types (ptsF p) j (rwP p.types.length R1 j))])); (case ha => rfl); (case hF => (repeat' (first | exact FamR.here | (apply FamR.cons; focus rfl)))); (case hb => (rw [subR_len hl1 hjn]; have := ix_lt (v := p.types.length) hjn (Nat.lt_succ_self _); omega)); (case hR => exact fun k hk => subR_get hl1 hjn (by rwa [subR_len hl1 hjn] at hk)); (case hD => exact fun k hk => mem_ids7 (by rw [subR_len hl1 hjn] at hk; omega)); (case har => exact .cons (RnV.purI inferInstance) (.cons (RnV.purI inferInstance) (.cons (RnV.purI inferInstance) (.cons (.agg (.cons (.imm (rn_rows fun k hk => (by rw [Nat.zero_add, mpC_big (by rw [subR_len hl1 hjn]; omega)]))) (.cons (.own (by rw [Nat.zero_add, mpC_big (by rw [subR_len hl1 hjn]; omega)])) .nil))) .nil)))); (case hk => rfl); (case hr => exact RnV.purI inferInstance); (case hw => exact trivial); (case hM | hN => rfl)) | (apply rx_move;rfl;rfl) | (first | (apply rx_load1;rfl;rfl;rfl;rfl) | (apply rx_loadA;rfl;rfl;(exact (rfl:_=[_, _]));rfl;rfl;rfl)) | (apply rx_fieldAddr;rfl;rfl;rfl) | (apply rx_bin;rfl;rfl;rfl;rfl) | (apply rx_assign;rfl;rfl) | (apply rx_indexRg;rfl;rfl;(assumption);rfl;infer_instance;infer_instance;rfl) | (apply rx_len;rfl;rfl;rfl) | (apply rw_nil;kernel_rfl) | (apply rx_alloc;rfl;rfl) | (apply rx_store;rfl;rfl;rfl;rfl;rfl;(case hl => (simp;done));(exact (rfl:_=[_, _])))) | (apply id_aw; first | apply aw_seq | apply aw_region | (apply aw_draw;kernel_rfl) | (apply aw_cond;rfl;all_goals intro hc;have hq:=hc;(try simp only [bqs] at hq);try exfalso;omega) | apply aw_block | apply aw_skip) | with_reducible apply tq_normal)
        refine aw_loopF (σ := Nat × List (List Bool) × Bool) 0 (fun s => s.2.1) [1, 3, 4, 7, 8] [(1, _), (3, _), (4, _), (7, _), (8, _)] [0, 2] [(0, some _), (2, some _)] (fun s => [(6, bv s.2.2), (9, iv (s.1 : Int))]) (fun s => []) (fun s => s.1 ≤ (ptsF p)[j]!.next.length ∧ FS p.types (ptsF p) R s.2.1 s.2.2 (DF j s.1) ∧ (s.2.2 = false → s.2.1 = R1)) (fun s => (ptsF p)[j]!.next.length - s.1) (0, R1, c1) ⟨Nat.zero_le _, hS1, fun _ => rfl⟩ rfl rfl (by repeat' (first | exact trivial | refine And.intro rfl ?_)) (by repeat' (exact trivial)) (by (repeat' (first | exact FamR.here | (apply FamR.cons; focus rfl)))) (by (rfl)) ?_
        rintro ⟨kk, R2, c2⟩ ⟨hk, hS2, hc2⟩
        dsimp only at hk hS2 hc2
        have hl2 := hS2.d.lo
        have hr2 := hS2.d.ro
        try dsimp only
        by_cases hkn : kk < (ptsF p)[j]!.next.length
        · have hnx := w.nx j hjn _ (getB_mem _ _ hkn)
          have hnn : ((ptsF p)[j]!.next[kk]!).toNat < (ptsF p).length := by omega
          have hix : ((ptsF p)[j]!.next[kk]!).toNat * (p.types.length + 1) + p.types.length < R2.length := by rw [hl2]; exact ix_lt hnn (by omega)
          have hrix := hr2 _ hix
          have hqa := afQ_len p.types (ptsF p) j (rwP p.types.length R1 j)
          have hw1 := l4Within_c (afR p.types (ptsF p) j (rwF p.types.length R1 j)) (rwF p.types.length R2 ((ptsF p)[j]!.next[kk]!).toNat) (afQ p.types (ptsF p) j (rwP p.types.length R1 j)) (rwP p.types.length R2 ((ptsF p)[j]!.next[kk]!).toNat) (by rw [afQ_len]; exact hpl) (by rw [afR_len]; exact htl)
            (by rw [afQ_len]; exact hr2 _ (by rw [hl2]; exact ix_lt hnn (by omega))) (by rw [afR_len]; exact rwF_len hl2 hnn) (fun v hv => by rw [afR_len] at hv; rw [afQ_len]; exact afR_row w hS1.d hjn hv) (fun v hv => by rw [afR_len] at hv; rw [afQ_len, rwF_get hl2 hnn hv]; exact hr2 _ (by rw [hl2]; exact ix_lt hnn (by omega)))
          repeat' (first | (apply id_rw; first | ((with_reducible apply rx_lendG (k := 147) (D := ids7 (((ptsF p)[j]!.next[kk]!).toNat * (p.types.length + 1))) (h := hw1)); (case ha => rfl); (case hl => exact .cons (.pur (PurV.pf)) (.cons (.agg (ld_st (R := R2) (M := (ptsF p).length) (by (repeat' (first | exact FamR.here | (apply FamR.cons; focus rfl)))) (fun k hk => mem_ids7 (by omega)) hl2 hnn hr2)) .nil)); (case hfr | hN => rfl)) | (apply rx_l4AddF2;rfl;rfl;(case hF => (repeat' (first | exact FamR.here | (apply FamR.cons; focus rfl))));omega;omega;omega;omega;rfl;rfl) | (with_reducible apply rw_stop (d := 11)) | (apply rx_move;rfl;rfl) | (first | (apply rx_load1;rfl;rfl;rfl;rfl) | (apply rx_loadA;rfl;rfl;(exact (rfl:_=[_, _]));rfl;rfl;rfl)) | (apply rx_fieldAddr;rfl;rfl;rfl) | (first | (apply rx_add;rfl;rfl;omega;rfl) | (apply rx_bin;rfl;rfl;rfl;rfl)) | (apply rx_assign;rfl;rfl) | (first | (apply rx_indexRgI;rfl;rfl;(assumption);rfl;infer_instance;infer_instance;rfl) | (apply rx_indexFN; (case hx | hi => rfl); (case hm => (assumption)); (case hml => (rfl)); (case hα | hf | hg => infer_instance); (case hN => rfl))) | (apply rx_len;rfl;rfl;rfl) | (apply rw_nil;kernel_rfl) | (apply rx_not;rfl;rfl)) | (apply id_aw; first | apply aw_seq | apply aw_region | (apply aw_draw;kernel_rfl) | (apply aw_cond;rfl;all_goals intro hc;have hq:=hc;(try simp only [bqs] at hq);try exfalso;omega) | apply aw_block | apply aw_skip) | with_reducible apply tq_normal | with_reducible apply bq_normal)
          · refine rw_go ?_
            apply rw_le
            case k =>
              apply Le.fset (R := R2) (hk := hix)
              (repeat' (first | exact FamR.here | (apply FamR.cons; focus rfl)))
            rw [jnR_zero hix]
            repeat' (first | (apply id_rw; first | (apply rx_assign;rfl;rfl) | (apply rw_nil;kernel_rfl)) | (apply id_aw; (apply aw_block)) | with_reducible apply tq_normal)
            refine aw_loopF (σ := Nat) 0 (fun v => jnR R2 (((ptsF p)[j]!.next[kk]!).toNat * (p.types.length + 1)) p.types.length (afR p.types (ptsF p) j (rwF p.types.length R1 j)) (afQ p.types (ptsF p) j (rwP p.types.length R1 j)) v) [1, 3, 4, 7, 8, 9, 10] [(1, _), (3, _), (4, _), (7, _), (8, _), (9, _), (10, _)] [0, 2] [(0, some _), (2, some _)] (fun v => [(11, iv (v : Int))]) (fun v => []) (fun v => v ≤ p.types.length) (fun v => p.types.length - v) (0) (Nat.zero_le _) rfl rfl (by repeat' (first | exact trivial | refine And.intro rfl ?_)) (by repeat' (exact trivial)) (by (repeat' (first | exact FamR.here | (apply FamR.cons; focus rfl)))) (by (simp only [jnR_len])) ?_
            intro v hv
            try dsimp only
            have hjl := jnR_len R2 (((ptsF p)[j]!.next[kk]!).toNat * (p.types.length + 1)) p.types.length (afR p.types (ptsF p) j (rwF p.types.length R1 j)) (afQ p.types (ptsF p) j (rwP p.types.length R1 j)) v
            have hal := afR_len p.types (ptsF p) j (rwF p.types.length R1 j)
            by_cases hvn : v < p.types.length
            · have hav := afR_row w hS1.d hjn hvn
              have hjr : (jnR R2 (((ptsF p)[j]!.next[kk]!).toNat * (p.types.length + 1)) p.types.length (afR p.types (ptsF p) j (rwF p.types.length R1 j)) (afQ p.types (ptsF p) j (rwP p.types.length R1 j)) v)[((ptsF p)[j]!.next[kk]!).toNat * (p.types.length + 1) + v]!.length = (ptsF p).length := by
                rw [jnR_get _ _ _ _ _ _ _ (by omega), if_neg (by omega), if_neg (by omega)]; exact hr2 _ (by omega)
              repeat' (first | (apply id_rw; first | (apply rx_l4AddF2;rfl;rfl;(case hF => (repeat' (first | exact FamR.here | (apply FamR.cons; focus rfl))));omega;omega;omega;omega;rfl;rfl) | (with_reducible apply rw_stop (d := 84)) | (apply rx_move;rfl;rfl) | (apply rx_load1;rfl;rfl;rfl;rfl) | (apply rx_fieldAddr;rfl;rfl;rfl) | (apply rx_bin;rfl;rfl;rfl;rfl) | (first | (apply rx_indexRg;rfl;rfl;(assumption);rfl;infer_instance;infer_instance;rfl) | (apply rx_indexRgI;rfl;rfl;(assumption);rfl;infer_instance;infer_instance;rfl) | (apply rx_indexFN; (case hx | hi => rfl); (case hm => (omega)); (case hml => (rfl)); (case hα | hf | hg => infer_instance); (case hN => rfl))) | (apply rx_len;rfl;rfl;rfl) | (apply rw_nil;kernel_rfl)) | (apply id_aw; first | apply aw_seq | apply aw_region | (apply aw_draw;kernel_rfl) | (apply aw_cond;rfl;all_goals intro hc;have hq:=hc;(try simp only [bqs] at hq);try exfalso;omega) | apply aw_block | apply aw_skip) | with_reducible apply tq_normal | with_reducible apply bq_normal)
              refine rw_go ?_
              apply rw_le
              case k =>
                apply Le.fset (R := jnR R2 (((ptsF p)[j]!.next[kk]!).toNat * (p.types.length + 1)) p.types.length (afR p.types (ptsF p) j (rwF p.types.length R1 j)) (afQ p.types (ptsF p) j (rwP p.types.length R1 j)) v) (hk := (by omega))
                (repeat' (first | exact FamR.here | (apply FamR.cons; focus rfl)))
              rw [jnR_succ hix hvn]
              repeat' (first | (apply id_rw; first | (apply rx_move;rfl;rfl) | (apply rx_add;rfl;rfl;omega;rfl) | (apply rx_assign;rfl;rfl) | (apply rw_nil;kernel_rfl)) | with_reducible apply tq_normal)
              (apply ex3 (v + 1); focus (refine Le.renF0 [(0, 0), (2, 2)] (R := ?qA2) (hF := ?qF2) (hz := ?qz2) (hm := ?qm2) (hn := ?qn2) (h1 := ?q12) (h2 := ?q22); (case qF2 => (repeat' (first | exact FamR.here | (apply FamR.cons; focus rfl)))); (case qz2 => (simp only [jnR_len])); (case qm2 => rfl); (case qn2 => decide); all_goals (repeat' (first | exact trivial | refine And.intro ⟨_, rfl, ?_⟩ ?_ | refine And.intro ⟨_, _, rfl, rfl, ?_⟩ ?_ | exact RnL.purI inferInstance | exact RnV.purI inferInstance | exact RnV.optr rfl | exact RnV.imm (rn_cSt (M := (ptsF p).length) (Nat.le_refl _) (by show big + (jnR _ _ _ _ _ _).length = _; rw [jnR_len, hl2]))))))
              · show v + 1 ≤ p.types.length; omega
              · show p.types.length - (v + 1) < p.types.length - v; omega
            · repeat' (first | (apply id_rw; first | (apply rx_move;rfl;rfl) | (apply rx_load1;rfl;rfl;rfl;rfl) | (apply rx_fieldAddr;rfl;rfl;rfl) | (first | (apply rx_add;rfl;rfl;omega;rfl) | (apply rx_bin;rfl;rfl;rfl;rfl)) | (apply rx_assign;rfl;rfl) | (apply rx_len;rfl;rfl;rfl) | (apply rw_nil;kernel_rfl)) | (apply id_aw; first | apply aw_seq | apply aw_region | (apply aw_cond;rfl;all_goals intro hc;have hq:=hc;(try simp only [bqs] at hq);try exfalso;omega) | apply aw_exit) | with_reducible apply tq_normal | with_reducible apply tq_exit | with_reducible apply bq_normal | with_reducible apply bq_here)
              have hvN : v = p.types.length := by omega
              subst hvN
              have hw3 : wiB (afR p.types (ptsF p) j (rwF p.types.length R1 j)) (rwF p.types.length R2 ((ptsF p)[j]!.next[kk]!).toNat) (afQ p.types (ptsF p) j (rwP p.types.length R1 j)) (rwP p.types.length R2 ((ptsF p)[j]!.next[kk]!).toNat) = false := by assumption
              (apply ex3 (kk + 1, _, true); focus (refine Le.renF0 [(0, 0), (2, 2)] (R := ?qA3) (hF := ?qF3) (hz := ?qz3) (hm := ?qm3) (hn := ?qn3) (h1 := ?q13) (h2 := ?q23); (case qF3 => (repeat' (first | exact FamR.here | (apply FamR.cons; focus rfl)))); (case qz3 => (rfl)); (case qm3 => rfl); (case qn3 => decide); all_goals (repeat' (first | exact trivial | refine And.intro ⟨_, rfl, ?_⟩ ?_ | refine And.intro ⟨_, _, rfl, rfl, ?_⟩ ?_ | exact RnL.purI inferInstance | exact RnV.purI inferInstance | exact RnV.optr rfl | exact RnV.imm (rn_cSt (M := (ptsF p).length) (Nat.le_refl _) (by show big + (jnR _ _ _ _ _ _).length = _; rw [jnR_len, hl2]))))))
              · exact ⟨(by show kk + 1 ≤ (ptsF p)[j]!.next.length; omega), hS2.hit w (DF j (kk + 1)) hS1.d hjn hkn hw3, fun h => (by cases h)⟩
              · show (ptsF p)[j]!.next.length - (kk + 1) < (ptsF p)[j]!.next.length - kk; omega
          · (apply ex3 (kk + 1, R2, c2); focus (refine Le.renF0 [(0, 0), (2, 2)] (R := ?qA4) (hF := ?qF4) (hz := ?qz4) (hm := ?qm4) (hn := ?qn4) (h1 := ?q14) (h2 := ?q24); (case qF4 => (repeat' (first | exact FamR.here | (apply FamR.cons; focus rfl)))); (case qz4 => (rfl)); (case qm4 => rfl); (case qn4 => decide); all_goals (repeat' (first | exact trivial | refine And.intro ⟨_, rfl, ?_⟩ ?_ | refine And.intro ⟨_, _, rfl, rfl, ?_⟩ ?_ | exact RnL.purI inferInstance | exact RnV.purI inferInstance | exact RnV.optr rfl | exact RnV.imm (rn_cSt (M := (ptsF p).length) (Nat.le_refl _) (by show big + R2.length = _; rw [hl2]))))))
            · refine ⟨(by show kk + 1 ≤ (ptsF p)[j]!.next.length; omega), hS2.skip (i := j) (k := kk) hc2 (by assumption) (fun i' k' _ _ hd => by unfold DF at hd ⊢; omega), hc2⟩
            · show (ptsF p)[j]!.next.length - (kk + 1) < (ptsF p)[j]!.next.length - kk; omega
        · repeat' (first | (apply id_rw; first | (apply rx_move;rfl;rfl) | (apply rx_load1;rfl;rfl;rfl;rfl) | (apply rx_fieldAddr;rfl;rfl;rfl) | (first | (apply rx_add;rfl;rfl;omega;rfl) | (apply rx_bin;rfl;rfl;rfl;rfl)) | (apply rx_assign;rfl;rfl) | (apply rx_indexFN; (case hx | hi => rfl); (case hm => (assumption)); (case hml => (rfl)); (case hα | hf | hg => infer_instance); (case hN => rfl)) | (apply rx_len;rfl;rfl;rfl) | (apply rw_nil;kernel_rfl)) | (apply id_aw; first | apply aw_seq | apply aw_region | (apply aw_cond;rfl;all_goals intro hc;have hq:=hc;(try simp only [bqs] at hq);try exfalso;omega) | apply aw_exit) | with_reducible apply tq_normal | with_reducible apply tq_exit | with_reducible apply bq_normal | with_reducible apply bq_here)
          (apply ex3 (j + 1, R2, c2); focus (refine Le.renF0 [(0, 0)] (R := ?qA5) (hF := ?qF5) (hz := ?qz5) (hm := ?qm5) (hn := ?qn5) (h1 := ?q15) (h2 := ?q25); (case qF5 => (repeat' (first | exact FamR.here | (apply FamR.cons; focus rfl)))); (case qz5 => (rfl)); (case qm5 => rfl); (case qn5 => decide); all_goals (repeat' (first | exact trivial | refine And.intro ⟨_, rfl, ?_⟩ ?_ | refine And.intro ⟨_, _, rfl, rfl, ?_⟩ ?_ | exact RnL.purI inferInstance | exact RnV.purI inferInstance | exact RnV.optr rfl | exact RnV.imm (rn_cSt (M := (ptsF p).length) (Nat.le_refl _) (by show big + R2.length = _; rw [hl2]))))))
          · refine ⟨(by show j + 1 ≤ (ptsF p).length; omega), hS2.mono fun i' k' _ hk' hd => ?_⟩
            unfold DF at hd ⊢
            by_cases e : i' = j
            · subst e; omega
            · omega
          · show (ptsF p).length - (j + 1) < (ptsF p).length - j; omega
      · repeat' (first | (apply id_rw; first | (apply rx_move;rfl;rfl) | (apply rx_bin;rfl;rfl;rfl;rfl) | (apply rx_len;rfl;rfl;rfl) | (apply rw_nil;kernel_rfl)) | (apply id_aw; first | apply aw_seq | apply aw_region | (apply aw_cond;rfl;all_goals intro hc;have hq:=hc;(try simp only [bqs] at hq);try exfalso;omega) | apply aw_exit) | with_reducible apply tq_normal | with_reducible apply tq_exit | with_reducible apply bq_normal | with_reducible apply bq_here)
        (apply ex3 (R1, c1); focus (refine Le.renF0 [(0, 0)] (R := ?qA6) (hF := ?qF6) (hz := ?qz6) (hm := ?qm6) (hn := ?qn6) (h1 := ?q16) (h2 := ?q26); (case qF6 => (repeat' (first | exact FamR.here | (apply FamR.cons; focus rfl)))); (case qz6 => (rfl)); (case qm6 => rfl); (case qn6 => decide); all_goals (repeat' (first | exact trivial | refine And.intro ⟨_, rfl, ?_⟩ ?_ | refine And.intro ⟨_, _, rfl, rfl, ?_⟩ ?_ | exact RnL.purI inferInstance | exact RnV.purI inferInstance | exact RnV.optr rfl | exact RnV.imm (rn_cSt (M := (ptsF p).length) (Nat.le_refl _) (by show big + R1.length = _; rw [hl1]))))))
        · exact (hS1.fin (by omega)).1
        · exact (hS1.fin (by omega)).2
end Go.Proofs.YtejkbiijonnefaaGreat

namespace Go.Proofs.YtejkbiijonnefaaGreat
open Go.AL Go.RowKit

instance (s : List (List Bool) × List Bool) : Pur (cFl s) := ⟨by show ((sl cBB s.1).pur && ((sl cB s.2).pur && true)) = true; rw [pur_sl, pur_sl]; rfl⟩
def spV (ts : List Int) (pts : List Pnt) (Aa : List Nat) (i k : Nat) : List Iss := ((List.range k).filter (spU ts pts Aa i)).map (fun (v : Nat) => ⟨i, 1, v⟩)
def spL (pts : List Pnt) (cf : List Bool) (i k : Nat) : List Iss := ((List.range k).filter (fun (l : Nat) => cf[l]!)).map (fun (l : Nat) => ⟨i, spK pts l, l⟩)
theorem spV_hit {ts : List Int} {pts : List Pnt} {Aa : List Nat} {i k : Nat} (h : spU ts pts Aa i k = true) : spV ts pts Aa i (k + 1) = spV ts pts Aa i k ++ [⟨i, 1, k⟩] := by
  unfold spV; rw [filt_succ, if_pos h, List.map_append]; rfl
theorem spV_skip {ts : List Int} {pts : List Pnt} {Aa : List Nat} {i k : Nat} (h : spU ts pts Aa i k = false) : spV ts pts Aa i (k + 1) = spV ts pts Aa i k := by
  unfold spV; rw [filt_succ, if_neg (by rw [h]; decide), List.append_nil]
theorem spL_hit {pts : List Pnt} {cf : List Bool} {i k : Nat} (h : cf[k]! = true) : spL pts cf i (k + 1) = spL pts cf i k ++ [⟨i, spK pts k, k⟩] := by
  unfold spL; rw [filt_succ, if_pos h, List.map_append]; rfl
theorem spL_skip {pts : List Pnt} {cf : List Bool} {i k : Nat} (h : cf[k]! = false) : spL pts cf i (k + 1) = spL pts cf i k := by
  unfold spL; rw [filt_succ, if_neg (by rw [h]; decide), List.append_nil]
theorem l5Check_c (p : Prg) (f : Flows p.types (ptsF p)) (hs : cntL p.body ≤ 1000000) (w : WG p.types (ptsF p)) (hr : Rch (ptsF p)) : PC Tryz.prog 86 [aPrg p, sl cBB (rowsB p.types.length (ptsF p).length f.Al)] (fun r => r = sl cIss f.iss) := by
  have hpl := w.pl
  have hp0 := w.p0
  have htl := w.tl
  have hfa := l3Forward_c p true f.Aa hs w hr (by unfold GoodF2; exact f.ga)
  have hfm := l3Forward_c p false f.Am hs w hr (by unfold GoodF2; exact f.gm)
  have hfl := l4Flow_c p f.Af f.Ap hs w f.gf f.gp
  have hra := rowsB_len p.types.length (ptsF p).length f.Aa
  have hrm := rowsB_len p.types.length (ptsF p).length f.Am
  have hrl := rowsB_len p.types.length (ptsF p).length f.Al
  have hfll : ((List.range (ptsF p).length).map (flB p.types.length (ptsF p).length f.Af f.Ap)).length = (ptsF p).length := by simp
  (refine pc_of_aw Tryz.func86 rfl (by simp [Tryz.ntmps86]) ?_; rw [Tryz.ntmps86])
  repeat' (first | (apply id_rw; first | ((with_reducible apply rx_callE (k := 106)); (case ha => rfl); (case h => exact l2Points_c p hs); (case hp => (exact Pur.pf)); (case hN => rfl)) | ((with_reducible apply rx_callE (k := 81) (d := 20)); (case ha => rfl); (case h => exact hfa); (case hp => (exact Pur.pf)); (case hN => rfl)) | ((with_reducible apply rx_callE (k := 81) (d := 22)); (case ha => rfl); (case h => exact hfm); (case hp => (exact Pur.pf)); (case hN => rfl)) | ((with_reducible apply rx_callE (k := 75)); (case ha => rfl); (case h => exact hfl); (case hp => (exact Pur.pf)); (case hN => rfl)) | (apply rx_loadA;rfl;rfl;(exact (rfl:_=[_, _]));rfl;rfl;rfl) | (apply rx_assign;rfl;rfl) | (apply rw_nil;kernel_rfl) | (apply rx_box;rfl;rfl;rfl;rfl) | (apply rx_buildSlice;rfl;rfl;rfl;(rfl);rfl;rfl)) | (apply id_aw; first | apply aw_seq | apply aw_region | apply aw_block) | with_reducible apply tq_normal)
  refine aw_loopK (σ := Nat × List Iss × Nat) [1, 2, 6, 7, 8, 9] [(1, _), (2, _), (6, _), (7, _), (8, _), (9, _)] [0] [(0, some _)] (fun s => [(10, iv (s.1 : Int)), (5, .own 1 0 s.2.2 3)]) (fun s => [(1, some (flat cIss s.2.1))]) (fun s => s.1 ≤ (ptsF p).length ∧ s.2.1 = issF p.types (ptsF p) f.Aa f.Am f.Al f.Af f.Ap s.1 ∧ s.2.2 = s.2.1.length ∧ s.2.2 ≤ 67 * s.1) (fun s => (ptsF p).length - s.1) (0, [], 0) ⟨Nat.zero_le _, rfl, rfl, Nat.le_refl _⟩ rfl rfl (by repeat' (first | exact trivial | refine And.intro rfl ?_)) (by repeat' (first | exact trivial | refine And.intro (.inr rfl) ?_)) ?_
  rintro ⟨i, L, m⟩ ⟨hi, hL, hm, hmb⟩
  dsimp only at hi hL hm hmb
  try dsimp only
  by_cases hin : i < (ptsF p).length
  · repeat' (first | (apply id_rw; first | (apply rx_move;rfl;rfl) | (apply rx_bin;rfl;rfl;rfl;rfl) | (apply rx_assign;rfl;rfl) | (apply rx_len;rfl;rfl;rfl) | (apply rw_nil;kernel_rfl)) | (apply id_aw; first | apply aw_seq | apply aw_region | (apply aw_cond;rfl;all_goals intro hc;have hq:=hc;(try simp only [bqs] at hq);try exfalso;omega) | apply aw_block | apply aw_skip) | with_reducible apply tq_normal)
    refine aw_loopK (σ := Nat × List Iss × Nat) [1, 2, 6, 7, 8, 9, 10] [(1, _), (2, _), (6, _), (7, _), (8, _), (9, _), (10, _)] [0] [(0, some _)] (fun s => [(11, iv (s.1 : Int)), (5, .own 1 0 s.2.2 3)]) (fun s => [(1, some (flat cIss s.2.1))]) (fun s => s.1 ≤ p.types.length ∧ s.2.1 = L ++ spV p.types (ptsF p) f.Aa i s.1 ∧ s.2.2 = s.2.1.length ∧ s.2.2 ≤ 67 * i + s.1) (fun s => p.types.length - s.1) (0, L, m) ⟨Nat.zero_le _, (List.append_nil L).symm, hm, hmb⟩ rfl rfl (by repeat' (first | exact trivial | refine And.intro rfl ?_)) (by repeat' (first | exact trivial | refine And.intro (.inr rfl) ?_)) ?_
    rintro ⟨v, L2, m2⟩ ⟨hv, hL2, hm2, hmb2⟩
    dsimp only at hv hL2 hm2 hmb2
    try dsimp only
    by_cases hvn : v < p.types.length
    · have hga := rowsB_get p.types.length (ptsF p).length f.Aa i v hin hvn
      have hgl : (rowsB p.types.length (ptsF p).length f.Aa)[i]!.length = p.types.length := by rw [rowsB_row _ _ _ _ hin]; simp
      repeat' (first | (apply id_rw; first | (apply rx_move;rfl;rfl) | (first | (apply rx_load1;rfl;rfl;rfl;rfl) | (apply rx_loadA;rfl;rfl;(exact (rfl:_=[_, _, _, _, _]));rfl;rfl;rfl)) | (apply rx_fieldAddr;rfl;rfl;rfl) | (first | (apply rx_guardY;rfl;rfl;rfl;(assumption)) | (apply rx_guardNs;rfl;rfl;rfl;(assumption)) | (apply rx_guardS; (case hj | hb | hN => rfl); all_goals (intro hg; have hq := hg; (try simp only [bqs] at hq); (try (exfalso; omega))))) | (first | (apply rx_add;rfl;rfl;omega;rfl) | (apply rx_bin;rfl;rfl;rfl;rfl)) | (apply rx_assign;rfl;rfl) | (first | (apply rx_pickT;rfl;(assumption);rfl;rfl) | (apply rx_pickF;rfl;(assumption);rfl;rfl)) | (apply rx_indexFN; (case hx | hi => rfl); (case hm => (first | assumption | omega)); (case hml => (rfl)); (case hα | hf | hg => infer_instance); (case hN => rfl)) | ((with_reducible apply rx_callE (k := 132)); (case ha => rfl); (case h => (apply l3Use_c <;> (omega))); (case hp => (exact Pur.pf)); (case hN => rfl)) | (first | (apply rx_len;rfl;rfl;rfl) | (apply rx_append;rfl;rfl;rfl;rfl;rfl;(rw [flat_length]; omega);(rfl);omega;omega;(exact app_iss (by (assumption)));rfl;rfl)) | (apply rw_nil;kernel_rfl) | (apply rx_buildK;rfl;(exact (rfl:_=some [_, _, _]));(exact (rfl:_=[_, _, _]));rfl) | (apply rx_not;rfl;rfl) | (apply rx_buildSlice;rfl;rfl;rfl;(exact (rfl:_=some [_, _, _]));rfl;rfl)) | (apply id_aw; first | apply aw_seq | apply aw_region | (apply aw_draw;kernel_rfl) | (apply aw_condF;rfl;(rfl)) | (apply aw_cond;rfl;all_goals intro hc;have hq:=hc;(try simp only [bqs] at hq);try exfalso;omega) | apply aw_block | apply aw_skip) | with_reducible apply tq_normal | with_reducible apply bq_normal)
      · (apply ex3 (v + 1, L2 ++ [⟨i, 1, v⟩], m2 + 1); focus (refine Le.ren [(0, 0), (1, 3)] rfl (by decide) ?_ ?_ <;> repeat' (first | exact trivial | refine And.intro ⟨_, rfl, ?_⟩ ?_ | refine And.intro ⟨_, _, rfl, rfl, ?_⟩ ?_ | exact Or.inr rfl | refine Or.inl ⟨?_, (by first | rfl | exact pur_sl _ _ | exact Pur.pf)⟩ | rfl)))
        · have hu : spU p.types (ptsF p) f.Aa i v = true := by
            unfold spU; rw [← hga, decide_eq_false (by assumption), (by assumption : (rowsB p.types.length (ptsF p).length f.Aa)[i]![v]! = false)]; rfl
          exact ⟨(by show v + 1 ≤ p.types.length; omega), (by show L2 ++ [⟨i, 1, v⟩] = _; rw [hL2, List.append_assoc, ← spV_hit hu]), (by show m2 + 1 = (L2 ++ [_]).length; rw [List.length_append, List.length_singleton, hm2]), (by show m2 + 1 ≤ 67 * i + (v + 1); omega)⟩
        · show p.types.length - (v + 1) < p.types.length - v; omega
      · (apply ex3 (v + 1, L2, m2); focus (refine Le.ren [(0, 0), (1, 1)] rfl (by decide) ?_ ?_ <;> repeat' (first | exact trivial | refine And.intro ⟨_, rfl, ?_⟩ ?_ | refine And.intro ⟨_, _, rfl, rfl, ?_⟩ ?_ | exact Or.inr rfl | refine Or.inl ⟨?_, (by first | rfl | exact pur_sl _ _ | exact Pur.pf)⟩ | rfl)))
        · have hu : spU p.types (ptsF p) f.Aa i v = false := by
            unfold spU; rw [← hga, (by assumption : (rowsB p.types.length (ptsF p).length f.Aa)[i]![v]! = true)]; simp
          exact ⟨(by show v + 1 ≤ p.types.length; omega), (by show L2 = _; rw [spV_skip hu]; exact hL2), hm2, (by show m2 ≤ 67 * i + (v + 1); omega)⟩
        · show p.types.length - (v + 1) < p.types.length - v; omega
      · (apply ex3 (v + 1, L2, m2); focus (refine Le.ren [(0, 0), (1, 1)] rfl (by decide) ?_ ?_ <;> repeat' (first | exact trivial | refine And.intro ⟨_, rfl, ?_⟩ ?_ | refine And.intro ⟨_, _, rfl, rfl, ?_⟩ ?_ | exact Or.inr rfl | refine Or.inl ⟨?_, (by first | rfl | exact pur_sl _ _ | exact Pur.pf)⟩ | rfl)))
        · have hu : spU p.types (ptsF p) f.Aa i v = false := by
            unfold spU; rw [decide_eq_true (by assumption)]; rfl
          exact ⟨(by show v + 1 ≤ p.types.length; omega), (by show L2 = _; rw [spV_skip hu]; exact hL2), hm2, (by show m2 ≤ 67 * i + (v + 1); omega)⟩
        · show p.types.length - (v + 1) < p.types.length - v; omega
    · have hvN : v = p.types.length := by omega
      have hset := w.set i hin
      have hy := w.y i hin
      have hfi : ((List.range (ptsF p).length).map (flB p.types.length (ptsF p).length f.Af f.Ap))[i]! = flB p.types.length (ptsF p).length f.Af f.Ap i := mapR_get _ _ _ hin
      have hgm : (rowsB p.types.length (ptsF p).length f.Am)[i]!.length = p.types.length := by rw [rowsB_row _ _ _ _ hin]; simp
      have hgl : (rowsB p.types.length (ptsF p).length f.Al)[i]!.length = p.types.length := by rw [rowsB_row _ _ _ _ hin]; simp
      have hf2 : (flB p.types.length (ptsF p).length f.Af f.Ap i).2.length = (ptsF p).length := by simp [flB]
      have hf1 : (flB p.types.length (ptsF p).length f.Af f.Ap i).1.length = p.types.length := by simp [flB]
      have hf3 : ∀ v, v < p.types.length → (flB p.types.length (ptsF p).length f.Af f.Ap i).1[v]!.length = (flB p.types.length (ptsF p).length f.Af f.Ap i).2.length := fun v hv => by
        rw [hf2]; unfold flB; dsimp only; rw [mapR_get _ _ _ hv]; simp
      have hacc := l4Accesses_c p.types (ptsF p)[i]! (rowsB p.types.length (ptsF p).length f.Am)[i]! htl hgm hset.1 hy
      have hlv := l4Live_c p.types (ptsF p)[i]! ((List.range (ptsF p).length).map (flB p.types.length (ptsF p).length f.Af f.Ap))[i]!.1 ((List.range (ptsF p).length).map (flB p.types.length (ptsF p).length f.Af f.Ap))[i]!.2 (rowsB p.types.length (ptsF p).length f.Al)[i]! htl (by rw [hfi, hf2]; exact hpl) hgl (by rw [hfi]; exact hf1) (by rw [hfi]; exact hf3)
      have hlvl : (lvB p.types (ptsF p)[i]! ((List.range (ptsF p).length).map (flB p.types.length (ptsF p).length f.Af f.Ap))[i]!.1 (rowsB p.types.length (ptsF p).length f.Al)[i]! ((List.range (ptsF p).length).map (flB p.types.length (ptsF p).length f.Af f.Ap))[i]!.2.length).length = (ptsF p).length := by unfold lvB; rw [List.length_map, List.length_range, hfi, hf2]
      have hcn := l4Conflicts_c (ptsF p) (accF p.types (ptsF p)[i]! (rowsB p.types.length (ptsF p).length f.Am)[i]![(setAt (ptsF p)[i]!).toNat]!) ((List.range (ptsF p).length).map (flB p.types.length (ptsF p).length f.Af f.Ap))[i]!.1 ((List.range (ptsF p).length).map (flB p.types.length (ptsF p).length f.Af f.Ap))[i]!.2 (lvB p.types (ptsF p)[i]! ((List.range (ptsF p).length).map (flB p.types.length (ptsF p).length f.Af f.Ap))[i]!.1 (rowsB p.types.length (ptsF p).length f.Al)[i]! ((List.range (ptsF p).length).map (flB p.types.length (ptsF p).length f.Af f.Ap))[i]!.2.length) hpl (by have := accF_len p.types (ptsF p)[i]! (rowsB p.types.length (ptsF p).length f.Am)[i]![(setAt (ptsF p)[i]!).toNat]!; omega) (by rw [hfi]; exact hf2) hlvl
      have hcf : cfB (ptsF p) (accF p.types (ptsF p)[i]! (rowsB p.types.length (ptsF p).length f.Am)[i]![(setAt (ptsF p)[i]!).toNat]!) ((List.range (ptsF p).length).map (flB p.types.length (ptsF p).length f.Af f.Ap))[i]!.2 (lvB p.types (ptsF p)[i]! ((List.range (ptsF p).length).map (flB p.types.length (ptsF p).length f.Af f.Ap))[i]!.1 (rowsB p.types.length (ptsF p).length f.Al)[i]! ((List.range (ptsF p).length).map (flB p.types.length (ptsF p).length f.Af f.Ap))[i]!.2.length) = spC p.types (ptsF p) f.Am f.Al f.Af f.Ap i := by
        rw [hfi, hf2]; rfl
      have hcl : (spC p.types (ptsF p) f.Am f.Al f.Af f.Ap i).length = (ptsF p).length := by unfold spC; rw [cfB_len]
      repeat' (first | (apply id_rw; first | ((with_reducible apply rx_callE (k := 80)); (case ha => rfl); (case h => exact hacc); (case hp => (exact Pur.pf)); (case hN => rfl)) | ((with_reducible apply rx_callE (k := 76)); (case ha => rfl); (case h => exact hlv); (case hp => (exact Pur.pf)); (case hN => rfl)) | ((with_reducible apply rx_callE (k := 79)); (case ha => rfl); (case h => exact hcn); (case hp => (exact Pur.pf)); (case hN => rfl)) | (with_reducible apply rw_stop (d := 14)) | (apply rx_move;rfl;rfl) | (first | (apply rx_load1;rfl;rfl;rfl;rfl) | (apply rx_loadA;rfl;rfl;(first | exact (rfl:_=[_, _]) | exact (rfl:_=[_, _, _, _, _]));rfl;rfl;rfl)) | (apply rx_fieldAddr;rfl;rfl;rfl) | (apply rx_bin;rfl;rfl;rfl;rfl) | (apply rx_assign;rfl;rfl) | (apply rx_indexFN; (case hx | hi => rfl); (case hm => (first | assumption | omega)); (case hml => (rfl)); (case hα | hf | hg => infer_instance); (case hN => rfl)) | (apply rx_len;rfl;rfl;rfl) | (apply rw_nil;kernel_rfl)) | (apply id_aw; first | apply aw_seq | apply aw_region | (apply aw_draw;kernel_rfl) | (apply aw_cond;rfl;all_goals intro hc;have hq:=hc;(try simp only [bqs] at hq);try exfalso;omega) | apply aw_exit) | with_reducible apply tq_normal | with_reducible apply tq_exit | with_reducible apply bq_here)
      refine rw_go ?_
      rw [hcf]
      repeat' (first | (apply id_rw; first | (apply rx_assign;rfl;rfl) | (apply rw_nil;kernel_rfl)) | (apply id_aw; (apply aw_block)) | with_reducible apply tq_normal)
      refine aw_loopK (σ := Nat × List Iss × Nat) [1, 2, 6, 7, 8, 9, 10, 13] [(1, _), (2, _), (6, _), (7, _), (8, _), (9, _), (10, _), (13, _)] [0] [(0, some _)] (fun s => [(14, iv (s.1 : Int)), (5, .own 1 0 s.2.2 3)]) (fun s => [(1, some (flat cIss s.2.1))]) (fun s => s.1 ≤ (ptsF p).length ∧ s.2.1 = L2 ++ spL (ptsF p) (spC p.types (ptsF p) f.Am f.Al f.Af f.Ap i) i s.1 ∧ s.2.2 = s.2.1.length ∧ s.2.2 ≤ 67 * i + 6 + s.1) (fun s => (ptsF p).length - s.1) (0, L2, m2) ⟨Nat.zero_le _, (List.append_nil L2).symm, hm2, by show m2 ≤ 67 * i + 6 + 0; omega⟩ rfl rfl (by repeat' (first | exact trivial | refine And.intro rfl ?_)) (by repeat' (first | exact trivial | refine And.intro (.inr rfl) ?_)) ?_
      rintro ⟨l, L3, m3⟩ ⟨hl, hL3, hm3, hmb3⟩
      dsimp only at hl hL3 hm3 hmb3
      try dsimp only
      by_cases hln : l < (ptsF p).length
      · repeat' (first | (apply id_rw; first | (apply rx_move;rfl;rfl) | (apply rx_load1;rfl;rfl;rfl;rfl) | (apply rx_fieldAddr;rfl;rfl;rfl) | (first | (apply rx_add;rfl;rfl;omega;rfl) | (apply rx_bin;rfl;rfl;rfl;rfl)) | (apply rx_assign;rfl;rfl) | (apply rx_indexFN; (case hx | hi => rfl); (case hm => (first | assumption | omega)); (case hml => (rfl)); (case hα | hf | hg => infer_instance); (case hN => rfl)) | (first | (apply rx_len;rfl;rfl;rfl) | (apply rx_append;rfl;rfl;rfl;rfl;rfl;(rw [flat_length]; omega);(rfl);omega;omega;(exact app_iss (by (assumption)));rfl;rfl)) | (apply rw_nil;kernel_rfl) | (apply rx_buildK;rfl;(exact (rfl:_=some [_, _, _]));(exact (rfl:_=[_, _, _]));rfl) | (apply rx_not;rfl;rfl) | (apply rx_buildSlice;rfl;rfl;rfl;(exact (rfl:_=some [_, _, _]));rfl;rfl)) | (apply id_aw; first | apply aw_seq | apply aw_region | (apply aw_cond;rfl;all_goals intro hc;have hq:=hc;(try simp only [bqs] at hq);try exfalso;omega) | apply aw_block | apply aw_skip | apply aw_exit) | with_reducible apply tq_normal | with_reducible apply tq_exit | with_reducible apply bq_normal | with_reducible apply bq_here)
        · (apply ex3 (l + 1, L3, m3); focus (refine Le.ren [(0, 0), (1, 1)] rfl (by decide) ?_ ?_ <;> repeat' (first | exact trivial | refine And.intro ⟨_, rfl, ?_⟩ ?_ | refine And.intro ⟨_, _, rfl, rfl, ?_⟩ ?_ | exact Or.inr rfl | refine Or.inl ⟨?_, (by first | rfl | exact pur_sl _ _ | exact Pur.pf)⟩ | rfl)))
          · exact ⟨(by show l + 1 ≤ (ptsF p).length; omega), (by show L3 = _; rw [spL_skip (by assumption)]; exact hL3), hm3, (by show m3 ≤ 67 * i + 6 + (l + 1); omega)⟩
          · show (ptsF p).length - (l + 1) < (ptsF p).length - l; omega
        · (apply ex3 (l + 1, L3 ++ [⟨i, 3, l⟩], m3 + 1); focus (refine Le.ren [(0, 0), (1, 3)] rfl (by decide) ?_ ?_ <;> repeat' (first | exact trivial | refine And.intro ⟨_, rfl, ?_⟩ ?_ | refine And.intro ⟨_, _, rfl, rfl, ?_⟩ ?_ | exact Or.inr rfl | refine Or.inl ⟨?_, (by first | rfl | exact pur_sl _ _ | exact Pur.pf)⟩ | rfl)))
          · have hk : spK (ptsF p) l = 3 := by unfold spK; rw [if_pos (by assumption)]
            exact ⟨(by show l + 1 ≤ (ptsF p).length; omega), (by show L3 ++ [⟨i, 3, l⟩] = _; rw [hL3, List.append_assoc, ← hk, ← spL_hit (by assumption)]), (by show m3 + 1 = (L3 ++ [_]).length; rw [List.length_append, List.length_singleton, hm3]), (by show m3 + 1 ≤ 67 * i + 6 + (l + 1); omega)⟩
          · show (ptsF p).length - (l + 1) < (ptsF p).length - l; omega
        · (apply ex3 (l + 1, L3 ++ [⟨i, 2, l⟩], m3 + 1); focus (refine Le.ren [(0, 0), (1, 3)] rfl (by decide) ?_ ?_ <;> repeat' (first | exact trivial | refine And.intro ⟨_, rfl, ?_⟩ ?_ | refine And.intro ⟨_, _, rfl, rfl, ?_⟩ ?_ | exact Or.inr rfl | refine Or.inl ⟨?_, (by first | rfl | exact pur_sl _ _ | exact Pur.pf)⟩ | rfl)))
          · have hk : spK (ptsF p) l = 2 := by unfold spK; rw [if_neg (by assumption)]
            exact ⟨(by show l + 1 ≤ (ptsF p).length; omega), (by show L3 ++ [⟨i, 2, l⟩] = _; rw [hL3, List.append_assoc, ← hk, ← spL_hit (by assumption)]), (by show m3 + 1 = (L3 ++ [_]).length; rw [List.length_append, List.length_singleton, hm3]), (by show m3 + 1 ≤ 67 * i + 6 + (l + 1); omega)⟩
          · show (ptsF p).length - (l + 1) < (ptsF p).length - l; omega
      · repeat' (first | (apply id_rw; first | (apply rx_move;rfl;rfl) | (first | (apply rx_add;rfl;rfl;omega;rfl) | (apply rx_bin;rfl;rfl;rfl;rfl)) | (apply rx_assign;rfl;rfl) | (apply rx_len;rfl;rfl;rfl) | (apply rw_nil;kernel_rfl)) | (apply id_aw; first | apply aw_seq | apply aw_region | (apply aw_cond;rfl;all_goals intro hc;have hq:=hc;(try simp only [bqs] at hq);try exfalso;omega) | apply aw_exit) | with_reducible apply tq_normal | with_reducible apply tq_exit | with_reducible apply bq_normal | with_reducible apply bq_here)
        (apply ex3 (i + 1, L3, m3); focus (refine Le.ren [(0, 0), (1, 1)] rfl (by decide) ?_ ?_ <;> repeat' (first | exact trivial | refine And.intro ⟨_, rfl, ?_⟩ ?_ | refine And.intro ⟨_, _, rfl, rfl, ?_⟩ ?_ | exact Or.inr rfl | refine Or.inl ⟨?_, (by first | rfl | exact pur_sl _ _ | exact Pur.pf)⟩ | rfl)))
        · refine ⟨(by show i + 1 ≤ (ptsF p).length; omega), ?_, hm3, (by show m3 ≤ 67 * (i + 1); omega)⟩
          show L3 = issF p.types (ptsF p) f.Aa f.Am f.Al f.Af f.Ap (i + 1)
          rw [issF_succ, ← spP_eq w f hin, hL3, hL2, hL, hvN, show l = (ptsF p).length by omega, List.append_assoc]
          rfl
        · show (ptsF p).length - (i + 1) < (ptsF p).length - i; omega
  · repeat' (first | (apply id_rw; first | (apply rx_move;rfl;rfl) | (apply rx_bin;rfl;rfl;rfl;rfl) | (apply rx_assign;rfl;rfl) | (apply rx_len;rfl;rfl;rfl) | (apply rw_nil;kernel_rfl)) | (apply id_aw; first | apply aw_seq | apply aw_region | (apply aw_cond;rfl;all_goals intro hc;have hq:=hc;(try simp only [bqs] at hq);try exfalso;omega) | apply aw_exit | apply aw_ret) | with_reducible apply tq_normal | with_reducible apply tq_exit | with_reducible apply bq_here)
    have hiN : i = (ptsF p).length := by omega
    refine rq_le (Le.frzD (d := 4) (i := 1) rfl rfl) ?_
    refine rq_ret rfl ⟨?_, (by (exact pur_sl _ _))⟩
    simp only [oneOf]
    rw [hm, hL, hiN]; rfl
theorem CheckS_c (p : Prg) (f : Flows p.types (ptsF p)) (hl : p.types.length ≤ 1000000) (hs : cntL p.body ≤ 1000000) : PC Tryz.prog 33 [aPrg p] (fun r => r = sl cIss (chkF p f)) := by
  unfold chkF
  cases hv : validF p
  · have hval := validS_c p hl (by omega)
    rw [hv] at hval
    (refine pc_of_aw Tryz.func33 rfl (by simp [Tryz.ntmps33]) ?_; rw [Tryz.ntmps33])
    repeat' (first | (apply id_rw; first | ((with_reducible apply rx_callE (k := 61)); (case ha => rfl); (case h => exact hval); (case hp => (exact Pur.pf)); (case hN => rfl)) | (apply rx_loadA;rfl;rfl;(exact (rfl:_=[_, _]));rfl;rfl;rfl) | (apply rx_assign;rfl;rfl) | (apply rw_nil;kernel_rfl) | (apply rx_not;rfl;rfl) | (apply rx_box;rfl;rfl;rfl;rfl) | ((apply rx_buildSliceI (t := _)); (case hze | hsm | hl => rfl); (case hfl => (rfl)); (case hM | hN => rfl))) | (apply id_aw; first | apply aw_seq | apply aw_region | (apply aw_condT;rfl;(rfl)) | apply aw_ret) | with_reducible apply tq_normal | with_reducible apply tq_ret)
    exact rq_ret rfl ⟨rfl, rfl⟩
  · have w := WG.of_valid hv
    have hr := Rch.of p
    have hval := validS_c p hl (by omega)
    rw [hv] at hval
    have hlv := l3Live_c p f.Al hs w f.gl
    have hck := l5Check_c p f hs w hr
    (refine pc_of_aw Tryz.func33 rfl (by simp [Tryz.ntmps33]) ?_; rw [Tryz.ntmps33])
    repeat' (first | (apply id_rw; first | ((with_reducible apply rx_callE (k := 61)); (case ha => rfl); (case h => exact hval); (case hp => (exact Pur.pf)); (case hN => rfl)) | ((with_reducible apply rx_callE (k := 77)); (case ha => rfl); (case h => exact hlv); (case hp => (exact Pur.pf)); (case hN => rfl)) | ((with_reducible apply rx_callE (k := 86)); (case ha => rfl); (case h => exact hck); (case hp => (exact Pur.pf)); (case hN => rfl)) | (apply rx_loadA;rfl;rfl;(exact (rfl:_=[_, _]));rfl;rfl;rfl) | (apply rx_assign;rfl;rfl) | (apply rw_nil;kernel_rfl) | (apply rx_not;rfl;rfl) | (apply rx_box;rfl;rfl;rfl;rfl)) | (apply id_aw; first | apply aw_seq | apply aw_region | (apply aw_draw;kernel_rfl) | (apply aw_condF;rfl;(rfl)) | apply aw_skip | apply aw_ret) | with_reducible apply tq_normal)
    exact rq_ret rfl ⟨rfl, (by (exact pur_sl _ _))⟩
end Go.Proofs.YtejkbiijonnefaaGreat

namespace Go.Proofs.YtejkbiijonnefaaGreat
open Go.AL Go.RowKit

abbrev cRd (bs : List UInt8) (p : Nat) : List AV := [sl cU bs, iv (p : Int)]
def pickX (bs : List UInt8) (q : Int) : Int := ((bs[(q % (bs.length : Int)).toNat]!).toNat : Int) * 131 + ((bs[((q * 7 + 3) % (bs.length : Int)).toNat]!).toNat : Int) * 1117 + q * 29 + q / (bs.length : Int) * 53
def pickF (bs : List UInt8) (p : Nat) (n : Int) : Int :=
  if n < 1 then 0 else if (bs.length : Int) = 0 then 0 else
  if (p : Int) + 1 - 1 < (bs.length : Int) then ((bs[((p : Int) + 1 - 1).toNat]!).toNat : Int) % n
  else (((pickX bs ((p : Int) + 1 - 1)).toNat ^^^ (pickX bs ((p : Int) + 1 - 1) / 64).toNat : Nat) : Int) % n
theorem pickF_bd (bs : List UInt8) (p : Nat) (n : Int) : 0 ≤ pickF bs p n ∧ (pickF bs p n < n ∨ n < 1 ∧ pickF bs p n = 0) := by
  unfold pickF
  split
  · omega
  · split
    · omega
    · split
      · exact ⟨Int.emod_nonneg _ (by omega), .inl (Int.emod_lt_of_pos _ (by omega))⟩
      · exact ⟨Int.emod_nonneg _ (by omega), .inl (Int.emod_lt_of_pos _ (by omega))⟩
def numF (bs : List UInt8) (p : Nat) (xs : List Int) : Int := xs[(pickF bs p (xs.length : Int)).toNat]!
class NumL (cs : List AV) (xs : outParam (List Int)) : Prop where h : cs = flat cI xs
instance NumL.nil : NumL [] [] := ⟨rfl⟩
instance NumL.cons {n : Int} {cs : List AV} {xs : List Int} [h : NumL cs xs] : NumL (.v (.int .i64 n) :: cs) (n :: xs) := ⟨by rw [h.h]; rfl⟩
theorem rx_pick {bs : List UInt8} {p : Nat} {n : Int} {N : Nat} {Q : Exit → AS → Prop} {all : Array Oper} {rest : List Oper} {tsl : List (Nat × AV)} {hsl : List (Nat × Option (List AV))} {nidl : Nat} {z0 : Lo} {md : Md} {d : Nat} {ty : TypeId} {pos : String} {af : Array Edge} {tys : Array TypeId} {x0 x1 : Operand} {i0 : Nat} (ha0 : ev (lk tsl) x0 = some (.optr i0 0)) (ha1 : ev (lk tsl) x1 = some (iv n)) (hH0 : lkH hsl i0 = some (cRd bs p)) (hmc : MC Tryz.prog 93 [.optr 0 0, iv n] [(0, some (cRd bs p))] 1 (fun _ : Unit => True) (fun _ => iv (pickF bs p n)) (fun _ => [(0, some (cRd bs (p + 1)))])) (hM : Nat.ble (nidl + 0) big = true) (hN : Nat.blt d N = true) {md' : Md} [hmd : MdA md (rOs [x0, x1] ++ [.inr i0]) (List.map Sum.inr (List.map Prod.fst ([(i0, some (cRd bs (p + 1)))] : List (Nat × Option (List AV)))) ++ [.inl d]) md'] (kk : RW Tryz.prog N all Q md' rest ⟨(d, iv (pickF bs p n)) :: tsl, wrH hsl [(i0, some (cRd bs (p + 1)))], nidl + 0, z0⟩) : RW Tryz.prog N all Q md (⟨some d, .call ⟨.value (.func 93), #[x0, x1], tys⟩, ty, pos, af, none⟩ :: rest) ⟨tsl, hsl, nidl, z0⟩ := by
  refine rx_mcallE [i0] 1 [(i0, some (cRd bs (p + 1)))] hmc (avs := [.optr i0 0, iv n]) ?_ rfl ?_ rfl ?_ (by simpa using hM) ?_ ?_ ?_ hN (md' := md') (hmd := hmd) kk
  · show evL (lk tsl) [x0, x1] = _
    simp only [evL, ha0, ha1]
  · exact ⟨⟨_, _, rfl, hH0, by (repeat' (exact RnL.purI inferInstance))⟩, trivial⟩
  · (repeat' (first | exact RnL.purI inferInstance | exact RnV.optr rfl | refine RnL.cons ?_ ?_))
  · (repeat' (exact RnV.purI inferInstance))
  · simp [wsAll]
  · (repeat' (first | exact trivial | (refine And.intro ⟨0, _, rfl, rfl, ?_⟩ ?_) | exact RnL.purI inferInstance))

theorem rx_num0 {bs : List UInt8} {p : Nat} {xs : List Int} {N : Nat} {Q : Exit → AS → Prop} {all : Array Oper} {rest : List Oper} {tsl : List (Nat × AV)} {hsl : List (Nat × Option (List AV))} {nidl : Nat} {z0 : Lo} {md : Md} {d : Nat} {ty : TypeId} {pos : String} {af : Array Edge} {tys : Array TypeId} {x0 x1 : Operand} {i0 : Nat} (ha0 : ev (lk tsl) x0 = some (.optr i0 0)) (ha1 : ev (lk tsl) x1 = some (sl cI xs)) (hH0 : lkH hsl i0 = some (cRd bs p)) (hmc : MC Tryz.prog 94 [.optr 0 0, sl cI xs] [(0, some (cRd bs p))] 1 (fun _ : Unit => True) (fun _ => iv (numF bs p xs)) (fun _ => [(0, some (cRd bs (p + 1)))])) (hM : Nat.ble (nidl + 0) big = true) (hN : Nat.blt d N = true) {md' : Md} [hmd : MdA md (rOs [x0, x1] ++ [.inr i0]) (List.map Sum.inr (List.map Prod.fst ([(i0, some (cRd bs (p + 1)))] : List (Nat × Option (List AV)))) ++ [.inl d]) md'] (kk : RW Tryz.prog N all Q md' rest ⟨(d, iv (numF bs p xs)) :: tsl, wrH hsl [(i0, some (cRd bs (p + 1)))], nidl + 0, z0⟩) : RW Tryz.prog N all Q md (⟨some d, .call ⟨.value (.func 94), #[x0, x1], tys⟩, ty, pos, af, none⟩ :: rest) ⟨tsl, hsl, nidl, z0⟩ := by
  refine rx_mcallE [i0] 1 [(i0, some (cRd bs (p + 1)))] hmc (avs := [.optr i0 0, sl cI xs]) ?_ rfl ?_ rfl ?_ (by simpa using hM) ?_ ?_ ?_ hN (md' := md') (hmd := hmd) kk
  · show evL (lk tsl) [x0, x1] = _
    simp only [evL, ha0, ha1]
  · exact ⟨⟨_, _, rfl, hH0, by (repeat' (exact RnL.purI inferInstance))⟩, trivial⟩
  · (repeat' (first | exact RnL.purI inferInstance | exact RnV.optr rfl | refine RnL.cons ?_ ?_))
  · (repeat' (exact RnV.purI inferInstance))
  · simp [wsAll]
  · (repeat' (first | exact trivial | (refine And.intro ⟨0, _, rfl, rfl, ?_⟩ ?_) | exact RnL.purI inferInstance))

theorem rx_num0O {bs : List UInt8} {p : Nat} {xs : List Int} {N : Nat} {Q : Exit → AS → Prop} {all : Array Oper} {rest : List Oper} {tsl : List (Nat × AV)} {hsl : List (Nat × Option (List AV))} {nidl : Nat} {z0 : Lo} {md : Md} {d : Nat} {ty : TypeId} {pos : String} {af : Array Edge} {tys : Array TypeId} {x0 x1 : Operand} {i0 i1 : Nat} (ha0 : ev (lk tsl) x0 = some (.optr i0 0)) (ha1 : ev (lk tsl) x1 = some (.own i1 0 xs.length 1)) (hH0 : lkH hsl i0 = some (cRd bs p)) (hH1 : lkH hsl i1 = some (flat cI xs)) (hdd : Go.AL.distinct [i0, i1] = true) (hmc : MC Tryz.prog 94 [.optr 0 0, .own 1 0 xs.length 1] [(0, some (cRd bs p)), (1, some (flat cI xs))] 2 (fun _ : Unit => True) (fun _ => iv (numF bs p xs)) (fun _ => [(0, some (cRd bs (p + 1)))])) (hM : Nat.ble (nidl + 0) big = true) (hN : Nat.blt d N = true) {md' : Md} [hmd : MdA md (rOs [x0, x1] ++ [.inr i0, .inr i1]) (List.map Sum.inr (List.map Prod.fst ([(i0, some (cRd bs (p + 1))), (i1, none)] : List (Nat × Option (List AV)))) ++ [.inl d]) md'] (kk : RW Tryz.prog N all Q md' rest ⟨(d, iv (numF bs p xs)) :: tsl, wrH hsl [(i0, some (cRd bs (p + 1))), (i1, none)], nidl + 0, z0⟩) : RW Tryz.prog N all Q md (⟨some d, .call ⟨.value (.func 94), #[x0, x1], tys⟩, ty, pos, af, none⟩ :: rest) ⟨tsl, hsl, nidl, z0⟩ := by
  refine rx_mcallE [i0, i1] 2 [(i0, some (cRd bs (p + 1))), (i1, none)] hmc (avs := [.optr i0 0, .own i1 0 xs.length 1]) ?_ hdd ?_ rfl ?_ (by simpa using hM) ?_ ?_ ?_ hN (md' := md') (hmd := hmd) kk
  · show evL (lk tsl) [x0, x1] = _
    simp only [evL, ha0, ha1]
  · exact ⟨⟨_, _, rfl, hH0, by (repeat' (exact RnL.purI inferInstance))⟩, ⟨⟨_, _, rfl, hH1, by (repeat' (exact RnL.purI inferInstance))⟩, trivial⟩⟩
  · (repeat' (first | exact RnL.purI inferInstance | exact RnV.own rfl | exact RnV.optr rfl | refine RnL.cons ?_ ?_))
  · (repeat' (exact RnV.purI inferInstance))
  · simp [wsAll]
  · (repeat' (first | exact trivial | (refine And.intro ⟨0, _, rfl, rfl, ?_⟩ ?_) | exact RnL.purI inferInstance))

theorem pick_c (bs : List UInt8) (p : Nat) (n : Int) (hb : bs.length ≤ 2000) (hp : p ≤ 1000000) (hn0 : 0 ≤ n) (hn : n ≤ 1000000) : MC Tryz.prog 93 [.optr 0 0, iv n] [(0, some (cRd bs p))] 1 (fun _ : Unit => True) (fun _ => iv (pickF bs p n)) (fun _ => [(0, some (cRd bs (p + 1)))]) := by
  have hdiv : 0 ≤ ((p : Int) + 1 - 1) / (bs.length : Int) ∧ ((p : Int) + 1 - 1) / (bs.length : Int) ≤ p + 1 - 1 := ⟨Int.ediv_nonneg (by omega) (by omega), Int.ediv_le_self _ (by omega)⟩
  (refine mc_of_aw Tryz.func93 rfl (by simp [Tryz.ntmps93]) ?_; rw [Tryz.ntmps93])
  repeat' (first | (apply id_rw; first | (apply rx_move;rfl;rfl) | (apply rx_load1;rfl;rfl;rfl;rfl) | (apply rx_fieldAddr;rfl;rfl;rfl) | (first | (apply rx_guardY;rfl;rfl;rfl;(assumption)) | (apply rx_guardNs;rfl;rfl;rfl;(assumption)) | (apply rx_guardS; (case hj | hb | hN => rfl); all_goals (intro hg; have hq := hg; (try simp only [bqs] at hq); (try (exfalso; omega))))) | (first | (apply rx_add;rfl;rfl;omega;rfl) | (apply rx_sub;rfl;rfl;omega;rfl) | (apply rx_xor;rfl;rfl;omega;omega;rfl) | (apply rx_mul;rfl;rfl;omega;rfl) | (apply rx_rem;rfl;rfl;omega;rfl) | (apply rx_quo;rfl;rfl;omega;rfl) | (apply rx_bin;rfl;rfl;rfl;rfl)) | (apply rx_assign;rfl;rfl) | (first | (apply rx_pickT;rfl;(assumption);rfl;rfl) | (apply rx_pickF;rfl;(assumption);rfl;rfl)) | (apply rx_indexF; (case hx | hi => rfl); (case hm => (first | omega | exact ⟨Int.emod_nonneg _ (by omega), Int.emod_lt_of_pos _ (by omega)⟩)); (case hml => (rfl)); (case hα | hf | hg => infer_instance); (case hN => rfl)) | (apply rx_len;rfl;rfl;rfl) | (apply rw_nil;kernel_rfl) | (apply rx_convB;rfl;rfl; (case' kk => intro hbd)) | (apply rx_nil;rfl;rfl;rfl) | (apply rx_store;rfl;rfl;rfl;rfl;rfl;(case hl => (simp;done));(exact (rfl:_=[_, _])))) | (apply id_aw; first | apply aw_seq | apply aw_region | (apply aw_draw;kernel_rfl) | (apply aw_condT;rfl;(rfl)) | (apply aw_cond;rfl;all_goals intro hc;have hq:=hc;(try simp only [bqs] at hq);try exfalso;omega) | apply aw_skip | apply aw_ret) | with_reducible apply tq_normal | with_reducible apply tq_ret)
  all_goals (refine rq_ret rfl ?_; refine mc_ret () trivial ?_ ⟨.inr (Eq.trans (b := some _) rfl ?_), trivial⟩)
  all_goals first | rfl | skip
  all_goals simp only [oneOf, AV.v.injEq, Value.int.injEq, true_and, pickF]
  · rw [if_neg (by omega), if_pos (by omega)]
  · rw [if_neg (by omega), if_neg (by omega), if_pos (by omega)]
  · rw [if_neg (by omega), if_neg (by omega), if_neg (by omega)]; rfl
  · rw [if_pos (by omega)]
theorem num0_c (bs : List UInt8) (p : Nat) (xs : List Int) (hb : bs.length ≤ 2000) (hp : p ≤ 1000000) (h0 : 0 < xs.length) (hn : xs.length ≤ 1000000) : MC Tryz.prog 94 [.optr 0 0, sl cI xs] [(0, some (cRd bs p))] 1 (fun _ : Unit => True) (fun _ => iv (numF bs p xs)) (fun _ => [(0, some (cRd bs (p + 1)))]) := by
  have hpf := pickF_bd bs p xs.length
  (refine mc_of_aw Tryz.func94 rfl (by simp [Tryz.ntmps94]) ?_; rw [Tryz.ntmps94])
  repeat' (first | (apply id_rw; first | (apply rx_move;rfl;rfl) | (apply rx_load1;rfl;rfl;rfl;rfl) | (apply rx_assign;rfl;rfl) | (apply rx_indexF; (case hx | hi => rfl); (case hm => (omega)); (case hml => (rfl)); (case hα | hf | hg => infer_instance); (case hN => rfl)) | (apply rx_pick;rfl;rfl;(rfl);(apply pick_c <;> (first | assumption | omega));rfl;rfl) | (apply rx_len;rfl;rfl;rfl) | (apply rw_nil;kernel_rfl)) | (apply id_aw; first | apply aw_seq | apply aw_region | apply aw_ret) | with_reducible apply tq_normal)
  (refine rq_ret rfl ?_; refine mc_ret () trivial ?_ ⟨.inr (Eq.trans (b := some _) rfl ?_), trivial⟩)
  · rfl
  · rfl
theorem rx_num {Q : Exit → AS → Prop} {all : Array Oper} {rest : List Oper} {N : Nat} {tsl : List (Nat × AV)} {hsl : List (Nat × Option (List AV))} {nidl : Nat} {z0 : Lo} {md : Md} {d : Nat} {ty : TypeId} {pos : String} {af : Array Edge} {tys : Array TypeId}
    {bs : List UInt8} {p m : Nat} {cs : List AV} {xs : List Int} {x0 x1 : Operand} {i0 : Nat} (ha0 : ev (lk tsl) x0 = some (.optr i0 0)) (ha1 : ev (lk tsl) x1 = some (.imm m cs)) (hcs : NumL cs xs) (hH0 : lkH hsl i0 = some (cRd bs p))
    (hm : m = xs.length) (hb : bs.length ≤ 2000) (hp : p ≤ 1000000) (h0 : 0 < xs.length) (hn : xs.length ≤ 1000000) (hM : Nat.ble (nidl + 0) big = true) (hN : Nat.blt d N = true) {md' : Md}
    [hmd : MdA md (rOs [x0, x1] ++ [.inr i0]) [.inr i0, .inl d] md']
    (kk : RW Tryz.prog N all Q md' rest ⟨(d, iv (numF bs p xs)) :: tsl, (i0, some (cRd bs (p + 1))) :: hsl, nidl + 0, z0⟩) : RW Tryz.prog N all Q md (⟨some d, .call ⟨.value (.func 94), #[x0, x1], tys⟩, ty, pos, af, none⟩ :: rest) ⟨tsl, hsl, nidl, z0⟩ := by
  have h := hcs.h
  subst hm h
  exact rx_num0 ha0 ha1 hH0 (num0_c bs p xs hb hp h0 hn) hM hN (hmd := hmd) kk

theorem num0O_c (bs : List UInt8) (p : Nat) (xs : List Int) (hb : bs.length ≤ 2000) (hp : p ≤ 1000000) (h0 : 0 < xs.length) (hn : xs.length ≤ 1000000) : MC Tryz.prog 94 [.optr 0 0, .own 1 0 xs.length 1] [(0, some (cRd bs p)), (1, some (flat cI xs))] 2 (fun _ : Unit => True) (fun _ => iv (numF bs p xs)) (fun _ => [(0, some (cRd bs (p + 1)))]) := by
  have hpf := pickF_bd bs p xs.length
  (refine mc_of_aw Tryz.func94 rfl (by simp [Tryz.ntmps94]) ?_; rw [Tryz.ntmps94])
  repeat' (first | (apply id_rw; first | (apply rx_move;rfl;rfl) | (apply rx_loadF0; (case hx | hH => rfl); (case hf | hg | hα => infer_instance); (case hk => omega); (case hc | hN => rfl)) | (apply rx_assign;rfl;rfl) | (apply rx_indexO;rfl;rfl;(omega);rfl) | (apply rx_pick;rfl;rfl;(rfl);(apply pick_c <;> (first | assumption | omega));rfl;rfl) | (apply rx_len;rfl;rfl;rfl) | (apply rw_nil;kernel_rfl)) | (apply id_aw; first | apply aw_seq | apply aw_region | apply aw_ret) | with_reducible apply tq_normal)
  (refine rq_ret rfl ?_; refine mc_ret () trivial ?_ ⟨.inr (Eq.trans (b := some _) rfl ?_), trivial⟩)
  · rfl
  · rfl
theorem rx_numO {Q : Exit → AS → Prop} {all : Array Oper} {rest : List Oper} {N : Nat} {tsl : List (Nat × AV)} {hsl : List (Nat × Option (List AV))} {nidl : Nat} {z0 : Lo} {md : Md} {d : Nat} {ty : TypeId} {pos : String} {af : Array Edge} {tys : Array TypeId}
    {bs : List UInt8} {p m : Nat} {cs : List AV} {xs : List Int} {x0 x1 : Operand} {i0 i1 : Nat} (ha0 : ev (lk tsl) x0 = some (.optr i0 0)) (ha1 : ev (lk tsl) x1 = some (.own i1 0 m 1)) (hH0 : lkH hsl i0 = some (cRd bs p)) (hH1 : lkH hsl i1 = some cs) (hcs : NumL cs xs)
    (hdd : Go.AL.distinct [i0, i1] = true) (hm : m = xs.length) (hb : bs.length ≤ 2000) (hp : p ≤ 1000000) (h0 : 0 < xs.length) (hn : xs.length ≤ 1000000) (hM : Nat.ble (nidl + 0) big = true) (hN : Nat.blt d N = true) {md' : Md}
    [hmd : MdA md (rOs [x0, x1] ++ [.inr i0, .inr i1]) [.inr i0, .inr i1, .inl d] md']
    (kk : RW Tryz.prog N all Q md' rest ⟨(d, iv (numF bs p xs)) :: tsl, wrH hsl [(i0, some (cRd bs (p + 1))), (i1, none)], nidl + 0, z0⟩) : RW Tryz.prog N all Q md (⟨some d, .call ⟨.value (.func 94), #[x0, x1], tys⟩, ty, pos, af, none⟩ :: rest) ⟨tsl, hsl, nidl, z0⟩ := by
  have h := hcs.h
  subst hm h
  exact rx_num0O ha0 ha1 hH0 hH1 hdd (num0O_c bs p xs hb hp h0 hn) hM hN (hmd := hmd) kk

theorem open_c (bs : List UInt8) (hb : bs.length ≤ 1048576) : MC Tryz.prog 83 [sl cU bs] [] 0 (fun _ : Unit => True) (fun _ => .optr 0 0) (fun _ => [(0, some (cRd (bs.take 2000) 0))]) := by
  (refine mc_of_aw Tryz.func83 rfl (by simp [Tryz.ntmps83]) ?_; rw [Tryz.ntmps83])
  repeat' (first | (apply id_rw; first | (apply rx_move;rfl;rfl) | (apply rx_bin;rfl;rfl;rfl;rfl) | (apply rx_assign;rfl;rfl) | (apply rx_len;rfl;rfl;rfl) | (apply rw_nil;kernel_rfl) | (apply rx_buildK;rfl;(exact (rfl:_=some [_, _]));(exact (rfl:_=[_, _]));rfl) | (apply rx_sliceF;rfl;infer_instance;rfl;rfl;(omega);rfl) | (apply rx_box;rfl;rfl;rfl;rfl)) | (apply id_aw; first | apply aw_seq | apply aw_region | (apply aw_cond;rfl;all_goals intro hc;have hq:=hc;(try simp only [bqs] at hq);try exfalso;omega) | apply aw_skip | apply aw_ret) | with_reducible apply tq_normal)
  · (refine rq_ret rfl ?_; refine mc_ret () trivial ?_ ⟨.inr (Eq.trans (b := some _) rfl ?_), trivial⟩)
    · rfl
    · rfl
  · (refine rq_ret rfl ?_; refine mc_ret () trivial ?_ ⟨.inr (Eq.trans (b := some _) rfl ?_), trivial⟩)
    · rfl
    · rw [List.take_of_length_le (by omega)]; rfl
end Go.Proofs.YtejkbiijonnefaaGreat
