/-
  A part of the proofs over this program: rules and contracts of its functions (the contracts).
-/
import Derived.Test.YtlbbbmeadnelbaaGreatB04
set_option linter.unusedVariables false
set_option linter.unusedSimpArgs false
set_option maxHeartbeats 8000000
set_option maxRecDepth 4000
attribute [local irreducible] Go.AL.RW Go.AL.AW Go.AL.Stop
namespace Go.Proofs.YtlbbbmeadnelbaaGreat
open Go.AL Go.RowKit
theorem rx_ownC {m : List Cl} {N : Nat} {Q : Exit → AS → Prop} {all : Array Oper} {rest : List Oper} {tsl : List (Nat × AV)} {hsl : List (Nat × Option (List AV))} {nidl : Nat} {z0 : Lo} {md : Md} {d : Nat} {ty : TypeId} {pos : String} {af : Array Edge} {tys : Array TypeId} {x0 : Operand} (ha0 : ev (lk tsl) x0 = some (sl cCl m)) (hmc : MC Tryz.prog 164 [sl cCl m] [] 0 (fun _ : Unit => True) (fun _ => .own 1 0 m.length 4) (fun _ => [(1, some (flat cCl m))])) (hM : Nat.ble (nidl + 2) big = true) (hN : Nat.blt d N = true) {md' : Md} [hmd : MdA md (rOs [x0] ++ []) (List.map Sum.inr (List.map Prod.fst ([((nidl + 1), some (flat cCl m))] : List (Nat × Option (List AV)))) ++ [.inl d]) md'] (kk : RW Tryz.prog N all Q md' rest ⟨(d, .own (nidl + 1) 0 m.length 4) :: tsl, wrH hsl [((nidl + 1), some (flat cCl m))], nidl + 2, z0⟩) : RW Tryz.prog N all Q md (⟨some d, .call ⟨.value (.func 164), #[x0], tys⟩, ty, pos, af, none⟩ :: rest) ⟨tsl, hsl, nidl, z0⟩ := by
  refine rx_mcallE [] 2 [((nidl + 1), some (flat cCl m))] hmc (avs := [sl cCl m]) ?_ rfl ?_ rfl ?_ (by simpa using hM) ?_ ?_ ?_ hN (md' := md') (hmd := hmd) kk
  · show evL (lk tsl) [x0] = _
    simp only [evL, ha0]
  · exact trivial
  · (repeat' (exact RnL.purI inferInstance))
  · (repeat' (exact RnV.own rfl))
  · simp [wsAll]
  · (repeat' (first|exact trivial|(refine And.intro ⟨1, _, rfl, rfl, ?_⟩ ?_)|exact RnL.purI inferInstance))
theorem rx_ownO {m : List Cl} {j : Nat} {N : Nat} {Q : Exit → AS → Prop} {all : Array Oper} {rest : List Oper} {tsl : List (Nat × AV)} {hsl : List (Nat × Option (List AV))} {nidl : Nat} {z0 : Lo} {md : Md} {d : Nat} {ty : TypeId} {pos : String} {af : Array Edge} {tys : Array TypeId} {x0 : Operand} (ha0 : ev (lk tsl) x0 = some (sl cCl m)) (hmc : MC Tryz.prog 164 [sl cCl m] [] 0 (fun _ : Unit => True) (fun _ => .own 1 0 m.length 4) (fun _ => [(1, some (flat cCo (opn m j (.own 2 0 m[j]!.stk.length 2)))), (2, some (flat cTg m[j]!.stk))])) (hM : Nat.ble (nidl + 3) big = true) (hN : Nat.blt d N = true) {md' : Md} [hmd : MdA md (rOs [x0] ++ []) (List.map Sum.inr (List.map Prod.fst ([((nidl + 1), some (flat cCo (opn m j (.own (nidl + 2) 0 m[j]!.stk.length 2)))), ((nidl + 2), some (flat cTg m[j]!.stk))] : List (Nat × Option (List AV)))) ++ [.inl d]) md'] (kk : RW Tryz.prog N all Q md' rest ⟨(d, .own (nidl + 1) 0 m.length 4) :: tsl, wrH hsl [((nidl + 1), some (flat cCo (opn m j (.own (nidl + 2) 0 m[j]!.stk.length 2)))), ((nidl + 2), some (flat cTg m[j]!.stk))], nidl + 3, z0⟩) : RW Tryz.prog N all Q md (⟨some d, .call ⟨.value (.func 164), #[x0], tys⟩, ty, pos, af, none⟩ :: rest) ⟨tsl, hsl, nidl, z0⟩ := by
  refine rx_mcallE [] 3 [((nidl + 1), some (flat cCo (opn m j (.own (nidl + 2) 0 m[j]!.stk.length 2)))), ((nidl + 2), some (flat cTg m[j]!.stk))] hmc (avs := [sl cCl m]) ?_ rfl ?_ rfl ?_ (by simpa using hM) ?_ ?_ ?_ hN (md' := md') (hmd := hmd) kk
  · show evL (lk tsl) [x0] = _
    simp only [evL, ha0]
  · exact trivial
  · (repeat' (exact RnL.purI inferInstance))
  · (repeat' (exact RnV.own rfl))
  · simp [wsAll]
  · (repeat' (first|exact trivial|(refine And.intro ⟨1, _, rfl, rfl, ?_⟩ ?_)|(refine And.intro ⟨2, _, rfl, rfl, ?_⟩ ?_)|exact RnL.purI inferInstance|exact rn_opn rfl))
theorem set_self {α : Type} [Inhabited α] (l : List α) (k : Nat) : l.set k l[k]! = l := by
  rcases Nat.lt_or_ge k l.length with h|h
  · rw [getB _ _ h]; simp
  · exact List.set_eq_of_length_le h
theorem st_clS0 {m : List Cl} {i : Nat} (hi : i < m.length) : spl (flat cCl m) (0 + i * 4 + 3) [sl cTg m[i]!.stk] = flat cCl m := by
  have h := st_clS (xs := m) (k := i) (s := m[i]!.stk) hi
  rw [show m.set i { m[i]! with stk := m[i]!.stk } = m from set_self m i] at h
  exact h
theorem opn_ne {m : List Cl} {i j : Nat} {X : AV} (hi : i < m.length) (h : i ≠ j) : (opn m j X)[i]! = toCo m[i]! := by
  unfold opn
  rw [getB _ _ (by rw [List.length_set, List.length_map]; exact hi), List.getElem_set_ne (fun e => h e.symm), List.getElem_map, getB _ _ hi]
theorem st_opnK {m : List Cl} {i j : Nat} {X : AV} (h : i < m.length ∧ i ≠ j) : spl (flat cCo (opn m j X)) (0 + i * 4 + 3) [sl cTg m[i]!.stk] = flat cCo (opn m j X) := by
  have hl := opn_len (m := m) (j := j) (X := X)
  have e : (opn m j X).set i { (opn m j X)[i]! with av := sl cTg m[i]!.stk } = opn m j X := by
    rw [opn_ne h.1 h.2]
    have : ({ toCo m[i]! with av := sl cTg m[i]!.stk } : Co) = (opn m j X)[i]! := by rw [opn_ne h.1 h.2]; rfl
    rw [this]; exact set_self _ _
  rw [← e]
  have := st_flat (f := cCo) (xs := opn m j X) (k := i) (j := 3) (new := [sl cTg m[i]!.stk]) (y := { (opn m j X)[i]! with av := sl cTg m[i]!.stk }) (by rw [hl]; exact h.1) (by simp) rfl
  rw [e] at this ⊢
  exact this
theorem all2_pur {mp : List (Nat × Nat)} {lo : Lo} : ∀ {cs : List AV}, pursB cs = true → All2 (RenV mp lo) cs cs
  | [], _ => .nil
  | c :: cs, h => by
    simp only [pursB, Bool.and_eq_true] at h
    exact .cons (.inl ⟨rfl, h.1⟩) (all2_pur h.2)
theorem all2_app {α β : Type} {R : α → β → Prop} : ∀ {a : List α} {b : List β} {c : List α} {d : List β}, All2 R a b → All2 R c d → All2 R (a ++ c) (b ++ d)
  | _, _, _, _, .nil, h => h
  | _, _, _, _, .cons h1 h2, h => .cons h1 (all2_app h2 h)
theorem ren_opn {mp : List (Nat × Nat)} {lo : Lo} {m : List Cl} {j k i i' : Nat} (h : j < m.length) (hr : ren1 mp lo (.own i 0 k 2) = some (.own i' 0 k 2)) : All2 (RenV mp lo) (flat cCo (opn m j (.own i 0 k 2))) (flat cCo (opn m j (.own i' 0 k 2))) := by
  rw [opn_flat h, opn_flat h]
  exact all2_app (all2_pur (inferInstance : Pur (flat cCl _)).pf) (all2_app (all2_pur (inferInstance : Pur [iv _, bv _, iv _]).pf) (.cons (.inr hr) (all2_pur (inferInstance : Pur (flat cCl _)).pf)))
theorem ownC_c (m : List Cl) (hm : OkM m) : MC Tryz.prog 164 [sl cCl m] [] 0 (fun _ : Unit => True) (fun _ => .own 1 0 m.length 4) (fun _ => [(1, some (flat cCl m))]) := by
  have hml := hm.l
  have hcc := cloneC_c m (by omega)
  (refine mc_of_aw Tryz.func164 rfl (by simp [Tryz.ntmps164]) ?_; rw [Tryz.ntmps164])
  repeat' (first|(apply id_rw;first|(apply rx_cloneC;rfl;exact hcc;rfl;rfl)|(apply rx_move;rfl;rfl)|(apply rx_assign;rfl;rfl)|(apply rx_len;rfl;rfl;rfl)|(apply rw_nil;kernel_rfl))|(apply id_aw;first|apply aw_seq|apply aw_region|apply aw_block)|with_reducible apply tq_normal)
  refine aw_loopK (σ := Nat) [3, 8, 9] [(3, _), (8, _), (9, _)] [] [] (fun k => [(10, iv (k : Int))]) (fun k => [(1, some (flat cCl m))]) (fun k => k ≤ m.length) (fun k => m.length - k) (0) (Nat.zero_le _) rfl rfl (by repeat' (first|exact trivial|refine And.intro rfl ?_)) (by repeat' (first|exact trivial|refine And.intro (.inr rfl) ?_)) ?_
  rintro i hi
  by_cases hin : i < m.length
  · have hst : m[i]!.stk.length ≤ 200 := (((OkM_iff m).1 hm).2 i hin).l.2
    have hct := cloneT_c m[i]!.stk (by omega)
    repeat' (first|(apply id_rw;first|(apply rx_cloneT;rfl;exact hct;rfl;rfl)|(with_reducible apply rw_stop (d := 20))|(apply rx_move;rfl;rfl)|(first|(apply rx_loadFA;(case hx|hH => rfl);(case hf|hg|hα => infer_instance);(case hk => omega);(case h0|hN => rfl))|(apply rx_load1;rfl;rfl;rfl;rfl))|(apply rx_fieldAddr;rfl;rfl;rfl)|(apply rx_bin;rfl;rfl;rfl;rfl)|(apply rx_assign;rfl;rfl)|(apply rx_indexON;rfl;rfl;(assumption);rfl)|(apply rw_nil;kernel_rfl)|(apply rx_alloc;rfl;rfl)|(apply rx_store;rfl;rfl;rfl;rfl;rfl;(case hl => (simp;done));(exact (rfl:_=[_, _, _, _]))))|(apply id_aw;first|apply aw_seq|apply aw_region|(apply aw_cond;rfl;all_goals intro hc;have hq:=hc;(try simp only [bqs] at hq);try exfalso;omega)|apply aw_block|apply aw_skip)|with_reducible apply tq_normal)
    refine rw_go (rw_le ?_ (Le.frzD (d := 19) (i := 4) rfl rfl))
    repeat' (first|(apply id_rw;first|(apply rx_move;rfl;rfl)|(apply rx_fieldAddr;rfl;rfl;rfl)|(apply rx_add;rfl;rfl;omega;rfl)|(apply rx_indexON;rfl;rfl;(assumption);rfl)|(apply rw_nil;kernel_rfl)|(apply rx_store;rfl;rfl;rfl;rfl;rfl;(rw [flat_length]; simp only [lns] <;> omega);(exact st_clS0 (by (assumption)))))|(apply id_aw;(apply aw_region))|with_reducible apply tq_normal|with_reducible apply bq_normal)
    (apply ex3 (i + 1);focus (refine Le.ren [(1, 1)] rfl (by decide) ?_ ?_ <;> repeat' (first|exact trivial|refine And.intro ⟨_, rfl, ?_⟩ ?_|refine And.intro ⟨_, _, rfl, rfl, ?_⟩ ?_|exact Or.inr rfl|refine Or.inl ⟨?_, (by first|rfl|exact pur_sl _ _)⟩|rfl)))
    · omega
    · omega
  · repeat' (first | (apply id_rw; first | (apply rx_move;rfl;rfl) | (apply rx_bin;rfl;rfl;rfl;rfl) | (apply rx_assign;rfl;rfl) | (apply rw_nil;kernel_rfl)) | (apply id_aw; first | apply aw_seq | apply aw_region | (apply aw_cond;rfl;all_goals intro hc;have hq:=hc;(try simp only [bqs] at hq);try exfalso;omega) | apply aw_exit | apply aw_ret) | with_reducible apply tq_normal | with_reducible apply tq_exit | with_reducible apply bq_here)
    (refine rq_ret rfl ?_; refine mc_ret () trivial ?_ ⟨.inr (Eq.trans (b := some _) rfl ?_), trivial⟩)
    · rfl
    · rfl
theorem ownO_c (m : List Cl) (j : Nat) (hm : OkM m) (hj : j < m.length) : MC Tryz.prog 164 [sl cCl m] [] 0 (fun _ : Unit => True) (fun _ => .own 1 0 m.length 4) (fun _ => [(1, some (flat cCo (opn m j (.own 2 0 m[j]!.stk.length 2)))), (2, some (flat cTg m[j]!.stk))]) := by
  have hml := hm.l
  have hcc := cloneC_c m (by omega)
  (refine mc_of_aw Tryz.func164 rfl (by simp [Tryz.ntmps164]) ?_; rw [Tryz.ntmps164])
  repeat' (first|(apply id_rw;first|(apply rx_cloneC;rfl;exact hcc;rfl;rfl)|(apply rx_move;rfl;rfl)|(apply rx_assign;rfl;rfl)|(apply rx_len;rfl;rfl;rfl)|(apply rw_nil;kernel_rfl))|(apply id_aw;first|apply aw_seq|apply aw_region|apply aw_block)|with_reducible apply tq_normal)
  refine AW.le ?_ (Le.bump 1)
  refine aw_loopK (σ := Nat × Bool) [3, 8, 9] [(3, _), (8, _), (9, _)] [] [] (fun k => [(10, iv (k.1 : Int))]) (fun k => [(1, some (cond k.2 (flat cCo (opn m j (.own 2 0 m[j]!.stk.length 2))) (flat cCl m))), (2, cond k.2 (some (flat cTg m[j]!.stk)) none)]) (fun k => k.1 ≤ m.length ∧ k.2 = decide (j < k.1)) (fun k => m.length - k.1) (0, false) ⟨Nat.zero_le _, by simp⟩ rfl rfl (by repeat' (first|exact trivial|refine And.intro rfl ?_)) (by repeat' (first|exact trivial|refine And.intro (.inr rfl) ?_)) ?_
  rintro ⟨i, b⟩ ⟨hi, hb⟩
  dsimp only at hi hb ⊢
  by_cases hin : i < m.length
  · have hst : m[i]!.stk.length ≤ 200 := (((OkM_iff m).1 hm).2 i hin).l.2
    have hct := cloneT_c m[i]!.stk (by omega)
    by_cases hij : j < i
    · rw [decide_eq_true hij] at hb; subst hb
      simp only [cond_true]
      have hol := opn_len (m := m) (j := j) (X := .own 2 0 m[j]!.stk.length 2)
      have hon := opn_ne (m := m) (i := i) (j := j) (X := .own 2 0 m[j]!.stk.length 2) hin (by omega)
      repeat' (first|(apply id_rw;first|(with_reducible apply rw_stop (d := 5))|(apply rx_move;rfl;rfl)|(apply rx_loadFA;(case hx|hH => rfl);(case hf|hg|hα => infer_instance);(case hk => omega);(case h0|hN => rfl))|(apply rx_bin;rfl;rfl;rfl;rfl)|(apply rx_indexON;rfl;rfl;(assumption);rfl)|(apply rw_nil;kernel_rfl))|(apply id_aw;first|apply aw_seq|apply aw_region|(apply aw_cond;rfl;all_goals intro hc;have hq:=hc;(try simp only [bqs] at hq);try exfalso;omega)|apply aw_block|apply aw_skip)|with_reducible apply tq_normal)
      refine rw_go ?_
      rw [hon]
      dsimp only [toCo]
      repeat' (first|(apply id_rw;first|(apply rx_cloneT;rfl;exact hct;rfl;rfl)|(with_reducible apply rw_stop (d := 20))|(apply rx_move;rfl;rfl)|(apply rx_load1;rfl;rfl;rfl;rfl)|(apply rx_fieldAddr;rfl;rfl;rfl)|(apply rx_assign;rfl;rfl)|(apply rw_nil;kernel_rfl)|(apply rx_alloc;rfl;rfl)|(apply rx_store;rfl;rfl;rfl;rfl;rfl;(case hl => (simp;done));(exact (rfl:_=[_, _, _, _]))))|(apply id_aw;(apply aw_region))|with_reducible apply tq_normal)
      refine rw_go (rw_le ?_ (Le.frzD (d := 19) (i := 5) rfl rfl))
      repeat' (first|(apply id_rw;first|(apply rx_move;rfl;rfl)|(apply rx_fieldAddr;rfl;rfl;rfl)|(apply rx_add;rfl;rfl;omega;rfl)|(apply rx_indexON;rfl;rfl;(assumption);rfl)|(apply rw_nil;kernel_rfl)|(apply rx_store;rfl;rfl;rfl;rfl;rfl;(rw [flat_length]; simp only [lns] <;> omega);(exact st_opnK (by (omega)))))|(apply id_aw;(apply aw_region))|with_reducible apply tq_normal|with_reducible apply bq_normal)
      (apply ex3 (i + 1, true);focus (refine Le.ren [(1, 1), (2, 2)] rfl (by decide) ?_ ?_ <;> repeat' (first|exact trivial|refine And.intro ⟨_, rfl, ?_⟩ ?_|refine And.intro ⟨_, _, rfl, rfl, ?_⟩ ?_|exact Or.inr rfl|refine Or.inl ⟨?_, (by first|rfl|exact pur_sl _ _)⟩|rfl)))
      · exact Or.inr (ren_opn hj rfl)
      · exact ⟨by dsimp only;omega, by dsimp only;rw [decide_eq_true (by omega)]⟩
      · dsimp only;omega
    · rw [decide_eq_false hij] at hb; subst hb
      simp only [cond_false]
      repeat' (first|(apply id_rw;first|(apply rx_cloneT;rfl;exact hct;rfl;rfl)|(with_reducible apply rw_stop (d := 20))|(apply rx_move;rfl;rfl)|(first|(apply rx_loadFA;(case hx|hH => rfl);(case hf|hg|hα => infer_instance);(case hk => omega);(case h0|hN => rfl))|(apply rx_load1;rfl;rfl;rfl;rfl))|(apply rx_fieldAddr;rfl;rfl;rfl)|(apply rx_bin;rfl;rfl;rfl;rfl)|(apply rx_assign;rfl;rfl)|(apply rx_indexON;rfl;rfl;(assumption);rfl)|(apply rw_nil;kernel_rfl)|(apply rx_alloc;rfl;rfl)|(apply rx_store;rfl;rfl;rfl;rfl;rfl;(case hl => (simp;done));(exact (rfl:_=[_, _, _, _]))))|(apply id_aw;first|apply aw_seq|apply aw_region|(apply aw_cond;rfl;all_goals intro hc;have hq:=hc;(try simp only [bqs] at hq);try exfalso;omega)|apply aw_block|apply aw_skip)|with_reducible apply tq_normal)
      by_cases hie : i = j
      · subst hie
        refine rw_go ?_
        repeat' (first|(apply id_rw;first|(apply rx_move;rfl;rfl)|(apply rx_fieldAddr;rfl;rfl;rfl)|(apply rx_add;rfl;rfl;omega;rfl)|(apply rx_indexON;rfl;rfl;(assumption);rfl)|(apply rw_nil;kernel_rfl)|(apply rx_store;rfl;rfl;rfl;rfl;rfl;(rw [flat_length]; simp only [lns] <;> omega);(exact spl_opn (by (assumption)))))|(apply id_aw;(apply aw_region))|with_reducible apply tq_normal|with_reducible apply bq_normal)
        (apply ex3 (i + 1, true);focus (refine Le.ren [(1, 1), (2, 5)] rfl (by decide) ?_ ?_ <;> repeat' (first|exact trivial|refine And.intro ⟨_, rfl, ?_⟩ ?_|refine And.intro ⟨_, _, rfl, rfl, ?_⟩ ?_|exact Or.inr rfl|refine Or.inl ⟨?_, (by first|rfl|exact pur_sl _ _)⟩|rfl)))
        · exact Or.inr (ren_opn hin rfl)
        · exact ⟨by dsimp only;omega, by dsimp only;rw [decide_eq_true (by omega)]⟩
        · dsimp only;omega
      · refine rw_go (rw_le ?_ (Le.frzD (d := 19) (i := 5) rfl rfl))
        repeat' (first|(apply id_rw;first|(apply rx_move;rfl;rfl)|(apply rx_fieldAddr;rfl;rfl;rfl)|(apply rx_add;rfl;rfl;omega;rfl)|(apply rx_indexON;rfl;rfl;(assumption);rfl)|(apply rw_nil;kernel_rfl)|(apply rx_store;rfl;rfl;rfl;rfl;rfl;(rw [flat_length]; simp only [lns] <;> omega);(exact st_clS0 (by (assumption)))))|(apply id_aw;(apply aw_region))|with_reducible apply tq_normal|with_reducible apply bq_normal)
        (apply ex3 (i + 1, false);focus (refine Le.ren [(1, 1)] rfl (by decide) ?_ ?_ <;> repeat' (first|exact trivial|refine And.intro ⟨_, rfl, ?_⟩ ?_|refine And.intro ⟨_, _, rfl, rfl, ?_⟩ ?_|exact Or.inr rfl|refine Or.inl ⟨?_, (by first|rfl|exact pur_sl _ _)⟩|rfl)))
        · exact ⟨by dsimp only;omega, by dsimp only;rw [decide_eq_false (by omega)]⟩
        · dsimp only;omega
  · rw [decide_eq_true (by omega)] at hb; subst hb
    simp only [cond_true]
    repeat' (first|(apply id_rw;first|(apply rx_move;rfl;rfl)|(apply rx_bin;rfl;rfl;rfl;rfl)|(apply rx_assign;rfl;rfl)|(apply rw_nil;kernel_rfl))|(apply id_aw;first|apply aw_seq|apply aw_region|(apply aw_cond;rfl;all_goals intro hc;have hq:=hc;(try simp only [bqs] at hq);try exfalso;omega)|apply aw_exit|apply aw_ret)|with_reducible apply tq_normal|with_reducible apply tq_exit|with_reducible apply bq_here)
    (refine rq_ret rfl ?_; refine mc_ret () trivial ?_ ⟨.inr (Eq.trans (b := some _) rfl ?_), ⟨.inr (Eq.trans (b := some _) rfl ?_), trivial⟩⟩)
    · rfl
    · rfl
    · rfl
theorem rx_touchN {m : List Cl} {x : Pt} {wr : Bool} {n : Nat} {N : Nat} {Q : Exit → AS → Prop} {all : Array Oper} {rest : List Oper} {tsl : List (Nat × AV)} {hsl : List (Nat × Option (List AV))} {nidl : Nat} {z0 : Lo} {md : Md} {d : Nat} {ty : TypeId} {pos : String} {af : Array Edge} {tys : Array TypeId} {x0 x1 x2 : Operand} {i0 : Nat} (ha0 : ev (lk tsl) x0 = some (.own i0 0 n 4)) (ha1 : ev (lk tsl) x1 = some (aPt x)) (ha2 : ev (lk tsl) x2 = some (bv wr)) (hH0 : lkH hsl i0 = some (flat cCl m)) (hmc : MC Tryz.prog 165 [.own 0 0 n 4, aPt x, bv wr] [(0, some (flat cCl m))] 1 (fun _ : Unit => True) (fun _ => iv (tchK m x wr)) (fun _ => [(0, some (flat cCl m))])) (hM : Nat.ble (nidl + 0) big = true) (hN : Nat.blt d N = true) {md' : Md} [hmd : MdA md (rOs [x0, x1, x2] ++ [.inr i0]) (List.map Sum.inr (List.map Prod.fst ([(i0, some (flat cCl m))] : List (Nat × Option (List AV)))) ++ [.inl d]) md'] (kk : RW Tryz.prog N all Q md' rest ⟨(d, iv (tchK m x wr)) :: tsl, wrH hsl [(i0, some (flat cCl m))], nidl + 0, z0⟩) : RW Tryz.prog N all Q md (⟨some d, .call ⟨.value (.func 165), #[x0, x1, x2], tys⟩, ty, pos, af, none⟩ :: rest) ⟨tsl, hsl, nidl, z0⟩ := by
  refine rx_mcallE [i0] 1 [(i0, some (flat cCl m))] hmc (avs := [.own i0 0 n 4, aPt x, bv wr]) ?_ rfl ?_ rfl ?_ (by simpa using hM) ?_ ?_ ?_ hN (md' := md') (hmd := hmd) kk
  · show evL (lk tsl) [x0, x1, x2] = _
    simp only [evL, ha0, ha1, ha2]
  · exact ⟨⟨_, _, rfl, hH0, by (repeat' (exact RnL.purI inferInstance))⟩, trivial⟩
  · (repeat' (first|exact RnL.purI inferInstance|exact RnV.own rfl|refine RnL.cons ?_ ?_))
  · (repeat' (exact RnV.purI inferInstance))
  · simp [wsAll]
  · (repeat' (first|exact trivial|(refine And.intro ⟨0, _, rfl, rfl, ?_⟩ ?_)|exact RnL.purI inferInstance))
theorem rx_touchW {m : List Cl} {j : Nat} {t : Int} {k n : Nat} {N : Nat} {Q : Exit → AS → Prop} {all : Array Oper} {rest : List Oper} {tsl : List (Nat × AV)} {hsl : List (Nat × Option (List AV))} {nidl : Nat} {z0 : Lo} {md : Md} {d : Nat} {ty : TypeId} {pos : String} {af : Array Edge} {tys : Array TypeId} {x0 x1 x2 : Operand} {i0 i1 : Nat} (ha0 : ev (lk tsl) x0 = some (.own i0 0 n 4)) (ha1 : ev (lk tsl) x1 = some (.agg [iv (j : Int), iv t])) (ha2 : ev (lk tsl) x2 = some (bv true)) (hH0 : lkH hsl i0 = some (flat cCo (opn m j (.own i1 0 m[j]!.stk.length 2)))) (hH1 : lkH hsl i1 = some (flat cTg m[j]!.stk)) (hdd : Go.AL.distinct [i0, i1] = true) (hmc : MC Tryz.prog 165 [.own 0 0 n 4, .agg [iv (j : Int), iv t], bv true] [(0, some (flat cCo (opn m j (.own 1 0 m[j]!.stk.length 2)))), (1, some (flat cTg m[j]!.stk))] 2 (fun _ : Unit => True) (fun _ => iv 0) (fun _ => [(0, some (flat cCo (opn m j (.own 1 0 (k + 1) 2)))), (1, some (flat cTg (m[j]!.stk.take (k + 1))))])) (hM : Nat.ble (nidl + 0) big = true) (hN : Nat.blt d N = true) {md' : Md} [hmd : MdA md (rOs [x0, x1, x2] ++ [.inr i0, .inr i1]) (List.map Sum.inr (List.map Prod.fst ([(i0, some (flat cCo (opn m j (.own i1 0 (k + 1) 2)))), (i1, some (flat cTg (m[j]!.stk.take (k + 1))))] : List (Nat × Option (List AV)))) ++ [.inl d]) md'] (kk : RW Tryz.prog N all Q md' rest ⟨(d, iv 0) :: tsl, wrH hsl [(i0, some (flat cCo (opn m j (.own i1 0 (k + 1) 2)))), (i1, some (flat cTg (m[j]!.stk.take (k + 1))))], nidl + 0, z0⟩) : RW Tryz.prog N all Q md (⟨some d, .call ⟨.value (.func 165), #[x0, x1, x2], tys⟩, ty, pos, af, none⟩ :: rest) ⟨tsl, hsl, nidl, z0⟩ := by
  refine rx_mcallE [i0, i1] 2 [(i0, some (flat cCo (opn m j (.own i1 0 (k + 1) 2)))), (i1, some (flat cTg (m[j]!.stk.take (k + 1))))] hmc (avs := [.own i0 0 n 4, .agg [iv (j : Int), iv t], bv true]) ?_ hdd ?_ rfl ?_ (by simpa using hM) ?_ ?_ ?_ hN (md' := md') (hmd := hmd) kk
  · show evL (lk tsl) [x0, x1, x2] = _
    simp only [evL, ha0, ha1, ha2]
  · exact ⟨⟨_, _, rfl, hH0, by (repeat' (exact rn_opn rfl))⟩, ⟨⟨_, _, rfl, hH1, by (repeat' (exact RnL.purI inferInstance))⟩, trivial⟩⟩
  · (repeat' (first|exact RnL.purI inferInstance|exact RnV.own rfl|refine RnL.cons ?_ ?_))
  · (repeat' (exact RnV.purI inferInstance))
  · simp [wsAll]
  · (repeat' (first|exact trivial|(refine And.intro ⟨0, _, rfl, rfl, ?_⟩ ?_)|(refine And.intro ⟨1, _, rfl, rfl, ?_⟩ ?_)|exact RnL.purI inferInstance|exact rn_opn rfl))
theorem LdL.app {D : List Nat} {H : Nat → Option (List AV)} : ∀ {a b c d : List AV}, LdL D H a b → LdL D H c d → pursB a = true → LdL D H (a ++ c) (a ++ d)
  | [], _, _, _, _, h, _ => h
  | x :: a, b, c, d, h1, h, hp => by
    simp only [pursB, Bool.and_eq_true] at hp
    exact .cons (.pur hp.1) (LdL.app (a := a) (b := a) (.pur hp.2) h hp.2)
theorem ld_opn {D : List Nat} {H : Nat → Option (List AV)} {m : List Cl} {j i k : Nat} {r : List Tg} (hi : i ∈ D) (hH : H i = some (flat cTg r)) (hk : k = r.length) (hj : j < m.length) : LdL D H (flat cCo (opn m j (.own i 0 k 2))) (flat cCl (m.set j { m[j]! with stk := r })) := by
  subst hk
  rw [← opn_self, opn_flat hj, opn_flat hj]
  have p1 : pursB (flat cCl (m.take j)) = true := (inferInstance : Pur (flat cCl _)).pf
  have p2 : pursB [iv m[j]!.val, bv m[j]!.alive, iv m[j]!.next] = true := rfl
  exact LdL.app (.pur p1) (LdL.app (.pur p2) (.cons (.own hi hH (.pur (inferInstance : Pur (flat cTg r)).pf)) (.pur (inferInstance : Pur (flat cCl _)).pf)) p2) p1
theorem ld_opn0 {D : List Nat} {H : Nat → Option (List AV)} {m : List Cl} {j i : Nat} (hi : i ∈ D) (hH : H i = some (flat cTg m[j]!.stk)) (hj : j < m.length) : LdL D H (flat cCo (opn m j (.own i 0 m[j]!.stk.length 2))) (flat cCl m) := by
  have h := ld_opn (m := m) (r := m[j]!.stk) hi hH rfl hj
  rwa [show m.set j { m[j]! with stk := m[j]!.stk } = m from set_self m j] at h
theorem tchK_3 {m : List Cl} {x : Pt} {wr : Bool} (h : 0 ≤ x.cell) (h2 : x.cell < m.length) (h3 : m[x.cell.toNat]!.alive = true) (h4 : 0 ≤ tgIx m[x.cell.toNat]!.stk x.tag) (hw : wr = true) (h5 : m[x.cell.toNat]!.stk[(tgIx m[x.cell.toNat]!.stk x.tag).toNat]!.uq = false) : tchK m x wr = 3 := by
  unfold tchK;rw [if_neg (by omega), if_neg (by rw [h3]; decide), if_neg (by omega), if_pos ⟨hw, h5⟩]
theorem touchN_c (m : List Cl) (x : Pt) (wr : Bool) (n : Nat) (hm : OkM m) (hn : n = m.length) (hk : tchK m x wr ≠ 0) : MC Tryz.prog 165 [.own 0 0 n 4, aPt x, bv wr] [(0, some (flat cCl m))] 1 (fun _ : Unit => True) (fun _ => iv (tchK m x wr)) (fun _ => [(0, some (flat cCl m))]) := by
  subst hn
  have hml := hm.l
  have hcv := CellsValidI_c m hm
  have hst : 0 ≤ x.cell → x.cell < m.length → m[x.cell.toNat]!.stk.length ≤ 200 := fun h1 h2 => (((OkM_iff m).1 hm).2 x.cell.toNat (by omega)).l.2
  have hbd := tgIx_bd m[x.cell.toNat]!.stk x.tag
  have hidx := fun h => idxT1_c m[x.cell.toNat]!.stk x.cell x.tag h
  (refine mc_of_aw Tryz.func165 rfl (by simp [Tryz.ntmps165]) ?_; rw [Tryz.ntmps165])
  repeat' (first|(apply id_rw;first|((with_reducible apply rx_lendE (k := 35));(case ha => rfl);(case hl => (repeat' (first|exact lendL_nil|apply lendL_cons|exact lendV_own rfl inferInstance)));(case h => exact hcv);(case hfr|hN => rfl);(case hmd => infer_instance))|((apply rx_makeFuncFrzN 4);(case hx|hH|hc|hN => rfl))|((with_reducible apply rx_callE (k := 198));(case ha => rfl);(case h => exact (hidx (by have := hst (by omega) (by omega);omega)));(case hp => (exact Pur.pf));(case hN => rfl))|(with_reducible apply rw_stop (d := 75))|(apply rx_move;rfl;rfl)|(first|(apply rx_loadFj;(case hx|hH => rfl);(case hf|hg|hα => infer_instance);(case hk => omega);(case hc|hN => rfl))|(apply rx_load1;rfl;rfl;rfl;rfl))|(apply rx_fieldAddr;rfl;rfl;rfl)|(first|(apply rx_guardY;rfl;rfl;rfl;(first|rfl|assumption))|(apply rx_guardNs;rfl;rfl;rfl;(assumption))|(apply rx_guardS;(case hj|hb|hN => rfl);all_goals (intro hg;have hq := hg;(try simp only [bqs] at hq);(try (exfalso;omega)))))|(first|(apply rx_sub;rfl;rfl;omega;rfl)|(apply rx_bin;rfl;rfl;rfl;rfl))|(apply rx_assign;rfl;rfl)|(first|(apply rx_pickT;rfl;(assumption);rfl;rfl)|(apply rx_pickF;rfl;(first|rfl|assumption);rfl;rfl))|(first|(apply rx_indexF;(case hx|hi => rfl);(case hm => (omega));(case hml => (rfl));(case hα | hf|hg => infer_instance);(case hN => rfl))|(apply rx_indexO;rfl;rfl;(omega);rfl))|((with_reducible apply rx_callE (k := 58));(case ha => rfl);(case h => (apply within_c <;> (fail)));(case hp => (rfl));(case hN => rfl))|(apply rx_len;rfl;rfl;rfl)|(apply rw_nil;kernel_rfl)|(apply rx_not;rfl;rfl)|(apply rx_nil;rfl;rfl;rfl)|(apply rx_box;rfl;rfl;rfl;rfl))|(apply id_aw;first|apply aw_seq|apply aw_region|(apply aw_condF;rfl;(rfl))|(apply aw_cond;rfl;all_goals intro hc;have hq:=hc;(try simp only [bqs] at hq);try exfalso;omega)|apply aw_block|apply aw_skip|apply aw_ret)|with_reducible apply tq_normal|with_reducible apply tq_ret|with_reducible apply bq_ret)
  · (refine rq_ret rfl ?_; refine mc_ret () trivial ?_ ⟨.inr (Eq.trans (b := some _) rfl ?_), trivial⟩)
    · rw [tchK_4 (by omega)]; rfl
    · rfl
  · (refine rq_ret rfl ?_; refine mc_ret () trivial ?_ ⟨.inr (Eq.trans (b := some _) rfl ?_), trivial⟩)
    · rw [tchK_1 (by omega) (by omega) (by assumption)]; rfl
    · rfl
  · (refine rq_ret rfl ?_; refine mc_ret () trivial ?_ ⟨.inr (Eq.trans (b := some _) rfl ?_), trivial⟩)
    · rw [tchK_2 (by omega) (by omega) (by assumption) (by assumption)]; rfl
    · rfl
  · (refine rq_ret rfl ?_; refine mc_ret () trivial ?_ ⟨.inr (Eq.trans (b := some _) rfl ?_), trivial⟩)
    · rw [tchK_3 (by omega) (by omega) (by assumption) (by assumption) (by assumption) (by assumption)]; rfl
    · rfl
  · exfalso
    have hw : wr = true := by assumption
    have hu : m[x.cell.toNat]!.stk[(tgIx m[x.cell.toNat]!.stk x.tag).toNat]!.uq = true := by assumption
    subst hw
    refine hk ?_
    rw [tchK_wr, if_pos (tchK_0f (by omega) (by omega) (by assumption) (by assumption)), if_neg (by rw [hu]; decide)]
  · exfalso
    have hw : wr = false := by assumption
    subst hw
    exact hk (tchK_0f (by omega) (by omega) (by assumption) (by assumption))
theorem touchW_c (m : List Cl) (j : Nat) (t : Int) (k n : Nat) (hm : OkM m) (hn : n = m.length) (hj : j < m.length) (hk : tgIx m[j]!.stk t = (k : Int)) (hal : m[j]!.alive = true) (hu : m[j]!.stk[k]!.uq = true) : MC Tryz.prog 165 [.own 0 0 n 4, .agg [iv (j : Int), iv t], bv true] [(0, some (flat cCo (opn m j (.own 1 0 m[j]!.stk.length 2)))), (1, some (flat cTg m[j]!.stk))] 2 (fun _ : Unit => True) (fun _ => iv 0) (fun _ => [(0, some (flat cCo (opn m j (.own 1 0 (k + 1) 2)))), (1, some (flat cTg (m[j]!.stk.take (k + 1))))]) := by
  subst hn
  have hml := hm.l
  have hcv := CellsValidI_c m hm
  have hst : m[j]!.stk.length ≤ 200 := (((OkM_iff m).1 hm).2 j hj).l.2
  have hbd := tgIx_bd m[j]!.stk t
  rw [hk] at hbd
  have hidx := idxT1_c m[j]!.stk (j : Int) t (by omega)
  rw [hk] at hidx
  have hog := opn_get (m := m) (j := j) (X := .own 1 0 m[j]!.stk.length 2) hj
  have hol := opn_len (m := m) (j := j) (X := .own 1 0 m[j]!.stk.length 2)
  (refine mc_of_aw Tryz.func165 rfl (by simp [Tryz.ntmps165]) ?_; rw [Tryz.ntmps165])
  repeat' (first|(apply id_rw;first|((with_reducible apply rx_lendG (k := 35) (D := [0, 1]) (h := hcv));(case ha => rfl);(case hl => exact .cons (.own (by simp) rfl (ld_opn0 (by simp) rfl hj)) .nil);(case hfr|hN => rfl))|(with_reducible apply rw_stop (d := 35))|(apply rx_move;rfl;rfl)|(first|(apply rx_loadFj;(case hx|hH => rfl);(case hf|hg|hα => infer_instance);(case hk => omega);(case hc|hN => rfl))|(apply rx_load1;rfl;rfl;rfl;rfl))|(apply rx_fieldAddr;rfl;rfl;rfl)|(apply rx_guardY;rfl;rfl;rfl;(rfl))|(apply rx_sub;rfl;rfl;omega;rfl)|(apply rx_assign;rfl;rfl)|(apply rx_pickF;rfl;(rfl);rfl;rfl)|(apply rx_indexON;rfl;rfl;(assumption);rfl)|((with_reducible apply rx_callE (k := 58));(case ha => rfl);(case h => (apply within_c <;> (fail)));(case hp => (rfl));(case hN => rfl))|(apply rx_len;rfl;rfl;rfl)|(apply rw_nil;kernel_rfl)|(apply rx_not;rfl;rfl)|(apply rx_nil;rfl;rfl;rfl)|(apply rx_box;rfl;rfl;rfl;rfl))|(apply id_aw;first|apply aw_seq|apply aw_region|(apply aw_cond;rfl;all_goals intro hc;have hq:=hc;(try simp only [bqs] at hq);try exfalso;omega)|apply aw_skip|apply aw_ret)|with_reducible apply tq_normal|with_reducible apply tq_ret)
  all_goals (try (exfalso;omega))
  · exfalso
    have h : (opn m j (.own 1 0 m[j]!.stk.length 2))[j]!.alive = false := by assumption
    rw [hog] at h;simp only [hal] at h;cases h
  refine rw_go ?_
  rw [hog]
  dsimp only
  repeat' (first|(apply id_rw;first|((apply rx_makeFuncFrzN 4);(case hx|hH|hc|hN => rfl))|((with_reducible apply rx_lendG (k := 198) (D := [1]) (h := hidx));(case ha => rfl);(case hl => exact .cons (.own (by simp) rfl (.pur (inferInstance : Pur (flat cTg _)).pf)) (.cons (.pur rfl) .nil));(case hfr|hN => rfl))|(with_reducible apply rw_stop (d := 68))|(apply rx_move;rfl;rfl)|(apply rx_loadFj;(case hx|hH => rfl);(case hf|hg|hα => infer_instance);(case hk => omega);(case hc|hN => rfl))|(apply rx_fieldAddr;rfl;rfl;rfl)|(apply rx_guardY;rfl;rfl;rfl;(rfl))|(apply rx_bin;rfl;rfl;rfl;rfl)|(apply rx_assign;rfl;rfl)|(apply rw_nil;kernel_rfl)|(apply rx_nil;rfl;rfl;rfl))|(apply id_aw;first|apply aw_seq|apply aw_region|(apply aw_condF;rfl;(rfl))|apply aw_block)|with_reducible apply tq_normal)
  refine rw_go ?_
  rw [hog]
  dsimp only
  repeat' (first|(apply id_rw;first|(with_reducible apply rw_stop (d := 81))|(apply rx_move;rfl;rfl)|(apply rx_loadFj;(case hx|hH => rfl);(case hf|hg|hα => infer_instance);(case hk => omega);(case hc|hN => rfl))|(apply rx_fieldAddr;rfl;rfl;rfl)|(apply rx_guardY;rfl;rfl;rfl;(rfl))|(apply rx_assign;rfl;rfl)|(apply rx_pickT;rfl;(rfl);rfl;rfl)|(apply rx_indexON;rfl;rfl;(omega);rfl)|(apply rw_nil;kernel_rfl)|(apply rx_not;rfl;rfl)|(apply rx_nil;rfl;rfl;rfl))|(apply id_aw;first|apply aw_seq|apply aw_region|(apply aw_condT;rfl;(rfl))|(apply aw_cond;rfl;all_goals intro hc;have hq:=hc;(try simp only [bqs] at hq);try exfalso;omega)|apply aw_ret)|with_reducible apply tq_normal|with_reducible apply tq_ret|with_reducible apply bq_ret)
  · exfalso
    have h : m[j]!.stk[k]!.uq = false := by assumption
    rw [hu] at h;cases h
  refine rw_go ?_
  rw [hog]
  dsimp only
  repeat' (first|(apply id_rw;first|((apply rx_slice (d := 83) (l := 0) (h := k + 1));(case hx|hn|hl => rfl);(case hh => exact bnd_to rfl (by omega));(case hp => exact if_pos (by omega));(case hN => rfl))|(apply rx_move;rfl;rfl)|(apply rx_fieldAddr;rfl;rfl;rfl)|(apply rx_add;rfl;rfl;omega;rfl)|(apply rx_assign;rfl;rfl)|(apply rw_nil;kernel_rfl)|(apply rx_nil;rfl;rfl;rfl)|(apply rx_store;rfl;rfl;rfl;rfl;rfl;(rw [flat_length]; simp only [lns] <;> omega);(exact st_opn (by (assumption)))))|(apply id_aw;first|apply aw_seq|apply aw_region|apply aw_ret)|with_reducible apply tq_normal|with_reducible apply bq_normal)
  refine rq_le (Le.cut (i := 1) ((k + 1) * 2) rfl) ?_
  (refine rq_ret rfl ?_; refine mc_ret () trivial ?_ ⟨.inr (Eq.trans (b := some _) rfl ?_), ⟨.inr (Eq.trans (b := some _) rfl ?_), trivial⟩⟩)
  · rfl
  · rfl
  · rw [flat_take cTg (e := 2)]
theorem rx_cloneO {xs : List Tg} {k n : Nat} {N : Nat} {Q : Exit → AS → Prop} {all : Array Oper} {rest : List Oper} {tsl : List (Nat × AV)} {hsl : List (Nat × Option (List AV))} {nidl : Nat} {z0 : Lo} {md : Md} {d : Nat} {ty : TypeId} {pos : String} {af : Array Edge} {tys : Array TypeId} {x0 : Operand} {i0 : Nat} (ha0 : ev (lk tsl) x0 = some (.own i0 (0 + k * 2) n 2)) (hH0 : lkH hsl i0 = some (flat cTg xs)) (hmc : MC Tryz.prog 197 [.own 0 (0 + k * 2) n 2] [(0, some (flat cTg xs))] 1 (fun _ : Unit => True) (fun _ => .own 2 0 n 2) (fun _ => [(0, some (flat cTg xs)), (2, some (flat cTg (xs.drop k)))])) (hM : Nat.ble (nidl + 2) big = true) (hN : Nat.blt d N = true) {md' : Md} [hmd : MdA md (rOs [x0] ++ [.inr i0]) (List.map Sum.inr (List.map Prod.fst ([(i0, some (flat cTg xs)), ((nidl + 1), some (flat cTg (xs.drop k)))] : List (Nat × Option (List AV)))) ++ [.inl d]) md'] (kk : RW Tryz.prog N all Q md' rest ⟨(d, .own (nidl + 1) 0 n 2) :: tsl, wrH hsl [(i0, some (flat cTg xs)), ((nidl + 1), some (flat cTg (xs.drop k)))], nidl + 2, z0⟩) : RW Tryz.prog N all Q md (⟨some d, .call ⟨.value (.func 197), #[x0], tys⟩, ty, pos, af, none⟩ :: rest) ⟨tsl, hsl, nidl, z0⟩ := by
  refine rx_mcallE [i0] 3 [(i0, some (flat cTg xs)), ((nidl + 1), some (flat cTg (xs.drop k)))] hmc (avs := [.own i0 (0 + k * 2) n 2]) ?_ rfl ?_ rfl ?_ (by simpa using hM) ?_ ?_ ?_ hN (md' := md') (hmd := hmd) kk
  · show evL (lk tsl) [x0] = _
    simp only [evL, ha0]
  · exact ⟨⟨_, _, rfl, hH0, by (repeat' (exact RnL.purI inferInstance))⟩, trivial⟩
  · (repeat' (first|exact RnL.purI inferInstance|exact RnV.own rfl|refine RnL.cons ?_ ?_))
  · (repeat' (exact RnV.own rfl))
  · simp [wsAll]
  · (repeat' (first|exact trivial|(refine And.intro ⟨0, _, rfl, rfl, ?_⟩ ?_)|(refine And.intro ⟨2, _, rfl, rfl, ?_⟩ ?_)|exact RnL.purI inferInstance))
theorem cloneO_c (xs : List Tg) (k n : Nat) (hn : n = xs.length - k) (hl : xs.length ≤ 1000000) : MC Tryz.prog 197 [.own 0 (0 + k * 2) n 2] [(0, some (flat cTg xs))] 1 (fun _ : Unit => True) (fun _ => .own 2 0 n 2) (fun _ => [(0, some (flat cTg xs)), (2, some (flat cTg (xs.drop k)))]) := by
  subst hn
  (refine mc_of_aw Tryz.func197 rfl (by simp [Tryz.ntmps197]) ?_; rw [Tryz.ntmps197])
  repeat' (first|(apply id_rw;first|(apply rx_eqNilO;rfl;rfl;(intro b hb))|(apply rx_append;rfl;rfl;rfl;rfl;rfl;(decide);exact sC_tail rfl rfl;omega;omega;(exact app_nilF rfl);rfl;rfl)|(apply rx_move;rfl;rfl)|(apply rx_assign;rfl;rfl)|(apply rw_nil;kernel_rfl)|(apply rx_buildSlice;rfl;rfl;rfl;(rfl);rfl;rfl))|(apply id_aw;first|apply aw_seq|apply aw_region|(apply aw_cond;rfl;all_goals intro hc;have hq:=hc;(try simp only [bqs] at hq);try exfalso;omega)|apply aw_skip|apply aw_ret)|with_reducible apply tq_normal|with_reducible apply tq_ret)
  · have h0 : xs.length - k = 0 := hb (by assumption)
    have h1 : xs.drop k = [] := List.drop_eq_nil_of_le (by omega)
    refine rq_le (Le.bump 1) ?_
    refine rq_le (Le.nilOwn (d := 2) 2 rfl (by decide)) ?_
    (refine rq_ret rfl ?_; refine mc_ret () trivial ?_ ⟨.inr (Eq.trans (b := some _) rfl ?_), ⟨.inr (Eq.trans (b := some _) rfl ?_), trivial⟩⟩)
    · show AV.own 2 0 0 2 = _; rw [h0]
    · rfl
    · rw [h1]; rfl
  · (refine rq_ret rfl ?_; refine mc_ret () trivial ?_ ⟨.inr (Eq.trans (b := some _) rfl ?_), ⟨.inr (Eq.trans (b := some _) rfl ?_), trivial⟩⟩)
    · show AV.own 2 0 (0 + (xs.length - k)) 2 = _
      rw [Nat.zero_add]
    · rfl
    · rfl
theorem rx_touchR {m : List Cl} {j : Nat} {t : Int} {r : List Tg} {n : Nat} {N : Nat} {Q : Exit → AS → Prop} {all : Array Oper} {rest : List Oper} {tsl : List (Nat × AV)} {hsl : List (Nat × Option (List AV))} {nidl : Nat} {z0 : Lo} {md : Md} {d : Nat} {ty : TypeId} {pos : String} {af : Array Edge} {tys : Array TypeId} {x0 x1 x2 : Operand} {i0 i1 : Nat} (ha0 : ev (lk tsl) x0 = some (.own i0 0 n 4)) (ha1 : ev (lk tsl) x1 = some (.agg [iv (j : Int), iv t])) (ha2 : ev (lk tsl) x2 = some (bv false)) (hH0 : lkH hsl i0 = some (flat cCo (opn m j (.own i1 0 m[j]!.stk.length 2)))) (hH1 : lkH hsl i1 = some (flat cTg m[j]!.stk)) (hdd : Go.AL.distinct [i0, i1] = true) (hmc : MC Tryz.prog 165 [.own 0 0 n 4, .agg [iv (j : Int), iv t], bv false] [(0, some (flat cCo (opn m j (.own 1 0 m[j]!.stk.length 2)))), (1, some (flat cTg m[j]!.stk))] 2 (fun _ : Unit => True) (fun _ => iv 0) (fun _ => [(0, some (flat cCo (opn m j (.own 5 0 r.length 2)))), (5, some (flat cTg r))])) (hM : Nat.ble (nidl + 4) big = true) (hN : Nat.blt d N = true) {md' : Md} [hmd : MdA md (rOs [x0, x1, x2] ++ [.inr i0, .inr i1]) (List.map Sum.inr (List.map Prod.fst ([(i0, some (flat cCo (opn m j (.own (nidl + 3) 0 r.length 2)))), ((nidl + 3), some (flat cTg r)), (i1, none)] : List (Nat × Option (List AV)))) ++ [.inl d]) md'] (kk : RW Tryz.prog N all Q md' rest ⟨(d, iv 0) :: tsl, wrH hsl [(i0, some (flat cCo (opn m j (.own (nidl + 3) 0 r.length 2)))), ((nidl + 3), some (flat cTg r)), (i1, none)], nidl + 4, z0⟩) : RW Tryz.prog N all Q md (⟨some d, .call ⟨.value (.func 165), #[x0, x1, x2], tys⟩, ty, pos, af, none⟩ :: rest) ⟨tsl, hsl, nidl, z0⟩ := by
  refine rx_mcallE [i0, i1] 6 [(i0, some (flat cCo (opn m j (.own (nidl + 3) 0 r.length 2)))), ((nidl + 3), some (flat cTg r)), (i1, none)] hmc (avs := [.own i0 0 n 4, .agg [iv (j : Int), iv t], bv false]) ?_ hdd ?_ rfl ?_ (by simpa using hM) ?_ ?_ ?_ hN (md' := md') (hmd := hmd) kk
  · show evL (lk tsl) [x0, x1, x2] = _
    simp only [evL, ha0, ha1, ha2]
  · exact ⟨⟨_, _, rfl, hH0, by (repeat' (exact rn_opn rfl))⟩, ⟨⟨_, _, rfl, hH1, by (repeat' (exact RnL.purI inferInstance))⟩, trivial⟩⟩
  · (repeat' (first|exact RnL.purI inferInstance|exact RnV.own rfl|refine RnL.cons ?_ ?_))
  · (repeat' (exact RnV.purI inferInstance))
  · simp [wsAll]
  · (repeat' (first|exact trivial|(refine And.intro ⟨0, _, rfl, rfl, ?_⟩ ?_)|(refine And.intro ⟨5, _, rfl, rfl, ?_⟩ ?_)|exact RnL.purI inferInstance|exact rn_opn rfl))
theorem touchR_c (m : List Cl) (j : Nat) (t : Int) (r : List Tg) (k n : Nat) (hm : OkM m) (hn : n = m.length) (hj : j < m.length) (hk : tgIx m[j]!.stk t = (k : Int)) (hal : m[j]!.alive = true) (hr : r = tchS m[j]!.stk k false) : MC Tryz.prog 165 [.own 0 0 n 4, .agg [iv (j : Int), iv t], bv false] [(0, some (flat cCo (opn m j (.own 1 0 m[j]!.stk.length 2)))), (1, some (flat cTg m[j]!.stk))] 2 (fun _ : Unit => True) (fun _ => iv 0) (fun _ => [(0, some (flat cCo (opn m j (.own 5 0 r.length 2)))), (5, some (flat cTg r))]) := by
  subst hn
  have hml := hm.l
  have hcv := CellsValidI_c m hm
  have hst : m[j]!.stk.length ≤ 200 := (((OkM_iff m).1 hm).2 j hj).l.2
  have hbd := tgIx_bd m[j]!.stk t
  rw [hk] at hbd
  have hidx := idxT1_c m[j]!.stk (j : Int) t (by omega)
  rw [hk] at hidx
  have hog := opn_get (m := m) (j := j) (X := .own 1 0 m[j]!.stk.length 2) hj
  have hol := opn_len (m := m) (j := j) (X := .own 1 0 m[j]!.stk.length 2)
  (refine mc_of_aw Tryz.func165 rfl (by simp [Tryz.ntmps165]) ?_; rw [Tryz.ntmps165])
  repeat' (first|(apply id_rw;first|((with_reducible apply rx_lendG (k := 35) (D := [0, 1]) (h := hcv));(case ha => rfl);(case hl => exact .cons (.own (by simp) rfl (ld_opn0 (by simp) rfl hj)) .nil);(case hfr|hN => rfl))|(with_reducible apply rw_stop (d := 35))|(apply rx_move;rfl;rfl)|(first|(apply rx_loadFj;(case hx|hH => rfl);(case hf|hg|hα => infer_instance);(case hk => omega);(case hc|hN => rfl))|(apply rx_load1;rfl;rfl;rfl;rfl))|(apply rx_fieldAddr;rfl;rfl;rfl)|(apply rx_guardY;rfl;rfl;rfl;(rfl))|(apply rx_sub;rfl;rfl;omega;rfl)|(apply rx_assign;rfl;rfl)|(apply rx_pickF;rfl;(rfl);rfl;rfl)|(apply rx_indexON;rfl;rfl;(assumption);rfl)|((with_reducible apply rx_callE (k := 58));(case ha => rfl);(case h => (apply within_c <;> (fail)));(case hp => (rfl));(case hN => rfl))|(apply rx_len;rfl;rfl;rfl)|(apply rw_nil;kernel_rfl)|(apply rx_not;rfl;rfl)|(apply rx_nil;rfl;rfl;rfl)|(apply rx_box;rfl;rfl;rfl;rfl))|(apply id_aw;first|apply aw_seq|apply aw_region|(apply aw_cond;rfl;all_goals intro hc;have hq:=hc;(try simp only [bqs] at hq);try exfalso;omega)|apply aw_skip|apply aw_ret)|with_reducible apply tq_normal|with_reducible apply tq_ret)
  all_goals (try (exfalso;omega))
  · exfalso
    have h : (opn m j (.own 1 0 m[j]!.stk.length 2))[j]!.alive = false := by assumption
    rw [hog] at h;simp only [hal] at h;cases h
  refine rw_go ?_
  rw [hog]
  dsimp only
  repeat' (first|(apply id_rw;first|((apply rx_makeFuncFrzN 4);(case hx|hH|hc|hN => rfl))|((with_reducible apply rx_lendG (k := 198) (D := [1]) (h := hidx));(case ha => rfl);(case hl => exact .cons (.own (by simp) rfl (.pur (inferInstance : Pur (flat cTg _)).pf)) (.cons (.pur rfl) .nil));(case hfr|hN => rfl))|(with_reducible apply rw_stop (d := 41))|(apply rx_move;rfl;rfl)|(apply rx_loadFj;(case hx|hH => rfl);(case hf|hg|hα => infer_instance);(case hk => omega);(case hc|hN => rfl))|(apply rx_fieldAddr;rfl;rfl;rfl)|(apply rx_guardNs;rfl;rfl;rfl;(rfl))|(apply rx_bin;rfl;rfl;rfl;rfl)|(apply rx_assign;rfl;rfl)|(apply rx_pickF;rfl;(rfl);rfl;rfl)|(apply rw_nil;kernel_rfl)|(apply rx_nil;rfl;rfl;rfl))|(apply id_aw;first|apply aw_seq|apply aw_region|(apply aw_condF;rfl;(rfl))|apply aw_block)|with_reducible apply tq_normal)
  refine rw_go ?_
  rw [hog]
  dsimp only
  repeat' (first|(apply id_rw;first|((apply rx_slice (d := 43) (l := k + 1) (h := m[j]!.stk.length));(case hx|hn => rfl);(case hl => exact bnd_to rfl (by omega));(case hh => rfl);(case hp => exact if_pos (by omega));(case hN => rfl))|(apply rx_cloneO;rfl;rfl;exact cloneO_c _ _ _ rfl (by omega);rfl;rfl)|(apply rx_delT;rfl;rfl;rfl;exact delT_c _ _ (by rw [List.length_drop]) (by omega);rfl;rfl)|(with_reducible apply rw_stop (d := 51))|(apply rx_move;rfl;rfl)|(apply rx_loadFj;(case hx|hH => rfl);(case hf|hg|hα => infer_instance);(case hk => omega);(case hc|hN => rfl))|(apply rx_fieldAddr;rfl;rfl;rfl)|(apply rx_add;rfl;rfl;omega;rfl)|(apply rx_assign;rfl;rfl)|(apply rw_nil;kernel_rfl)|(apply rx_nil;rfl;rfl;rfl))|(apply id_aw;(apply aw_region))|with_reducible apply tq_normal)
  refine rw_go ?_
  rw [hog]
  dsimp only
  have hfl : (flat cTg m[j]!.stk).length = m[j]!.stk.length * 2 := flat_length cTg _
  have hsl : (shr (List.drop (k + 1) m[j]!.stk)).length ≤ 200 := Nat.le_trans (List.length_filter_le _ _) (by rw [List.length_drop]; omega)
  repeat' (first|(apply id_rw;first|((apply rx_slice (d := 53) (l := 0) (h := k + 1));(case hx|hn|hl => rfl);(case hh => exact bnd_to rfl (by omega));(case hp => exact if_pos (by omega));(case hN => rfl))|(apply rx_append;rfl;rfl;rfl;rfl;rfl;(rw [hfl]; omega);exact sC_tail (k := 0) rfl rfl;omega;omega;rfl;rfl;rfl)|(apply rx_move;rfl;rfl)|(apply rx_fieldAddr;rfl;rfl;rfl)|(apply rx_add;rfl;rfl;omega;rfl)|(apply rx_assign;rfl;rfl)|(apply rw_nil;kernel_rfl)|(apply rx_nil;rfl;rfl;rfl)|(apply rx_store;rfl;rfl;rfl;rfl;rfl;(rw [flat_length]; simp only [lns] <;> omega);(exact st_opn (by (assumption)))))|(apply id_aw;first|apply aw_seq|apply aw_region|apply aw_ret)|with_reducible apply tq_normal|with_reducible apply bq_normal)
  have hre : r = m[j]!.stk.take (k + 1) ++ shr (m[j]!.stk.drop (k + 1)) := by rw [hr]; rfl
  have hrl : r.length = k + 1 + (shr (List.drop (k + 1) m[j]!.stk)).length := by rw [hre, List.length_append, List.length_take]; omega
  (refine rq_ret rfl ?_; refine mc_ret () trivial ?_ ⟨.inr (Eq.trans (b := some _) rfl ?_), ⟨.inr (Eq.trans (b := some _) rfl ?_), trivial⟩⟩)
  · rfl
  · refine congrArg some ?_
    show flat cCo (opn m j (AV.own 5 0 (k + 1 - 0 + (shr (List.drop (k + 1) m[j]!.stk)).length) 2)) = _
    rw [hrl]; rfl
  · refine congrArg some ?_
    show (List.drop 0 (flat cTg m[j]!.stk)).take ((k + 1) * 2) ++ flat cTg (List.drop 0 (shr (List.drop (k + 1) m[j]!.stk))) = _
    rw [List.drop_zero, List.drop_zero, flat_take cTg (e := 2), flat_append, ← hre]
theorem st_opnV {m : List Cl} {j : Nat} {X : AV} {v : Int} (h : j < m.length) : spl (flat cCo (opn m j X)) (0 + j * 4 + 0) [iv v] = flat cCo (opn (m.set j { m[j]! with val := v }) j X) := by
  have e : opn (m.set j { m[j]! with val := v }) j X = (opn m j X).set j ⟨v, m[j]!.alive, m[j]!.next, X⟩ := by
    have e2 : (m.set j { m[j]! with val := v })[j]! = { m[j]! with val := v } := by rw [getB _ _ (by rw [List.length_set]; exact h), List.getElem_set_self]
    unfold opn
    rw [e2, List.map_set, List.set_set, List.set_set]; rfl
  rw [e]
  exact st_flat (by rw [opn_len]; exact h) (by simp) (by rw [opn_get h]; rfl)
theorem st_opnA {m : List Cl} {j : Nat} {X : AV} {b : Bool} (h : j < m.length) : spl (flat cCo (opn m j X)) (0 + j * 4 + 1) [.v (.bool b)] = flat cCo (opn (m.set j { m[j]! with alive := b }) j X) := by
  have e : opn (m.set j { m[j]! with alive := b }) j X = (opn m j X).set j ⟨m[j]!.val, b, m[j]!.next, X⟩ := by
    have e2 : (m.set j { m[j]! with alive := b })[j]! = { m[j]! with alive := b } := by rw [getB _ _ (by rw [List.length_set]; exact h), List.getElem_set_self]
    unfold opn
    rw [e2, List.map_set, List.set_set, List.set_set]; rfl
  rw [e]
  exact st_flat (by rw [opn_len]; exact h) (by simp) (by rw [opn_get h]; rfl)
theorem ReadCellI_c (m : List Cl) (hm : OkM m) (x : Pt) : PC Tryz.prog 118 [sl cCl m, aPt x] (fun r => r = .tup [sl cCl (tchM m x false), iv (rdN m x), iv (tchK m x false)]) := by
  have hml := hm.l
  by_cases hk : tchK m x false = 0
  · obtain ⟨c, t⟩ := x
    obtain ⟨h1, h2, h3, h4, _⟩ := tchK_in hk
    obtain ⟨j, rfl⟩ := Int.eq_ofNat_of_zero_le (show 0 ≤ c from h1)
    have hj : j < m.length := by have : (j : Int) < m.length := h2;omega
    obtain ⟨k, hkk⟩ := Int.eq_ofNat_of_zero_le (show 0 ≤ tgIx m[j]!.stk t from h4)
    obtain ⟨r, hr⟩ : ∃ r, r = tchS m[j]!.stk k false := ⟨_, rfl⟩
    have hto := touchR_c m j t r k m.length hm rfl hj hkk h3 hr
    have hog := opn_get (m := m) (j := j) (X := .own (0 + 1 + 3 + 3) 0 r.length 2) hj
    have hol := opn_len (m := m) (j := j) (X := .own (0 + 1 + 3 + 3) 0 r.length 2)
    (refine pc_of_aw Tryz.func118 rfl (by simp [Tryz.ntmps118]) ?_; rw [Tryz.ntmps118])
    repeat' (first|(apply id_rw;first|((apply rx_ownO (j := j));(case ha0 => rfl);(case hmc => exact ownO_c m j hm hj);(case hM|hN => rfl))|((apply rx_touchR (m := m) (j := j) (t := t) (r := r) (n := m.length));(case ha0|ha1|ha2|hH0|hH1|hdd => rfl);(case hmc => exact hto);(case hM|hN => rfl))|(apply rx_move;rfl;rfl)|(first|(apply rx_loadFj;(case hx|hH => rfl);(case hf|hg|hα => infer_instance);(case hk => omega);(case hc|hN => rfl))|(apply rx_load1;rfl;rfl;rfl;rfl)|(apply rx_loadA;rfl;rfl;(exact (rfl:_=[_, _]));rfl;rfl;rfl))|(apply rx_fieldAddr;rfl;rfl;rfl)|(apply rx_bin;rfl;rfl;rfl;rfl)|(apply rx_assign;rfl;rfl)|(apply rx_indexON;rfl;rfl;(assumption);rfl)|(apply rw_nil;kernel_rfl)|(apply rx_box;rfl;rfl;rfl;rfl))|(apply id_aw;first|apply aw_seq|apply aw_region|(apply aw_draw;kernel_rfl)|(apply aw_condF;rfl;(rfl))|apply aw_skip|apply aw_ret)|with_reducible apply tq_normal)
    refine rq_le (Le.cls (o := 2) (q := 7) (j := j) (k := r.length) (m := m) (r := r) rfl rfl rfl hj (by decide)) ?_
    refine rq_le (Le.frzD (d := 4) (i := 2) rfl rfl) ?_
    rw [hog]
    refine rq_ret (l := [.imm m.length (flat cCl (m.set j { m[j]! with stk := r })), iv m[j]!.val, iv 0]) rfl ?_
    have eM : tchM m ⟨j, t⟩ false = m.set j { m[j]! with stk := r } := by
      unfold tchM tchC;rw [if_pos hk]; dsimp only
      rw [Int.toNat_natCast, hkk, Int.toNat_natCast, hr]
    have eN : rdN m ⟨j, t⟩ = m[j]!.val := by unfold rdN;rw [if_pos hk]; rfl
    rw [eM, eN, hk, sl_len (by rw [List.length_set])]
    exact ⟨rfl, by (exact Pur.pf)⟩
  · (refine pc_of_aw Tryz.func118 rfl (by simp [Tryz.ntmps118]) ?_; rw [Tryz.ntmps118])
    repeat' (first|(apply id_rw;first|(apply rx_ownC;rfl;exact ownC_c m hm;rfl;rfl)|((apply rx_touchN (m := m) (x := x) (wr := false) (n := m.length));(case ha0|ha1|ha2|hH0 => rfl);(case hmc => exact touchN_c m x false _ hm rfl hk);(case hM|hN => rfl))|(apply rx_move;rfl;rfl)|(apply rx_loadA;rfl;rfl;(exact (rfl:_=[_, _]));rfl;rfl;rfl)|(apply rx_bin;rfl;rfl;rfl;rfl)|(apply rx_assign;rfl;rfl)|(apply rw_nil;kernel_rfl)|(apply rx_box;rfl;rfl;rfl;rfl))|(apply id_aw;first|apply aw_seq|apply aw_region|(apply aw_cond;rfl;all_goals intro hc;have hq:=hc;(try simp only [bqs] at hq);try exfalso;omega)|apply aw_ret)|with_reducible apply tq_normal|with_reducible apply tq_ret)
    (refine rq_le (Le.frzD (d := 4) (i := 2) rfl rfl) ?_; refine rq_ret rfl ?_)
    refine ⟨?_, by (exact Pur.pf)⟩
    simp only [oneOf]
    unfold tchM rdN;rw [if_neg hk, if_neg hk]
theorem FreeCellI_c (m : List Cl) (hm : OkM m) (x : Pt) : PC Tryz.prog 166 [sl cCl m, aPt x] (fun r => r = .tup [sl cCl (frM m x), iv (tchK m x true)]) := by
  have hml := hm.l
  by_cases hk : tchK m x true = 0
  · obtain ⟨c, t⟩ := x
    obtain ⟨h1, h2, h3, h4, hu⟩ := tchK_in hk
    obtain ⟨j, rfl⟩ := Int.eq_ofNat_of_zero_le (show 0 ≤ c from h1)
    have hj : j < m.length := by have : (j : Int) < m.length := h2;omega
    obtain ⟨k, hkk⟩ := Int.eq_ofNat_of_zero_le (show 0 ≤ tgIx m[j]!.stk t from h4)
    have huk : m[j]!.stk[k]!.uq = true := by
      have h : m[j]!.stk[(tgIx m[j]!.stk t).toNat]!.uq = true := hu rfl
      rwa [hkk, Int.toNat_natCast] at h
    have htw := touchW_c m j t k m.length hm rfl hj hkk h3 huk
    have hrl : (m[j]!.stk.take (k + 1)).length = k + 1 := by
      have hb := tgIx_bd m[j]!.stk t
      rw [List.length_take]; omega
    have hol := opn_len (m := m) (j := j) (X := .own (0 + 1 + 2) 0 (k + 1) 2)
    have hls : (m.set j { m[j]! with alive := false }).length = m.length := List.length_set
    (refine pc_of_aw Tryz.func166 rfl (by simp [Tryz.ntmps166]) ?_; rw [Tryz.ntmps166])
    repeat' (first|(apply id_rw;first|((apply rx_ownO (j := j));(case ha0 => rfl);(case hmc => exact ownO_c m j hm hj);(case hM|hN => rfl))|((apply rx_touchW (m := m) (j := j) (t := t) (k := k) (n := m.length));(case ha0|ha1|ha2|hH0|hH1|hdd => rfl);(case hmc => exact htw);(case hM|hN => rfl))|(apply rx_store;rfl;rfl;rfl;rfl;rfl;(rw [flat_length]; simp only [List.length_append, List.length_cons, List.length_nil]; omega);exact st_opnA hj)|(apply rx_move;rfl;rfl)|(first|(apply rx_load1;rfl;rfl;rfl;rfl)|(apply rx_loadA;rfl;rfl;(exact (rfl:_=[_, _]));rfl;rfl;rfl))|(apply rx_fieldAddr;rfl;rfl;rfl)|(apply rx_bin;rfl;rfl;rfl;rfl)|(apply rx_assign;rfl;rfl)|(apply rx_indexON;rfl;rfl;(assumption);rfl)|(apply rw_nil;kernel_rfl)|(apply rx_box;rfl;rfl;rfl;rfl))|(apply id_aw;first|apply aw_seq|apply aw_region|(apply aw_condT;rfl;(rfl))|apply aw_ret)|with_reducible apply tq_normal)
    refine rq_le (Le.cls (o := 2) (q := 3) (j := j) (k := k + 1) (m := m.set j { m[j]! with alive := false }) (r := m[j]!.stk.take (k + 1)) rfl rfl hrl.symm (by rw [hls]; exact hj) (by decide)) ?_
    refine rq_le (Le.frzD (d := 4) (i := 2) rfl rfl) ?_
    rw [get_set hj, set_set]
    refine rq_ret (l := [.imm m.length (flat cCl (m.set j { m[j]! with alive := false, stk := m[j]!.stk.take (k + 1) })), iv 0]) rfl ?_
    have eM : frM m ⟨j, t⟩ = m.set j { m[j]! with alive := false, stk := m[j]!.stk.take (k + 1) } := by
      unfold frM tchC;rw [if_pos hk]; dsimp only
      rw [Int.toNat_natCast, hkk, Int.toNat_natCast]; unfold tchS;rw [if_pos rfl]
    rw [eM, hk, sl_len (by rw [List.length_set])]
    exact ⟨rfl, by (exact Pur.pf)⟩
  · (refine pc_of_aw Tryz.func166 rfl (by simp [Tryz.ntmps166]) ?_; rw [Tryz.ntmps166])
    repeat' (first|(apply id_rw;first|(apply rx_ownC;rfl;exact ownC_c m hm;rfl;rfl)|((apply rx_touchN (m := m) (x := x) (wr := true) (n := m.length));(case ha0|ha1|ha2|hH0 => rfl);(case hmc => exact touchN_c m x true _ hm rfl hk);(case hM|hN => rfl))|(apply rx_move;rfl;rfl)|(apply rx_loadA;rfl;rfl;(exact (rfl:_=[_, _]));rfl;rfl;rfl)|(apply rx_bin;rfl;rfl;rfl;rfl)|(apply rx_assign;rfl;rfl)|(apply rw_nil;kernel_rfl)|(apply rx_box;rfl;rfl;rfl;rfl))|(apply id_aw;first|apply aw_seq|apply aw_region|(apply aw_cond;rfl;all_goals intro hc;have hq:=hc;(try simp only [bqs] at hq);try exfalso;omega)|apply aw_skip|apply aw_ret)|with_reducible apply tq_normal)
    (refine rq_le (Le.frzD (d := 4) (i := 2) rfl rfl) ?_; refine rq_ret rfl ?_)
    refine ⟨?_, by (exact Pur.pf)⟩
    simp only [oneOf]
    unfold frM;rw [if_neg hk]
theorem WriteCellI_c (m : List Cl) (hm : OkM m) (x : Pt) (v : Int) : PC Tryz.prog 119 [sl cCl m, aPt x, iv v] (fun r => r = .tup [sl cCl (wrM m x v), iv (wrK m x v)]) := by
  have hml := hm.l
  by_cases hv : 0 ≤ v ∧ v ≤ 9
  case neg =>
    have hwk : wrK m x v = 4 := by unfold wrK;rw [if_neg hv]
    have e : wrM m x v = m := by unfold wrM;rw [if_neg (by rw [hwk]; decide)]
    (refine pc_of_aw Tryz.func119 rfl (by simp [Tryz.ntmps119]) ?_; rw [Tryz.ntmps119])
    repeat' (first|(apply id_rw;first|(apply rx_ownC;rfl;exact ownC_c m hm;rfl;rfl)|(apply rx_move;rfl;rfl)|(apply rx_assign;rfl;rfl)|((with_reducible apply rx_callE (k := 58));(case ha => rfl);(case h => (apply within_c <;> (fail)));(case hp => (rfl));(case hN => rfl))|(apply rw_nil;kernel_rfl)|(apply rx_not;rfl;rfl)|(apply rx_box;rfl;rfl;rfl;rfl))|(apply id_aw;first|apply aw_seq|apply aw_region|(apply aw_cond;rfl;all_goals intro hc;have hq:=hc;(try simp only [bqs] at hq);try exfalso;omega)|apply aw_ret)|with_reducible apply tq_normal|with_reducible apply tq_ret)
    all_goals (try (exfalso;omega))
    all_goals (
      (refine rq_le (Le.frzD (d := 6) (i := 2) rfl rfl) ?_; refine rq_ret rfl ?_)
      refine ⟨?_, by (exact Pur.pf)⟩
      simp only [oneOf]
      rw [e, hwk])
  case pos =>
  have hwk : wrK m x v = tchK m x true := by unfold wrK;rw [if_pos hv]
  by_cases hk : tchK m x true = 0
  · obtain ⟨c, t⟩ := x
    obtain ⟨h1, h2, h3, h4, hu⟩ := tchK_in hk
    obtain ⟨j, rfl⟩ := Int.eq_ofNat_of_zero_le (show 0 ≤ c from h1)
    have hj : j < m.length := by have : (j : Int) < m.length := h2;omega
    obtain ⟨k, hkk⟩ := Int.eq_ofNat_of_zero_le (show 0 ≤ tgIx m[j]!.stk t from h4)
    have huk : m[j]!.stk[k]!.uq = true := by
      have h : m[j]!.stk[(tgIx m[j]!.stk t).toNat]!.uq = true := hu rfl
      rwa [hkk, Int.toNat_natCast] at h
    have htw := touchW_c m j t k m.length hm rfl hj hkk h3 huk
    have hrl : (m[j]!.stk.take (k + 1)).length = k + 1 := by
      have hb := tgIx_bd m[j]!.stk t
      rw [List.length_take]; omega
    have hol := opn_len (m := m) (j := j) (X := .own (0 + 1 + 2) 0 (k + 1) 2)
    have hls : (m.set j { m[j]! with val := v }).length = m.length := List.length_set
    (refine pc_of_aw Tryz.func119 rfl (by simp [Tryz.ntmps119]) ?_; rw [Tryz.ntmps119])
    repeat' (first|(apply id_rw;first|((apply rx_ownO (j := j));(case ha0 => rfl);(case hmc => exact ownO_c m j hm hj);(case hM|hN => rfl))|((apply rx_touchW (m := m) (j := j) (t := t) (k := k) (n := m.length));(case ha0|ha1|ha2|hH0|hH1|hdd => rfl);(case hmc => exact htw);(case hM|hN => rfl))|(apply rx_store;rfl;rfl;rfl;rfl;rfl;(rw [flat_length]; simp only [List.length_append, List.length_cons, List.length_nil]; omega);exact st_opnV hj)|(apply rx_move;rfl;rfl)|(first|(apply rx_load1;rfl;rfl;rfl;rfl)|(apply rx_loadA;rfl;rfl;(exact (rfl:_=[_, _]));rfl;rfl;rfl))|(apply rx_fieldAddr;rfl;rfl;rfl)|(apply rx_bin;rfl;rfl;rfl;rfl)|(apply rx_assign;rfl;rfl)|(apply rx_indexON;rfl;rfl;(assumption);rfl)|((with_reducible apply rx_callE (k := 58));(case ha => rfl);(case h => (apply within_c <;> (fail)));(case hp => (rfl));(case hN => rfl))|(apply rw_nil;kernel_rfl)|(apply rx_not;rfl;rfl)|(apply rx_box;rfl;rfl;rfl;rfl))|(apply id_aw;first|apply aw_seq|apply aw_region|(apply aw_condT;rfl;(rfl))|(apply aw_cond;rfl;all_goals intro hc;have hq:=hc;(try simp only [bqs] at hq);try exfalso;omega)|apply aw_skip|apply aw_ret)|with_reducible apply tq_normal)
    refine rq_le (Le.cls (o := 2) (q := 3) (j := j) (k := k + 1) (m := m.set j { m[j]! with val := v }) (r := m[j]!.stk.take (k + 1)) rfl rfl hrl.symm (by rw [hls]; exact hj) (by decide)) ?_
    refine rq_le (Le.frzD (d := 6) (i := 2) rfl rfl) ?_
    rw [get_set hj, set_set]
    refine rq_ret (l := [.imm m.length (flat cCl (m.set j { m[j]! with val := v, stk := m[j]!.stk.take (k + 1) })), iv 0]) rfl ?_
    have eM : wrM m ⟨j, t⟩ v = m.set j { m[j]! with val := v, stk := m[j]!.stk.take (k + 1) } := by
      unfold wrM tchC;rw [hwk, if_pos hk]; dsimp only
      rw [Int.toNat_natCast, hkk, Int.toNat_natCast]; unfold tchS;rw [if_pos rfl]
    rw [eM, hwk, hk, sl_len (by rw [List.length_set])]
    exact ⟨rfl, by (exact Pur.pf)⟩
  · (refine pc_of_aw Tryz.func119 rfl (by simp [Tryz.ntmps119]) ?_; rw [Tryz.ntmps119])
    repeat' (first|(apply id_rw;first|(apply rx_ownC;rfl;exact ownC_c m hm;rfl;rfl)|((apply rx_touchN (m := m) (x := x) (wr := true) (n := m.length));(case ha0|ha1|ha2|hH0 => rfl);(case hmc => exact touchN_c m x true _ hm rfl hk);(case hM|hN => rfl))|(apply rx_move;rfl;rfl)|(apply rx_loadA;rfl;rfl;(exact (rfl:_=[_, _]));rfl;rfl;rfl)|(apply rx_bin;rfl;rfl;rfl;rfl)|(apply rx_assign;rfl;rfl)|((with_reducible apply rx_callE (k := 58));(case ha => rfl);(case h => (apply within_c <;> (fail)));(case hp => (rfl));(case hN => rfl))|(apply rw_nil;kernel_rfl)|(apply rx_not;rfl;rfl)|(apply rx_box;rfl;rfl;rfl;rfl))|(apply id_aw;first|apply aw_seq|apply aw_region|(apply aw_cond;rfl;all_goals intro hc;have hq:=hc;(try simp only [bqs] at hq);try exfalso;omega)|apply aw_skip|apply aw_ret)|with_reducible apply tq_normal)
    (refine rq_le (Le.frzD (d := 6) (i := 2) rfl rfl) ?_; refine rq_ret rfl ?_)
    refine ⟨?_, by (exact Pur.pf)⟩
    simp only [oneOf]
    unfold wrM;rw [hwk, if_neg hk]
theorem newCellI_c (m : List Cl) (hm : OkM m) (v : Int) : PC Tryz.prog 163 [sl cCl m, iv v] (fun r => r = .tup [sl cCl (m ++ [nwC v]), .agg [iv m.length, iv 0]]) := by
  have hml := hm.l
  (refine pc_of_aw Tryz.func163 rfl (by simp [Tryz.ntmps163]) ?_; rw [Tryz.ntmps163])
  repeat' (first|(apply id_rw;first|(apply rx_ownC;rfl;exact ownC_c m hm;rfl;rfl)|(apply rx_move;rfl;rfl)|(apply rx_assign;rfl;rfl)|(first|(apply rx_len;rfl;rfl;rfl)|(apply rx_append;rfl;rfl;rfl;rfl;rfl;(rw [flat_length]; omega);(rfl);omega;omega;(rfl);rfl;rfl))|(apply rw_nil;kernel_rfl)|(apply rx_buildK;rfl;(first|exact (rfl:_=some [_, _])|exact (rfl:_=some [_, _, _, _]));(first|exact (rfl:_=[_, _])|exact (rfl:_=[_, _, _, _]));rfl)|(apply rx_alloc;rfl;rfl)|((apply rx_buildSliceI (t := _));(case hze|hsm|hl => rfl);(case hfl => (first|exact (rfl:_=some [_, _])|exact (rfl:_=some [_, _, _, _])));(case hM|hN => rfl))|(apply rx_store;rfl;rfl;rfl;rfl;rfl;(case hl => (simp;done));(exact (rfl:_=[_, _]))))|(apply id_aw;first|apply aw_seq|apply aw_region|apply aw_ret)|with_reducible apply tq_normal)
  have e2 : AV.imm (m.length + 1) (((flat cCl m).drop 0).take (m.length * 4) ++ [iv v, bv true, iv 1, .imm 1 [iv 0, bv true]]) = sl cCl (m ++ [nwC v]) := by
    have e : ((flat cCl m).drop 0).take (m.length * 4) ++ [iv v, bv true, iv 1, .imm 1 [iv 0, bv true]] = flat cCl (m ++ [nwC v]) := app_flat rfl rfl
    rw [e]; exact sl_len (by rw [List.length_append]; rfl)
  refine rq_le (Le.frzD (d := 4) (i := 5) rfl rfl) ?_
  refine rq_ret (l := [AV.imm (m.length + 1) (((flat cCl m).drop 0).take (m.length * 4) ++ [iv v, bv true, iv 1, .imm 1 [iv 0, bv true]]), .agg [iv m.length, iv 0]]) rfl ?_
  rw [e2]
  exact ⟨rfl, by (exact Pur.pf)⟩
theorem NewCellI_c (m : List Cl) (hm : OkM m) (v : Int) : PC Tryz.prog 114 [sl cCl m, iv v] (fun r => r = .tup (if 0 ≤ v ∧ v ≤ 9 ∧ m.length < 200 then [sl cCl (m ++ [nwC v]), .agg [iv m.length, iv 0], bv true] else [sl cCl [], .agg [iv 0, iv 0], bv false])) := by
  have hml := hm.l
  have hcv := CellsValidI_c m hm
  have hnc := newCellI_c m hm v
  (refine pc_of_aw Tryz.func114 rfl (by simp [Tryz.ntmps114]) ?_; rw [Tryz.ntmps114])
  repeat' (first|(apply id_rw;first|((with_reducible apply rx_callE (k := 35));(case ha => rfl);(case h => exact hcv);(case hp => (exact Pur.pf));(case hN => rfl))|((with_reducible apply rx_callE (k := 163));(case ha => rfl);(case h => exact hnc);(case hp => (exact Pur.pf));(case hN => rfl))|(apply rx_move;rfl;rfl)|(apply rx_loadA;rfl;rfl;(exact (rfl:_=[_, _]));rfl;rfl;rfl)|(first|(apply rx_guardY;rfl;rfl;rfl;(first|rfl|assumption))|(apply rx_guardNs;rfl;rfl;rfl;(assumption))|(apply rx_guardS;(case hj|hb|hN => rfl);all_goals (intro hg;have hq := hg;(try simp only [bqs] at hq);(try (exfalso;omega)))))|(apply rx_bin;rfl;rfl;rfl;rfl)|(apply rx_assign;rfl;rfl)|(first|(apply rx_pickT;rfl;(assumption);rfl;rfl)|(apply rx_pickF;rfl;(first|rfl|assumption);rfl;rfl))|((with_reducible apply rx_callE (k := 58));(case ha => rfl);(case h => (apply within_c <;> (fail)));(case hp => (rfl));(case hN => rfl))|(apply rx_len;rfl;rfl;rfl)|(apply rw_nil;kernel_rfl)|(apply rx_buildK;rfl;(exact (rfl:_=some [_, _]));(exact (rfl:_=[_, _]));rfl)|(apply rx_not;rfl;rfl)|(apply rx_alloc;rfl;rfl)|(apply rx_extract;rfl;rfl;rfl)|(apply rx_store;rfl;rfl;rfl;rfl;rfl;(case hl => (first|decide|(simp;done)));(exact (rfl:_=[_, _]))))|(apply id_aw;first|apply aw_seq|apply aw_region|(apply aw_draw;kernel_rfl)|(apply aw_condT;rfl;(rfl))|(apply aw_cond;rfl;all_goals intro hc;have hq:=hc;(try simp only [bqs] at hq);try exfalso;omega)|apply aw_skip|apply aw_ret)|with_reducible apply tq_normal|with_reducible apply tq_ret)
  · refine rq_le (Le.nilImm (d := 4) rfl) ?_
    exact rq_ret (l := [sl cCl [], .agg [iv 0, iv 0], bv false]) rfl ⟨by rw [if_neg (by omega)]; rfl, rfl⟩
  · exact rq_ret (l := [sl cCl (m ++ [nwC v]), .agg [iv m.length, iv 0], bv true]) rfl ⟨by rw [if_pos (by omega)]; rfl, by (exact Pur.pf)⟩
  · refine rq_le (Le.nilImm (d := 4) rfl) ?_
    exact rq_ret (l := [sl cCl [], .agg [iv 0, iv 0], bv false]) rfl ⟨by rw [if_neg (by omega)]; rfl, rfl⟩
theorem rx_touchV {m : List Cl} {j : Nat} {t : Int} {r : List Tg} {n : Nat} {N : Nat} {Q : Exit → AS → Prop} {all : Array Oper} {rest : List Oper} {tsl : List (Nat × AV)} {hsl : List (Nat × Option (List AV))} {nidl : Nat} {z0 : Lo} {md : Md} {d : Nat} {ty : TypeId} {pos : String} {af : Array Edge} {tys : Array TypeId} {x0 x1 x2 : Operand} {i0 i1 : Nat} (ha0 : ev (lk tsl) x0 = some (.own i0 0 n 4)) (ha1 : ev (lk tsl) x1 = some (.agg [iv (j : Int), iv t])) (ha2 : ev (lk tsl) x2 = some (bv true)) (hH0 : lkH hsl i0 = some (flat cCo (opn m j (.own i1 0 m[j]!.stk.length 2)))) (hH1 : lkH hsl i1 = some (flat cTg m[j]!.stk)) (hdd : Go.AL.distinct [i0, i1] = true) (hmc : MC Tryz.prog 165 [.own 0 0 n 4, .agg [iv (j : Int), iv t], bv true] [(0, some (flat cCo (opn m j (.own 1 0 m[j]!.stk.length 2)))), (1, some (flat cTg m[j]!.stk))] 2 (fun _ : Unit => True) (fun _ => iv 0) (fun _ => [(0, some (flat cCo (opn m j (.own 1 0 r.length 2)))), (1, some (flat cTg r))])) (hM : Nat.ble (nidl + 0) big = true) (hN : Nat.blt d N = true) {md' : Md} [hmd : MdA md (rOs [x0, x1, x2] ++ [.inr i0, .inr i1]) (List.map Sum.inr (List.map Prod.fst ([(i0, some (flat cCo (opn m j (.own i1 0 r.length 2)))), (i1, some (flat cTg r))] : List (Nat × Option (List AV)))) ++ [.inl d]) md'] (kk : RW Tryz.prog N all Q md' rest ⟨(d, iv 0) :: tsl, wrH hsl [(i0, some (flat cCo (opn m j (.own i1 0 r.length 2)))), (i1, some (flat cTg r))], nidl + 0, z0⟩) : RW Tryz.prog N all Q md (⟨some d, .call ⟨.value (.func 165), #[x0, x1, x2], tys⟩, ty, pos, af, none⟩ :: rest) ⟨tsl, hsl, nidl, z0⟩ := by
  refine rx_mcallE [i0, i1] 2 [(i0, some (flat cCo (opn m j (.own i1 0 r.length 2)))), (i1, some (flat cTg r))] hmc (avs := [.own i0 0 n 4, .agg [iv (j : Int), iv t], bv true]) ?_ hdd ?_ rfl ?_ (by simpa using hM) ?_ ?_ ?_ hN (md' := md') (hmd := hmd) kk
  · show evL (lk tsl) [x0, x1, x2] = _
    simp only [evL, ha0, ha1, ha2]
  · exact ⟨⟨_, _, rfl, hH0, by (repeat' (exact rn_opn rfl))⟩, ⟨⟨_, _, rfl, hH1, by (repeat' (exact RnL.purI inferInstance))⟩, trivial⟩⟩
  · (repeat' (first|exact RnL.purI inferInstance|exact RnV.own rfl|refine RnL.cons ?_ ?_))
  · (repeat' (exact RnV.purI inferInstance))
  · simp [wsAll]
  · (repeat' (first|exact trivial|(refine And.intro ⟨0, _, rfl, rfl, ?_⟩ ?_)|(refine And.intro ⟨1, _, rfl, rfl, ?_⟩ ?_)|exact RnL.purI inferInstance|exact rn_opn rfl))
theorem touchV_c (m : List Cl) (j : Nat) (t : Int) (r : List Tg) (k n : Nat) (hm : OkM m) (hn : n = m.length) (hj : j < m.length) (hk : tgIx m[j]!.stk t = (k : Int)) (hal : m[j]!.alive = true) (hu : m[j]!.stk[k]!.uq = true) (hre : m[j]!.stk.take (k + 1) = r) (hrk : k + 1 = r.length) : MC Tryz.prog 165 [.own 0 0 n 4, .agg [iv (j : Int), iv t], bv true] [(0, some (flat cCo (opn m j (.own 1 0 m[j]!.stk.length 2)))), (1, some (flat cTg m[j]!.stk))] 2 (fun _ : Unit => True) (fun _ => iv 0) (fun _ => [(0, some (flat cCo (opn m j (.own 1 0 r.length 2)))), (1, some (flat cTg r))]) := by
  have h := touchW_c m j t k n hm hn hj hk hal hu
  rw [hre, hrk] at h
  exact h
theorem lentF_c (m : List Cl) (hm : OkM m) (j k : Nat) (t : Int) (r : List Tg) (hj : j < m.length) (hkk : tgIx m[j]!.stk t = (k : Int)) (hk : tchK m ⟨(j : Int), t⟩ false = 0) (hr : r = tchS m[j]!.stk k false) : PC Tryz.prog 116 [sl cCl m, .agg [iv (j : Int), iv t], bv false] (fun z => z = .tup [sl cCl (pshM m m j false r), aPt (pshP m j r), iv (pshK m j r)]) := by
  have hml := hm.l
  obtain ⟨h1, h2, h3, h4, hu⟩ := tchK_in hk
  have hc := ((OkM_iff m).1 hm).2 j hj
  have hb := tgIx_bd m[j]!.stk t
  have hrl : r.length ≤ 200 := by rw [hr]; exact Nat.le_trans tchS_sub.length_le hc.l.2
  have hnx := hc.n
  obtain ⟨_, e2, _⟩ := lnK_0 hk (r := r) (by rw [hr]; show _ = tchS m[j]!.stk (tgIx m[j]!.stk t).toNat false;rw [hkk]; rfl)
  have e2' : lnM m ⟨(j : Int), t⟩ false = pshM m m j false r := e2
  have hok := hm.ln ⟨(j : Int), t⟩ false
  rw [e2'] at hok
  have hto := touchR_c m j t r k m.length hm rfl hj hkk h3 hr
  have hog := opn_get (m := m) (j := j) (X := .own (0 + 1 + 1 + 3 + 3) 0 r.length 2) hj
  have hol := opn_len (m := m) (j := j) (X := .own (0 + 1 + 1 + 3 + 3) 0 r.length 2)
  have hol2 := opn_len (m := m) (j := j) (X := .own (0 + 1 + 1 + 3 + 4 + 1) 0 (r.length + 1) 2)
  have hm2 : (m.set j { m[j]! with next := m[j]!.next + 1 }).length = m.length := List.length_set
  (refine pc_of_aw Tryz.func116 rfl (by simp [Tryz.ntmps116]) ?_; rw [Tryz.ntmps116])
  repeat' (first|(apply id_rw;first|((apply rx_ownO (j := j));(case ha0 => rfl);(case hmc => exact ownO_c m j hm hj);(case hM|hN => rfl))|((apply rx_touchR (m := m) (j := j) (t := t) (r := r) (n := m.length));(case ha0|ha1|ha2|hH0|hH1|hdd => rfl);(case hmc => exact hto);(case hM|hN => rfl))|(with_reducible apply rw_stop (d := 32))|(apply rx_move;rfl;rfl)|(first|(apply rx_loadFj;(case hx|hH => rfl);(case hf|hg|hα => infer_instance);(case hk => omega);(case hc|hN => rfl))|(apply rx_load1;rfl;rfl;rfl;rfl)|(apply rx_loadA;rfl;rfl;(exact (rfl:_=[_, _]));rfl;rfl;rfl))|(apply rx_fieldAddr;rfl;rfl;rfl)|(apply rx_bin;rfl;rfl;rfl;rfl)|(apply rx_assign;rfl;rfl)|(apply rx_indexON;rfl;rfl;(assumption);rfl)|(apply rw_nil;kernel_rfl)|(apply rx_nil;rfl;rfl;rfl)|(apply rx_box;rfl;rfl;rfl;rfl)|(apply rx_alloc;rfl;rfl))|(apply id_aw;first|apply aw_seq|apply aw_region|(apply aw_condF;rfl;(rfl))|apply aw_skip)|with_reducible apply tq_normal)
  refine rw_go ?_
  rw [hog]
  dsimp only
  by_cases hf : pshF m j r
  · have eM : pshM m m j false r = m := by unfold pshM; rw [if_pos hf]
    have eP : pshP m j r = ⟨0, 0⟩ := by unfold pshP;rw [if_pos hf]
    have eK : pshK m j r = 4 := by unfold pshK;rw [if_pos hf]
    rw [eM, eP, eK]
    unfold pshF at hf
    repeat' (first|(apply id_rw;first|(apply rx_ownC;rfl;exact ownC_c m hm;rfl;rfl)|(with_reducible apply rw_stop (d := 44))|(apply rx_move;rfl;rfl)|(apply rx_loadFj;(case hx|hH => rfl);(case hf|hg|hα => infer_instance);(case hk => omega);(case hc|hN => rfl))|(apply rx_fieldAddr;rfl;rfl;rfl)|(first|(apply rx_guardY;rfl;rfl;rfl;(assumption))|(apply rx_guardNs;rfl;rfl;rfl;(assumption))|(apply rx_guardS;(case hj|hb|hN => rfl);all_goals (intro hg;have hq := hg;(try simp only [bqs] at hq);(try (exfalso;omega)))))|(apply rx_bin;rfl;rfl;rfl;rfl)|(apply rx_assign;rfl;rfl)|(first|(apply rx_pickT;rfl;(assumption);rfl;rfl)|(apply rx_pickF;rfl;(assumption);rfl;rfl))|(apply rx_len;rfl;rfl;rfl)|(apply rw_nil;kernel_rfl)|(apply rx_buildK;rfl;(exact (rfl:_=some [_, _]));(exact (rfl:_=[_, _]));rfl)|(apply rx_nil;rfl;rfl;rfl)|(apply rx_store;rfl;rfl;rfl;rfl;rfl;(decide);(exact (rfl:_=[_, _]))))|(apply id_aw;first|apply aw_seq|apply aw_region|(apply aw_condT;rfl;(rfl))|(apply aw_cond;rfl;all_goals intro hc;have hq:=hc;(try simp only [bqs] at hq);try exfalso;omega)|apply aw_skip|apply aw_ret)|with_reducible apply tq_normal|with_reducible apply tq_ret)
    · refine rq_le (Le.frzD (d := 6) (i := 10) rfl rfl) ?_
      exact rq_ret (l := [sl cCl m, .agg [iv 0, iv 0], iv 4]) rfl ⟨rfl, by (exact Pur.pf)⟩
    · exfalso
      have h : ¬ (opn m j (.own (0 + 1 + 1 + 3 + 3) 0 r.length 2))[j]!.next = 1000 := by assumption
      rw [hog] at h
      dsimp only at h
      omega
    · refine rq_le (Le.frzD (d := 6) (i := 10) rfl rfl) ?_
      exact rq_ret (l := [sl cCl m, .agg [iv 0, iv 0], iv 4]) rfl ⟨rfl, by (exact Pur.pf)⟩
  · have eM : pshM m m j false r = m.set j (psh { m[j]! with stk := r } false) := by unfold pshM; rw [if_neg hf]
    have eP : pshP m j r = ⟨j, m[j]!.next⟩ := by unfold pshP;rw [if_neg hf]
    have eK : pshK m j r = 0 := by unfold pshK;rw [if_neg hf]
    rw [eM] at hok
    rw [eM, eP, eK]
    unfold pshF at hf
    have hown := ownC_c _ hok
    repeat' (first|(apply id_rw;first|(with_reducible apply rw_stop (d := 41))|(with_reducible apply rw_stop (d := 54))|(apply rx_move;rfl;rfl)|(apply rx_loadFj;(case hx|hH => rfl);(case hf|hg|hα => infer_instance);(case hk => omega);(case hc|hN => rfl))|(apply rx_fieldAddr;rfl;rfl;rfl)|(first|(apply rx_guardY;rfl;rfl;rfl;(assumption))|(apply rx_guardS;(case hj|hb|hN => rfl);all_goals (intro hg;have hq := hg;(try simp only [bqs] at hq);(try (exfalso;omega)))))|(apply rx_bin;rfl;rfl;rfl;rfl)|(apply rx_assign;rfl;rfl)|(apply rx_pickF;rfl;(assumption);rfl;rfl)|(apply rx_len;rfl;rfl;rfl)|(apply rw_nil;kernel_rfl)|(apply rx_nil;rfl;rfl;rfl))|(apply id_aw;first|apply aw_seq|apply aw_region|(apply aw_cond;rfl;all_goals intro hc;have hq:=hc;(try simp only [bqs] at hq);try exfalso;omega)|apply aw_skip)|with_reducible apply tq_normal)
    · exfalso
      have h : (opn m j (.own (0 + 1 + 1 + 3 + 3) 0 r.length 2))[j]!.next = 1000 := by assumption
      rw [hog] at h
      dsimp only at h
      omega
    · refine rw_go ?_
      rw [hog]
      dsimp only
      repeat' (first|(apply id_rw;first|(apply rx_store;rfl;rfl;rfl;rfl;rfl;(rw [flat_length, opn_len]; simp only [List.length_append, List.length_cons, List.length_nil]; omega);(first|exact st_opn hj|exact st_opnN hj))|(apply rx_move;rfl;rfl)|(apply rx_fieldAddr;rfl;rfl;rfl)|(apply rx_add;rfl;rfl;omega;rfl)|(apply rx_append;rfl;rfl;rfl;rfl;rfl;(rw [flat_length]; omega);(rfl);omega;omega;(exact app_tg (by (omega)));rfl;rfl)|(apply rw_nil;kernel_rfl)|(apply rx_buildK;rfl;(exact (rfl:_=some [_, _]));(exact (rfl:_=[_, _]));rfl)|(apply rx_nil;rfl;rfl;rfl)|((apply rx_buildSliceI (t := _));(case hze|hsm|hl => rfl);(case hfl => (exact (rfl:_=some [_, _])));(case hM|hN => rfl)))|(apply id_aw;(apply aw_seq))|with_reducible apply tq_normal)
      refine AW.le ?_ (Le.cls (o := 3) (q := 0 + 1 + 1 + 3 + 4 + 1) (j := j) (k := r.length + 1) (m := m.set j { m[j]! with next := m[j]!.next + 1 }) (r := r ++ [⟨m[j]!.next, false⟩]) rfl rfl (by (rw [List.length_append]; rfl)) (by omega) (by decide))
      refine AW.le ?_ (Le.frzD (d := 9) (i := 3) rfl rfl)
      have e : (m.set j { m[j]! with next := m[j]!.next + 1 }).set j { (m.set j { m[j]! with next := m[j]!.next + 1 })[j]! with stk := r ++ [⟨m[j]!.next, false⟩] } = m.set j (psh { m[j]! with stk := r } false) := by
        rw [get_set hj, set_set]; rfl
      rw [e, sl_len (f := cCl) (xs := m.set j (psh { m[j]! with stk := r } false)) (by rw [List.length_set])]
      repeat' (first|(apply id_rw;first|(apply rx_ownC;rfl;exact hown;rfl;rfl)|(apply rx_move;rfl;rfl)|(apply rx_load1;rfl;rfl;rfl;rfl)|(apply rx_fieldAddr;rfl;rfl;rfl)|(apply rx_assign;rfl;rfl)|(apply rw_nil;kernel_rfl)|(apply rx_buildK;rfl;(exact (rfl:_=some [_, _]));(exact (rfl:_=[_, _]));rfl)|(apply rx_store;rfl;rfl;rfl;rfl;rfl;(case hl => (simp;done));(exact (rfl:_=[_, _]))))|(apply id_aw;first|(apply aw_draw;kernel_rfl)|apply aw_ret)|with_reducible apply tq_normal)
      refine rq_le (Le.frzD (d := 6) (i := 12) rfl rfl) ?_
      exact rq_ret (l := [sl cCl (m.set j (psh { m[j]! with stk := r } false)), .agg [iv (j : Int), iv m[j]!.next], iv 0]) rfl ⟨rfl, by (exact Pur.pf)⟩
    all_goals (exfalso;omega)
theorem lentT_c (m : List Cl) (hm : OkM m) (j k : Nat) (t : Int) (r : List Tg) (hj : j < m.length) (hkk : tgIx m[j]!.stk t = (k : Int)) (hk : tchK m ⟨(j : Int), t⟩ true = 0) (hr : r = tchS m[j]!.stk k true) : PC Tryz.prog 116 [sl cCl m, .agg [iv (j : Int), iv t], bv true] (fun z => z = .tup [sl cCl (pshM m m j true r), aPt (pshP m j r), iv (pshK m j r)]) := by
  have hml := hm.l
  obtain ⟨h1, h2, h3, h4, hu⟩ := tchK_in hk
  have hc := ((OkM_iff m).1 hm).2 j hj
  have hb := tgIx_bd m[j]!.stk t
  have hrl : r.length ≤ 200 := by rw [hr]; exact Nat.le_trans tchS_sub.length_le hc.l.2
  have hnx := hc.n
  obtain ⟨_, e2, _⟩ := lnK_0 hk (r := r) (by rw [hr]; show _ = tchS m[j]!.stk (tgIx m[j]!.stk t).toNat true;rw [hkk]; rfl)
  have e2' : lnM m ⟨(j : Int), t⟩ true = pshM m m j true r := e2
  have hok := hm.ln ⟨(j : Int), t⟩ true
  rw [e2'] at hok
  have huk : m[j]!.stk[k]!.uq = true := by
    have h : m[j]!.stk[(tgIx m[j]!.stk t).toNat]!.uq = true := hu rfl
    rwa [hkk, Int.toNat_natCast] at h
  have hre : m[j]!.stk.take (k + 1) = r := by rw [hr]; unfold tchS;rw [if_pos rfl]
  have hrk : k + 1 = r.length := by rw [← hre, List.length_take]; omega
  have hto := touchV_c m j t r k m.length hm rfl hj hkk h3 huk hre hrk
  clear hre hrk huk hu hr hkk
  have hog := opn_get (m := m) (j := j) (X := .own (0 + 1 + 1 + 2) 0 r.length 2) hj
  have hol := opn_len (m := m) (j := j) (X := .own (0 + 1 + 1 + 2) 0 r.length 2)
  have hol2 := opn_len (m := m) (j := j) (X := .own (0 + 1 + 1 + 3 + 0 + 1) 0 (r.length + 1) 2)
  have hm2 : (m.set j { m[j]! with next := m[j]!.next + 1 }).length = m.length := List.length_set
  (refine pc_of_aw Tryz.func116 rfl (by simp [Tryz.ntmps116]) ?_; rw [Tryz.ntmps116])
  repeat' (first|(apply id_rw;first|((apply rx_ownO (j := j));(case ha0 => rfl);(case hmc => exact ownO_c m j hm hj);(case hM|hN => rfl))|((apply rx_touchV (m := m) (j := j) (t := t) (r := r) (n := m.length));(case ha0|ha1|ha2|hH0|hH1|hdd => rfl);(case hmc => exact hto);(case hM|hN => rfl))|(with_reducible apply rw_stop (d := 32))|(apply rx_move;rfl;rfl)|(first|(apply rx_loadFj;(case hx|hH => rfl);(case hf|hg|hα => infer_instance);(case hk => omega);(case hc|hN => rfl))|(apply rx_load1;rfl;rfl;rfl;rfl)|(apply rx_loadA;rfl;rfl;(exact (rfl:_=[_, _]));rfl;rfl;rfl))|(apply rx_fieldAddr;rfl;rfl;rfl)|(apply rx_bin;rfl;rfl;rfl;rfl)|(apply rx_assign;rfl;rfl)|(apply rx_indexON;rfl;rfl;(assumption);rfl)|(apply rw_nil;kernel_rfl)|(apply rx_nil;rfl;rfl;rfl)|(apply rx_box;rfl;rfl;rfl;rfl)|(apply rx_alloc;rfl;rfl))|(apply id_aw;first|apply aw_seq|apply aw_region|(apply aw_condF;rfl;(rfl))|apply aw_skip)|with_reducible apply tq_normal)
  refine rw_go ?_
  rw [hog]
  dsimp only
  by_cases hf : pshF m j r
  · have eM : pshM m m j true r = m := by unfold pshM; rw [if_pos hf]
    have eP : pshP m j r = ⟨0, 0⟩ := by unfold pshP;rw [if_pos hf]
    have eK : pshK m j r = 4 := by unfold pshK;rw [if_pos hf]
    rw [eM, eP, eK]
    unfold pshF at hf
    repeat' (first|(apply id_rw;first|(apply rx_ownC;rfl;exact ownC_c m hm;rfl;rfl)|(with_reducible apply rw_stop (d := 44))|(apply rx_move;rfl;rfl)|(apply rx_loadFj;(case hx|hH => rfl);(case hf|hg|hα => infer_instance);(case hk => omega);(case hc|hN => rfl))|(apply rx_fieldAddr;rfl;rfl;rfl)|(first|(apply rx_guardY;rfl;rfl;rfl;(assumption))|(apply rx_guardNs;rfl;rfl;rfl;(assumption))|(apply rx_guardS;(case hj|hb|hN => rfl);all_goals (intro hg;have hq := hg;(try simp only [bqs] at hq);(try (exfalso;omega)))))|(apply rx_bin;rfl;rfl;rfl;rfl)|(apply rx_assign;rfl;rfl)|(first|(apply rx_pickT;rfl;(assumption);rfl;rfl)|(apply rx_pickF;rfl;(assumption);rfl;rfl))|(apply rx_len;rfl;rfl;rfl)|(apply rw_nil;kernel_rfl)|(apply rx_buildK;rfl;(exact (rfl:_=some [_, _]));(exact (rfl:_=[_, _]));rfl)|(apply rx_nil;rfl;rfl;rfl)|(apply rx_store;rfl;rfl;rfl;rfl;rfl;(decide);(exact (rfl:_=[_, _]))))|(apply id_aw;first|apply aw_seq|apply aw_region|(apply aw_condT;rfl;(rfl))|(apply aw_cond;rfl;all_goals intro hc;have hq:=hc;(try simp only [bqs] at hq);try exfalso;omega)|apply aw_skip|apply aw_ret)|with_reducible apply tq_normal|with_reducible apply tq_ret)
    · refine rq_le (Le.frzD (d := 6) (i := 6) rfl rfl) ?_
      exact rq_ret (l := [sl cCl m, .agg [iv 0, iv 0], iv 4]) rfl ⟨rfl, by (exact Pur.pf)⟩
    · exfalso
      have h : ¬ (opn m j (.own (0 + 1 + 1 + 2) 0 r.length 2))[j]!.next = 1000 := by assumption
      rw [hog] at h
      dsimp only at h
      omega
    · refine rq_le (Le.frzD (d := 6) (i := 6) rfl rfl) ?_
      exact rq_ret (l := [sl cCl m, .agg [iv 0, iv 0], iv 4]) rfl ⟨rfl, by (exact Pur.pf)⟩
  · have eM : pshM m m j true r = m.set j (psh { m[j]! with stk := r } true) := by unfold pshM; rw [if_neg hf]
    have eP : pshP m j r = ⟨j, m[j]!.next⟩ := by unfold pshP;rw [if_neg hf]
    have eK : pshK m j r = 0 := by unfold pshK;rw [if_neg hf]
    rw [eM] at hok
    rw [eM, eP, eK]
    unfold pshF at hf
    have hown := ownC_c _ hok
    repeat' (first|(apply id_rw;first|(with_reducible apply rw_stop (d := 41))|(with_reducible apply rw_stop (d := 54))|(apply rx_move;rfl;rfl)|(apply rx_loadFj;(case hx|hH => rfl);(case hf|hg|hα => infer_instance);(case hk => omega);(case hc|hN => rfl))|(apply rx_fieldAddr;rfl;rfl;rfl)|(first|(apply rx_guardY;rfl;rfl;rfl;(assumption))|(apply rx_guardS;(case hj|hb|hN => rfl);all_goals (intro hg;have hq := hg;(try simp only [bqs] at hq);(try (exfalso;omega)))))|(apply rx_bin;rfl;rfl;rfl;rfl)|(apply rx_assign;rfl;rfl)|(apply rx_pickF;rfl;(assumption);rfl;rfl)|(apply rx_len;rfl;rfl;rfl)|(apply rw_nil;kernel_rfl)|(apply rx_nil;rfl;rfl;rfl))|(apply id_aw;first|apply aw_seq|apply aw_region|(apply aw_cond;rfl;all_goals intro hc;have hq:=hc;(try simp only [bqs] at hq);try exfalso;omega)|apply aw_skip)|with_reducible apply tq_normal)
    · exfalso
      have h : (opn m j (.own (0 + 1 + 1 + 2) 0 r.length 2))[j]!.next = 1000 := by assumption
      rw [hog] at h
      dsimp only at h
      omega
    · refine rw_go ?_
      rw [hog]
      dsimp only
      repeat' (first|(apply id_rw;first|(apply rx_store;rfl;rfl;rfl;rfl;rfl;(rw [flat_length, opn_len]; simp only [List.length_append, List.length_cons, List.length_nil]; omega);(first|exact st_opn hj|exact st_opnN hj))|(apply rx_move;rfl;rfl)|(apply rx_fieldAddr;rfl;rfl;rfl)|(apply rx_add;rfl;rfl;omega;rfl)|(apply rx_append;rfl;rfl;rfl;rfl;rfl;(rw [flat_length]; omega);(rfl);omega;omega;(exact app_tg (by (omega)));rfl;rfl)|(apply rw_nil;kernel_rfl)|(apply rx_buildK;rfl;(exact (rfl:_=some [_, _]));(exact (rfl:_=[_, _]));rfl)|(apply rx_nil;rfl;rfl;rfl)|((apply rx_buildSliceI (t := _));(case hze|hsm|hl => rfl);(case hfl => (exact (rfl:_=some [_, _])));(case hM|hN => rfl)))|(apply id_aw;(apply aw_seq))|with_reducible apply tq_normal)
      refine AW.le ?_ (Le.cls (o := 3) (q := 0 + 1 + 1 + 3 + 0 + 1) (j := j) (k := r.length + 1) (m := m.set j { m[j]! with next := m[j]!.next + 1 }) (r := r ++ [⟨m[j]!.next, true⟩]) rfl rfl (by (rw [List.length_append]; rfl)) (by omega) (by decide))
      refine AW.le ?_ (Le.frzD (d := 9) (i := 3) rfl rfl)
      have e : (m.set j { m[j]! with next := m[j]!.next + 1 }).set j { (m.set j { m[j]! with next := m[j]!.next + 1 })[j]! with stk := r ++ [⟨m[j]!.next, true⟩] } = m.set j (psh { m[j]! with stk := r } true) := by
        rw [get_set hj, set_set]; rfl
      rw [e, sl_len (f := cCl) (xs := m.set j (psh { m[j]! with stk := r } true)) (by rw [List.length_set])]
      repeat' (first|(apply id_rw;first|(apply rx_ownC;rfl;exact hown;rfl;rfl)|(apply rx_move;rfl;rfl)|(apply rx_load1;rfl;rfl;rfl;rfl)|(apply rx_fieldAddr;rfl;rfl;rfl)|(apply rx_assign;rfl;rfl)|(apply rw_nil;kernel_rfl)|(apply rx_buildK;rfl;(exact (rfl:_=some [_, _]));(exact (rfl:_=[_, _]));rfl)|(apply rx_store;rfl;rfl;rfl;rfl;rfl;(case hl => (simp;done));(exact (rfl:_=[_, _]))))|(apply id_aw;first|(apply aw_draw;kernel_rfl)|apply aw_ret)|with_reducible apply tq_normal)
      refine rq_le (Le.frzD (d := 6) (i := 8) rfl rfl) ?_
      exact rq_ret (l := [sl cCl (m.set j (psh { m[j]! with stk := r } true)), .agg [iv (j : Int), iv m[j]!.next], iv 0]) rfl ⟨rfl, by (exact Pur.pf)⟩
    all_goals (exfalso;omega)
theorem lentI_c (m : List Cl) (hm : OkM m) (x : Pt) (u : Bool) : PC Tryz.prog 116 [sl cCl m, aPt x, bv u] (fun r => r = .tup [sl cCl (lnM m x u), aPt (lnP m x u), iv (lnK m x u)]) := by
  have hml := hm.l
  by_cases hk : tchK m x u = 0
  · obtain ⟨c, t⟩ := x
    obtain ⟨h1, h2, h3, h4, hu⟩ := tchK_in hk
    obtain ⟨j, rfl⟩ := Int.eq_ofNat_of_zero_le (show 0 ≤ c from h1)
    have hj : j < m.length := by have : (j : Int) < m.length := h2;omega
    obtain ⟨k, hkk⟩ := Int.eq_ofNat_of_zero_le (show 0 ≤ tgIx m[j]!.stk t from h4)
    obtain ⟨r, hr⟩ : ∃ r, r = tchS m[j]!.stk k u := ⟨_, rfl⟩
    obtain ⟨e1, e2, e3⟩ := lnK_0 hk (r := r) (by rw [hr]; show _ = tchS m[j]!.stk (tgIx m[j]!.stk t).toNat u;rw [hkk]; rfl)
    rw [e1, e2, e3]
    cases u
    · exact lentF_c m hm j k t r hj hkk hk hr
    · exact lentT_c m hm j k t r hj hkk hk hr
  · obtain ⟨e1, e2, e3⟩ := lnK_n hk
    rw [e1, e2, e3]
    (refine pc_of_aw Tryz.func116 rfl (by simp [Tryz.ntmps116]) ?_; rw [Tryz.ntmps116])
    repeat' (first|(apply id_rw;first|(apply rx_ownC;rfl;exact ownC_c m hm;rfl;rfl)|((apply rx_touchN (m := m) (x := x) (wr := u) (n := m.length));(case ha0|ha1|ha2|hH0 => rfl);(case hmc => exact touchN_c m x u _ hm rfl hk);(case hM|hN => rfl))|(apply rx_move;rfl;rfl)|(apply rx_loadA;rfl;rfl;(exact (rfl:_=[_, _]));rfl;rfl;rfl)|(apply rx_bin;rfl;rfl;rfl;rfl)|(apply rx_assign;rfl;rfl)|(apply rw_nil;kernel_rfl)|(apply rx_buildK;rfl;(exact (rfl:_=some [_, _]));(exact (rfl:_=[_, _]));rfl)|(apply rx_box;rfl;rfl;rfl;rfl)|(apply rx_alloc;rfl;rfl)|(apply rx_store;rfl;rfl;rfl;rfl;rfl;(decide);(exact (rfl:_=[_, _]))))|(apply id_aw;first|apply aw_seq|apply aw_region|(apply aw_cond;rfl;all_goals intro hc;have hq:=hc;(try simp only [bqs] at hq);try exfalso;omega)|apply aw_ret)|with_reducible apply tq_normal|with_reducible apply tq_ret)
    refine rq_le (Le.frzD (d := 6) (i := 3) rfl rfl) ?_
    exact rq_ret (l := [sl cCl m, .agg [iv 0, iv 0], iv (tchK m x u)]) rfl ⟨rfl, by (exact Pur.pf)⟩
abbrev mO (ts : List Int) (bd : List AL.Stmt) (pts : List Pnt) (i1 i2 : Nat) (s : Mc) : List AV := [aG ts bd pts, .own i1 0 ts.length 4, sl cCl s.cells, .own i2 0 s.read.length 1]
theorem rx_mfree {ts : List Int} {bd : List AL.Stmt} {pts : List Pnt} {s : Mc} {v : Nat} {N : Nat} {Q : Exit → AS → Prop} {all : Array Oper} {rest : List Oper} {tsl : List (Nat × AV)} {hsl : List (Nat × Option (List AV))} {nidl : Nat} {z0 : Lo} {md : Md} {d : Nat} {ty : TypeId} {pos : String} {af : Array Edge} {tys : Array TypeId} {x0 x1 : Operand} {i0 i1 i2 : Nat} (ha0 : ev (lk tsl) x0 = some (.optr i0 0)) (ha1 : ev (lk tsl) x1 = some (iv (v : Int))) (hH0 : lkH hsl i0 = some (mO ts bd pts i1 i2 s)) (hH1 : lkH hsl i1 = some (flat cSl s.slots)) (hH2 : lkH hsl i2 = some (flat cI s.read)) (hdd : Go.AL.distinct [i0, i1, i2] = true) (hmc : MC Tryz.prog 120 [.optr 0 0, iv (v : Int)] [(0, some (mO ts bd pts 1 2 s)), (1, some (flat cSl s.slots)), (2, some (flat cI s.read))] 3 (fun _ : Unit => True) (fun _ => iv (goK (tchK s.cells s.slots[v]!.ptr true))) (fun _ => [(0, some ([aG ts bd pts, .own 1 0 ts.length 4, sl cCl (frM s.cells s.slots[v]!.ptr), .own 2 0 s.read.length 1])), (1, some (flat cSl s.slots)), (2, some (flat cI s.read))])) (hM : Nat.ble (nidl + 0) big = true) (hN : Nat.blt d N = true) {md' : Md} [hmd : MdA md (rOs [x0, x1] ++ [.inr i0, .inr i1, .inr i2]) (List.map Sum.inr (List.map Prod.fst ([(i0, some ([aG ts bd pts, .own i1 0 ts.length 4, sl cCl (frM s.cells s.slots[v]!.ptr), .own i2 0 s.read.length 1])), (i1, some (flat cSl s.slots)), (i2, some (flat cI s.read))] : List (Nat × Option (List AV)))) ++ [.inl d]) md'] (kk : RW Tryz.prog N all Q md' rest ⟨(d, iv (goK (tchK s.cells s.slots[v]!.ptr true))) :: tsl, wrH hsl [(i0, some ([aG ts bd pts, .own i1 0 ts.length 4, sl cCl (frM s.cells s.slots[v]!.ptr), .own i2 0 s.read.length 1])), (i1, some (flat cSl s.slots)), (i2, some (flat cI s.read))], nidl + 0, z0⟩) : RW Tryz.prog N all Q md (⟨some d, .call ⟨.value (.func 120), #[x0, x1], tys⟩, ty, pos, af, none⟩ :: rest) ⟨tsl, hsl, nidl, z0⟩ := by
  refine rx_mcallE [i0, i1, i2] 3 [(i0, some ([aG ts bd pts, .own i1 0 ts.length 4, sl cCl (frM s.cells s.slots[v]!.ptr), .own i2 0 s.read.length 1])), (i1, some (flat cSl s.slots)), (i2, some (flat cI s.read))] hmc (avs := [.optr i0 0, iv (v : Int)]) ?_ hdd ?_ rfl ?_ (by simpa using hM) ?_ ?_ ?_ hN (md' := md') (hmd := hmd) kk
  · show evL (lk tsl) [x0, x1] = _
    simp only [evL, ha0, ha1]
  · exact ⟨⟨_, _, rfl, hH0, by (repeat' (first|exact RnL.purI inferInstance|exact RnV.purI inferInstance|exact RnV.own rfl|refine RnL.cons ?_ ?_))⟩, ⟨⟨_, _, rfl, hH1, by (repeat' (exact RnL.purI inferInstance))⟩, ⟨⟨_, _, rfl, hH2, by (repeat' (exact RnL.purI inferInstance))⟩, trivial⟩⟩⟩
  · (repeat' (first|exact RnL.purI inferInstance|exact RnV.optr rfl|refine RnL.cons ?_ ?_))
  · (repeat' (exact RnV.purI inferInstance))
  · simp [wsAll]
  · (repeat' (first|exact trivial|(refine And.intro ⟨0, _, rfl, rfl, ?_⟩ ?_)|(refine And.intro ⟨1, _, rfl, rfl, ?_⟩ ?_)|(refine And.intro ⟨2, _, rfl, rfl, ?_⟩ ?_)|exact RnL.purI inferInstance|exact RnV.purI inferInstance|exact RnV.own rfl|refine RnL.cons ?_ ?_))
theorem mfree_c (ts : List Int) (bd : List AL.Stmt) (pts : List Pnt) (s : Mc) (v : Nat) (hm : OkM s.cells) (hsl : s.slots.length = ts.length) (hv : v < ts.length) : MC Tryz.prog 120 [.optr 0 0, iv (v : Int)] [(0, some (mO ts bd pts 1 2 s)), (1, some (flat cSl s.slots)), (2, some (flat cI s.read))] 3 (fun _ : Unit => True) (fun _ => iv (goK (tchK s.cells s.slots[v]!.ptr true))) (fun _ => [(0, some ([aG ts bd pts, .own 1 0 ts.length 4, sl cCl (frM s.cells s.slots[v]!.ptr), .own 2 0 s.read.length 1])), (1, some (flat cSl s.slots)), (2, some (flat cI s.read))]) := by
  have hfc := FreeCellI_c s.cells hm s.slots[v]!.ptr
  (refine mc_of_aw Tryz.func120 rfl (by simp [Tryz.ntmps120]) ?_; rw [Tryz.ntmps120])
  repeat' (first|(apply id_rw;first|(apply rx_loadFP;(case hx|hH => rfl);(case hf|hg|hα => infer_instance);(case hk => omega);(case hj => decide);(case hc => exact (rfl:_=[_, _]));(case h0|hN => rfl))|((with_reducible apply rx_callE (k := 166));(case ha => rfl);(case h => exact hfc);(case hp => (exact Pur.pf));(case hN => rfl))|(apply rx_move;rfl;rfl)|(apply rx_load1;rfl;rfl;rfl;rfl)|(apply rx_fieldAddr;rfl;rfl;rfl)|(apply rx_bin;rfl;rfl;rfl;rfl)|(apply rx_assign;rfl;rfl)|(apply rx_indexON;rfl;rfl;(assumption);rfl)|((with_reducible apply rx_callE (k := 117));(case ha => rfl);(case h => (apply endOf_c <;> (fail)));(case hp => (rfl));(case hN => rfl))|(apply rw_nil;kernel_rfl)|(apply rx_nil;rfl;rfl;rfl)|(apply rx_extract;rfl;rfl;rfl)|(apply rx_store;rfl;rfl;rfl;rfl;rfl;(case hl => (simp;done));(exact (rfl:_=[_, _, _, _]))))|(apply id_aw;first|apply aw_seq|apply aw_region|(apply aw_draw;kernel_rfl)|(apply aw_cond;rfl;all_goals intro hc;have hq:=hc;(try simp only [bqs] at hq);try exfalso;omega)|apply aw_skip|apply aw_ret)|with_reducible apply tq_normal|with_reducible apply tq_ret)
  · have hk : ¬ tchK s.cells s.slots[v]!.ptr true = 0 := by assumption
    (refine rq_ret rfl ?_; refine mc_ret () trivial ?_ ⟨.inr (Eq.trans (b := some _) rfl ?_), ⟨.inr (Eq.trans (b := some _) rfl ?_), ⟨.inr (Eq.trans (b := some _) rfl ?_), trivial⟩⟩⟩)
    · show iv (endK _) = iv (goK _)
      unfold goK;rw [if_neg hk]
    · rfl
    · rfl
    · rfl
  · have hk : tchK s.cells s.slots[v]!.ptr true = 0 := by assumption
    (refine rq_ret rfl ?_; refine mc_ret () trivial ?_ ⟨.inr (Eq.trans (b := some _) rfl ?_), ⟨.inr (Eq.trans (b := some _) rfl ?_), ⟨.inr (Eq.trans (b := some _) rfl ?_), trivial⟩⟩⟩)
    · rw [hk]; rfl
    · rfl
    · rfl
    · rfl
theorem mput_c (ts : List Int) (bd : List AL.Stmt) (pts : List Pnt) (s : Mc) (v : Nat) (y : Sl) (hm : OkM s.cells) (hsl : s.slots.length = ts.length) (hv : v < ts.length) : MC Tryz.prog 113 [.optr 0 0, iv (v : Int), aSl y] [(0, some (mO ts bd pts 1 2 s)), (1, some (flat cSl s.slots)), (2, some (flat cI s.read))] 3 (fun _ : Unit => True) (fun _ => iv (putF ts s v y).2) (fun _ => [(0, some (mO ts bd pts 1 2 (putF ts s v y).1)), (1, some (flat cSl (putF ts s v y).1.slots)), (2, some (flat cI (putF ts s v y).1.read))]) := by
  have hfr := mfree_c ts bd pts s v hm hsl hv
  (refine mc_of_aw Tryz.func113 rfl (by simp [Tryz.ntmps113]) ?_; rw [Tryz.ntmps113])
  repeat' (first|(apply id_rw;first|((apply rx_mfree (ts := ts) (bd := bd) (pts := pts) (s := s) (v := v));(case ha0|ha1|hH0|hH1|hH2|hdd => rfl);(case hmc => exact hfr);(case hM|hN => rfl))|(apply rx_move;rfl;rfl)|(first|(apply rx_loadFj;(case hx|hH => rfl);(case hf|hg|hα => infer_instance);(case hk => omega);(case hc|hN => rfl))|(apply rx_load1;rfl;rfl;rfl;rfl)|(apply rx_loadA;rfl;rfl;(exact (rfl:_=[_, _, _, _]));rfl;rfl;rfl))|(apply rx_fieldAddr;rfl;rfl;rfl)|(first|(apply rx_guardY;rfl;rfl;rfl;(assumption))|(apply rx_guardNs;rfl;rfl;rfl;(assumption))|(apply rx_guardS;(case hj|hb|hN => rfl);all_goals (intro hg;have hq := hg;(try simp only [bqs] at hq);(try (exfalso;omega)))))|(apply rx_bin;rfl;rfl;rfl;rfl)|(apply rx_assign;rfl;rfl)|(first|(apply rx_pickT;rfl;(assumption);rfl;rfl)|(apply rx_pickF;rfl;(assumption);rfl;rfl))|(first|(apply rx_indexFN;(case hx|hi => rfl);(case hm => (assumption));(case hml => (rfl));(case hα | hf|hg => infer_instance);(case hN => rfl))|(apply rx_indexON;rfl;rfl;(assumption);rfl))|(apply rw_nil;kernel_rfl)|(apply rx_nil;rfl;rfl;rfl)|(apply rx_box;rfl;rfl;rfl;rfl)|(apply rx_store;rfl;rfl;rfl;rfl;rfl;(rw [flat_length]; simp only [lns] <;> omega);(exact st_sl (by (omega)))))|(apply id_aw;first|apply aw_seq|apply aw_region|(apply aw_draw;kernel_rfl)|(apply aw_condF;rfl;(rfl))|(apply aw_cond;rfl;all_goals intro hc;have hq:=hc;(try simp only [bqs] at hq);try exfalso;omega)|apply aw_skip|apply aw_ret)|with_reducible apply tq_normal)
  · have hp : putF ts s v y = (⟨s.slots.set v y, frM s.cells s.slots[v]!.ptr, s.read⟩, goK (tchK s.cells s.slots[v]!.ptr true)) := if_pos ⟨by assumption, by assumption⟩
    rw [hp]
    (refine rq_ret rfl ?_; refine mc_ret () trivial ?_ ⟨.inr (Eq.trans (b := some _) rfl ?_), ⟨.inr (Eq.trans (b := some _) rfl ?_), ⟨.inr (Eq.trans (b := some _) rfl ?_), trivial⟩⟩⟩)
    · rfl
    · rfl
    · rfl
    · rfl
  all_goals (
    have hp : putF ts s v y = (⟨s.slots.set v y, s.cells, s.read⟩, -1) := if_neg (by
      rintro ⟨q1, q2⟩
      first|(exact (by assumption : ¬ ts[v]! = 2) q1)|(rw [(by assumption : s.slots[v]!.set = false)] at q2;exact absurd q2 (by decide)))
    rw [hp]
    (refine rq_ret rfl ?_; refine mc_ret () trivial ?_ ⟨.inr (Eq.trans (b := some _) rfl ?_), ⟨.inr (Eq.trans (b := some _) rfl ?_), ⟨.inr (Eq.trans (b := some _) rfl ?_), trivial⟩⟩⟩)
    · rfl
    · rfl
    · rfl
    · rfl)
theorem rx_mfin {ts : List Int} {bd : List AL.Stmt} {pts : List Pnt} {s : Mc} {N : Nat} {Q : Exit → AS → Prop} {all : Array Oper} {rest : List Oper} {tsl : List (Nat × AV)} {hsl : List (Nat × Option (List AV))} {nidl : Nat} {z0 : Lo} {md : Md} {d : Nat} {ty : TypeId} {pos : String} {af : Array Edge} {tys : Array TypeId} {x0 : Operand} {i0 i1 i2 : Nat} (ha0 : ev (lk tsl) x0 = some (.optr i0 0)) (hH0 : lkH hsl i0 = some (mO ts bd pts i1 i2 s)) (hH1 : lkH hsl i1 = some (flat cSl s.slots)) (hH2 : lkH hsl i2 = some (flat cI s.read)) (hdd : Go.AL.distinct [i0, i1, i2] = true) (hmc : MC Tryz.prog 121 [.optr 0 0] [(0, some (mO ts bd pts 1 2 s)), (1, some (flat cSl s.slots)), (2, some (flat cI s.read))] 3 (fun _ : Unit => True) (fun _ => iv (finF ts ts.length 0 s).2) (fun _ => [(0, some (mO ts bd pts 1 2 (finF ts ts.length 0 s).1)), (1, some (flat cSl (finF ts ts.length 0 s).1.slots)), (2, some (flat cI (finF ts ts.length 0 s).1.read))])) (hM : Nat.ble (nidl + 0) big = true) (hN : Nat.blt d N = true) {md' : Md} [hmd : MdA md (rOs [x0] ++ [.inr i0, .inr i1, .inr i2]) (List.map Sum.inr (List.map Prod.fst ([(i0, some (mO ts bd pts i1 i2 (finF ts ts.length 0 s).1)), (i1, some (flat cSl (finF ts ts.length 0 s).1.slots)), (i2, some (flat cI (finF ts ts.length 0 s).1.read))] : List (Nat × Option (List AV)))) ++ [.inl d]) md'] (kk : RW Tryz.prog N all Q md' rest ⟨(d, iv (finF ts ts.length 0 s).2) :: tsl, wrH hsl [(i0, some (mO ts bd pts i1 i2 (finF ts ts.length 0 s).1)), (i1, some (flat cSl (finF ts ts.length 0 s).1.slots)), (i2, some (flat cI (finF ts ts.length 0 s).1.read))], nidl + 0, z0⟩) : RW Tryz.prog N all Q md (⟨some d, .call ⟨.value (.func 121), #[x0], tys⟩, ty, pos, af, none⟩ :: rest) ⟨tsl, hsl, nidl, z0⟩ := by
  refine rx_mcallE [i0, i1, i2] 3 [(i0, some (mO ts bd pts i1 i2 (finF ts ts.length 0 s).1)), (i1, some (flat cSl (finF ts ts.length 0 s).1.slots)), (i2, some (flat cI (finF ts ts.length 0 s).1.read))] hmc (avs := [.optr i0 0]) ?_ hdd ?_ rfl ?_ (by simpa using hM) ?_ ?_ ?_ hN (md' := md') (hmd := hmd) kk
  · show evL (lk tsl) [x0] = _
    simp only [evL, ha0]
  · exact ⟨⟨_, _, rfl, hH0, by (repeat' (first|exact RnL.purI inferInstance|exact RnV.purI inferInstance|exact RnV.own rfl|refine RnL.cons ?_ ?_))⟩, ⟨⟨_, _, rfl, hH1, by (repeat' (exact RnL.purI inferInstance))⟩, ⟨⟨_, _, rfl, hH2, by (repeat' (exact RnL.purI inferInstance))⟩, trivial⟩⟩⟩
  · (repeat' (first|exact RnL.purI inferInstance|exact RnV.optr rfl|refine RnL.cons ?_ ?_))
  · (repeat' (exact RnV.purI inferInstance))
  · simp [wsAll]
  · (repeat' (first|exact trivial|(refine And.intro ⟨0, _, rfl, rfl, ?_⟩ ?_)|(refine And.intro ⟨1, _, rfl, rfl, ?_⟩ ?_)|(refine And.intro ⟨2, _, rfl, rfl, ?_⟩ ?_)|exact RnL.purI inferInstance|exact RnV.purI inferInstance|exact RnV.own rfl|refine RnL.cons ?_ ?_))
theorem mfin_c (ts : List Int) (bd : List AL.Stmt) (pts : List Pnt) (s : Mc) (hm : OkM s.cells) (hsl : s.slots.length = ts.length) (hl : ts.length ≤ 1000000) : MC Tryz.prog 121 [.optr 0 0] [(0, some (mO ts bd pts 1 2 s)), (1, some (flat cSl s.slots)), (2, some (flat cI s.read))] 3 (fun _ : Unit => True) (fun _ => iv (finF ts ts.length 0 s).2) (fun _ => [(0, some (mO ts bd pts 1 2 (finF ts ts.length 0 s).1)), (1, some (flat cSl (finF ts ts.length 0 s).1.slots)), (2, some (flat cI (finF ts ts.length 0 s).1.read))]) := by
  (refine mc_of_aw Tryz.func121 rfl (by simp [Tryz.ntmps121]) ?_; rw [Tryz.ntmps121])
  repeat' (first|(apply id_rw;first|(apply rx_move;rfl;rfl)|(apply rx_load1;rfl;rfl;rfl;rfl)|(apply rx_fieldAddr;rfl;rfl;rfl)|(apply rx_assign;rfl;rfl)|(apply rx_len;rfl;rfl;rfl)|(apply rw_nil;kernel_rfl)|(apply rx_nil;rfl;rfl;rfl))|(apply id_aw;first|apply aw_seq|apply aw_region|apply aw_block)|with_reducible apply tq_normal)
  refine aw_loopK (σ := Nat × Mc) [0, 13, 14] [(0, _), (13, _), (14, _)] [] [] (fun k => [(15, iv (k.1 : Int))]) (fun k => [(0, some (mO ts bd pts 1 2 k.2)), (1, some (flat cSl k.2.slots)), (2, some (flat cI k.2.read))]) (fun k => k.1 ≤ ts.length ∧ finF ts (ts.length - k.1) k.1 k.2 = finF ts ts.length 0 s ∧ OkM k.2.cells ∧ k.2.slots.length = ts.length) (fun k => ts.length - k.1) (0, s) ⟨Nat.zero_le _, rfl, hm, hsl⟩ rfl rfl (by repeat' (first|exact trivial|refine And.intro rfl ?_)) (by repeat' (first|exact trivial|refine And.intro (.inr rfl) ?_)) ?_
  rintro ⟨v, q⟩ ⟨hv, hf, hmq, hlq⟩
  dsimp only at hv hf hmq hlq ⊢
  by_cases hvn : v < ts.length
  · have hfr := mfree_c ts bd pts q v hmq hlq hvn
    repeat' (first|(apply id_rw;first|((apply rx_mfree (ts := ts) (bd := bd) (pts := pts) (s := q) (v := v));(case ha0|ha1|hH0|hH1|hH2|hdd => rfl);(case hmc => exact hfr);(case hM|hN => rfl))|(apply rx_move;rfl;rfl)|(first|(apply rx_loadFj;(case hx|hH => rfl);(case hf|hg|hα => infer_instance);(case hk => omega);(case hc|hN => rfl))|(apply rx_load1;rfl;rfl;rfl;rfl))|(apply rx_fieldAddr;rfl;rfl;rfl)|(first|(apply rx_guardY;rfl;rfl;rfl;(assumption))|(apply rx_guardNs;rfl;rfl;rfl;(assumption))|(apply rx_guardS;(case hj|hb|hN => rfl);all_goals (intro hg;have hq := hg;(try simp only [bqs] at hq);(try (exfalso;omega)))))|(first|(apply rx_add;rfl;rfl;omega;rfl)|(apply rx_bin;rfl;rfl;rfl;rfl))|(apply rx_assign;rfl;rfl)|(first|(apply rx_pickT;rfl;(assumption);rfl;rfl)|(apply rx_pickF;rfl;(assumption);rfl;rfl))|(first|(apply rx_indexFN;(case hx|hi => rfl);(case hm => (assumption));(case hml => (rfl));(case hα | hf|hg => infer_instance);(case hN => rfl))|(apply rx_indexON;rfl;rfl;(assumption);rfl))|(apply rw_nil;kernel_rfl)|(apply rx_buildK;rfl;(exact (rfl:_=some [_, _, _, _]));(exact (rfl:_=[_, _, _, _]));rfl)|(apply rx_not;rfl;rfl)|(apply rx_nil;rfl;rfl;rfl)|(apply rx_store;rfl;rfl;rfl;rfl;rfl;(rw [flat_length]; simp only [lns] <;> omega);(exact st_sl (by (omega)))))|(apply id_aw;first|apply aw_seq|apply aw_region|(apply aw_condT;rfl;(rfl))|(apply aw_cond;rfl;all_goals intro hc;have hq:=hc;(try simp only [bqs] at hq);try exfalso;omega)|apply aw_block|apply aw_skip|apply aw_exit|apply aw_ret)|with_reducible apply tq_normal|with_reducible apply tq_ret|with_reducible apply tq_exit|with_reducible apply bq_normal|with_reducible apply bq_ret|with_reducible apply bq_here)
    · (apply ex3 (v + 1, q); focus (refine Le.ren [] rfl (by decide) ?_ ?_ <;> repeat' (first | exact trivial | refine And.intro ⟨_, rfl, ?_⟩ ?_ | refine And.intro ⟨_, _, rfl, rfl, ?_⟩ ?_ | exact Or.inr rfl | refine Or.inl ⟨?_, (by first | rfl | exact pur_sl _ _ | exact Pur.pf)⟩ | refine Or.inr (All2.cons ?_ ?_) | refine All2.cons ?_ ?_ | exact All2.nil | rfl)))
      · refine ⟨by omega, ?_, hmq, hlq⟩
        dsimp only
        rw [← hf, show ts.length - v = (ts.length - (v + 1)) + 1 by omega, finF_s (fun h => by
          have h2 : q.slots[v]!.set = false := by assumption
          rw [h2] at h;exact absurd h.2 (by decide))]
      · dsimp only;omega
    · have hk : ¬ tchK q.cells q.slots[v]!.ptr true = 0 := fun h => by
        have h2 : ¬ goK (tchK q.cells q.slots[v]!.ptr true) = -1 := by assumption
        rw [h] at h2;exact h2 rfl
      have hq2 : finF ts ts.length 0 s = (⟨q.slots, frM q.cells q.slots[v]!.ptr, q.read⟩, endK (tchK q.cells q.slots[v]!.ptr true)) := by
        rw [← hf, show ts.length - v = (ts.length - (v + 1)) + 1 by omega, finF_e ⟨by assumption, by assumption⟩ hk]
      rw [hq2]
      (refine rq_ret rfl ?_; refine mc_ret () trivial ?_ ⟨.inr (Eq.trans (b := some _) rfl ?_), ⟨.inr (Eq.trans (b := some _) rfl ?_), ⟨.inr (Eq.trans (b := some _) rfl ?_), trivial⟩⟩⟩)
      · show iv (goK _) = iv (endK _)
        unfold goK;rw [if_neg hk]
      · rfl
      · rfl
      · rfl
    · have hk : tchK q.cells q.slots[v]!.ptr true = 0 := by
        have h2 : goK (tchK q.cells q.slots[v]!.ptr true) = -1 := by assumption
        unfold goK at h2
        by_cases h : tchK q.cells q.slots[v]!.ptr true = 0
        · exact h
        · rw [if_neg h] at h2;unfold endK at h2;split at h2 <;> cases h2
      have hls : (q.slots.set v sl0).length = q.slots.length := List.length_set
      (apply ex3 (v + 1, ⟨q.slots.set v sl0, frM q.cells q.slots[v]!.ptr, q.read⟩);focus (refine Le.ren [] rfl (by decide) ?_ ?_ <;> repeat' (first|exact trivial|refine And.intro ⟨_, rfl, ?_⟩ ?_|refine And.intro ⟨_, _, rfl, rfl, ?_⟩ ?_|exact Or.inr rfl|refine Or.inl ⟨?_, (by first|rfl|exact pur_sl _ _|exact Pur.pf)⟩|refine Or.inr (All2.cons ?_ ?_)|refine All2.cons ?_ ?_|exact All2.nil|rfl)))
      · refine ⟨by dsimp only; omega, ?_, hmq.fr _, by show (q.slots.set v sl0).length = _; rw [List.length_set]; exact hlq⟩
        dsimp only
        rw [← hf, show ts.length - v = (ts.length - (v + 1)) + 1 by omega, finF_f ⟨by assumption, by assumption⟩ hk]
      · dsimp only;omega
    · (apply ex3 (v + 1, q); focus (refine Le.ren [] rfl (by decide) ?_ ?_ <;> repeat' (first | exact trivial | refine And.intro ⟨_, rfl, ?_⟩ ?_ | refine And.intro ⟨_, _, rfl, rfl, ?_⟩ ?_ | exact Or.inr rfl | refine Or.inl ⟨?_, (by first | rfl | exact pur_sl _ _ | exact Pur.pf)⟩ | refine Or.inr (All2.cons ?_ ?_) | refine All2.cons ?_ ?_ | exact All2.nil | rfl)))
      · refine ⟨by omega, ?_, hmq, hlq⟩
        dsimp only
        rw [← hf, show ts.length - v = (ts.length - (v + 1)) + 1 by omega, finF_s (fun h => by
          have h2 : ¬ ts[v]! = 2 := by assumption
          exact h2 h.1)]
      · dsimp only;omega
  · have hve : v = ts.length := by omega
    have hq2 : finF ts ts.length 0 s = (q, 0) := by rw [← hf, hve, Nat.sub_self]; rfl
    repeat' (first|(apply id_rw;first|(apply rx_bin;rfl;rfl;rfl;rfl)|(apply rx_assign;rfl;rfl)|(apply rw_nil;kernel_rfl))|(apply id_aw;first|apply aw_seq|apply aw_region|(apply aw_cond;rfl;all_goals intro hc;have hq:=hc;(try simp only [bqs] at hq);try exfalso;omega)|apply aw_exit|apply aw_ret)|with_reducible apply tq_normal|with_reducible apply tq_exit|with_reducible apply bq_here)
    rw [hq2]
    (refine rq_ret rfl ?_; refine mc_ret () trivial ?_ ⟨.inr (Eq.trans (b := some _) rfl ?_), ⟨.inr (Eq.trans (b := some _) rfl ?_), ⟨.inr (Eq.trans (b := some _) rfl ?_), trivial⟩⟩⟩)
    · rfl
    · rfl
    · rfl
    · rfl
def dxF (ts : List Int) (s : Mc) (x : Pnt) : Mc × Int := if unsF ts s x = true then (s, 2) else doF ts s x
theorem dx_u {ts : List Int} {s : Mc} {x : Pnt} (h : unsF ts s x = true) : dxF ts s x = (s, 2) := if_pos h
theorem dx_n {ts : List Int} {s : Mc} {x : Pnt} (h : unsF ts s x = false) : dxF ts s x = doF ts s x := if_neg (by rw [h]; decide)
theorem bits_lt {ts : List Int} {x : Pnt} {v : Int} (h : v ∈ bitsI (wS ts x [1, 2, 3])) : 0 ≤ v ∧ v < ts.length := by
  obtain ⟨v', h3, h4, rfl⟩ := mem_bitsI.1 h
  rw [testBit_wS, Bool.and_eq_true, decide_eq_true_eq] at h4
  omega
theorem uns_bits {ts : List Int} {s : Mc} {x : Pnt} (htl : ts.length ≤ 6) : unsF ts s x = true ↔ ∃ v ∈ bitsI (wS ts x [1, 2, 3]), s.slots[v.toNat]!.set = false := by
  constructor
  · intro h
    obtain ⟨v, hv, hne, hs⟩ := uns_true h
    refine ⟨(v : Int), mem_bitsI.2 ⟨v, by omega, ?_, rfl⟩, hs⟩
    have hb := useAt_bd ts x v
    rw [testBit_wS, decide_eq_true hv, Bool.true_and, decide_eq_true_eq]
    simp only [List.mem_cons, List.not_mem_nil, or_false]; omega
  · rintro ⟨v, hv, hs⟩
    obtain ⟨v', h3, h4, rfl⟩ := mem_bitsI.1 hv
    rw [testBit_wS, Bool.and_eq_true, decide_eq_true_eq, decide_eq_true_eq] at h4
    unfold unsF
    refine List.any_eq_true.2 ⟨v', List.mem_range.2 h4.1, ?_⟩
    rw [Bool.and_eq_true, decide_eq_true_eq]
    refine ⟨fun e => ?_, by rw [show s.slots[v']!.set = false from hs]; rfl⟩
    have h5 := h4.2
    simp only [List.mem_cons, List.not_mem_nil, or_false] at h5;omega
theorem rx_mdo {ts : List Int} {bd : List AL.Stmt} {pts : List Pnt} {s : Mc} {x : Pnt} {N : Nat} {Q : Exit → AS → Prop} {all : Array Oper} {rest : List Oper} {tsl : List (Nat × AV)} {hsl : List (Nat × Option (List AV))} {nidl : Nat} {z0 : Lo} {md : Md} {d : Nat} {ty : TypeId} {pos : String} {af : Array Edge} {tys : Array TypeId} {x0 x1 : Operand} {i0 i1 i2 : Nat} (ha0 : ev (lk tsl) x0 = some (.optr i0 0)) (ha1 : ev (lk tsl) x1 = some (aPnt x)) (hH0 : lkH hsl i0 = some (mO ts bd pts i1 i2 s)) (hH1 : lkH hsl i1 = some (flat cSl s.slots)) (hH2 : lkH hsl i2 = some (flat cI s.read)) (hdd : Go.AL.distinct [i0, i1, i2] = true) (hmc : MC Tryz.prog 89 [.optr 0 0, aPnt x] [(0, some (mO ts bd pts 1 2 s)), (1, some (flat cSl s.slots)), (2, some (flat cI s.read))] 3 (fun _ : Unit => True) (fun _ => iv (dxF ts s x).2) (fun _ => [(0, some (mO ts bd pts 1 2 (dxF ts s x).1)), (1, some (flat cSl (dxF ts s x).1.slots)), (2, some (flat cI (dxF ts s x).1.read))])) (hM : Nat.ble (nidl + 0) big = true) (hN : Nat.blt d N = true) {md' : Md} [hmd : MdA md (rOs [x0, x1] ++ [.inr i0, .inr i1, .inr i2]) (List.map Sum.inr (List.map Prod.fst ([(i0, some (mO ts bd pts i1 i2 (dxF ts s x).1)), (i1, some (flat cSl (dxF ts s x).1.slots)), (i2, some (flat cI (dxF ts s x).1.read))] : List (Nat × Option (List AV)))) ++ [.inl d]) md'] (kk : RW Tryz.prog N all Q md' rest ⟨(d, iv (dxF ts s x).2) :: tsl, wrH hsl [(i0, some (mO ts bd pts i1 i2 (dxF ts s x).1)), (i1, some (flat cSl (dxF ts s x).1.slots)), (i2, some (flat cI (dxF ts s x).1.read))], nidl + 0, z0⟩) : RW Tryz.prog N all Q md (⟨some d, .call ⟨.value (.func 89), #[x0, x1], tys⟩, ty, pos, af, none⟩ :: rest) ⟨tsl, hsl, nidl, z0⟩ := by
  refine rx_mcallE [i0, i1, i2] 3 [(i0, some (mO ts bd pts i1 i2 (dxF ts s x).1)), (i1, some (flat cSl (dxF ts s x).1.slots)), (i2, some (flat cI (dxF ts s x).1.read))] hmc (avs := [.optr i0 0, aPnt x]) ?_ hdd ?_ rfl ?_ (by simpa using hM) ?_ ?_ ?_ hN (md' := md') (hmd := hmd) kk
  · show evL (lk tsl) [x0, x1] = _
    simp only [evL, ha0, ha1]
  · exact ⟨⟨_, _, rfl, hH0, by (repeat' (first|exact RnL.purI inferInstance|exact RnV.purI inferInstance|exact RnV.own rfl|refine RnL.cons ?_ ?_))⟩, ⟨⟨_, _, rfl, hH1, by (repeat' (exact RnL.purI inferInstance))⟩, ⟨⟨_, _, rfl, hH2, by (repeat' (exact RnL.purI inferInstance))⟩, trivial⟩⟩⟩
  · (repeat' (first|exact RnL.purI inferInstance|exact RnV.optr rfl|refine RnL.cons ?_ ?_))
  · (repeat' (exact RnV.purI inferInstance))
  · simp [wsAll]
  · (repeat' (first|exact trivial|(refine And.intro ⟨0, _, rfl, rfl, ?_⟩ ?_)|(refine And.intro ⟨1, _, rfl, rfl, ?_⟩ ?_)|(refine And.intro ⟨2, _, rfl, rfl, ?_⟩ ?_)|exact RnL.purI inferInstance|exact RnV.purI inferInstance|exact RnV.own rfl|refine RnL.cons ?_ ?_))
theorem rx_mputI {ts : List Int} {bd : List AL.Stmt} {pts : List Pnt} {s : Mc} {v : Int} {y : Sl} {N : Nat} {Q : Exit → AS → Prop} {all : Array Oper} {rest : List Oper} {tsl : List (Nat × AV)} {hsl : List (Nat × Option (List AV))} {nidl : Nat} {z0 : Lo} {md : Md} {d : Nat} {ty : TypeId} {pos : String} {af : Array Edge} {tys : Array TypeId} {x0 x1 x2 : Operand} {i0 i1 i2 : Nat} (ha0 : ev (lk tsl) x0 = some (.optr i0 0)) (ha1 : ev (lk tsl) x1 = some (iv v)) (ha2 : ev (lk tsl) x2 = some (aSl y)) (hH0 : lkH hsl i0 = some (mO ts bd pts i1 i2 s)) (hH1 : lkH hsl i1 = some (flat cSl s.slots)) (hH2 : lkH hsl i2 = some (flat cI s.read)) (hdd : Go.AL.distinct [i0, i1, i2] = true) (hmc : MC Tryz.prog 113 [.optr 0 0, iv v, aSl y] [(0, some (mO ts bd pts 1 2 s)), (1, some (flat cSl s.slots)), (2, some (flat cI s.read))] 3 (fun _ : Unit => True) (fun _ => iv (putF ts s v.toNat y).2) (fun _ => [(0, some (mO ts bd pts 1 2 (putF ts s v.toNat y).1)), (1, some (flat cSl (putF ts s v.toNat y).1.slots)), (2, some (flat cI (putF ts s v.toNat y).1.read))])) (hM : Nat.ble (nidl + 0) big = true) (hN : Nat.blt d N = true) {md' : Md} [hmd : MdA md (rOs [x0, x1, x2] ++ [.inr i0, .inr i1, .inr i2]) (List.map Sum.inr (List.map Prod.fst ([(i0, some (mO ts bd pts i1 i2 (putF ts s v.toNat y).1)), (i1, some (flat cSl (putF ts s v.toNat y).1.slots)), (i2, some (flat cI (putF ts s v.toNat y).1.read))] : List (Nat × Option (List AV)))) ++ [.inl d]) md'] (kk : RW Tryz.prog N all Q md' rest ⟨(d, iv (putF ts s v.toNat y).2) :: tsl, wrH hsl [(i0, some (mO ts bd pts i1 i2 (putF ts s v.toNat y).1)), (i1, some (flat cSl (putF ts s v.toNat y).1.slots)), (i2, some (flat cI (putF ts s v.toNat y).1.read))], nidl + 0, z0⟩) : RW Tryz.prog N all Q md (⟨some d, .call ⟨.value (.func 113), #[x0, x1, x2], tys⟩, ty, pos, af, none⟩ :: rest) ⟨tsl, hsl, nidl, z0⟩ := by
  refine rx_mcallE [i0, i1, i2] 3 [(i0, some (mO ts bd pts i1 i2 (putF ts s v.toNat y).1)), (i1, some (flat cSl (putF ts s v.toNat y).1.slots)), (i2, some (flat cI (putF ts s v.toNat y).1.read))] hmc (avs := [.optr i0 0, iv v, aSl y]) ?_ hdd ?_ rfl ?_ (by simpa using hM) ?_ ?_ ?_ hN (md' := md') (hmd := hmd) kk
  · show evL (lk tsl) [x0, x1, x2] = _
    simp only [evL, ha0, ha1, ha2]
  · exact ⟨⟨_, _, rfl, hH0, by (repeat' (first|exact RnL.purI inferInstance|exact RnV.purI inferInstance|exact RnV.own rfl|refine RnL.cons ?_ ?_))⟩, ⟨⟨_, _, rfl, hH1, by (repeat' (exact RnL.purI inferInstance))⟩, ⟨⟨_, _, rfl, hH2, by (repeat' (exact RnL.purI inferInstance))⟩, trivial⟩⟩⟩
  · (repeat' (first|exact RnL.purI inferInstance|exact RnV.optr rfl|refine RnL.cons ?_ ?_))
  · (repeat' (exact RnV.purI inferInstance))
  · simp [wsAll]
  · (repeat' (first|exact trivial|(refine And.intro ⟨0, _, rfl, rfl, ?_⟩ ?_)|(refine And.intro ⟨1, _, rfl, rfl, ?_⟩ ?_)|(refine And.intro ⟨2, _, rfl, rfl, ?_⟩ ?_)|exact RnL.purI inferInstance|exact RnV.purI inferInstance|exact RnV.own rfl|refine RnL.cons ?_ ?_))
theorem mputI_c (ts : List Int) (bd : List AL.Stmt) (pts : List Pnt) (s : Mc) (v : Int) (y : Sl) (hm : OkM s.cells) (hsl : s.slots.length = ts.length) (hv : 0 ≤ v ∧ v < ts.length) : MC Tryz.prog 113 [.optr 0 0, iv v, aSl y] [(0, some (mO ts bd pts 1 2 s)), (1, some (flat cSl s.slots)), (2, some (flat cI s.read))] 3 (fun _ : Unit => True) (fun _ => iv (putF ts s v.toNat y).2) (fun _ => [(0, some (mO ts bd pts 1 2 (putF ts s v.toNat y).1)), (1, some (flat cSl (putF ts s v.toNat y).1.slots)), (2, some (flat cI (putF ts s v.toNat y).1.read))]) := by
  have h := mput_c ts bd pts s v.toNat y hm hsl (by omega)
  rw [Int.toNat_of_nonneg hv.1] at h
  exact h
theorem rx_mfreeI {ts : List Int} {bd : List AL.Stmt} {pts : List Pnt} {s : Mc} {v : Int} {N : Nat} {Q : Exit → AS → Prop} {all : Array Oper} {rest : List Oper} {tsl : List (Nat × AV)} {hsl : List (Nat × Option (List AV))} {nidl : Nat} {z0 : Lo} {md : Md} {d : Nat} {ty : TypeId} {pos : String} {af : Array Edge} {tys : Array TypeId} {x0 x1 : Operand} {i0 i1 i2 : Nat} (ha0 : ev (lk tsl) x0 = some (.optr i0 0)) (ha1 : ev (lk tsl) x1 = some (iv v)) (hH0 : lkH hsl i0 = some (mO ts bd pts i1 i2 s)) (hH1 : lkH hsl i1 = some (flat cSl s.slots)) (hH2 : lkH hsl i2 = some (flat cI s.read)) (hdd : Go.AL.distinct [i0, i1, i2] = true) (hmc : MC Tryz.prog 120 [.optr 0 0, iv v] [(0, some (mO ts bd pts 1 2 s)), (1, some (flat cSl s.slots)), (2, some (flat cI s.read))] 3 (fun _ : Unit => True) (fun _ => iv (goK (tchK s.cells s.slots[v.toNat]!.ptr true))) (fun _ => [(0, some ([aG ts bd pts, .own 1 0 ts.length 4, sl cCl (frM s.cells s.slots[v.toNat]!.ptr), .own 2 0 s.read.length 1])), (1, some (flat cSl s.slots)), (2, some (flat cI s.read))])) (hM : Nat.ble (nidl + 0) big = true) (hN : Nat.blt d N = true) {md' : Md} [hmd : MdA md (rOs [x0, x1] ++ [.inr i0, .inr i1, .inr i2]) (List.map Sum.inr (List.map Prod.fst ([(i0, some ([aG ts bd pts, .own i1 0 ts.length 4, sl cCl (frM s.cells s.slots[v.toNat]!.ptr), .own i2 0 s.read.length 1])), (i1, some (flat cSl s.slots)), (i2, some (flat cI s.read))] : List (Nat × Option (List AV)))) ++ [.inl d]) md'] (kk : RW Tryz.prog N all Q md' rest ⟨(d, iv (goK (tchK s.cells s.slots[v.toNat]!.ptr true))) :: tsl, wrH hsl [(i0, some ([aG ts bd pts, .own i1 0 ts.length 4, sl cCl (frM s.cells s.slots[v.toNat]!.ptr), .own i2 0 s.read.length 1])), (i1, some (flat cSl s.slots)), (i2, some (flat cI s.read))], nidl + 0, z0⟩) : RW Tryz.prog N all Q md (⟨some d, .call ⟨.value (.func 120), #[x0, x1], tys⟩, ty, pos, af, none⟩ :: rest) ⟨tsl, hsl, nidl, z0⟩ := by
  refine rx_mcallE [i0, i1, i2] 3 [(i0, some ([aG ts bd pts, .own i1 0 ts.length 4, sl cCl (frM s.cells s.slots[v.toNat]!.ptr), .own i2 0 s.read.length 1])), (i1, some (flat cSl s.slots)), (i2, some (flat cI s.read))] hmc (avs := [.optr i0 0, iv v]) ?_ hdd ?_ rfl ?_ (by simpa using hM) ?_ ?_ ?_ hN (md' := md') (hmd := hmd) kk
  · show evL (lk tsl) [x0, x1] = _
    simp only [evL, ha0, ha1]
  · exact ⟨⟨_, _, rfl, hH0, by (repeat' (first|exact RnL.purI inferInstance|exact RnV.purI inferInstance|exact RnV.own rfl|refine RnL.cons ?_ ?_))⟩, ⟨⟨_, _, rfl, hH1, by (repeat' (exact RnL.purI inferInstance))⟩, ⟨⟨_, _, rfl, hH2, by (repeat' (exact RnL.purI inferInstance))⟩, trivial⟩⟩⟩
  · (repeat' (first|exact RnL.purI inferInstance|exact RnV.optr rfl|refine RnL.cons ?_ ?_))
  · (repeat' (exact RnV.purI inferInstance))
  · simp [wsAll]
  · (repeat' (first|exact trivial|(refine And.intro ⟨0, _, rfl, rfl, ?_⟩ ?_)|(refine And.intro ⟨1, _, rfl, rfl, ?_⟩ ?_)|(refine And.intro ⟨2, _, rfl, rfl, ?_⟩ ?_)|exact RnL.purI inferInstance|exact RnV.purI inferInstance|exact RnV.own rfl|refine RnL.cons ?_ ?_))
theorem mfreeI_c (ts : List Int) (bd : List AL.Stmt) (pts : List Pnt) (s : Mc) (v : Int) (hm : OkM s.cells) (hsl : s.slots.length = ts.length) (hv : 0 ≤ v ∧ v < ts.length) : MC Tryz.prog 120 [.optr 0 0, iv v] [(0, some (mO ts bd pts 1 2 s)), (1, some (flat cSl s.slots)), (2, some (flat cI s.read))] 3 (fun _ : Unit => True) (fun _ => iv (goK (tchK s.cells s.slots[v.toNat]!.ptr true))) (fun _ => [(0, some ([aG ts bd pts, .own 1 0 ts.length 4, sl cCl (frM s.cells s.slots[v.toNat]!.ptr), .own 2 0 s.read.length 1])), (1, some (flat cSl s.slots)), (2, some (flat cI s.read))]) := by
  have h := mfree_c ts bd pts s v.toNat hm hsl (by omega)
  rw [Int.toNat_of_nonneg hv.1] at h
  exact h
end Go.Proofs.YtlbbbmeadnelbaaGreat
