/-
  A part of the proofs over this program: rules and contracts of its functions (the contracts).
-/
import Derived.Test.YtlbbbmeadnelbaaGreatB05
set_option linter.unusedVariables false
set_option linter.unusedSimpArgs false
set_option maxHeartbeats 8000000
set_option maxRecDepth 4000
attribute [local irreducible] Go.AL.RW Go.AL.AW Go.AL.Stop
namespace Go.Proofs.YtlbbbmeadnelbaaGreat
open Go.AL Go.RowKit
theorem lentT_c (m : List Cl) (hm : OkM m) (j k : Nat) (t : Int) (r : List Tg) (hj : j < m.length) (hkk : tgIx m[j]!.stk t = (k : Int)) (hk : tchK m ⟨(j : Int), t⟩ true = 0) (hr : r = tchS m[j]!.stk k true) : PC Tryz.prog 116 [sl cCl m, .agg [iv (j : Int), iv t], bv true] (fun z => z = .tup [sl cCl (pshM m m j true r), aPt (pshP m j r), iv (pshK m j r)]) := by
  have hml := hm.l
  obtain ⟨h1, h2, h3, h4, hu⟩ := tchK_in hk
  have hc := ((OkM_iff m).1 hm).2 j hj
  have hb := tgIx_bd m[j]!.stk t
  have hrl : r.length ≤ 200 := by rw [hr]; exact Nat.le_trans tchS_sub.length_le hc.l.2
  have hnx := hc.n
  obtain ⟨_, e2, _⟩ := lnK_0 hk (r := r) (by rw [hr]; show _ = tchS m[j]!.stk (tgIx m[j]!.stk t).toNat true;rw [hkk]; rfl)
  have e2' : lnM m ⟨(j : Int), t⟩ true = pshM m m j true r := e2
  have hok := hm.ln ⟨(j : Int), t⟩ true
  rw [e2'] at hok
  have huk : m[j]!.stk[k]!.uq = true := by
    have h : m[j]!.stk[(tgIx m[j]!.stk t).toNat]!.uq = true := hu rfl
    rwa [hkk, Int.toNat_natCast] at h
  have hre : m[j]!.stk.take (k + 1) = r := by rw [hr]; unfold tchS;rw [if_pos rfl]
  have hrk : k + 1 = r.length := by rw [← hre, List.length_take]; omega
  have hto := touchV_c m j t r k m.length hm rfl hj hkk h3 huk hre hrk
  clear hre hrk huk hu hr hkk
  have hog := opn_get (m := m) (j := j) (X := .own (0 + 1 + 1 + 2) 0 r.length 2) hj
  have hol := opn_len (m := m) (j := j) (X := .own (0 + 1 + 1 + 2) 0 r.length 2)
  have hol2 := opn_len (m := m) (j := j) (X := .own (0 + 1 + 1 + 3 + 0 + 1) 0 (r.length + 1) 2)
  have hm2 : (m.set j { m[j]! with next := m[j]!.next + 1 }).length = m.length := List.length_set
  (refine pc_of_aw Tryz.func116 rfl (by simp [Tryz.ntmps116]) ?_; rw [Tryz.ntmps116])
  repeat' (first|(apply id_rw;first|((apply rx_ownO (j := j));(case ha0 => rfl);(case hmc => exact ownO_c m j hm hj);(case hM|hN => rfl))|((apply rx_touchV (m := m) (j := j) (t := t) (r := r) (n := m.length));(case ha0|ha1|ha2|hH0|hH1|hdd => rfl);(case hmc => exact hto);(case hM|hN => rfl))|(with_reducible apply rw_stop (d := 32))|(apply rx_move;rfl;rfl)|(first|(apply rx_loadFj;(case hx|hH => rfl);(case hf|hg|hα => infer_instance);(case hk => omega);(case hc|hN => rfl))|(apply rx_load1;rfl;rfl;rfl;rfl)|(apply rx_loadA;rfl;rfl;(exact (rfl:_=[_, _]));rfl;rfl;rfl))|(apply rx_fieldAddr;rfl;rfl;rfl)|(apply rx_bin;rfl;rfl;rfl;rfl)|(apply rx_assign;rfl;rfl)|(apply rx_indexON;rfl;rfl;(assumption);rfl)|(apply rw_nil;kernel_rfl)|(apply rx_nil;rfl;rfl;rfl)|(apply rx_box;rfl;rfl;rfl;rfl)|(apply rx_alloc;rfl;rfl))|(apply id_aw;first|apply aw_seq|apply aw_region|(apply aw_condF;rfl;(rfl))|apply aw_skip)|with_reducible apply tq_normal)
  refine rw_go ?_
  rw [hog]
  dsimp only
  by_cases hf : pshF m j r
  · have eM : pshM m m j true r = m := by unfold pshM; rw [if_pos hf]
    have eP : pshP m j r = ⟨0, 0⟩ := by unfold pshP;rw [if_pos hf]
    have eK : pshK m j r = 4 := by unfold pshK;rw [if_pos hf]
    rw [eM, eP, eK]
    unfold pshF at hf
    repeat' (first|(apply id_rw;first|(apply rx_ownC;rfl;exact ownC_c m hm;rfl;rfl)|(with_reducible apply rw_stop (d := 44))|(apply rx_move;rfl;rfl)|(apply rx_loadFj;(case hx|hH => rfl);(case hf|hg|hα => infer_instance);(case hk => omega);(case hc|hN => rfl))|(apply rx_fieldAddr;rfl;rfl;rfl)|(first|(apply rx_guardY;rfl;rfl;rfl;(assumption))|(apply rx_guardNs;rfl;rfl;rfl;(assumption))|(apply rx_guardS;(case hj|hb|hN => rfl);all_goals (intro hg;have hq := hg;(try simp only [bqs] at hq);(try (exfalso;omega)))))|(apply rx_bin;rfl;rfl;rfl;rfl)|(apply rx_assign;rfl;rfl)|(first|(apply rx_pickT;rfl;(assumption);rfl;rfl)|(apply rx_pickF;rfl;(assumption);rfl;rfl))|(apply rx_len;rfl;rfl;rfl)|(apply rw_nil;kernel_rfl)|(apply rx_buildK;rfl;(exact (rfl:_=some [_, _]));(exact (rfl:_=[_, _]));rfl)|(apply rx_nil;rfl;rfl;rfl)|(apply rx_store;rfl;rfl;rfl;rfl;rfl;(decide);(exact (rfl:_=[_, _]))))|(apply id_aw;first|apply aw_seq|apply aw_region|(apply aw_condT;rfl;(rfl))|(apply aw_cond;rfl;all_goals intro hc;have hq:=hc;(try simp only [bqs] at hq);try exfalso;omega)|apply aw_skip|apply aw_ret)|with_reducible apply tq_normal|with_reducible apply tq_ret)
    · refine rq_le (Le.frzD (d := 6) (i := 6) rfl rfl) ?_
      exact rq_ret (l := [sl cCl m, .agg [iv 0, iv 0], iv 4]) rfl ⟨rfl, by (exact Pur.pf)⟩
    · exfalso
      have h : ¬ (opn m j (.own (0 + 1 + 1 + 2) 0 r.length 2))[j]!.next = 1000 := by assumption
      rw [hog] at h
      dsimp only at h
      omega
    · refine rq_le (Le.frzD (d := 6) (i := 6) rfl rfl) ?_
      exact rq_ret (l := [sl cCl m, .agg [iv 0, iv 0], iv 4]) rfl ⟨rfl, by (exact Pur.pf)⟩
  · have eM : pshM m m j true r = m.set j (psh { m[j]! with stk := r } true) := by unfold pshM; rw [if_neg hf]
    have eP : pshP m j r = ⟨j, m[j]!.next⟩ := by unfold pshP;rw [if_neg hf]
    have eK : pshK m j r = 0 := by unfold pshK;rw [if_neg hf]
    rw [eM] at hok
    rw [eM, eP, eK]
    unfold pshF at hf
    have hown := ownC_c _ hok
    repeat' (first|(apply id_rw;first|(with_reducible apply rw_stop (d := 41))|(with_reducible apply rw_stop (d := 54))|(apply rx_move;rfl;rfl)|(apply rx_loadFj;(case hx|hH => rfl);(case hf|hg|hα => infer_instance);(case hk => omega);(case hc|hN => rfl))|(apply rx_fieldAddr;rfl;rfl;rfl)|(first|(apply rx_guardY;rfl;rfl;rfl;(assumption))|(apply rx_guardS;(case hj|hb|hN => rfl);all_goals (intro hg;have hq := hg;(try simp only [bqs] at hq);(try (exfalso;omega)))))|(apply rx_bin;rfl;rfl;rfl;rfl)|(apply rx_assign;rfl;rfl)|(apply rx_pickF;rfl;(assumption);rfl;rfl)|(apply rx_len;rfl;rfl;rfl)|(apply rw_nil;kernel_rfl)|(apply rx_nil;rfl;rfl;rfl))|(apply id_aw;first|apply aw_seq|apply aw_region|(apply aw_cond;rfl;all_goals intro hc;have hq:=hc;(try simp only [bqs] at hq);try exfalso;omega)|apply aw_skip)|with_reducible apply tq_normal)
    · exfalso
      have h : (opn m j (.own (0 + 1 + 1 + 2) 0 r.length 2))[j]!.next = 1000 := by assumption
      rw [hog] at h
      dsimp only at h
      omega
    · refine rw_go ?_
      rw [hog]
      dsimp only
      repeat' (first|(apply id_rw;first|(apply rx_store;rfl;rfl;rfl;rfl;rfl;(rw [flat_length, opn_len]; simp only [List.length_append, List.length_cons, List.length_nil]; omega);(first|exact st_opn hj|exact st_opnN hj))|(apply rx_move;rfl;rfl)|(apply rx_fieldAddr;rfl;rfl;rfl)|(apply rx_add;rfl;rfl;omega;rfl)|(apply rx_append;rfl;rfl;rfl;rfl;rfl;(rw [flat_length]; omega);(rfl);omega;omega;(exact app_tg (by (omega)));rfl;rfl)|(apply rw_nil;kernel_rfl)|(apply rx_buildK;rfl;(exact (rfl:_=some [_, _]));(exact (rfl:_=[_, _]));rfl)|(apply rx_nil;rfl;rfl;rfl)|((apply rx_buildSliceI (t := _));(case hze|hsm|hl => rfl);(case hfl => (exact (rfl:_=some [_, _])));(case hM|hN => rfl)))|(apply id_aw;(apply aw_seq))|with_reducible apply tq_normal)
      refine AW.le ?_ (Le.cls (o := 3) (q := 0 + 1 + 1 + 3 + 0 + 1) (j := j) (k := r.length + 1) (m := m.set j { m[j]! with next := m[j]!.next + 1 }) (r := r ++ [⟨m[j]!.next, true⟩]) rfl rfl (by (rw [List.length_append]; rfl)) (by omega) (by decide))
      refine AW.le ?_ (Le.frzD (d := 9) (i := 3) rfl rfl)
      have e : (m.set j { m[j]! with next := m[j]!.next + 1 }).set j { (m.set j { m[j]! with next := m[j]!.next + 1 })[j]! with stk := r ++ [⟨m[j]!.next, true⟩] } = m.set j (psh { m[j]! with stk := r } true) := by
        rw [get_set hj, set_set]; rfl
      rw [e, sl_len (f := cCl) (xs := m.set j (psh { m[j]! with stk := r } true)) (by rw [List.length_set])]
      repeat' (first|(apply id_rw;first|(apply rx_ownC;rfl;exact hown;rfl;rfl)|(apply rx_move;rfl;rfl)|(apply rx_load1;rfl;rfl;rfl;rfl)|(apply rx_fieldAddr;rfl;rfl;rfl)|(apply rx_assign;rfl;rfl)|(apply rw_nil;kernel_rfl)|(apply rx_buildK;rfl;(exact (rfl:_=some [_, _]));(exact (rfl:_=[_, _]));rfl)|(apply rx_store;rfl;rfl;rfl;rfl;rfl;(case hl => (simp;done));(exact (rfl:_=[_, _]))))|(apply id_aw;first|(apply aw_draw;kernel_rfl)|apply aw_ret)|with_reducible apply tq_normal)
      refine rq_le (Le.frzD (d := 6) (i := 8) rfl rfl) ?_
      exact rq_ret (l := [sl cCl (m.set j (psh { m[j]! with stk := r } true)), .agg [iv (j : Int), iv m[j]!.next], iv 0]) rfl ⟨rfl, by (exact Pur.pf)⟩
    all_goals (exfalso;omega)
theorem lentI_c (m : List Cl) (hm : OkM m) (x : Pt) (u : Bool) : PC Tryz.prog 116 [sl cCl m, aPt x, bv u] (fun r => r = .tup [sl cCl (lnM m x u), aPt (lnP m x u), iv (lnK m x u)]) := by
  have hml := hm.l
  by_cases hk : tchK m x u = 0
  · obtain ⟨c, t⟩ := x
    obtain ⟨h1, h2, h3, h4, hu⟩ := tchK_in hk
    obtain ⟨j, rfl⟩ := Int.eq_ofNat_of_zero_le (show 0 ≤ c from h1)
    have hj : j < m.length := by have : (j : Int) < m.length := h2;omega
    obtain ⟨k, hkk⟩ := Int.eq_ofNat_of_zero_le (show 0 ≤ tgIx m[j]!.stk t from h4)
    obtain ⟨r, hr⟩ : ∃ r, r = tchS m[j]!.stk k u := ⟨_, rfl⟩
    obtain ⟨e1, e2, e3⟩ := lnK_0 hk (r := r) (by rw [hr]; show _ = tchS m[j]!.stk (tgIx m[j]!.stk t).toNat u;rw [hkk]; rfl)
    rw [e1, e2, e3]
    cases u
    · exact lentF_c m hm j k t r hj hkk hk hr
    · exact lentT_c m hm j k t r hj hkk hk hr
  · obtain ⟨e1, e2, e3⟩ := lnK_n hk
    rw [e1, e2, e3]
    (refine pc_of_aw Tryz.func116 rfl (by simp [Tryz.ntmps116]) ?_; rw [Tryz.ntmps116])
    repeat' (first|(apply id_rw;first|(apply rx_ownC;rfl;exact ownC_c m hm;rfl;rfl)|((apply rx_touchN (m := m) (x := x) (wr := u) (n := m.length));(case ha0|ha1|ha2|hH0 => rfl);(case hmc => exact touchN_c m x u _ hm rfl hk);(case hM|hN => rfl))|(apply rx_move;rfl;rfl)|(apply rx_loadA;rfl;rfl;(exact (rfl:_=[_, _]));rfl;rfl;rfl)|(apply rx_bin;rfl;rfl;rfl;rfl)|(apply rx_assign;rfl;rfl)|(apply rw_nil;kernel_rfl)|(apply rx_buildK;rfl;(exact (rfl:_=some [_, _]));(exact (rfl:_=[_, _]));rfl)|(apply rx_box;rfl;rfl;rfl;rfl)|(apply rx_alloc;rfl;rfl)|(apply rx_store;rfl;rfl;rfl;rfl;rfl;(decide);(exact (rfl:_=[_, _]))))|(apply id_aw;first|apply aw_seq|apply aw_region|(apply aw_cond;rfl;all_goals intro hc;have hq:=hc;(try simp only [bqs] at hq);try exfalso;omega)|apply aw_ret)|with_reducible apply tq_normal|with_reducible apply tq_ret)
    refine rq_le (Le.frzD (d := 6) (i := 3) rfl rfl) ?_
    exact rq_ret (l := [sl cCl m, .agg [iv 0, iv 0], iv (tchK m x u)]) rfl ⟨rfl, by (exact Pur.pf)⟩
abbrev mO (ts : List Int) (bd : List AL.Stmt) (pts : List Pnt) (i1 i2 : Nat) (s : Mc) : List AV := [aG ts bd pts, .own i1 0 ts.length 4, sl cCl s.cells, .own i2 0 s.read.length 1]
theorem rx_mfree {ts : List Int} {bd : List AL.Stmt} {pts : List Pnt} {s : Mc} {v : Nat} {N : Nat} {Q : Exit → AS → Prop} {all : Array Oper} {rest : List Oper} {tsl : List (Nat × AV)} {hsl : List (Nat × Option (List AV))} {nidl : Nat} {z0 : Lo} {md : Md} {d : Nat} {ty : TypeId} {pos : String} {af : Array Edge} {tys : Array TypeId} {x0 x1 : Operand} {i0 i1 i2 : Nat} (ha0 : ev (lk tsl) x0 = some (.optr i0 0)) (ha1 : ev (lk tsl) x1 = some (iv (v : Int))) (hH0 : lkH hsl i0 = some (mO ts bd pts i1 i2 s)) (hH1 : lkH hsl i1 = some (flat cSl s.slots)) (hH2 : lkH hsl i2 = some (flat cI s.read)) (hdd : Go.AL.distinct [i0, i1, i2] = true) (hmc : MC Tryz.prog 120 [.optr 0 0, iv (v : Int)] [(0, some (mO ts bd pts 1 2 s)), (1, some (flat cSl s.slots)), (2, some (flat cI s.read))] 3 (fun _ : Unit => True) (fun _ => iv (goK (tchK s.cells s.slots[v]!.ptr true))) (fun _ => [(0, some ([aG ts bd pts, .own 1 0 ts.length 4, sl cCl (frM s.cells s.slots[v]!.ptr), .own 2 0 s.read.length 1])), (1, some (flat cSl s.slots)), (2, some (flat cI s.read))])) (hM : Nat.ble (nidl + 0) big = true) (hN : Nat.blt d N = true) {md' : Md} [hmd : MdA md (rOs [x0, x1] ++ [.inr i0, .inr i1, .inr i2]) (List.map Sum.inr (List.map Prod.fst ([(i0, some ([aG ts bd pts, .own i1 0 ts.length 4, sl cCl (frM s.cells s.slots[v]!.ptr), .own i2 0 s.read.length 1])), (i1, some (flat cSl s.slots)), (i2, some (flat cI s.read))] : List (Nat × Option (List AV)))) ++ [.inl d]) md'] (kk : RW Tryz.prog N all Q md' rest ⟨(d, iv (goK (tchK s.cells s.slots[v]!.ptr true))) :: tsl, wrH hsl [(i0, some ([aG ts bd pts, .own i1 0 ts.length 4, sl cCl (frM s.cells s.slots[v]!.ptr), .own i2 0 s.read.length 1])), (i1, some (flat cSl s.slots)), (i2, some (flat cI s.read))], nidl + 0, z0⟩) : RW Tryz.prog N all Q md (⟨some d, .call ⟨.value (.func 120), #[x0, x1], tys⟩, ty, pos, af, none⟩ :: rest) ⟨tsl, hsl, nidl, z0⟩ := by
  refine rx_mcallE [i0, i1, i2] 3 [(i0, some ([aG ts bd pts, .own i1 0 ts.length 4, sl cCl (frM s.cells s.slots[v]!.ptr), .own i2 0 s.read.length 1])), (i1, some (flat cSl s.slots)), (i2, some (flat cI s.read))] hmc (avs := [.optr i0 0, iv (v : Int)]) ?_ hdd ?_ rfl ?_ (by simpa using hM) ?_ ?_ ?_ hN (md' := md') (hmd := hmd) kk
  · show evL (lk tsl) [x0, x1] = _
    simp only [evL, ha0, ha1]
  · exact ⟨⟨_, _, rfl, hH0, by (repeat' (first|exact RnL.purI inferInstance|exact RnV.purI inferInstance|exact RnV.own rfl|refine RnL.cons ?_ ?_))⟩, ⟨⟨_, _, rfl, hH1, by (repeat' (exact RnL.purI inferInstance))⟩, ⟨⟨_, _, rfl, hH2, by (repeat' (exact RnL.purI inferInstance))⟩, trivial⟩⟩⟩
  · (repeat' (first|exact RnL.purI inferInstance|exact RnV.optr rfl|refine RnL.cons ?_ ?_))
  · (repeat' (exact RnV.purI inferInstance))
  · simp [wsAll]
  · (repeat' (first|exact trivial|(refine And.intro ⟨0, _, rfl, rfl, ?_⟩ ?_)|(refine And.intro ⟨1, _, rfl, rfl, ?_⟩ ?_)|(refine And.intro ⟨2, _, rfl, rfl, ?_⟩ ?_)|exact RnL.purI inferInstance|exact RnV.purI inferInstance|exact RnV.own rfl|refine RnL.cons ?_ ?_))
theorem mfree_c (ts : List Int) (bd : List AL.Stmt) (pts : List Pnt) (s : Mc) (v : Nat) (hm : OkM s.cells) (hsl : s.slots.length = ts.length) (hv : v < ts.length) : MC Tryz.prog 120 [.optr 0 0, iv (v : Int)] [(0, some (mO ts bd pts 1 2 s)), (1, some (flat cSl s.slots)), (2, some (flat cI s.read))] 3 (fun _ : Unit => True) (fun _ => iv (goK (tchK s.cells s.slots[v]!.ptr true))) (fun _ => [(0, some ([aG ts bd pts, .own 1 0 ts.length 4, sl cCl (frM s.cells s.slots[v]!.ptr), .own 2 0 s.read.length 1])), (1, some (flat cSl s.slots)), (2, some (flat cI s.read))]) := by
  have hfc := FreeCellI_c s.cells hm s.slots[v]!.ptr
  (refine mc_of_aw Tryz.func120 rfl (by simp [Tryz.ntmps120]) ?_; rw [Tryz.ntmps120])
  repeat' (first|(apply id_rw;first|(apply rx_loadFP;(case hx|hH => rfl);(case hf|hg|hα => infer_instance);(case hk => omega);(case hj => decide);(case hc => exact (rfl:_=[_, _]));(case h0|hN => rfl))|((with_reducible apply rx_callE (k := 166));(case ha => rfl);(case h => exact hfc);(case hp => (exact Pur.pf));(case hN => rfl))|(apply rx_move;rfl;rfl)|(apply rx_load1;rfl;rfl;rfl;rfl)|(apply rx_fieldAddr;rfl;rfl;rfl)|(apply rx_bin;rfl;rfl;rfl;rfl)|(apply rx_assign;rfl;rfl)|(apply rx_indexON;rfl;rfl;(assumption);rfl)|((with_reducible apply rx_callE (k := 117));(case ha => rfl);(case h => (apply endOf_c <;> (fail)));(case hp => (rfl));(case hN => rfl))|(apply rw_nil;kernel_rfl)|(apply rx_nil;rfl;rfl;rfl)|(apply rx_extract;rfl;rfl;rfl)|(apply rx_store;rfl;rfl;rfl;rfl;rfl;(case hl => (simp;done));(exact (rfl:_=[_, _, _, _]))))|(apply id_aw;first|apply aw_seq|apply aw_region|(apply aw_draw;kernel_rfl)|(apply aw_cond;rfl;all_goals intro hc;have hq:=hc;(try simp only [bqs] at hq);try exfalso;omega)|apply aw_skip|apply aw_ret)|with_reducible apply tq_normal|with_reducible apply tq_ret)
  · have hk : ¬ tchK s.cells s.slots[v]!.ptr true = 0 := by assumption
    (refine rq_ret rfl ?_; refine mc_ret () trivial ?_ ⟨.inr (Eq.trans (b := some _) rfl ?_), ⟨.inr (Eq.trans (b := some _) rfl ?_), ⟨.inr (Eq.trans (b := some _) rfl ?_), trivial⟩⟩⟩)
    · show iv (endK _) = iv (goK _)
      unfold goK;rw [if_neg hk]
    · rfl
    · rfl
    · rfl
  · have hk : tchK s.cells s.slots[v]!.ptr true = 0 := by assumption
    (refine rq_ret rfl ?_; refine mc_ret () trivial ?_ ⟨.inr (Eq.trans (b := some _) rfl ?_), ⟨.inr (Eq.trans (b := some _) rfl ?_), ⟨.inr (Eq.trans (b := some _) rfl ?_), trivial⟩⟩⟩)
    · rw [hk]; rfl
    · rfl
    · rfl
    · rfl
theorem mput_c (ts : List Int) (bd : List AL.Stmt) (pts : List Pnt) (s : Mc) (v : Nat) (y : Sl) (hm : OkM s.cells) (hsl : s.slots.length = ts.length) (hv : v < ts.length) : MC Tryz.prog 113 [.optr 0 0, iv (v : Int), aSl y] [(0, some (mO ts bd pts 1 2 s)), (1, some (flat cSl s.slots)), (2, some (flat cI s.read))] 3 (fun _ : Unit => True) (fun _ => iv (putF ts s v y).2) (fun _ => [(0, some (mO ts bd pts 1 2 (putF ts s v y).1)), (1, some (flat cSl (putF ts s v y).1.slots)), (2, some (flat cI (putF ts s v y).1.read))]) := by
  have hfr := mfree_c ts bd pts s v hm hsl hv
  (refine mc_of_aw Tryz.func113 rfl (by simp [Tryz.ntmps113]) ?_; rw [Tryz.ntmps113])
  repeat' (first|(apply id_rw;first|((apply rx_mfree (ts := ts) (bd := bd) (pts := pts) (s := s) (v := v));(case ha0|ha1|hH0|hH1|hH2|hdd => rfl);(case hmc => exact hfr);(case hM|hN => rfl))|(apply rx_move;rfl;rfl)|(first|(apply rx_loadFj;(case hx|hH => rfl);(case hf|hg|hα => infer_instance);(case hk => omega);(case hc|hN => rfl))|(apply rx_load1;rfl;rfl;rfl;rfl)|(apply rx_loadA;rfl;rfl;(exact (rfl:_=[_, _, _, _]));rfl;rfl;rfl))|(apply rx_fieldAddr;rfl;rfl;rfl)|(first|(apply rx_guardY;rfl;rfl;rfl;(assumption))|(apply rx_guardNs;rfl;rfl;rfl;(assumption))|(apply rx_guardS;(case hj|hb|hN => rfl);all_goals (intro hg;have hq := hg;(try simp only [bqs] at hq);(try (exfalso;omega)))))|(apply rx_bin;rfl;rfl;rfl;rfl)|(apply rx_assign;rfl;rfl)|(first|(apply rx_pickT;rfl;(assumption);rfl;rfl)|(apply rx_pickF;rfl;(assumption);rfl;rfl))|(first|(apply rx_indexFN;(case hx|hi => rfl);(case hm => (assumption));(case hml => (rfl));(case hα | hf|hg => infer_instance);(case hN => rfl))|(apply rx_indexON;rfl;rfl;(assumption);rfl))|(apply rw_nil;kernel_rfl)|(apply rx_nil;rfl;rfl;rfl)|(apply rx_box;rfl;rfl;rfl;rfl)|(apply rx_store;rfl;rfl;rfl;rfl;rfl;(rw [flat_length]; simp only [lns] <;> omega);(exact st_sl (by (omega)))))|(apply id_aw;first|apply aw_seq|apply aw_region|(apply aw_draw;kernel_rfl)|(apply aw_condF;rfl;(rfl))|(apply aw_cond;rfl;all_goals intro hc;have hq:=hc;(try simp only [bqs] at hq);try exfalso;omega)|apply aw_skip|apply aw_ret)|with_reducible apply tq_normal)
  · have hp : putF ts s v y = (⟨s.slots.set v y, frM s.cells s.slots[v]!.ptr, s.read⟩, goK (tchK s.cells s.slots[v]!.ptr true)) := if_pos ⟨by assumption, by assumption⟩
    rw [hp]
    (refine rq_ret rfl ?_; refine mc_ret () trivial ?_ ⟨.inr (Eq.trans (b := some _) rfl ?_), ⟨.inr (Eq.trans (b := some _) rfl ?_), ⟨.inr (Eq.trans (b := some _) rfl ?_), trivial⟩⟩⟩)
    · rfl
    · rfl
    · rfl
    · rfl
  all_goals (
    have hp : putF ts s v y = (⟨s.slots.set v y, s.cells, s.read⟩, -1) := if_neg (by
      rintro ⟨q1, q2⟩
      first|(exact (by assumption : ¬ ts[v]! = 2) q1)|(rw [(by assumption : s.slots[v]!.set = false)] at q2;exact absurd q2 (by decide)))
    rw [hp]
    (refine rq_ret rfl ?_; refine mc_ret () trivial ?_ ⟨.inr (Eq.trans (b := some _) rfl ?_), ⟨.inr (Eq.trans (b := some _) rfl ?_), ⟨.inr (Eq.trans (b := some _) rfl ?_), trivial⟩⟩⟩)
    · rfl
    · rfl
    · rfl
    · rfl)
theorem rx_mfin {ts : List Int} {bd : List AL.Stmt} {pts : List Pnt} {s : Mc} {N : Nat} {Q : Exit → AS → Prop} {all : Array Oper} {rest : List Oper} {tsl : List (Nat × AV)} {hsl : List (Nat × Option (List AV))} {nidl : Nat} {z0 : Lo} {md : Md} {d : Nat} {ty : TypeId} {pos : String} {af : Array Edge} {tys : Array TypeId} {x0 : Operand} {i0 i1 i2 : Nat} (ha0 : ev (lk tsl) x0 = some (.optr i0 0)) (hH0 : lkH hsl i0 = some (mO ts bd pts i1 i2 s)) (hH1 : lkH hsl i1 = some (flat cSl s.slots)) (hH2 : lkH hsl i2 = some (flat cI s.read)) (hdd : Go.AL.distinct [i0, i1, i2] = true) (hmc : MC Tryz.prog 121 [.optr 0 0] [(0, some (mO ts bd pts 1 2 s)), (1, some (flat cSl s.slots)), (2, some (flat cI s.read))] 3 (fun _ : Unit => True) (fun _ => iv (finF ts ts.length 0 s).2) (fun _ => [(0, some (mO ts bd pts 1 2 (finF ts ts.length 0 s).1)), (1, some (flat cSl (finF ts ts.length 0 s).1.slots)), (2, some (flat cI (finF ts ts.length 0 s).1.read))])) (hM : Nat.ble (nidl + 0) big = true) (hN : Nat.blt d N = true) {md' : Md} [hmd : MdA md (rOs [x0] ++ [.inr i0, .inr i1, .inr i2]) (List.map Sum.inr (List.map Prod.fst ([(i0, some (mO ts bd pts i1 i2 (finF ts ts.length 0 s).1)), (i1, some (flat cSl (finF ts ts.length 0 s).1.slots)), (i2, some (flat cI (finF ts ts.length 0 s).1.read))] : List (Nat × Option (List AV)))) ++ [.inl d]) md'] (kk : RW Tryz.prog N all Q md' rest ⟨(d, iv (finF ts ts.length 0 s).2) :: tsl, wrH hsl [(i0, some (mO ts bd pts i1 i2 (finF ts ts.length 0 s).1)), (i1, some (flat cSl (finF ts ts.length 0 s).1.slots)), (i2, some (flat cI (finF ts ts.length 0 s).1.read))], nidl + 0, z0⟩) : RW Tryz.prog N all Q md (⟨some d, .call ⟨.value (.func 121), #[x0], tys⟩, ty, pos, af, none⟩ :: rest) ⟨tsl, hsl, nidl, z0⟩ := by
  refine rx_mcallE [i0, i1, i2] 3 [(i0, some (mO ts bd pts i1 i2 (finF ts ts.length 0 s).1)), (i1, some (flat cSl (finF ts ts.length 0 s).1.slots)), (i2, some (flat cI (finF ts ts.length 0 s).1.read))] hmc (avs := [.optr i0 0]) ?_ hdd ?_ rfl ?_ (by simpa using hM) ?_ ?_ ?_ hN (md' := md') (hmd := hmd) kk
  · show evL (lk tsl) [x0] = _
    simp only [evL, ha0]
  · exact ⟨⟨_, _, rfl, hH0, by (repeat' (first|exact RnL.purI inferInstance|exact RnV.purI inferInstance|exact RnV.own rfl|refine RnL.cons ?_ ?_))⟩, ⟨⟨_, _, rfl, hH1, by (repeat' (exact RnL.purI inferInstance))⟩, ⟨⟨_, _, rfl, hH2, by (repeat' (exact RnL.purI inferInstance))⟩, trivial⟩⟩⟩
  · (repeat' (first|exact RnL.purI inferInstance|exact RnV.optr rfl|refine RnL.cons ?_ ?_))
  · (repeat' (exact RnV.purI inferInstance))
  · simp [wsAll]
  · (repeat' (first|exact trivial|(refine And.intro ⟨0, _, rfl, rfl, ?_⟩ ?_)|(refine And.intro ⟨1, _, rfl, rfl, ?_⟩ ?_)|(refine And.intro ⟨2, _, rfl, rfl, ?_⟩ ?_)|exact RnL.purI inferInstance|exact RnV.purI inferInstance|exact RnV.own rfl|refine RnL.cons ?_ ?_))
theorem mfin_c (ts : List Int) (bd : List AL.Stmt) (pts : List Pnt) (s : Mc) (hm : OkM s.cells) (hsl : s.slots.length = ts.length) (hl : ts.length ≤ 1000000) : MC Tryz.prog 121 [.optr 0 0] [(0, some (mO ts bd pts 1 2 s)), (1, some (flat cSl s.slots)), (2, some (flat cI s.read))] 3 (fun _ : Unit => True) (fun _ => iv (finF ts ts.length 0 s).2) (fun _ => [(0, some (mO ts bd pts 1 2 (finF ts ts.length 0 s).1)), (1, some (flat cSl (finF ts ts.length 0 s).1.slots)), (2, some (flat cI (finF ts ts.length 0 s).1.read))]) := by
  (refine mc_of_aw Tryz.func121 rfl (by simp [Tryz.ntmps121]) ?_; rw [Tryz.ntmps121])
  repeat' (first|(apply id_rw;first|(apply rx_move;rfl;rfl)|(apply rx_load1;rfl;rfl;rfl;rfl)|(apply rx_fieldAddr;rfl;rfl;rfl)|(apply rx_assign;rfl;rfl)|(apply rx_len;rfl;rfl;rfl)|(apply rw_nil;kernel_rfl)|(apply rx_nil;rfl;rfl;rfl))|(apply id_aw;first|apply aw_seq|apply aw_region|apply aw_block)|with_reducible apply tq_normal)
  refine aw_loopK (σ := Nat × Mc) [0, 13, 14] [(0, _), (13, _), (14, _)] [] [] (fun k => [(15, iv (k.1 : Int))]) (fun k => [(0, some (mO ts bd pts 1 2 k.2)), (1, some (flat cSl k.2.slots)), (2, some (flat cI k.2.read))]) (fun k => k.1 ≤ ts.length ∧ finF ts (ts.length - k.1) k.1 k.2 = finF ts ts.length 0 s ∧ OkM k.2.cells ∧ k.2.slots.length = ts.length) (fun k => ts.length - k.1) (0, s) ⟨Nat.zero_le _, rfl, hm, hsl⟩ rfl rfl (by repeat' (first|exact trivial|refine And.intro rfl ?_)) (by repeat' (first|exact trivial|refine And.intro (.inr rfl) ?_)) ?_
  rintro ⟨v, q⟩ ⟨hv, hf, hmq, hlq⟩
  dsimp only at hv hf hmq hlq ⊢
  by_cases hvn : v < ts.length
  · have hfr := mfree_c ts bd pts q v hmq hlq hvn
    repeat' (first|(apply id_rw;first|((apply rx_mfree (ts := ts) (bd := bd) (pts := pts) (s := q) (v := v));(case ha0|ha1|hH0|hH1|hH2|hdd => rfl);(case hmc => exact hfr);(case hM|hN => rfl))|(apply rx_move;rfl;rfl)|(first|(apply rx_loadFj;(case hx|hH => rfl);(case hf|hg|hα => infer_instance);(case hk => omega);(case hc|hN => rfl))|(apply rx_load1;rfl;rfl;rfl;rfl))|(apply rx_fieldAddr;rfl;rfl;rfl)|(first|(apply rx_guardY;rfl;rfl;rfl;(assumption))|(apply rx_guardNs;rfl;rfl;rfl;(assumption))|(apply rx_guardS;(case hj|hb|hN => rfl);all_goals (intro hg;have hq := hg;(try simp only [bqs] at hq);(try (exfalso;omega)))))|(first|(apply rx_add;rfl;rfl;omega;rfl)|(apply rx_bin;rfl;rfl;rfl;rfl))|(apply rx_assign;rfl;rfl)|(first|(apply rx_pickT;rfl;(assumption);rfl;rfl)|(apply rx_pickF;rfl;(assumption);rfl;rfl))|(first|(apply rx_indexFN;(case hx|hi => rfl);(case hm => (assumption));(case hml => (rfl));(case hα | hf|hg => infer_instance);(case hN => rfl))|(apply rx_indexON;rfl;rfl;(assumption);rfl))|(apply rw_nil;kernel_rfl)|(apply rx_buildK;rfl;(exact (rfl:_=some [_, _, _, _]));(exact (rfl:_=[_, _, _, _]));rfl)|(apply rx_not;rfl;rfl)|(apply rx_nil;rfl;rfl;rfl)|(apply rx_store;rfl;rfl;rfl;rfl;rfl;(rw [flat_length]; simp only [lns] <;> omega);(exact st_sl (by (omega)))))|(apply id_aw;first|apply aw_seq|apply aw_region|(apply aw_condT;rfl;(rfl))|(apply aw_cond;rfl;all_goals intro hc;have hq:=hc;(try simp only [bqs] at hq);try exfalso;omega)|apply aw_block|apply aw_skip|apply aw_exit|apply aw_ret)|with_reducible apply tq_normal|with_reducible apply tq_ret|with_reducible apply tq_exit|with_reducible apply bq_normal|with_reducible apply bq_ret|with_reducible apply bq_here)
    · (apply ex3 (v + 1, q); focus (refine Le.ren [] rfl (by decide) ?_ ?_ <;> repeat' (first | exact trivial | refine And.intro ⟨_, rfl, ?_⟩ ?_ | refine And.intro ⟨_, _, rfl, rfl, ?_⟩ ?_ | exact Or.inr rfl | refine Or.inl ⟨?_, (by first | rfl | exact pur_sl _ _ | exact Pur.pf)⟩ | refine Or.inr (All2.cons ?_ ?_) | refine All2.cons ?_ ?_ | exact All2.nil | rfl)))
      · refine ⟨by omega, ?_, hmq, hlq⟩
        dsimp only
        rw [← hf, show ts.length - v = (ts.length - (v + 1)) + 1 by omega, finF_s (fun h => by
          have h2 : q.slots[v]!.set = false := by assumption
          rw [h2] at h;exact absurd h.2 (by decide))]
      · dsimp only;omega
    · have hk : ¬ tchK q.cells q.slots[v]!.ptr true = 0 := fun h => by
        have h2 : ¬ goK (tchK q.cells q.slots[v]!.ptr true) = -1 := by assumption
        rw [h] at h2;exact h2 rfl
      have hq2 : finF ts ts.length 0 s = (⟨q.slots, frM q.cells q.slots[v]!.ptr, q.read⟩, endK (tchK q.cells q.slots[v]!.ptr true)) := by
        rw [← hf, show ts.length - v = (ts.length - (v + 1)) + 1 by omega, finF_e ⟨by assumption, by assumption⟩ hk]
      rw [hq2]
      (refine rq_ret rfl ?_; refine mc_ret () trivial ?_ ⟨.inr (Eq.trans (b := some _) rfl ?_), ⟨.inr (Eq.trans (b := some _) rfl ?_), ⟨.inr (Eq.trans (b := some _) rfl ?_), trivial⟩⟩⟩)
      · show iv (goK _) = iv (endK _)
        unfold goK;rw [if_neg hk]
      · rfl
      · rfl
      · rfl
    · have hk : tchK q.cells q.slots[v]!.ptr true = 0 := by
        have h2 : goK (tchK q.cells q.slots[v]!.ptr true) = -1 := by assumption
        unfold goK at h2
        by_cases h : tchK q.cells q.slots[v]!.ptr true = 0
        · exact h
        · rw [if_neg h] at h2;unfold endK at h2;split at h2 <;> cases h2
      have hls : (q.slots.set v sl0).length = q.slots.length := List.length_set
      (apply ex3 (v + 1, ⟨q.slots.set v sl0, frM q.cells q.slots[v]!.ptr, q.read⟩);focus (refine Le.ren [] rfl (by decide) ?_ ?_ <;> repeat' (first|exact trivial|refine And.intro ⟨_, rfl, ?_⟩ ?_|refine And.intro ⟨_, _, rfl, rfl, ?_⟩ ?_|exact Or.inr rfl|refine Or.inl ⟨?_, (by first|rfl|exact pur_sl _ _|exact Pur.pf)⟩|refine Or.inr (All2.cons ?_ ?_)|refine All2.cons ?_ ?_|exact All2.nil|rfl)))
      · refine ⟨by dsimp only; omega, ?_, hmq.fr _, by show (q.slots.set v sl0).length = _; rw [List.length_set]; exact hlq⟩
        dsimp only
        rw [← hf, show ts.length - v = (ts.length - (v + 1)) + 1 by omega, finF_f ⟨by assumption, by assumption⟩ hk]
      · dsimp only;omega
    · (apply ex3 (v + 1, q); focus (refine Le.ren [] rfl (by decide) ?_ ?_ <;> repeat' (first | exact trivial | refine And.intro ⟨_, rfl, ?_⟩ ?_ | refine And.intro ⟨_, _, rfl, rfl, ?_⟩ ?_ | exact Or.inr rfl | refine Or.inl ⟨?_, (by first | rfl | exact pur_sl _ _ | exact Pur.pf)⟩ | refine Or.inr (All2.cons ?_ ?_) | refine All2.cons ?_ ?_ | exact All2.nil | rfl)))
      · refine ⟨by omega, ?_, hmq, hlq⟩
        dsimp only
        rw [← hf, show ts.length - v = (ts.length - (v + 1)) + 1 by omega, finF_s (fun h => by
          have h2 : ¬ ts[v]! = 2 := by assumption
          exact h2 h.1)]
      · dsimp only;omega
  · have hve : v = ts.length := by omega
    have hq2 : finF ts ts.length 0 s = (q, 0) := by rw [← hf, hve, Nat.sub_self]; rfl
    repeat' (first|(apply id_rw;first|(apply rx_bin;rfl;rfl;rfl;rfl)|(apply rx_assign;rfl;rfl)|(apply rw_nil;kernel_rfl))|(apply id_aw;first|apply aw_seq|apply aw_region|(apply aw_cond;rfl;all_goals intro hc;have hq:=hc;(try simp only [bqs] at hq);try exfalso;omega)|apply aw_exit|apply aw_ret)|with_reducible apply tq_normal|with_reducible apply tq_exit|with_reducible apply bq_here)
    rw [hq2]
    (refine rq_ret rfl ?_; refine mc_ret () trivial ?_ ⟨.inr (Eq.trans (b := some _) rfl ?_), ⟨.inr (Eq.trans (b := some _) rfl ?_), ⟨.inr (Eq.trans (b := some _) rfl ?_), trivial⟩⟩⟩)
    · rfl
    · rfl
    · rfl
    · rfl
def dxF (ts : List Int) (s : Mc) (x : Pnt) : Mc × Int := if unsF ts s x = true then (s, 2) else doF ts s x
theorem dx_u {ts : List Int} {s : Mc} {x : Pnt} (h : unsF ts s x = true) : dxF ts s x = (s, 2) := if_pos h
theorem dx_n {ts : List Int} {s : Mc} {x : Pnt} (h : unsF ts s x = false) : dxF ts s x = doF ts s x := if_neg (by rw [h]; decide)
theorem bits_lt {ts : List Int} {x : Pnt} {v : Int} (h : v ∈ bitsI (wS ts x [1, 2, 3])) : 0 ≤ v ∧ v < ts.length := by
  obtain ⟨v', h3, h4, rfl⟩ := mem_bitsI.1 h
  rw [testBit_wS, Bool.and_eq_true, decide_eq_true_eq] at h4
  omega
theorem uns_bits {ts : List Int} {s : Mc} {x : Pnt} (htl : ts.length ≤ 6) : unsF ts s x = true ↔ ∃ v ∈ bitsI (wS ts x [1, 2, 3]), s.slots[v.toNat]!.set = false := by
  constructor
  · intro h
    obtain ⟨v, hv, hne, hs⟩ := uns_true h
    refine ⟨(v : Int), mem_bitsI.2 ⟨v, by omega, ?_, rfl⟩, hs⟩
    have hb := useAt_bd ts x v
    rw [testBit_wS, decide_eq_true hv, Bool.true_and, decide_eq_true_eq]
    simp only [List.mem_cons, List.not_mem_nil, or_false]; omega
  · rintro ⟨v, hv, hs⟩
    obtain ⟨v', h3, h4, rfl⟩ := mem_bitsI.1 hv
    rw [testBit_wS, Bool.and_eq_true, decide_eq_true_eq, decide_eq_true_eq] at h4
    unfold unsF
    refine List.any_eq_true.2 ⟨v', List.mem_range.2 h4.1, ?_⟩
    rw [Bool.and_eq_true, decide_eq_true_eq]
    refine ⟨fun e => ?_, by rw [show s.slots[v']!.set = false from hs]; rfl⟩
    have h5 := h4.2
    simp only [List.mem_cons, List.not_mem_nil, or_false] at h5;omega
theorem rx_mdo {ts : List Int} {bd : List AL.Stmt} {pts : List Pnt} {s : Mc} {x : Pnt} {N : Nat} {Q : Exit → AS → Prop} {all : Array Oper} {rest : List Oper} {tsl : List (Nat × AV)} {hsl : List (Nat × Option (List AV))} {nidl : Nat} {z0 : Lo} {md : Md} {d : Nat} {ty : TypeId} {pos : String} {af : Array Edge} {tys : Array TypeId} {x0 x1 : Operand} {i0 i1 i2 : Nat} (ha0 : ev (lk tsl) x0 = some (.optr i0 0)) (ha1 : ev (lk tsl) x1 = some (aPnt x)) (hH0 : lkH hsl i0 = some (mO ts bd pts i1 i2 s)) (hH1 : lkH hsl i1 = some (flat cSl s.slots)) (hH2 : lkH hsl i2 = some (flat cI s.read)) (hdd : Go.AL.distinct [i0, i1, i2] = true) (hmc : MC Tryz.prog 89 [.optr 0 0, aPnt x] [(0, some (mO ts bd pts 1 2 s)), (1, some (flat cSl s.slots)), (2, some (flat cI s.read))] 3 (fun _ : Unit => True) (fun _ => iv (dxF ts s x).2) (fun _ => [(0, some (mO ts bd pts 1 2 (dxF ts s x).1)), (1, some (flat cSl (dxF ts s x).1.slots)), (2, some (flat cI (dxF ts s x).1.read))])) (hM : Nat.ble (nidl + 0) big = true) (hN : Nat.blt d N = true) {md' : Md} [hmd : MdA md (rOs [x0, x1] ++ [.inr i0, .inr i1, .inr i2]) (List.map Sum.inr (List.map Prod.fst ([(i0, some (mO ts bd pts i1 i2 (dxF ts s x).1)), (i1, some (flat cSl (dxF ts s x).1.slots)), (i2, some (flat cI (dxF ts s x).1.read))] : List (Nat × Option (List AV)))) ++ [.inl d]) md'] (kk : RW Tryz.prog N all Q md' rest ⟨(d, iv (dxF ts s x).2) :: tsl, wrH hsl [(i0, some (mO ts bd pts i1 i2 (dxF ts s x).1)), (i1, some (flat cSl (dxF ts s x).1.slots)), (i2, some (flat cI (dxF ts s x).1.read))], nidl + 0, z0⟩) : RW Tryz.prog N all Q md (⟨some d, .call ⟨.value (.func 89), #[x0, x1], tys⟩, ty, pos, af, none⟩ :: rest) ⟨tsl, hsl, nidl, z0⟩ := by
  refine rx_mcallE [i0, i1, i2] 3 [(i0, some (mO ts bd pts i1 i2 (dxF ts s x).1)), (i1, some (flat cSl (dxF ts s x).1.slots)), (i2, some (flat cI (dxF ts s x).1.read))] hmc (avs := [.optr i0 0, aPnt x]) ?_ hdd ?_ rfl ?_ (by simpa using hM) ?_ ?_ ?_ hN (md' := md') (hmd := hmd) kk
  · show evL (lk tsl) [x0, x1] = _
    simp only [evL, ha0, ha1]
  · exact ⟨⟨_, _, rfl, hH0, by (repeat' (first|exact RnL.purI inferInstance|exact RnV.purI inferInstance|exact RnV.own rfl|refine RnL.cons ?_ ?_))⟩, ⟨⟨_, _, rfl, hH1, by (repeat' (exact RnL.purI inferInstance))⟩, ⟨⟨_, _, rfl, hH2, by (repeat' (exact RnL.purI inferInstance))⟩, trivial⟩⟩⟩
  · (repeat' (first|exact RnL.purI inferInstance|exact RnV.optr rfl|refine RnL.cons ?_ ?_))
  · (repeat' (exact RnV.purI inferInstance))
  · simp [wsAll]
  · (repeat' (first|exact trivial|(refine And.intro ⟨0, _, rfl, rfl, ?_⟩ ?_)|(refine And.intro ⟨1, _, rfl, rfl, ?_⟩ ?_)|(refine And.intro ⟨2, _, rfl, rfl, ?_⟩ ?_)|exact RnL.purI inferInstance|exact RnV.purI inferInstance|exact RnV.own rfl|refine RnL.cons ?_ ?_))
theorem rx_mputI {ts : List Int} {bd : List AL.Stmt} {pts : List Pnt} {s : Mc} {v : Int} {y : Sl} {N : Nat} {Q : Exit → AS → Prop} {all : Array Oper} {rest : List Oper} {tsl : List (Nat × AV)} {hsl : List (Nat × Option (List AV))} {nidl : Nat} {z0 : Lo} {md : Md} {d : Nat} {ty : TypeId} {pos : String} {af : Array Edge} {tys : Array TypeId} {x0 x1 x2 : Operand} {i0 i1 i2 : Nat} (ha0 : ev (lk tsl) x0 = some (.optr i0 0)) (ha1 : ev (lk tsl) x1 = some (iv v)) (ha2 : ev (lk tsl) x2 = some (aSl y)) (hH0 : lkH hsl i0 = some (mO ts bd pts i1 i2 s)) (hH1 : lkH hsl i1 = some (flat cSl s.slots)) (hH2 : lkH hsl i2 = some (flat cI s.read)) (hdd : Go.AL.distinct [i0, i1, i2] = true) (hmc : MC Tryz.prog 113 [.optr 0 0, iv v, aSl y] [(0, some (mO ts bd pts 1 2 s)), (1, some (flat cSl s.slots)), (2, some (flat cI s.read))] 3 (fun _ : Unit => True) (fun _ => iv (putF ts s v.toNat y).2) (fun _ => [(0, some (mO ts bd pts 1 2 (putF ts s v.toNat y).1)), (1, some (flat cSl (putF ts s v.toNat y).1.slots)), (2, some (flat cI (putF ts s v.toNat y).1.read))])) (hM : Nat.ble (nidl + 0) big = true) (hN : Nat.blt d N = true) {md' : Md} [hmd : MdA md (rOs [x0, x1, x2] ++ [.inr i0, .inr i1, .inr i2]) (List.map Sum.inr (List.map Prod.fst ([(i0, some (mO ts bd pts i1 i2 (putF ts s v.toNat y).1)), (i1, some (flat cSl (putF ts s v.toNat y).1.slots)), (i2, some (flat cI (putF ts s v.toNat y).1.read))] : List (Nat × Option (List AV)))) ++ [.inl d]) md'] (kk : RW Tryz.prog N all Q md' rest ⟨(d, iv (putF ts s v.toNat y).2) :: tsl, wrH hsl [(i0, some (mO ts bd pts i1 i2 (putF ts s v.toNat y).1)), (i1, some (flat cSl (putF ts s v.toNat y).1.slots)), (i2, some (flat cI (putF ts s v.toNat y).1.read))], nidl + 0, z0⟩) : RW Tryz.prog N all Q md (⟨some d, .call ⟨.value (.func 113), #[x0, x1, x2], tys⟩, ty, pos, af, none⟩ :: rest) ⟨tsl, hsl, nidl, z0⟩ := by
  refine rx_mcallE [i0, i1, i2] 3 [(i0, some (mO ts bd pts i1 i2 (putF ts s v.toNat y).1)), (i1, some (flat cSl (putF ts s v.toNat y).1.slots)), (i2, some (flat cI (putF ts s v.toNat y).1.read))] hmc (avs := [.optr i0 0, iv v, aSl y]) ?_ hdd ?_ rfl ?_ (by simpa using hM) ?_ ?_ ?_ hN (md' := md') (hmd := hmd) kk
  · show evL (lk tsl) [x0, x1, x2] = _
    simp only [evL, ha0, ha1, ha2]
  · exact ⟨⟨_, _, rfl, hH0, by (repeat' (first|exact RnL.purI inferInstance|exact RnV.purI inferInstance|exact RnV.own rfl|refine RnL.cons ?_ ?_))⟩, ⟨⟨_, _, rfl, hH1, by (repeat' (exact RnL.purI inferInstance))⟩, ⟨⟨_, _, rfl, hH2, by (repeat' (exact RnL.purI inferInstance))⟩, trivial⟩⟩⟩
  · (repeat' (first|exact RnL.purI inferInstance|exact RnV.optr rfl|refine RnL.cons ?_ ?_))
  · (repeat' (exact RnV.purI inferInstance))
  · simp [wsAll]
  · (repeat' (first|exact trivial|(refine And.intro ⟨0, _, rfl, rfl, ?_⟩ ?_)|(refine And.intro ⟨1, _, rfl, rfl, ?_⟩ ?_)|(refine And.intro ⟨2, _, rfl, rfl, ?_⟩ ?_)|exact RnL.purI inferInstance|exact RnV.purI inferInstance|exact RnV.own rfl|refine RnL.cons ?_ ?_))
theorem mputI_c (ts : List Int) (bd : List AL.Stmt) (pts : List Pnt) (s : Mc) (v : Int) (y : Sl) (hm : OkM s.cells) (hsl : s.slots.length = ts.length) (hv : 0 ≤ v ∧ v < ts.length) : MC Tryz.prog 113 [.optr 0 0, iv v, aSl y] [(0, some (mO ts bd pts 1 2 s)), (1, some (flat cSl s.slots)), (2, some (flat cI s.read))] 3 (fun _ : Unit => True) (fun _ => iv (putF ts s v.toNat y).2) (fun _ => [(0, some (mO ts bd pts 1 2 (putF ts s v.toNat y).1)), (1, some (flat cSl (putF ts s v.toNat y).1.slots)), (2, some (flat cI (putF ts s v.toNat y).1.read))]) := by
  have h := mput_c ts bd pts s v.toNat y hm hsl (by omega)
  rw [Int.toNat_of_nonneg hv.1] at h
  exact h
theorem rx_mfreeI {ts : List Int} {bd : List AL.Stmt} {pts : List Pnt} {s : Mc} {v : Int} {N : Nat} {Q : Exit → AS → Prop} {all : Array Oper} {rest : List Oper} {tsl : List (Nat × AV)} {hsl : List (Nat × Option (List AV))} {nidl : Nat} {z0 : Lo} {md : Md} {d : Nat} {ty : TypeId} {pos : String} {af : Array Edge} {tys : Array TypeId} {x0 x1 : Operand} {i0 i1 i2 : Nat} (ha0 : ev (lk tsl) x0 = some (.optr i0 0)) (ha1 : ev (lk tsl) x1 = some (iv v)) (hH0 : lkH hsl i0 = some (mO ts bd pts i1 i2 s)) (hH1 : lkH hsl i1 = some (flat cSl s.slots)) (hH2 : lkH hsl i2 = some (flat cI s.read)) (hdd : Go.AL.distinct [i0, i1, i2] = true) (hmc : MC Tryz.prog 120 [.optr 0 0, iv v] [(0, some (mO ts bd pts 1 2 s)), (1, some (flat cSl s.slots)), (2, some (flat cI s.read))] 3 (fun _ : Unit => True) (fun _ => iv (goK (tchK s.cells s.slots[v.toNat]!.ptr true))) (fun _ => [(0, some ([aG ts bd pts, .own 1 0 ts.length 4, sl cCl (frM s.cells s.slots[v.toNat]!.ptr), .own 2 0 s.read.length 1])), (1, some (flat cSl s.slots)), (2, some (flat cI s.read))])) (hM : Nat.ble (nidl + 0) big = true) (hN : Nat.blt d N = true) {md' : Md} [hmd : MdA md (rOs [x0, x1] ++ [.inr i0, .inr i1, .inr i2]) (List.map Sum.inr (List.map Prod.fst ([(i0, some ([aG ts bd pts, .own i1 0 ts.length 4, sl cCl (frM s.cells s.slots[v.toNat]!.ptr), .own i2 0 s.read.length 1])), (i1, some (flat cSl s.slots)), (i2, some (flat cI s.read))] : List (Nat × Option (List AV)))) ++ [.inl d]) md'] (kk : RW Tryz.prog N all Q md' rest ⟨(d, iv (goK (tchK s.cells s.slots[v.toNat]!.ptr true))) :: tsl, wrH hsl [(i0, some ([aG ts bd pts, .own i1 0 ts.length 4, sl cCl (frM s.cells s.slots[v.toNat]!.ptr), .own i2 0 s.read.length 1])), (i1, some (flat cSl s.slots)), (i2, some (flat cI s.read))], nidl + 0, z0⟩) : RW Tryz.prog N all Q md (⟨some d, .call ⟨.value (.func 120), #[x0, x1], tys⟩, ty, pos, af, none⟩ :: rest) ⟨tsl, hsl, nidl, z0⟩ := by
  refine rx_mcallE [i0, i1, i2] 3 [(i0, some ([aG ts bd pts, .own i1 0 ts.length 4, sl cCl (frM s.cells s.slots[v.toNat]!.ptr), .own i2 0 s.read.length 1])), (i1, some (flat cSl s.slots)), (i2, some (flat cI s.read))] hmc (avs := [.optr i0 0, iv v]) ?_ hdd ?_ rfl ?_ (by simpa using hM) ?_ ?_ ?_ hN (md' := md') (hmd := hmd) kk
  · show evL (lk tsl) [x0, x1] = _
    simp only [evL, ha0, ha1]
  · exact ⟨⟨_, _, rfl, hH0, by (repeat' (first|exact RnL.purI inferInstance|exact RnV.purI inferInstance|exact RnV.own rfl|refine RnL.cons ?_ ?_))⟩, ⟨⟨_, _, rfl, hH1, by (repeat' (exact RnL.purI inferInstance))⟩, ⟨⟨_, _, rfl, hH2, by (repeat' (exact RnL.purI inferInstance))⟩, trivial⟩⟩⟩
  · (repeat' (first|exact RnL.purI inferInstance|exact RnV.optr rfl|refine RnL.cons ?_ ?_))
  · (repeat' (exact RnV.purI inferInstance))
  · simp [wsAll]
  · (repeat' (first|exact trivial|(refine And.intro ⟨0, _, rfl, rfl, ?_⟩ ?_)|(refine And.intro ⟨1, _, rfl, rfl, ?_⟩ ?_)|(refine And.intro ⟨2, _, rfl, rfl, ?_⟩ ?_)|exact RnL.purI inferInstance|exact RnV.purI inferInstance|exact RnV.own rfl|refine RnL.cons ?_ ?_))
theorem mfreeI_c (ts : List Int) (bd : List AL.Stmt) (pts : List Pnt) (s : Mc) (v : Int) (hm : OkM s.cells) (hsl : s.slots.length = ts.length) (hv : 0 ≤ v ∧ v < ts.length) : MC Tryz.prog 120 [.optr 0 0, iv v] [(0, some (mO ts bd pts 1 2 s)), (1, some (flat cSl s.slots)), (2, some (flat cI s.read))] 3 (fun _ : Unit => True) (fun _ => iv (goK (tchK s.cells s.slots[v.toNat]!.ptr true))) (fun _ => [(0, some ([aG ts bd pts, .own 1 0 ts.length 4, sl cCl (frM s.cells s.slots[v.toNat]!.ptr), .own 2 0 s.read.length 1])), (1, some (flat cSl s.slots)), (2, some (flat cI s.read))]) := by
  have h := mfree_c ts bd pts s v.toNat hm hsl (by omega)
  rw [Int.toNat_of_nonneg hv.1] at h
  exact h
theorem mdo_1 (ts : List Int) (bd : List AL.Stmt) (pts : List Pnt) (s : Mc) (x : Pnt) (htl : ts.length ≤ 6) (hm : OkM s.cells) (hsl : s.slots.length = ts.length) (ho : x.op = 1) (hx : 0 ≤ x.x ∧ x.x < ts.length) : MC Tryz.prog 89 [.optr 0 0, aPnt x] [(0, some (mO ts bd pts 1 2 s)), (1, some (flat cSl s.slots)), (2, some (flat cI s.read))] 3 (fun _ : Unit => True) (fun _ => iv (dxF ts s x).2) (fun _ => [(0, some (mO ts bd pts 1 2 (dxF ts s x).1)), (1, some (flat cSl (dxF ts s x).1.slots)), (2, some (flat cI (dxF ts s x).1.read))]) := by
  have hus := used_c ts bd pts x htl
  have hsm : Sm (wS ts x [1, 2, 3]) := mkBits_sm (by omega)
  obtain ⟨L, hL⟩ : ∃ L, L = bitsI (wS ts x [1, 2, 3]) := ⟨_, rfl⟩
  have hLl : L.length ≤ 62 := by rw [hL]; exact bitsI_len _
  have hmem : ∀ k, k < L.length → 0 ≤ L[k]! ∧ L[k]! < s.slots.length := fun k hk => by
    rw [hsl]; exact bits_lt (by rw [← hL]; exact getB_mem _ _ hk)
  (refine mc_of_aw Tryz.func89 rfl (by simp [Tryz.ntmps89]) ?_; rw [Tryz.ntmps89])
  repeat' (first|(apply id_rw;first|((with_reducible apply rx_callE (k := 100));(case ha => rfl);(case h => exact hus);(case hp => (exact Pur.pf));(case hN => rfl))|(apply rx_move;rfl;rfl)|(first|(apply rx_load1;rfl;rfl;rfl;rfl)|(apply rx_loadA;rfl;rfl;(exact (rfl:_=[_, _, _, _, _]));rfl;rfl;rfl))|(apply rx_fieldAddr;rfl;rfl;rfl)|(apply rx_assign;rfl;rfl)|((with_reducible apply rx_callE (k := 66));(case ha => rfl);(case h => (apply bits_c <;> (assumption)));(case hp => (rfl));(case hN => rfl))|(apply rx_len;rfl;rfl;rfl)|(apply rw_nil;kernel_rfl)|(apply rx_nil;rfl;rfl;rfl)|(apply rx_box;rfl;rfl;rfl;rfl))|(apply id_aw;first|apply aw_seq|apply aw_region|(apply aw_draw;kernel_rfl)|apply aw_block)|with_reducible apply tq_normal)
  rw [← hL]
  refine aw_loopK (σ := Nat) [0, 3, 26, 27] [(0, _), (3, _), (26, _), (27, _)] [0, 1, 2, 3] [(0, some _), (1, some _), (2, some _), (3, some _)] (fun k => [(28, iv (k : Int))]) (fun k => []) (fun k => k ≤ L.length ∧ ∀ j, j < k → s.slots[(L[j]!).toNat]!.set = true) (fun k => L.length - k) (0) ⟨Nat.zero_le _, fun j h => absurd h (by omega)⟩ rfl rfl (by repeat' (first|exact trivial|refine And.intro rfl ?_)) (by repeat' (exact trivial)) ?_
  rintro k ⟨hk, hall⟩
  by_cases hkn : k < L.length
  · have hmk := hmem k hkn
    repeat' (first|(apply id_rw;first|(apply rx_move;rfl;rfl)|(first|(apply rx_loadFj;(case hx|hH => rfl);(case hf|hg|hα => infer_instance);(case hk => omega);(case hc|hN => rfl))|(apply rx_load1;rfl;rfl;rfl;rfl))|(apply rx_fieldAddr;rfl;rfl;rfl)|(first|(apply rx_add;rfl;rfl;omega;rfl)|(apply rx_bin;rfl;rfl;rfl;rfl))|(apply rx_assign;rfl;rfl)|(first|(apply rx_indexFN;(case hx|hi => rfl);(case hm => (assumption));(case hml => (rfl));(case hα | hf|hg => infer_instance);(case hN => rfl))|(apply rx_indexO;rfl;rfl;(omega);rfl))|(apply rw_nil;kernel_rfl)|(apply rx_not;rfl;rfl)|(apply rx_nil;rfl;rfl;rfl))|(apply id_aw;first|apply aw_seq|apply aw_region|(apply aw_cond;rfl;all_goals intro hc;have hq:=hc;(try simp only [bqs] at hq);try exfalso;omega)|apply aw_block|apply aw_skip|apply aw_ret)|with_reducible apply tq_normal|with_reducible apply tq_ret|with_reducible apply bq_normal|with_reducible apply bq_ret)
    · have hu : unsF ts s x = true := (uns_bits htl).2 ⟨L[k]!, by rw [← hL]; exact getB_mem _ _ hkn, by assumption⟩
      rw [dx_u hu]
      (refine rq_ret rfl ?_; refine mc_ret () trivial ?_ ⟨.inr (Eq.trans (b := some _) rfl ?_), ⟨.inr (Eq.trans (b := some _) rfl ?_), ⟨.inr (Eq.trans (b := some _) rfl ?_), trivial⟩⟩⟩)
      · rfl
      · rfl
      · rfl
      · rfl
    · (apply ex3 (k + 1); focus (refine Le.ren [(3, 3)] rfl (by decide) ?_ ?_ <;> repeat' (first | exact trivial | refine And.intro ⟨_, rfl, ?_⟩ ?_ | refine And.intro ⟨_, _, rfl, rfl, ?_⟩ ?_ | exact Or.inr rfl | refine Or.inl ⟨?_, (by first | rfl | exact pur_sl _ _ | exact Pur.pf)⟩ | refine Or.inr (All2.cons ?_ ?_) | refine All2.cons ?_ ?_ | exact All2.nil | rfl)))
      · refine ⟨by omega, fun j hj => ?_⟩
        rcases Nat.lt_or_ge j k with h|h
        · exact hall j h
        · rw [show j = k by omega]; assumption
      · omega
  · have hu : unsF ts s x = false := by
      cases q : unsF ts s x with
      | false => rfl
      | true =>
        obtain ⟨v, hv, hs⟩ := (uns_bits htl).1 q
        rw [← hL] at hv
        obtain ⟨j, hj, e⟩ := List.getElem_of_mem hv
        have h1 := hall j (by omega)
        rw [getB _ _ hj, e, hs] at h1;cases h1
    rw [dx_n hu]
    have hd : doF ts s x = putF ts s x.x.toNat ⟨true, x.n, ⟨0, 0⟩⟩ := by unfold doF;rw [if_pos ho]
    rw [hd]
    have hp := mputI_c ts bd pts s x.x ⟨true, x.n, ⟨0, 0⟩⟩ hm hsl hx
    repeat' (first|(apply id_rw;first|((apply rx_mputI (ts := ts) (bd := bd) (pts := pts) (s := s) (v := x.x) (y := ⟨true, x.n, ⟨0, 0⟩⟩));(case ha0|ha1|ha2|hH0|hH1|hH2|hdd => rfl);(case hmc => exact hp);(case hM|hN => rfl))|(apply rx_move;rfl;rfl)|(apply rx_load1;rfl;rfl;rfl;rfl)|(apply rx_fieldAddr;rfl;rfl;rfl)|(apply rx_bin;rfl;rfl;rfl;rfl)|(apply rx_assign;rfl;rfl)|(apply rw_nil;kernel_rfl)|(apply rx_buildK;rfl;(exact (rfl:_=some [_, _, _, _]));(exact (rfl:_=[_, _, _, _]));rfl))|(apply id_aw;first|apply aw_seq|apply aw_region|(apply aw_cond;rfl;all_goals intro hc;have hq:=hc;(try simp only [bqs] at hq);try exfalso;omega)|apply aw_block|apply aw_exit|apply aw_ret)|with_reducible apply tq_normal|with_reducible apply tq_ret|with_reducible apply tq_exit|with_reducible apply bq_ret|with_reducible apply bq_here)
    (refine rq_ret rfl ?_; refine mc_ret () trivial ?_ ⟨.inr (Eq.trans (b := some _) rfl ?_), ⟨.inr (Eq.trans (b := some _) rfl ?_), ⟨.inr (Eq.trans (b := some _) rfl ?_), trivial⟩⟩⟩)
    · rfl
    · rfl
    · rfl
    · rfl
theorem mdo_2 (ts : List Int) (bd : List AL.Stmt) (pts : List Pnt) (s : Mc) (x : Pnt) (htl : ts.length ≤ 6) (hm : OkM s.cells) (hsl : s.slots.length = ts.length) (ho : x.op = 2) (hn : 0 ≤ x.n ∧ x.n ≤ 9) (hx : 0 ≤ x.x ∧ x.x < ts.length) : MC Tryz.prog 89 [.optr 0 0, aPnt x] [(0, some (mO ts bd pts 1 2 s)), (1, some (flat cSl s.slots)), (2, some (flat cI s.read))] 3 (fun _ : Unit => True) (fun _ => iv (dxF ts s x).2) (fun _ => [(0, some (mO ts bd pts 1 2 (dxF ts s x).1)), (1, some (flat cSl (dxF ts s x).1.slots)), (2, some (flat cI (dxF ts s x).1.read))]) := by
  have hus := used_c ts bd pts x htl
  have hsm : Sm (wS ts x [1, 2, 3]) := mkBits_sm (by omega)
  obtain ⟨L, hL⟩ : ∃ L, L = bitsI (wS ts x [1, 2, 3]) := ⟨_, rfl⟩
  have hLl : L.length ≤ 62 := by rw [hL]; exact bitsI_len _
  have hmem : ∀ k, k < L.length → 0 ≤ L[k]! ∧ L[k]! < s.slots.length := fun k hk => by
    rw [hsl]; exact bits_lt (by rw [← hL]; exact getB_mem _ _ hk)
  (refine mc_of_aw Tryz.func89 rfl (by simp [Tryz.ntmps89]) ?_; rw [Tryz.ntmps89])
  repeat' (first|(apply id_rw;first|((with_reducible apply rx_callE (k := 100));(case ha => rfl);(case h => exact hus);(case hp => (exact Pur.pf));(case hN => rfl))|(apply rx_move;rfl;rfl)|(first|(apply rx_load1;rfl;rfl;rfl;rfl)|(apply rx_loadA;rfl;rfl;(exact (rfl:_=[_, _, _, _, _]));rfl;rfl;rfl))|(apply rx_fieldAddr;rfl;rfl;rfl)|(apply rx_assign;rfl;rfl)|((with_reducible apply rx_callE (k := 66));(case ha => rfl);(case h => (apply bits_c <;> (assumption)));(case hp => (rfl));(case hN => rfl))|(apply rx_len;rfl;rfl;rfl)|(apply rw_nil;kernel_rfl)|(apply rx_nil;rfl;rfl;rfl)|(apply rx_box;rfl;rfl;rfl;rfl))|(apply id_aw;first|apply aw_seq|apply aw_region|(apply aw_draw;kernel_rfl)|apply aw_block)|with_reducible apply tq_normal)
  rw [← hL]
  refine aw_loopK (σ := Nat) [0, 3, 26, 27] [(0, _), (3, _), (26, _), (27, _)] [0, 1, 2, 3] [(0, some _), (1, some _), (2, some _), (3, some _)] (fun k => [(28, iv (k : Int))]) (fun k => []) (fun k => k ≤ L.length ∧ ∀ j, j < k → s.slots[(L[j]!).toNat]!.set = true) (fun k => L.length - k) (0) ⟨Nat.zero_le _, fun j h => absurd h (by omega)⟩ rfl rfl (by repeat' (first|exact trivial|refine And.intro rfl ?_)) (by repeat' (exact trivial)) ?_
  rintro k ⟨hk, hall⟩
  by_cases hkn : k < L.length
  · have hmk := hmem k hkn
    repeat' (first|(apply id_rw;first|(apply rx_move;rfl;rfl)|(first|(apply rx_loadFj;(case hx|hH => rfl);(case hf|hg|hα => infer_instance);(case hk => omega);(case hc|hN => rfl))|(apply rx_load1;rfl;rfl;rfl;rfl))|(apply rx_fieldAddr;rfl;rfl;rfl)|(first|(apply rx_add;rfl;rfl;omega;rfl)|(apply rx_bin;rfl;rfl;rfl;rfl))|(apply rx_assign;rfl;rfl)|(first|(apply rx_indexFN;(case hx|hi => rfl);(case hm => (assumption));(case hml => (rfl));(case hα | hf|hg => infer_instance);(case hN => rfl))|(apply rx_indexO;rfl;rfl;(omega);rfl))|(apply rw_nil;kernel_rfl)|(apply rx_not;rfl;rfl)|(apply rx_nil;rfl;rfl;rfl))|(apply id_aw;first|apply aw_seq|apply aw_region|(apply aw_cond;rfl;all_goals intro hc;have hq:=hc;(try simp only [bqs] at hq);try exfalso;omega)|apply aw_block|apply aw_skip|apply aw_ret)|with_reducible apply tq_normal|with_reducible apply tq_ret|with_reducible apply bq_normal|with_reducible apply bq_ret)
    · have hu : unsF ts s x = true := (uns_bits htl).2 ⟨L[k]!, by rw [← hL]; exact getB_mem _ _ hkn, by assumption⟩
      rw [dx_u hu]
      (refine rq_ret rfl ?_; refine mc_ret () trivial ?_ ⟨.inr (Eq.trans (b := some _) rfl ?_), ⟨.inr (Eq.trans (b := some _) rfl ?_), ⟨.inr (Eq.trans (b := some _) rfl ?_), trivial⟩⟩⟩)
      · rfl
      · rfl
      · rfl
      · rfl
    · (apply ex3 (k + 1); focus (refine Le.ren [(3, 3)] rfl (by decide) ?_ ?_ <;> repeat' (first | exact trivial | refine And.intro ⟨_, rfl, ?_⟩ ?_ | refine And.intro ⟨_, _, rfl, rfl, ?_⟩ ?_ | exact Or.inr rfl | refine Or.inl ⟨?_, (by first | rfl | exact pur_sl _ _ | exact Pur.pf)⟩ | refine Or.inr (All2.cons ?_ ?_) | refine All2.cons ?_ ?_ | exact All2.nil | rfl)))
      · refine ⟨by omega, fun j hj => ?_⟩
        rcases Nat.lt_or_ge j k with h|h
        · exact hall j h
        · rw [show j = k by omega]; assumption
      · omega
  · have hu : unsF ts s x = false := by
      cases q : unsF ts s x with
      | false => rfl
      | true =>
        obtain ⟨v, hv, hs⟩ := (uns_bits htl).1 q
        rw [← hL] at hv
        obtain ⟨j, hj, e⟩ := List.getElem_of_mem hv
        have h1 := hall j (by omega)
        rw [getB _ _ hj, e, hs] at h1;cases h1
    rw [dx_n hu]
    have hml := hm.l
    have hnc := NewCellI_c s.cells hm x.n
    by_cases h2 : s.cells.length = 200
    · rw [if_neg (by omega)] at hnc
      have hd : doF ts s x = (s, 1) := by unfold doF;rw [if_neg (show ¬ x.op = 1 by omega), if_pos ho, if_pos h2]
      rw [hd]
      repeat' (first|(apply id_rw;first|((with_reducible apply rx_callE (k := 114));(case ha => rfl);(case h => exact hnc);(case hp => (exact Pur.pf));(case hN => rfl))|(apply rx_move;rfl;rfl)|(apply rx_load1;rfl;rfl;rfl;rfl)|(apply rx_fieldAddr;rfl;rfl;rfl)|(apply rx_bin;rfl;rfl;rfl;rfl)|(apply rx_assign;rfl;rfl)|(apply rw_nil;kernel_rfl)|(apply rx_not;rfl;rfl)|(apply rx_nil;rfl;rfl;rfl)|(apply rx_alloc;rfl;rfl)|(apply rx_extract;rfl;rfl;rfl)|(apply rx_store;rfl;rfl;rfl;rfl;rfl;(decide);(exact (rfl:_=[_, _]))))|(apply id_aw;first|apply aw_seq|apply aw_region|(apply aw_draw;kernel_rfl)|(apply aw_condT;rfl;(rfl))|(apply aw_cond;rfl;all_goals intro hc;have hq:=hc;(try simp only [bqs] at hq);try exfalso;omega)|apply aw_block|apply aw_exit|apply aw_ret)|with_reducible apply tq_normal|with_reducible apply tq_ret|with_reducible apply tq_exit|with_reducible apply bq_ret|with_reducible apply bq_here)
      (refine rq_ret rfl ?_; refine mc_ret () trivial ?_ ⟨.inr (Eq.trans (b := some _) rfl ?_), ⟨.inr (Eq.trans (b := some _) rfl ?_), ⟨.inr (Eq.trans (b := some _) rfl ?_), trivial⟩⟩⟩)
      · rfl
      · rfl
      · rfl
      · rfl
    · rw [if_pos (by omega)] at hnc
      have hp := mputI_c ts bd pts ⟨s.slots, s.cells ++ [nwC x.n], s.read⟩ x.x ⟨true, 0, ⟨s.cells.length, 0⟩⟩ (hm.nw hn (by omega)) hsl hx
      have hd : doF ts s x = putF ts ⟨s.slots, s.cells ++ [nwC x.n], s.read⟩ x.x.toNat ⟨true, 0, ⟨s.cells.length, 0⟩⟩ := by unfold doF;rw [if_neg (show ¬ x.op = 1 by omega), if_pos ho, if_neg h2]
      rw [hd]
      repeat' (first|(apply id_rw;first|((with_reducible apply rx_callE (k := 114));(case ha => rfl);(case h => exact hnc);(case hp => (exact Pur.pf));(case hN => rfl))|((apply rx_mputI (ts := ts) (bd := bd) (pts := pts) (s := ⟨s.slots, s.cells ++ [nwC x.n], s.read⟩) (v := x.x) (y := ⟨true, 0, ⟨s.cells.length, 0⟩⟩));(case ha0|ha1|ha2|hH0|hH1|hH2|hdd => rfl);(case hmc => exact hp);(case hM|hN => rfl))|(apply rx_move;rfl;rfl)|(first|(apply rx_load1;rfl;rfl;rfl;rfl)|(apply rx_loadA;rfl;rfl;(exact (rfl:_=[_, _]));rfl;rfl;rfl))|(apply rx_fieldAddr;rfl;rfl;rfl)|(apply rx_bin;rfl;rfl;rfl;rfl)|(apply rx_assign;rfl;rfl)|(apply rw_nil;kernel_rfl)|(apply rx_buildK;rfl;(exact (rfl:_=some [_, _, _, _]));(exact (rfl:_=[_, _, _, _]));rfl)|(apply rx_not;rfl;rfl)|(apply rx_nil;rfl;rfl;rfl)|(apply rx_alloc;rfl;rfl)|(apply rx_extract;rfl;rfl;rfl)|(apply rx_store;rfl;rfl;rfl;rfl;rfl;(case hl => (simp;done));(first|exact (rfl:_=[_, _])|exact (rfl:_=[_, _, _, _]))))|(apply id_aw;first|apply aw_seq|apply aw_region|(apply aw_draw;kernel_rfl)|(apply aw_condF;rfl;(rfl))|(apply aw_cond;rfl;all_goals intro hc;have hq:=hc;(try simp only [bqs] at hq);try exfalso;omega)|apply aw_block|apply aw_skip|apply aw_exit|apply aw_ret)|with_reducible apply tq_normal|with_reducible apply tq_ret|with_reducible apply tq_exit|with_reducible apply bq_ret|with_reducible apply bq_here)
      (refine rq_ret rfl ?_; refine mc_ret () trivial ?_ ⟨.inr (Eq.trans (b := some _) rfl ?_), ⟨.inr (Eq.trans (b := some _) rfl ?_), ⟨.inr (Eq.trans (b := some _) rfl ?_), trivial⟩⟩⟩)
      · rfl
      · rfl
      · rfl
      · rfl
theorem mdo_3 (ts : List Int) (bd : List AL.Stmt) (pts : List Pnt) (s : Mc) (x : Pnt) (htl : ts.length ≤ 6) (hm : OkM s.cells) (hsl : s.slots.length = ts.length) (ho : x.op = 3) (hx : 0 ≤ x.x ∧ x.x < ts.length) (hy : 0 ≤ x.y ∧ x.y < ts.length) : MC Tryz.prog 89 [.optr 0 0, aPnt x] [(0, some (mO ts bd pts 1 2 s)), (1, some (flat cSl s.slots)), (2, some (flat cI s.read))] 3 (fun _ : Unit => True) (fun _ => iv (dxF ts s x).2) (fun _ => [(0, some (mO ts bd pts 1 2 (dxF ts s x).1)), (1, some (flat cSl (dxF ts s x).1.slots)), (2, some (flat cI (dxF ts s x).1.read))]) := by
  have hus := used_c ts bd pts x htl
  have hsm : Sm (wS ts x [1, 2, 3]) := mkBits_sm (by omega)
  obtain ⟨L, hL⟩ : ∃ L, L = bitsI (wS ts x [1, 2, 3]) := ⟨_, rfl⟩
  have hLl : L.length ≤ 62 := by rw [hL]; exact bitsI_len _
  have hmem : ∀ k, k < L.length → 0 ≤ L[k]! ∧ L[k]! < s.slots.length := fun k hk => by
    rw [hsl]; exact bits_lt (by rw [← hL]; exact getB_mem _ _ hk)
  (refine mc_of_aw Tryz.func89 rfl (by simp [Tryz.ntmps89]) ?_; rw [Tryz.ntmps89])
  repeat' (first|(apply id_rw;first|((with_reducible apply rx_callE (k := 100));(case ha => rfl);(case h => exact hus);(case hp => (exact Pur.pf));(case hN => rfl))|(apply rx_move;rfl;rfl)|(first|(apply rx_load1;rfl;rfl;rfl;rfl)|(apply rx_loadA;rfl;rfl;(exact (rfl:_=[_, _, _, _, _]));rfl;rfl;rfl))|(apply rx_fieldAddr;rfl;rfl;rfl)|(apply rx_assign;rfl;rfl)|((with_reducible apply rx_callE (k := 66));(case ha => rfl);(case h => (apply bits_c <;> (assumption)));(case hp => (rfl));(case hN => rfl))|(apply rx_len;rfl;rfl;rfl)|(apply rw_nil;kernel_rfl)|(apply rx_nil;rfl;rfl;rfl)|(apply rx_box;rfl;rfl;rfl;rfl))|(apply id_aw;first|apply aw_seq|apply aw_region|(apply aw_draw;kernel_rfl)|apply aw_block)|with_reducible apply tq_normal)
  rw [← hL]
  refine aw_loopK (σ := Nat) [0, 3, 26, 27] [(0, _), (3, _), (26, _), (27, _)] [0, 1, 2, 3] [(0, some _), (1, some _), (2, some _), (3, some _)] (fun k => [(28, iv (k : Int))]) (fun k => []) (fun k => k ≤ L.length ∧ ∀ j, j < k → s.slots[(L[j]!).toNat]!.set = true) (fun k => L.length - k) (0) ⟨Nat.zero_le _, fun j h => absurd h (by omega)⟩ rfl rfl (by repeat' (first|exact trivial|refine And.intro rfl ?_)) (by repeat' (exact trivial)) ?_
  rintro k ⟨hk, hall⟩
  by_cases hkn : k < L.length
  · have hmk := hmem k hkn
    repeat' (first|(apply id_rw;first|(apply rx_move;rfl;rfl)|(first|(apply rx_loadFj;(case hx|hH => rfl);(case hf|hg|hα => infer_instance);(case hk => omega);(case hc|hN => rfl))|(apply rx_load1;rfl;rfl;rfl;rfl))|(apply rx_fieldAddr;rfl;rfl;rfl)|(first|(apply rx_add;rfl;rfl;omega;rfl)|(apply rx_bin;rfl;rfl;rfl;rfl))|(apply rx_assign;rfl;rfl)|(first|(apply rx_indexFN;(case hx|hi => rfl);(case hm => (assumption));(case hml => (rfl));(case hα | hf|hg => infer_instance);(case hN => rfl))|(apply rx_indexO;rfl;rfl;(omega);rfl))|(apply rw_nil;kernel_rfl)|(apply rx_not;rfl;rfl)|(apply rx_nil;rfl;rfl;rfl))|(apply id_aw;first|apply aw_seq|apply aw_region|(apply aw_cond;rfl;all_goals intro hc;have hq:=hc;(try simp only [bqs] at hq);try exfalso;omega)|apply aw_block|apply aw_skip|apply aw_ret)|with_reducible apply tq_normal|with_reducible apply tq_ret|with_reducible apply bq_normal|with_reducible apply bq_ret)
    · have hu : unsF ts s x = true := (uns_bits htl).2 ⟨L[k]!, by rw [← hL]; exact getB_mem _ _ hkn, by assumption⟩
      rw [dx_u hu]
      (refine rq_ret rfl ?_; refine mc_ret () trivial ?_ ⟨.inr (Eq.trans (b := some _) rfl ?_), ⟨.inr (Eq.trans (b := some _) rfl ?_), ⟨.inr (Eq.trans (b := some _) rfl ?_), trivial⟩⟩⟩)
      · rfl
      · rfl
      · rfl
      · rfl
    · (apply ex3 (k + 1); focus (refine Le.ren [(3, 3)] rfl (by decide) ?_ ?_ <;> repeat' (first | exact trivial | refine And.intro ⟨_, rfl, ?_⟩ ?_ | refine And.intro ⟨_, _, rfl, rfl, ?_⟩ ?_ | exact Or.inr rfl | refine Or.inl ⟨?_, (by first | rfl | exact pur_sl _ _ | exact Pur.pf)⟩ | refine Or.inr (All2.cons ?_ ?_) | refine All2.cons ?_ ?_ | exact All2.nil | rfl)))
      · refine ⟨by omega, fun j hj => ?_⟩
        rcases Nat.lt_or_ge j k with h|h
        · exact hall j h
        · rw [show j = k by omega]; assumption
      · omega
  · have hu : unsF ts s x = false := by
      cases q : unsF ts s x with
      | false => rfl
      | true =>
        obtain ⟨v, hv, hs⟩ := (uns_bits htl).1 q
        rw [← hL] at hv
        obtain ⟨j, hj, e⟩ := List.getElem_of_mem hv
        have h1 := hall j (by omega)
        rw [getB _ _ hj, e, hs] at h1;cases h1
    rw [dx_n hu]
    have hd : doF ts s x = putF ts (if tkT ts[x.y.toNat]! = true then ⟨s.slots.set x.y.toNat sl0, s.cells, s.read⟩ else s) x.x.toNat s.slots[x.y.toNat]! := by unfold doF;rw [if_neg (show ¬ x.op = 1 by omega), if_neg (show ¬ x.op = 2 by omega), if_pos ho]
    rw [hd]
    have htk := takes_c ts bd pts x.y hy
    by_cases hk : tkT ts[x.y.toNat]! = true
    · rw [hk] at htk
      rw [if_pos hk]
      have hp := mputI_c ts bd pts ⟨s.slots.set x.y.toNat sl0, s.cells, s.read⟩ x.x s.slots[x.y.toNat]! hm (by show (s.slots.set _ _).length = _; rw [List.length_set]; exact hsl) hx
      repeat' (first|(apply id_rw;first|((with_reducible apply rx_callE (k := 115));(case ha => rfl);(case h => exact htk);(case hp => (exact Pur.pf));(case hN => rfl))|((apply rx_mputI (ts := ts) (bd := bd) (pts := pts) (s := ⟨s.slots.set x.y.toNat sl0, s.cells, s.read⟩) (v := x.x) (y := s.slots[x.y.toNat]!));(case ha0|ha1|ha2|hH0|hH1|hH2|hdd => rfl);(case hmc => exact hp);(case hM|hN => rfl))|(apply rx_move;rfl;rfl)|(first|(apply rx_loadFA;(case hx|hH => rfl);(case hf|hg|hα => infer_instance);(case hk => omega);(case h0|hN => rfl))|(apply rx_load1;rfl;rfl;rfl;rfl)|(apply rx_loadA;rfl;rfl;(exact (rfl:_=[_, _, _, _]));rfl;rfl;rfl))|(apply rx_fieldAddr;rfl;rfl;rfl)|(apply rx_bin;rfl;rfl;rfl;rfl)|(apply rx_assign;rfl;rfl)|(apply rx_indexO;rfl;rfl;(assumption);rfl)|(apply rw_nil;kernel_rfl)|(apply rx_buildK;rfl;(exact (rfl:_=some [_, _, _, _]));(exact (rfl:_=[_, _, _, _]));rfl)|(apply rx_nil;rfl;rfl;rfl)|(apply rx_alloc;rfl;rfl)|(apply rx_store;rfl;rfl;rfl;rfl;rfl;(case hl => (first|(rw [flat_length]; simp only [lns] <;> omega)|(simp;done)));(first|exact st_sl (by (omega))|exact (rfl:_=[_, _, _, _]))))|(apply id_aw;first|apply aw_seq|apply aw_region|(apply aw_draw;kernel_rfl)|(apply aw_condT;rfl;(rfl))|(apply aw_cond;rfl;all_goals intro hc;have hq:=hc;(try simp only [bqs] at hq);try exfalso;omega)|apply aw_block|apply aw_exit|apply aw_ret)|with_reducible apply tq_normal|with_reducible apply tq_ret|with_reducible apply tq_exit|with_reducible apply bq_ret|with_reducible apply bq_here)
      (refine rq_ret rfl ?_; refine mc_ret () trivial ?_ ⟨.inr (Eq.trans (b := some _) rfl ?_), ⟨.inr (Eq.trans (b := some _) rfl ?_), ⟨.inr (Eq.trans (b := some _) rfl ?_), trivial⟩⟩⟩)
      · rfl
      · rfl
      · rfl
      · rfl
    · have hk2 : tkT ts[x.y.toNat]! = false := by simpa using hk
      rw [hk2] at htk
      rw [if_neg hk]
      have hp := mputI_c ts bd pts s x.x s.slots[x.y.toNat]! hm hsl hx
      repeat' (first|(apply id_rw;first|((with_reducible apply rx_callE (k := 115));(case ha => rfl);(case h => exact htk);(case hp => (exact Pur.pf));(case hN => rfl))|((apply rx_mputI (ts := ts) (bd := bd) (pts := pts) (s := s) (v := x.x) (y := s.slots[x.y.toNat]!));(case ha0|ha1|ha2|hH0|hH1|hH2|hdd => rfl);(case hmc => exact hp);(case hM|hN => rfl))|(apply rx_move;rfl;rfl)|(first|(apply rx_loadFA;(case hx|hH => rfl);(case hf|hg|hα => infer_instance);(case hk => omega);(case h0|hN => rfl))|(apply rx_load1;rfl;rfl;rfl;rfl)|(apply rx_loadA;rfl;rfl;(exact (rfl:_=[_, _, _, _]));rfl;rfl;rfl))|(apply rx_fieldAddr;rfl;rfl;rfl)|(apply rx_bin;rfl;rfl;rfl;rfl)|(apply rx_assign;rfl;rfl)|(apply rx_indexO;rfl;rfl;(assumption);rfl)|(apply rw_nil;kernel_rfl)|(apply rx_nil;rfl;rfl;rfl)|(apply rx_alloc;rfl;rfl)|(apply rx_store;rfl;rfl;rfl;rfl;rfl;(case hl => (simp;done));(exact (rfl:_=[_, _, _, _]))))|(apply id_aw;first|apply aw_seq|apply aw_region|(apply aw_draw;kernel_rfl)|(apply aw_condF;rfl;(rfl))|(apply aw_cond;rfl;all_goals intro hc;have hq:=hc;(try simp only [bqs] at hq);try exfalso;omega)|apply aw_block|apply aw_skip|apply aw_exit|apply aw_ret)|with_reducible apply tq_normal|with_reducible apply tq_ret|with_reducible apply tq_exit|with_reducible apply bq_ret|with_reducible apply bq_here)
      (refine rq_ret rfl ?_; refine mc_ret () trivial ?_ ⟨.inr (Eq.trans (b := some _) rfl ?_), ⟨.inr (Eq.trans (b := some _) rfl ?_), ⟨.inr (Eq.trans (b := some _) rfl ?_), trivial⟩⟩⟩)
      · rfl
      · rfl
      · rfl
      · rfl
theorem mdo_45 (ts : List Int) (bd : List AL.Stmt) (pts : List Pnt) (s : Mc) (x : Pnt) (htl : ts.length ≤ 6) (hm : OkM s.cells) (hsl : s.slots.length = ts.length) (ho : x.op = 4 ∨ x.op = 5) (hx : 0 ≤ x.x ∧ x.x < ts.length) (hy : 0 ≤ x.y ∧ x.y < ts.length) : MC Tryz.prog 89 [.optr 0 0, aPnt x] [(0, some (mO ts bd pts 1 2 s)), (1, some (flat cSl s.slots)), (2, some (flat cI s.read))] 3 (fun _ : Unit => True) (fun _ => iv (dxF ts s x).2) (fun _ => [(0, some (mO ts bd pts 1 2 (dxF ts s x).1)), (1, some (flat cSl (dxF ts s x).1.slots)), (2, some (flat cI (dxF ts s x).1.read))]) := by
  have hus := used_c ts bd pts x htl
  have hsm : Sm (wS ts x [1, 2, 3]) := mkBits_sm (by omega)
  obtain ⟨L, hL⟩ : ∃ L, L = bitsI (wS ts x [1, 2, 3]) := ⟨_, rfl⟩
  have hLl : L.length ≤ 62 := by rw [hL]; exact bitsI_len _
  have hmem : ∀ k, k < L.length → 0 ≤ L[k]! ∧ L[k]! < s.slots.length := fun k hk => by
    rw [hsl]; exact bits_lt (by rw [← hL]; exact getB_mem _ _ hk)
  (refine mc_of_aw Tryz.func89 rfl (by simp [Tryz.ntmps89]) ?_; rw [Tryz.ntmps89])
  repeat' (first|(apply id_rw;first|((with_reducible apply rx_callE (k := 100));(case ha => rfl);(case h => exact hus);(case hp => (exact Pur.pf));(case hN => rfl))|(apply rx_move;rfl;rfl)|(first|(apply rx_load1;rfl;rfl;rfl;rfl)|(apply rx_loadA;rfl;rfl;(exact (rfl:_=[_, _, _, _, _]));rfl;rfl;rfl))|(apply rx_fieldAddr;rfl;rfl;rfl)|(apply rx_assign;rfl;rfl)|((with_reducible apply rx_callE (k := 66));(case ha => rfl);(case h => (apply bits_c <;> (assumption)));(case hp => (rfl));(case hN => rfl))|(apply rx_len;rfl;rfl;rfl)|(apply rw_nil;kernel_rfl)|(apply rx_nil;rfl;rfl;rfl)|(apply rx_box;rfl;rfl;rfl;rfl))|(apply id_aw;first|apply aw_seq|apply aw_region|(apply aw_draw;kernel_rfl)|apply aw_block)|with_reducible apply tq_normal)
  rw [← hL]
  refine aw_loopK (σ := Nat) [0, 3, 26, 27] [(0, _), (3, _), (26, _), (27, _)] [0, 1, 2, 3] [(0, some _), (1, some _), (2, some _), (3, some _)] (fun k => [(28, iv (k : Int))]) (fun k => []) (fun k => k ≤ L.length ∧ ∀ j, j < k → s.slots[(L[j]!).toNat]!.set = true) (fun k => L.length - k) (0) ⟨Nat.zero_le _, fun j h => absurd h (by omega)⟩ rfl rfl (by repeat' (first|exact trivial|refine And.intro rfl ?_)) (by repeat' (exact trivial)) ?_
  rintro k ⟨hk, hall⟩
  by_cases hkn : k < L.length
  · have hmk := hmem k hkn
    repeat' (first|(apply id_rw;first|(apply rx_move;rfl;rfl)|(first|(apply rx_loadFj;(case hx|hH => rfl);(case hf|hg|hα => infer_instance);(case hk => omega);(case hc|hN => rfl))|(apply rx_load1;rfl;rfl;rfl;rfl))|(apply rx_fieldAddr;rfl;rfl;rfl)|(first|(apply rx_add;rfl;rfl;omega;rfl)|(apply rx_bin;rfl;rfl;rfl;rfl))|(apply rx_assign;rfl;rfl)|(first|(apply rx_indexFN;(case hx|hi => rfl);(case hm => (assumption));(case hml => (rfl));(case hα | hf|hg => infer_instance);(case hN => rfl))|(apply rx_indexO;rfl;rfl;(omega);rfl))|(apply rw_nil;kernel_rfl)|(apply rx_not;rfl;rfl)|(apply rx_nil;rfl;rfl;rfl))|(apply id_aw;first|apply aw_seq|apply aw_region|(apply aw_cond;rfl;all_goals intro hc;have hq:=hc;(try simp only [bqs] at hq);try exfalso;omega)|apply aw_block|apply aw_skip|apply aw_ret)|with_reducible apply tq_normal|with_reducible apply tq_ret|with_reducible apply bq_normal|with_reducible apply bq_ret)
    · have hu : unsF ts s x = true := (uns_bits htl).2 ⟨L[k]!, by rw [← hL]; exact getB_mem _ _ hkn, by assumption⟩
      rw [dx_u hu]
      (refine rq_ret rfl ?_; refine mc_ret () trivial ?_ ⟨.inr (Eq.trans (b := some _) rfl ?_), ⟨.inr (Eq.trans (b := some _) rfl ?_), ⟨.inr (Eq.trans (b := some _) rfl ?_), trivial⟩⟩⟩)
      · rfl
      · rfl
      · rfl
      · rfl
    · (apply ex3 (k + 1); focus (refine Le.ren [(3, 3)] rfl (by decide) ?_ ?_ <;> repeat' (first | exact trivial | refine And.intro ⟨_, rfl, ?_⟩ ?_ | refine And.intro ⟨_, _, rfl, rfl, ?_⟩ ?_ | exact Or.inr rfl | refine Or.inl ⟨?_, (by first | rfl | exact pur_sl _ _ | exact Pur.pf)⟩ | refine Or.inr (All2.cons ?_ ?_) | refine All2.cons ?_ ?_ | exact All2.nil | rfl)))
      · refine ⟨by omega, fun j hj => ?_⟩
        rcases Nat.lt_or_ge j k with h|h
        · exact hall j h
        · rw [show j = k by omega]; assumption
      · omega
  · have hu : unsF ts s x = false := by
      cases q : unsF ts s x with
      | false => rfl
      | true =>
        obtain ⟨v, hv, hs⟩ := (uns_bits htl).1 q
        rw [← hL] at hv
        obtain ⟨j, hj, e⟩ := List.getElem_of_mem hv
        have h1 := hall j (by omega)
        rw [getB _ _ hj, e, hs] at h1;cases h1
    rw [dx_n hu]
    have hle := lentI_c s.cells hm s.slots[x.y.toNat]!.ptr (decide (x.op = 5))
    by_cases hk : lnK s.cells s.slots[x.y.toNat]!.ptr (decide (x.op = 5)) = 0
    · have hp := mputI_c ts bd pts ⟨s.slots, lnM s.cells s.slots[x.y.toNat]!.ptr (decide (x.op = 5)), s.read⟩ x.x ⟨true, 0, lnP s.cells s.slots[x.y.toNat]!.ptr (decide (x.op = 5))⟩ (hm.ln _ _) hsl hx
      have hd : doF ts s x = putF ts ⟨s.slots, lnM s.cells s.slots[x.y.toNat]!.ptr (decide (x.op = 5)), s.read⟩ x.x.toNat ⟨true, 0, lnP s.cells s.slots[x.y.toNat]!.ptr (decide (x.op = 5))⟩ := by unfold doF;rw [if_neg (show ¬ x.op = 1 by omega), if_neg (show ¬ x.op = 2 by omega), if_neg (show ¬ x.op = 3 by omega), if_pos ho, if_pos hk]
      rw [hd]
      rw [hk] at hle
      repeat' (first|(apply id_rw;first|(apply rx_loadFP;(case hx|hH => rfl);(case hf|hg|hα => infer_instance);(case hk => omega);(case hj => decide);(case hc => exact (rfl:_=[_, _]));(case h0|hN => rfl))|((with_reducible apply rx_callE (k := 116));(case ha => rfl);(case h => exact hle);(case hp => (exact Pur.pf));(case hN => rfl))|((apply rx_mputI (ts := ts) (bd := bd) (pts := pts) (s := ⟨s.slots, lnM s.cells s.slots[x.y.toNat]!.ptr (decide (x.op = 5)), s.read⟩) (v := x.x) (y := ⟨true, 0, lnP s.cells s.slots[x.y.toNat]!.ptr (decide (x.op = 5))⟩));(case ha0|ha1|ha2|hH0|hH1|hH2|hdd => rfl);(case hmc => exact hp);(case hM|hN => rfl))|(apply rx_move;rfl;rfl)|(first|(apply rx_load1;rfl;rfl;rfl;rfl)|(apply rx_loadA;rfl;rfl;(exact (rfl:_=[_, _]));rfl;rfl;rfl))|(apply rx_fieldAddr;rfl;rfl;rfl)|(apply rx_bin;rfl;rfl;rfl;rfl)|(apply rx_assign;rfl;rfl)|(apply rx_indexO;rfl;rfl;(assumption);rfl)|(apply rw_nil;kernel_rfl)|(apply rx_buildK;rfl;(exact (rfl:_=some [_, _, _, _]));(exact (rfl:_=[_, _, _, _]));rfl)|(apply rx_nil;rfl;rfl;rfl)|(apply rx_alloc;rfl;rfl)|(apply rx_extract;rfl;rfl;rfl)|(apply rx_store;rfl;rfl;rfl;rfl;rfl;(case hl => (simp;done));(first|exact (rfl:_=[_, _])|exact (rfl:_=[_, _, _, _]))))|(apply id_aw;first|apply aw_seq|apply aw_region|(apply aw_draw;kernel_rfl)|(apply aw_condT;rfl;(assumption))|(apply aw_condF;rfl;(rfl))|(apply aw_cond;rfl;all_goals intro hc;have hq:=hc;(try simp only [bqs] at hq);try exfalso;omega)|apply aw_block|apply aw_skip|apply aw_exit|apply aw_ret)|with_reducible apply tq_normal|with_reducible apply tq_ret|with_reducible apply tq_exit|with_reducible apply bq_ret|with_reducible apply bq_here)
      all_goals (
        (refine rq_ret rfl ?_; refine mc_ret () trivial ?_ ⟨.inr (Eq.trans (b := some _) rfl ?_), ⟨.inr (Eq.trans (b := some _) rfl ?_), ⟨.inr (Eq.trans (b := some _) rfl ?_), trivial⟩⟩⟩)
        · rfl
        · rfl
        · rfl
        · rfl)
    · have hd : doF ts s x = (s, endK (lnK s.cells s.slots[x.y.toNat]!.ptr (decide (x.op = 5)))) := by unfold doF; rw [if_neg (show ¬ x.op = 1 by omega), if_neg (show ¬ x.op = 2 by omega), if_neg (show ¬ x.op = 3 by omega), if_pos ho, if_neg hk]
      rw [hd]
      repeat' (first|(apply id_rw;first|(apply rx_loadFP;(case hx|hH => rfl);(case hf|hg|hα => infer_instance);(case hk => omega);(case hj => decide);(case hc => exact (rfl:_=[_, _]));(case h0|hN => rfl))|((with_reducible apply rx_callE (k := 116));(case ha => rfl);(case h => exact hle);(case hp => (exact Pur.pf));(case hN => rfl))|(apply rx_move;rfl;rfl)|(apply rx_load1;rfl;rfl;rfl;rfl)|(apply rx_fieldAddr;rfl;rfl;rfl)|(apply rx_bin;rfl;rfl;rfl;rfl)|(apply rx_assign;rfl;rfl)|(apply rx_indexO;rfl;rfl;(assumption);rfl)|((with_reducible apply rx_callE (k := 117));(case ha => rfl);(case h => (apply endOf_c <;> (fail)));(case hp => (rfl));(case hN => rfl))|(apply rw_nil;kernel_rfl)|(apply rx_nil;rfl;rfl;rfl)|(apply rx_alloc;rfl;rfl)|(apply rx_extract;rfl;rfl;rfl)|(apply rx_store;rfl;rfl;rfl;rfl;rfl;(case hl => (simp;done));(exact (rfl:_=[_, _]))))|(apply id_aw;first|apply aw_seq|apply aw_region|(apply aw_draw;kernel_rfl)|(apply aw_condT;rfl;(assumption))|(apply aw_cond;rfl;all_goals intro hc;have hq:=hc;(try simp only [bqs] at hq);try exfalso;omega)|apply aw_block|apply aw_skip|apply aw_exit|apply aw_ret)|with_reducible apply tq_normal|with_reducible apply tq_ret|with_reducible apply tq_exit|with_reducible apply bq_ret|with_reducible apply bq_here)
      all_goals (
        (refine rq_ret rfl ?_; refine mc_ret () trivial ?_ ⟨.inr (Eq.trans (b := some _) rfl ?_), ⟨.inr (Eq.trans (b := some _) rfl ?_), ⟨.inr (Eq.trans (b := some _) rfl ?_), trivial⟩⟩⟩)
        · rfl
        · rfl
        · rfl
        · rfl)
theorem mdo_6 (ts : List Int) (bd : List AL.Stmt) (pts : List Pnt) (s : Mc) (x : Pnt) (htl : ts.length ≤ 6) (hm : OkM s.cells) (hsl : s.slots.length = ts.length) (ho : x.op = 6) (hrl : s.read.length ≤ 1000) (hx : 0 ≤ x.x ∧ x.x < ts.length) (hy : 0 ≤ x.y ∧ x.y < ts.length) (hz : ¬ tchK s.cells s.slots[x.y.toNat]!.ptr false = 0) : MC Tryz.prog 89 [.optr 0 0, aPnt x] [(0, some (mO ts bd pts 1 2 s)), (1, some (flat cSl s.slots)), (2, some (flat cI s.read))] 3 (fun _ : Unit => True) (fun _ => iv (dxF ts s x).2) (fun _ => [(0, some (mO ts bd pts 1 2 (dxF ts s x).1)), (1, some (flat cSl (dxF ts s x).1.slots)), (2, some (flat cI (dxF ts s x).1.read))]) := by
  have hus := used_c ts bd pts x htl
  have hsm : Sm (wS ts x [1, 2, 3]) := mkBits_sm (by omega)
  obtain ⟨L, hL⟩ : ∃ L, L = bitsI (wS ts x [1, 2, 3]) := ⟨_, rfl⟩
  have hLl : L.length ≤ 62 := by rw [hL]; exact bitsI_len _
  have hmem : ∀ k, k < L.length → 0 ≤ L[k]! ∧ L[k]! < s.slots.length := fun k hk => by
    rw [hsl]; exact bits_lt (by rw [← hL]; exact getB_mem _ _ hk)
  (refine mc_of_aw Tryz.func89 rfl (by simp [Tryz.ntmps89]) ?_; rw [Tryz.ntmps89])
  repeat' (first|(apply id_rw;first|((with_reducible apply rx_callE (k := 100));(case ha => rfl);(case h => exact hus);(case hp => (exact Pur.pf));(case hN => rfl))|(apply rx_move;rfl;rfl)|(first|(apply rx_load1;rfl;rfl;rfl;rfl)|(apply rx_loadA;rfl;rfl;(exact (rfl:_=[_, _, _, _, _]));rfl;rfl;rfl))|(apply rx_fieldAddr;rfl;rfl;rfl)|(apply rx_assign;rfl;rfl)|((with_reducible apply rx_callE (k := 66));(case ha => rfl);(case h => (apply bits_c <;> (assumption)));(case hp => (rfl));(case hN => rfl))|(apply rx_len;rfl;rfl;rfl)|(apply rw_nil;kernel_rfl)|(apply rx_nil;rfl;rfl;rfl)|(apply rx_box;rfl;rfl;rfl;rfl))|(apply id_aw;first|apply aw_seq|apply aw_region|(apply aw_draw;kernel_rfl)|apply aw_block)|with_reducible apply tq_normal)
  rw [← hL]
  refine aw_loopK (σ := Nat) [0, 3, 26, 27] [(0, _), (3, _), (26, _), (27, _)] [0, 1, 2, 3] [(0, some _), (1, some _), (2, some _), (3, some _)] (fun k => [(28, iv (k : Int))]) (fun k => []) (fun k => k ≤ L.length ∧ ∀ j, j < k → s.slots[(L[j]!).toNat]!.set = true) (fun k => L.length - k) (0) ⟨Nat.zero_le _, fun j h => absurd h (by omega)⟩ rfl rfl (by repeat' (first|exact trivial|refine And.intro rfl ?_)) (by repeat' (exact trivial)) ?_
  rintro k ⟨hk, hall⟩
  by_cases hkn : k < L.length
  · have hmk := hmem k hkn
    repeat' (first|(apply id_rw;first|(apply rx_move;rfl;rfl)|(first|(apply rx_loadFj;(case hx|hH => rfl);(case hf|hg|hα => infer_instance);(case hk => omega);(case hc|hN => rfl))|(apply rx_load1;rfl;rfl;rfl;rfl))|(apply rx_fieldAddr;rfl;rfl;rfl)|(first|(apply rx_add;rfl;rfl;omega;rfl)|(apply rx_bin;rfl;rfl;rfl;rfl))|(apply rx_assign;rfl;rfl)|(first|(apply rx_indexFN;(case hx|hi => rfl);(case hm => (assumption));(case hml => (rfl));(case hα | hf|hg => infer_instance);(case hN => rfl))|(apply rx_indexO;rfl;rfl;(omega);rfl))|(apply rw_nil;kernel_rfl)|(apply rx_not;rfl;rfl)|(apply rx_nil;rfl;rfl;rfl))|(apply id_aw;first|apply aw_seq|apply aw_region|(apply aw_cond;rfl;all_goals intro hc;have hq:=hc;(try simp only [bqs] at hq);try exfalso;omega)|apply aw_block|apply aw_skip|apply aw_ret)|with_reducible apply tq_normal|with_reducible apply tq_ret|with_reducible apply bq_normal|with_reducible apply bq_ret)
    · have hu : unsF ts s x = true := (uns_bits htl).2 ⟨L[k]!, by rw [← hL]; exact getB_mem _ _ hkn, by assumption⟩
      rw [dx_u hu]
      (refine rq_ret rfl ?_; refine mc_ret () trivial ?_ ⟨.inr (Eq.trans (b := some _) rfl ?_), ⟨.inr (Eq.trans (b := some _) rfl ?_), ⟨.inr (Eq.trans (b := some _) rfl ?_), trivial⟩⟩⟩)
      · rfl
      · rfl
      · rfl
      · rfl
    · (apply ex3 (k + 1); focus (refine Le.ren [(3, 3)] rfl (by decide) ?_ ?_ <;> repeat' (first | exact trivial | refine And.intro ⟨_, rfl, ?_⟩ ?_ | refine And.intro ⟨_, _, rfl, rfl, ?_⟩ ?_ | exact Or.inr rfl | refine Or.inl ⟨?_, (by first | rfl | exact pur_sl _ _ | exact Pur.pf)⟩ | refine Or.inr (All2.cons ?_ ?_) | refine All2.cons ?_ ?_ | exact All2.nil | rfl)))
      · refine ⟨by omega, fun j hj => ?_⟩
        rcases Nat.lt_or_ge j k with h|h
        · exact hall j h
        · rw [show j = k by omega]; assumption
      · omega
  · have hu : unsF ts s x = false := by
      cases q : unsF ts s x with
      | false => rfl
      | true =>
        obtain ⟨v, hv, hs⟩ := (uns_bits htl).1 q
        rw [← hL] at hv
        obtain ⟨j, hj, e⟩ := List.getElem_of_mem hv
        have h1 := hall j (by omega)
        rw [getB _ _ hj, e, hs] at h1;cases h1
    rw [dx_n hu]
    have hrc := ReadCellI_c s.cells hm s.slots[x.y.toNat]!.ptr
    have hd : doF ts s x = (s, endK (tchK s.cells s.slots[x.y.toNat]!.ptr false)) := by unfold doF;rw [if_neg (show ¬ x.op = 1 by omega), if_neg (show ¬ x.op = 2 by omega), if_neg (show ¬ x.op = 3 by omega), if_neg (show ¬ (x.op = 4 ∨ x.op = 5) by omega), if_pos ho, if_neg hz]
    rw [hd]
    repeat' (first|(apply id_rw;first|(apply rx_loadFP;(case hx|hH => rfl);(case hf|hg|hα => infer_instance);(case hk => omega);(case hj => decide);(case hc => exact (rfl:_=[_, _]));(case h0|hN => rfl))|((with_reducible apply rx_callE (k := 118));(case ha => rfl);(case h => exact hrc);(case hp => (exact Pur.pf));(case hN => rfl))|(apply rx_move;rfl;rfl)|(apply rx_load1;rfl;rfl;rfl;rfl)|(apply rx_fieldAddr;rfl;rfl;rfl)|(apply rx_bin;rfl;rfl;rfl;rfl)|(apply rx_assign;rfl;rfl)|(apply rx_indexO;rfl;rfl;(assumption);rfl)|((with_reducible apply rx_callE (k := 117));(case ha => rfl);(case h => (apply endOf_c <;> (fail)));(case hp => (rfl));(case hN => rfl))|(apply rw_nil;kernel_rfl)|(apply rx_nil;rfl;rfl;rfl)|(apply rx_extract;rfl;rfl;rfl))|(apply id_aw;first|apply aw_seq|apply aw_region|(apply aw_draw;kernel_rfl)|(apply aw_cond;rfl;all_goals intro hc;have hq:=hc;(try simp only [bqs] at hq);try exfalso;omega)|apply aw_block|apply aw_exit|apply aw_ret)|with_reducible apply tq_normal|with_reducible apply tq_ret|with_reducible apply tq_exit|with_reducible apply bq_ret|with_reducible apply bq_here)
    (refine rq_ret rfl ?_; refine mc_ret () trivial ?_ ⟨.inr (Eq.trans (b := some _) rfl ?_), ⟨.inr (Eq.trans (b := some _) rfl ?_), ⟨.inr (Eq.trans (b := some _) rfl ?_), trivial⟩⟩⟩)
    · rfl
    · rfl
    · rfl
    · rfl
theorem mdo_7 (ts : List Int) (bd : List AL.Stmt) (pts : List Pnt) (s : Mc) (x : Pnt) (htl : ts.length ≤ 6) (hm : OkM s.cells) (hsl : s.slots.length = ts.length) (ho : x.op = 7) (hx : 0 ≤ x.x ∧ x.x < ts.length) (hy : 0 ≤ x.y ∧ x.y < ts.length) : MC Tryz.prog 89 [.optr 0 0, aPnt x] [(0, some (mO ts bd pts 1 2 s)), (1, some (flat cSl s.slots)), (2, some (flat cI s.read))] 3 (fun _ : Unit => True) (fun _ => iv (dxF ts s x).2) (fun _ => [(0, some (mO ts bd pts 1 2 (dxF ts s x).1)), (1, some (flat cSl (dxF ts s x).1.slots)), (2, some (flat cI (dxF ts s x).1.read))]) := by
  have hus := used_c ts bd pts x htl
  have hsm : Sm (wS ts x [1, 2, 3]) := mkBits_sm (by omega)
  obtain ⟨L, hL⟩ : ∃ L, L = bitsI (wS ts x [1, 2, 3]) := ⟨_, rfl⟩
  have hLl : L.length ≤ 62 := by rw [hL]; exact bitsI_len _
  have hmem : ∀ k, k < L.length → 0 ≤ L[k]! ∧ L[k]! < s.slots.length := fun k hk => by
    rw [hsl]; exact bits_lt (by rw [← hL]; exact getB_mem _ _ hk)
  (refine mc_of_aw Tryz.func89 rfl (by simp [Tryz.ntmps89]) ?_; rw [Tryz.ntmps89])
  repeat' (first|(apply id_rw;first|((with_reducible apply rx_callE (k := 100));(case ha => rfl);(case h => exact hus);(case hp => (exact Pur.pf));(case hN => rfl))|(apply rx_move;rfl;rfl)|(first|(apply rx_load1;rfl;rfl;rfl;rfl)|(apply rx_loadA;rfl;rfl;(exact (rfl:_=[_, _, _, _, _]));rfl;rfl;rfl))|(apply rx_fieldAddr;rfl;rfl;rfl)|(apply rx_assign;rfl;rfl)|((with_reducible apply rx_callE (k := 66));(case ha => rfl);(case h => (apply bits_c <;> (assumption)));(case hp => (rfl));(case hN => rfl))|(apply rx_len;rfl;rfl;rfl)|(apply rw_nil;kernel_rfl)|(apply rx_nil;rfl;rfl;rfl)|(apply rx_box;rfl;rfl;rfl;rfl))|(apply id_aw;first|apply aw_seq|apply aw_region|(apply aw_draw;kernel_rfl)|apply aw_block)|with_reducible apply tq_normal)
  rw [← hL]
  refine aw_loopK (σ := Nat) [0, 3, 26, 27] [(0, _), (3, _), (26, _), (27, _)] [0, 1, 2, 3] [(0, some _), (1, some _), (2, some _), (3, some _)] (fun k => [(28, iv (k : Int))]) (fun k => []) (fun k => k ≤ L.length ∧ ∀ j, j < k → s.slots[(L[j]!).toNat]!.set = true) (fun k => L.length - k) (0) ⟨Nat.zero_le _, fun j h => absurd h (by omega)⟩ rfl rfl (by repeat' (first|exact trivial|refine And.intro rfl ?_)) (by repeat' (exact trivial)) ?_
  rintro k ⟨hk, hall⟩
  by_cases hkn : k < L.length
  · have hmk := hmem k hkn
    repeat' (first|(apply id_rw;first|(apply rx_move;rfl;rfl)|(first|(apply rx_loadFj;(case hx|hH => rfl);(case hf|hg|hα => infer_instance);(case hk => omega);(case hc|hN => rfl))|(apply rx_load1;rfl;rfl;rfl;rfl))|(apply rx_fieldAddr;rfl;rfl;rfl)|(first|(apply rx_add;rfl;rfl;omega;rfl)|(apply rx_bin;rfl;rfl;rfl;rfl))|(apply rx_assign;rfl;rfl)|(first|(apply rx_indexFN;(case hx|hi => rfl);(case hm => (assumption));(case hml => (rfl));(case hα | hf|hg => infer_instance);(case hN => rfl))|(apply rx_indexO;rfl;rfl;(omega);rfl))|(apply rw_nil;kernel_rfl)|(apply rx_not;rfl;rfl)|(apply rx_nil;rfl;rfl;rfl))|(apply id_aw;first|apply aw_seq|apply aw_region|(apply aw_cond;rfl;all_goals intro hc;have hq:=hc;(try simp only [bqs] at hq);try exfalso;omega)|apply aw_block|apply aw_skip|apply aw_ret)|with_reducible apply tq_normal|with_reducible apply tq_ret|with_reducible apply bq_normal|with_reducible apply bq_ret)
    · have hu : unsF ts s x = true := (uns_bits htl).2 ⟨L[k]!, by rw [← hL]; exact getB_mem _ _ hkn, by assumption⟩
      rw [dx_u hu]
      (refine rq_ret rfl ?_; refine mc_ret () trivial ?_ ⟨.inr (Eq.trans (b := some _) rfl ?_), ⟨.inr (Eq.trans (b := some _) rfl ?_), ⟨.inr (Eq.trans (b := some _) rfl ?_), trivial⟩⟩⟩)
      · rfl
      · rfl
      · rfl
      · rfl
    · (apply ex3 (k + 1); focus (refine Le.ren [(3, 3)] rfl (by decide) ?_ ?_ <;> repeat' (first | exact trivial | refine And.intro ⟨_, rfl, ?_⟩ ?_ | refine And.intro ⟨_, _, rfl, rfl, ?_⟩ ?_ | exact Or.inr rfl | refine Or.inl ⟨?_, (by first | rfl | exact pur_sl _ _ | exact Pur.pf)⟩ | refine Or.inr (All2.cons ?_ ?_) | refine All2.cons ?_ ?_ | exact All2.nil | rfl)))
      · refine ⟨by omega, fun j hj => ?_⟩
        rcases Nat.lt_or_ge j k with h|h
        · exact hall j h
        · rw [show j = k by omega]; assumption
      · omega
  · have hu : unsF ts s x = false := by
      cases q : unsF ts s x with
      | false => rfl
      | true =>
        obtain ⟨v, hv, hs⟩ := (uns_bits htl).1 q
        rw [← hL] at hv
        obtain ⟨j, hj, e⟩ := List.getElem_of_mem hv
        have h1 := hall j (by omega)
        rw [getB _ _ hj, e, hs] at h1;cases h1
    rw [dx_n hu]
    have hwr := WriteCellI_c s.cells hm s.slots[x.x.toNat]!.ptr s.slots[x.y.toNat]!.num
    have hd : doF ts s x = (⟨s.slots, wrM s.cells s.slots[x.x.toNat]!.ptr s.slots[x.y.toNat]!.num, s.read⟩, goK (wrK s.cells s.slots[x.x.toNat]!.ptr s.slots[x.y.toNat]!.num)) := by unfold doF;rw [if_neg (show ¬ x.op = 1 by omega), if_neg (show ¬ x.op = 2 by omega), if_neg (show ¬ x.op = 3 by omega), if_neg (show ¬ (x.op = 4 ∨ x.op = 5) by omega), if_neg (show ¬ x.op = 6 by omega), if_pos ho]
    rw [hd]
    repeat' (first|(apply id_rw;first|(apply rx_loadFP;(case hx|hH => rfl);(case hf|hg|hα => infer_instance);(case hk => omega);(case hj => decide);(case hc => exact (rfl:_=[_, _]));(case h0|hN => rfl))|((with_reducible apply rx_callE (k := 119));(case ha => rfl);(case h => exact hwr);(case hp => (exact Pur.pf));(case hN => rfl))|(apply rx_move;rfl;rfl)|(first|(apply rx_loadFj;(case hx|hH => rfl);(case hf|hg|hα => infer_instance);(case hk => omega);(case hc|hN => rfl))|(apply rx_load1;rfl;rfl;rfl;rfl))|(apply rx_fieldAddr;rfl;rfl;rfl)|(apply rx_bin;rfl;rfl;rfl;rfl)|(apply rx_assign;rfl;rfl)|(apply rx_indexO;rfl;rfl;(assumption);rfl)|((with_reducible apply rx_callE (k := 117));(case ha => rfl);(case h => (apply endOf_c <;> (fail)));(case hp => (rfl));(case hN => rfl))|(apply rw_nil;kernel_rfl)|(apply rx_nil;rfl;rfl;rfl)|(apply rx_extract;rfl;rfl;rfl)|(apply rx_store;rfl;rfl;rfl;rfl;rfl;(case hl => (simp;done));(exact (rfl:_=[_, _, _, _]))))|(apply id_aw;first|apply aw_seq|apply aw_region|(apply aw_draw;kernel_rfl)|(apply aw_cond;rfl;all_goals intro hc;have hq:=hc;(try simp only [bqs] at hq);try exfalso;omega)|apply aw_block|apply aw_skip|apply aw_exit|apply aw_ret)|with_reducible apply tq_normal|with_reducible apply tq_ret|with_reducible apply tq_exit|with_reducible apply bq_normal|with_reducible apply bq_ret|with_reducible apply bq_here)
    · have hk : ¬ wrK s.cells s.slots[x.x.toNat]!.ptr s.slots[x.y.toNat]!.num = 0 := by assumption
      (refine rq_ret rfl ?_; refine mc_ret () trivial ?_ ⟨.inr (Eq.trans (b := some _) rfl ?_), ⟨.inr (Eq.trans (b := some _) rfl ?_), ⟨.inr (Eq.trans (b := some _) rfl ?_), trivial⟩⟩⟩)
      · show iv (endK _) = iv (goK _)
        unfold goK;rw [if_neg hk]
      · rfl
      · rfl
      · rfl
    · have hk : wrK s.cells s.slots[x.x.toNat]!.ptr s.slots[x.y.toNat]!.num = 0 := by assumption
      (refine rq_ret rfl ?_; refine mc_ret () trivial ?_ ⟨.inr (Eq.trans (b := some _) rfl ?_), ⟨.inr (Eq.trans (b := some _) rfl ?_), ⟨.inr (Eq.trans (b := some _) rfl ?_), trivial⟩⟩⟩)
      · rw [hk]; rfl
      · rfl
      · rfl
      · rfl
theorem mdo_8 (ts : List Int) (bd : List AL.Stmt) (pts : List Pnt) (s : Mc) (x : Pnt) (htl : ts.length ≤ 6) (hm : OkM s.cells) (hsl : s.slots.length = ts.length) (ho : x.op = 8) (hx : 0 ≤ x.x ∧ x.x < ts.length) : MC Tryz.prog 89 [.optr 0 0, aPnt x] [(0, some (mO ts bd pts 1 2 s)), (1, some (flat cSl s.slots)), (2, some (flat cI s.read))] 3 (fun _ : Unit => True) (fun _ => iv (dxF ts s x).2) (fun _ => [(0, some (mO ts bd pts 1 2 (dxF ts s x).1)), (1, some (flat cSl (dxF ts s x).1.slots)), (2, some (flat cI (dxF ts s x).1.read))]) := by
  have hus := used_c ts bd pts x htl
  have hsm : Sm (wS ts x [1, 2, 3]) := mkBits_sm (by omega)
  obtain ⟨L, hL⟩ : ∃ L, L = bitsI (wS ts x [1, 2, 3]) := ⟨_, rfl⟩
  have hLl : L.length ≤ 62 := by rw [hL]; exact bitsI_len _
  have hmem : ∀ k, k < L.length → 0 ≤ L[k]! ∧ L[k]! < s.slots.length := fun k hk => by
    rw [hsl]; exact bits_lt (by rw [← hL]; exact getB_mem _ _ hk)
  (refine mc_of_aw Tryz.func89 rfl (by simp [Tryz.ntmps89]) ?_; rw [Tryz.ntmps89])
  repeat' (first|(apply id_rw;first|((with_reducible apply rx_callE (k := 100));(case ha => rfl);(case h => exact hus);(case hp => (exact Pur.pf));(case hN => rfl))|(apply rx_move;rfl;rfl)|(first|(apply rx_load1;rfl;rfl;rfl;rfl)|(apply rx_loadA;rfl;rfl;(exact (rfl:_=[_, _, _, _, _]));rfl;rfl;rfl))|(apply rx_fieldAddr;rfl;rfl;rfl)|(apply rx_assign;rfl;rfl)|((with_reducible apply rx_callE (k := 66));(case ha => rfl);(case h => (apply bits_c <;> (assumption)));(case hp => (rfl));(case hN => rfl))|(apply rx_len;rfl;rfl;rfl)|(apply rw_nil;kernel_rfl)|(apply rx_nil;rfl;rfl;rfl)|(apply rx_box;rfl;rfl;rfl;rfl))|(apply id_aw;first|apply aw_seq|apply aw_region|(apply aw_draw;kernel_rfl)|apply aw_block)|with_reducible apply tq_normal)
  rw [← hL]
  refine aw_loopK (σ := Nat) [0, 3, 26, 27] [(0, _), (3, _), (26, _), (27, _)] [0, 1, 2, 3] [(0, some _), (1, some _), (2, some _), (3, some _)] (fun k => [(28, iv (k : Int))]) (fun k => []) (fun k => k ≤ L.length ∧ ∀ j, j < k → s.slots[(L[j]!).toNat]!.set = true) (fun k => L.length - k) (0) ⟨Nat.zero_le _, fun j h => absurd h (by omega)⟩ rfl rfl (by repeat' (first|exact trivial|refine And.intro rfl ?_)) (by repeat' (exact trivial)) ?_
  rintro k ⟨hk, hall⟩
  by_cases hkn : k < L.length
  · have hmk := hmem k hkn
    repeat' (first|(apply id_rw;first|(apply rx_move;rfl;rfl)|(first|(apply rx_loadFj;(case hx|hH => rfl);(case hf|hg|hα => infer_instance);(case hk => omega);(case hc|hN => rfl))|(apply rx_load1;rfl;rfl;rfl;rfl))|(apply rx_fieldAddr;rfl;rfl;rfl)|(first|(apply rx_add;rfl;rfl;omega;rfl)|(apply rx_bin;rfl;rfl;rfl;rfl))|(apply rx_assign;rfl;rfl)|(first|(apply rx_indexFN;(case hx|hi => rfl);(case hm => (assumption));(case hml => (rfl));(case hα | hf|hg => infer_instance);(case hN => rfl))|(apply rx_indexO;rfl;rfl;(omega);rfl))|(apply rw_nil;kernel_rfl)|(apply rx_not;rfl;rfl)|(apply rx_nil;rfl;rfl;rfl))|(apply id_aw;first|apply aw_seq|apply aw_region|(apply aw_cond;rfl;all_goals intro hc;have hq:=hc;(try simp only [bqs] at hq);try exfalso;omega)|apply aw_block|apply aw_skip|apply aw_ret)|with_reducible apply tq_normal|with_reducible apply tq_ret|with_reducible apply bq_normal|with_reducible apply bq_ret)
    · have hu : unsF ts s x = true := (uns_bits htl).2 ⟨L[k]!, by rw [← hL]; exact getB_mem _ _ hkn, by assumption⟩
      rw [dx_u hu]
      (refine rq_ret rfl ?_; refine mc_ret () trivial ?_ ⟨.inr (Eq.trans (b := some _) rfl ?_), ⟨.inr (Eq.trans (b := some _) rfl ?_), ⟨.inr (Eq.trans (b := some _) rfl ?_), trivial⟩⟩⟩)
      · rfl
      · rfl
      · rfl
      · rfl
    · (apply ex3 (k + 1); focus (refine Le.ren [(3, 3)] rfl (by decide) ?_ ?_ <;> repeat' (first | exact trivial | refine And.intro ⟨_, rfl, ?_⟩ ?_ | refine And.intro ⟨_, _, rfl, rfl, ?_⟩ ?_ | exact Or.inr rfl | refine Or.inl ⟨?_, (by first | rfl | exact pur_sl _ _ | exact Pur.pf)⟩ | refine Or.inr (All2.cons ?_ ?_) | refine All2.cons ?_ ?_ | exact All2.nil | rfl)))
      · refine ⟨by omega, fun j hj => ?_⟩
        rcases Nat.lt_or_ge j k with h|h
        · exact hall j h
        · rw [show j = k by omega]; assumption
      · omega
  · have hu : unsF ts s x = false := by
      cases q : unsF ts s x with
      | false => rfl
      | true =>
        obtain ⟨v, hv, hs⟩ := (uns_bits htl).1 q
        rw [← hL] at hv
        obtain ⟨j, hj, e⟩ := List.getElem_of_mem hv
        have h1 := hall j (by omega)
        rw [getB _ _ hj, e, hs] at h1;cases h1
    rw [dx_n hu]
    have hfr := mfreeI_c ts bd pts s x.x hm hsl hx
    have hd : doF ts s x = (⟨s.slots.set x.x.toNat sl0, frM s.cells s.slots[x.x.toNat]!.ptr, s.read⟩, goK (tchK s.cells s.slots[x.x.toNat]!.ptr true)) := by unfold doF;rw [if_neg (show ¬ x.op = 1 by omega), if_neg (show ¬ x.op = 2 by omega), if_neg (show ¬ x.op = 3 by omega), if_neg (show ¬ (x.op = 4 ∨ x.op = 5) by omega), if_neg (show ¬ x.op = 6 by omega), if_neg (show ¬ x.op = 7 by omega), if_pos ho]
    rw [hd]
    repeat' (first|(apply id_rw;first|((apply rx_mfreeI (ts := ts) (bd := bd) (pts := pts) (s := s) (v := x.x));(case ha0|ha1|hH0|hH1|hH2|hdd => rfl);(case hmc => exact hfr);(case hM|hN => rfl))|(apply rx_move;rfl;rfl)|(apply rx_load1;rfl;rfl;rfl;rfl)|(apply rx_fieldAddr;rfl;rfl;rfl)|(apply rx_bin;rfl;rfl;rfl;rfl)|(apply rx_assign;rfl;rfl)|(apply rx_indexO;rfl;rfl;(assumption);rfl)|(apply rw_nil;kernel_rfl)|(apply rx_buildK;rfl;(exact (rfl:_=some [_, _, _, _]));(exact (rfl:_=[_, _, _, _]));rfl)|(apply rx_nil;rfl;rfl;rfl)|(apply rx_store;rfl;rfl;rfl;rfl;rfl;(rw [flat_length]; simp only [lns] <;> omega);(exact st_sl (by (omega)))))|(apply id_aw;first|apply aw_seq|apply aw_region|(apply aw_draw;kernel_rfl)|(apply aw_cond;rfl;all_goals intro hc;have hq:=hc;(try simp only [bqs] at hq);try exfalso;omega)|apply aw_block|apply aw_exit|apply aw_ret)|with_reducible apply tq_normal|with_reducible apply tq_ret|with_reducible apply tq_exit|with_reducible apply bq_ret|with_reducible apply bq_here)
    (refine rq_ret rfl ?_; refine mc_ret () trivial ?_ ⟨.inr (Eq.trans (b := some _) rfl ?_), ⟨.inr (Eq.trans (b := some _) rfl ?_), ⟨.inr (Eq.trans (b := some _) rfl ?_), trivial⟩⟩⟩)
    · rfl
    · rfl
    · rfl
    · rfl
theorem mdo_9 (ts : List Int) (bd : List AL.Stmt) (pts : List Pnt) (s : Mc) (x : Pnt) (htl : ts.length ≤ 6) (hm : OkM s.cells) (hsl : s.slots.length = ts.length) (ho : x.op = 9 ∨ x.op = 10 ∨ x.op = 11) : MC Tryz.prog 89 [.optr 0 0, aPnt x] [(0, some (mO ts bd pts 1 2 s)), (1, some (flat cSl s.slots)), (2, some (flat cI s.read))] 3 (fun _ : Unit => True) (fun _ => iv (dxF ts s x).2) (fun _ => [(0, some (mO ts bd pts 1 2 (dxF ts s x).1)), (1, some (flat cSl (dxF ts s x).1.slots)), (2, some (flat cI (dxF ts s x).1.read))]) := by
  have hus := used_c ts bd pts x htl
  have hsm : Sm (wS ts x [1, 2, 3]) := mkBits_sm (by omega)
  obtain ⟨L, hL⟩ : ∃ L, L = bitsI (wS ts x [1, 2, 3]) := ⟨_, rfl⟩
  have hLl : L.length ≤ 62 := by rw [hL]; exact bitsI_len _
  have hmem : ∀ k, k < L.length → 0 ≤ L[k]! ∧ L[k]! < s.slots.length := fun k hk => by
    rw [hsl]; exact bits_lt (by rw [← hL]; exact getB_mem _ _ hk)
  (refine mc_of_aw Tryz.func89 rfl (by simp [Tryz.ntmps89]) ?_; rw [Tryz.ntmps89])
  repeat' (first|(apply id_rw;first|((with_reducible apply rx_callE (k := 100));(case ha => rfl);(case h => exact hus);(case hp => (exact Pur.pf));(case hN => rfl))|(apply rx_move;rfl;rfl)|(first|(apply rx_load1;rfl;rfl;rfl;rfl)|(apply rx_loadA;rfl;rfl;(exact (rfl:_=[_, _, _, _, _]));rfl;rfl;rfl))|(apply rx_fieldAddr;rfl;rfl;rfl)|(apply rx_assign;rfl;rfl)|((with_reducible apply rx_callE (k := 66));(case ha => rfl);(case h => (apply bits_c <;> (assumption)));(case hp => (rfl));(case hN => rfl))|(apply rx_len;rfl;rfl;rfl)|(apply rw_nil;kernel_rfl)|(apply rx_nil;rfl;rfl;rfl)|(apply rx_box;rfl;rfl;rfl;rfl))|(apply id_aw;first|apply aw_seq|apply aw_region|(apply aw_draw;kernel_rfl)|apply aw_block)|with_reducible apply tq_normal)
  rw [← hL]
  refine aw_loopK (σ := Nat) [0, 3, 26, 27] [(0, _), (3, _), (26, _), (27, _)] [0, 1, 2, 3] [(0, some _), (1, some _), (2, some _), (3, some _)] (fun k => [(28, iv (k : Int))]) (fun k => []) (fun k => k ≤ L.length ∧ ∀ j, j < k → s.slots[(L[j]!).toNat]!.set = true) (fun k => L.length - k) (0) ⟨Nat.zero_le _, fun j h => absurd h (by omega)⟩ rfl rfl (by repeat' (first|exact trivial|refine And.intro rfl ?_)) (by repeat' (exact trivial)) ?_
  rintro k ⟨hk, hall⟩
  by_cases hkn : k < L.length
  · have hmk := hmem k hkn
    repeat' (first|(apply id_rw;first|(apply rx_move;rfl;rfl)|(first|(apply rx_loadFj;(case hx|hH => rfl);(case hf|hg|hα => infer_instance);(case hk => omega);(case hc|hN => rfl))|(apply rx_load1;rfl;rfl;rfl;rfl))|(apply rx_fieldAddr;rfl;rfl;rfl)|(first|(apply rx_add;rfl;rfl;omega;rfl)|(apply rx_bin;rfl;rfl;rfl;rfl))|(apply rx_assign;rfl;rfl)|(first|(apply rx_indexFN;(case hx|hi => rfl);(case hm => (assumption));(case hml => (rfl));(case hα | hf|hg => infer_instance);(case hN => rfl))|(apply rx_indexO;rfl;rfl;(omega);rfl))|(apply rw_nil;kernel_rfl)|(apply rx_not;rfl;rfl)|(apply rx_nil;rfl;rfl;rfl))|(apply id_aw;first|apply aw_seq|apply aw_region|(apply aw_cond;rfl;all_goals intro hc;have hq:=hc;(try simp only [bqs] at hq);try exfalso;omega)|apply aw_block|apply aw_skip|apply aw_ret)|with_reducible apply tq_normal|with_reducible apply tq_ret|with_reducible apply bq_normal|with_reducible apply bq_ret)
    · have hu : unsF ts s x = true := (uns_bits htl).2 ⟨L[k]!, by rw [← hL]; exact getB_mem _ _ hkn, by assumption⟩
      rw [dx_u hu]
      (refine rq_ret rfl ?_; refine mc_ret () trivial ?_ ⟨.inr (Eq.trans (b := some _) rfl ?_), ⟨.inr (Eq.trans (b := some _) rfl ?_), ⟨.inr (Eq.trans (b := some _) rfl ?_), trivial⟩⟩⟩)
      · rfl
      · rfl
      · rfl
      · rfl
    · (apply ex3 (k + 1); focus (refine Le.ren [(3, 3)] rfl (by decide) ?_ ?_ <;> repeat' (first | exact trivial | refine And.intro ⟨_, rfl, ?_⟩ ?_ | refine And.intro ⟨_, _, rfl, rfl, ?_⟩ ?_ | exact Or.inr rfl | refine Or.inl ⟨?_, (by first | rfl | exact pur_sl _ _ | exact Pur.pf)⟩ | refine Or.inr (All2.cons ?_ ?_) | refine All2.cons ?_ ?_ | exact All2.nil | rfl)))
      · refine ⟨by omega, fun j hj => ?_⟩
        rcases Nat.lt_or_ge j k with h|h
        · exact hall j h
        · rw [show j = k by omega]; assumption
      · omega
  · have hu : unsF ts s x = false := by
      cases q : unsF ts s x with
      | false => rfl
      | true =>
        obtain ⟨v, hv, hs⟩ := (uns_bits htl).1 q
        rw [← hL] at hv
        obtain ⟨j, hj, e⟩ := List.getElem_of_mem hv
        have h1 := hall j (by omega)
        rw [getB _ _ hj, e, hs] at h1;cases h1
    rw [dx_n hu]
    by_cases h11 : x.op = 11
    · have hd : doF ts s x = finF ts ts.length 0 s := do_11 h11
      rw [hd]
      have hfi := mfin_c ts bd pts s hm hsl (by omega)
      repeat' (first|(apply id_rw;first|((apply rx_mfin (ts := ts) (bd := bd) (pts := pts) (s := s));(case ha0|hH0|hH1|hH2|hdd => rfl);(case hmc => exact hfi);(case hM|hN => rfl))|(apply rx_move;rfl;rfl)|(apply rx_load1;rfl;rfl;rfl;rfl)|(apply rx_fieldAddr;rfl;rfl;rfl)|(apply rx_bin;rfl;rfl;rfl;rfl)|(apply rx_assign;rfl;rfl)|(apply rw_nil;kernel_rfl))|(apply id_aw;first|apply aw_seq|apply aw_region|(apply aw_cond;rfl;all_goals intro hc;have hq:=hc;(try simp only [bqs] at hq);try exfalso;omega)|apply aw_block|apply aw_exit|apply aw_ret)|with_reducible apply tq_normal|with_reducible apply tq_ret|with_reducible apply tq_exit|with_reducible apply bq_ret|with_reducible apply bq_here)
      (refine rq_ret rfl ?_; refine mc_ret () trivial ?_ ⟨.inr (Eq.trans (b := some _) rfl ?_), ⟨.inr (Eq.trans (b := some _) rfl ?_), ⟨.inr (Eq.trans (b := some _) rfl ?_), trivial⟩⟩⟩)
      · rfl
      · rfl
      · rfl
      · rfl
    · have hd : doF ts s x = (s, -1) := by unfold doF; rw [if_neg (show ¬ x.op = 1 by omega), if_neg (show ¬ x.op = 2 by omega), if_neg (show ¬ x.op = 3 by omega), if_neg (show ¬ (x.op = 4 ∨ x.op = 5) by omega), if_neg (show ¬ x.op = 6 by omega), if_neg (show ¬ x.op = 7 by omega), if_neg (show ¬ x.op = 8 by omega), if_neg (show ¬ x.op = 11 by omega)]
      rw [hd]
      repeat' (first|(apply id_rw;first|(apply rx_load1;rfl;rfl;rfl;rfl)|(apply rx_fieldAddr;rfl;rfl;rfl)|(apply rx_bin;rfl;rfl;rfl;rfl)|(apply rx_assign;rfl;rfl)|(apply rw_nil;kernel_rfl))|(apply id_aw;first|apply aw_seq|apply aw_region|(apply aw_cond;rfl;all_goals intro hc;have hq:=hc;(try simp only [bqs] at hq);try exfalso;omega)|apply aw_block|apply aw_skip|apply aw_exit|apply aw_ret)|with_reducible apply tq_normal|with_reducible apply tq_exit|with_reducible apply bq_normal|with_reducible apply bq_here)
      (refine rq_ret rfl ?_; refine mc_ret () trivial ?_ ⟨.inr (Eq.trans (b := some _) rfl ?_), ⟨.inr (Eq.trans (b := some _) rfl ?_), ⟨.inr (Eq.trans (b := some _) rfl ?_), trivial⟩⟩⟩)
      · rfl
      · rfl
      · rfl
      · rfl
theorem mdo6_c (ts : List Int) (bd : List AL.Stmt) (pts : List Pnt) (s : Mc) (x : Pnt) (htl : ts.length ≤ 6) (hm : OkM s.cells) (hsl : s.slots.length = ts.length) (ho : x.op = 6) (hrl : s.read.length ≤ 1000) (hx : 0 ≤ x.x ∧ x.x < ts.length) (hy : 0 ≤ x.y ∧ x.y < ts.length) (hz : tchK s.cells s.slots[x.y.toNat]!.ptr false = 0) (hun : unsF ts s x = false) : MC Tryz.prog 89 [.optr 0 0, aPnt x] [(0, some (mO ts bd pts 1 2 s)), (1, some (flat cSl s.slots)), (2, some (flat cI s.read))] 3 (fun _ : Unit => True) (fun _ => iv (dxF ts s x).2) (fun _ => [(0, some (mO ts bd pts 1 5 (dxF ts s x).1)), (1, some (flat cSl (dxF ts s x).1.slots)), (5, some (flat cI (dxF ts s x).1.read))]) := by
  have hus := used_c ts bd pts x htl
  have hsm : Sm (wS ts x [1, 2, 3]) := mkBits_sm (by omega)
  obtain ⟨L, hL⟩ : ∃ L, L = bitsI (wS ts x [1, 2, 3]) := ⟨_, rfl⟩
  have hLl : L.length ≤ 62 := by rw [hL]; exact bitsI_len _
  have hmem : ∀ k, k < L.length → 0 ≤ L[k]! ∧ L[k]! < s.slots.length := fun k hk => by
    rw [hsl]; exact bits_lt (by rw [← hL]; exact getB_mem _ _ hk)
  (refine mc_of_aw Tryz.func89 rfl (by simp [Tryz.ntmps89]) ?_; rw [Tryz.ntmps89])
  repeat' (first|(apply id_rw;first|((with_reducible apply rx_callE (k := 100));(case ha => rfl);(case h => exact hus);(case hp => (exact Pur.pf));(case hN => rfl))|(apply rx_move;rfl;rfl)|(first|(apply rx_load1;rfl;rfl;rfl;rfl)|(apply rx_loadA;rfl;rfl;(exact (rfl:_=[_, _, _, _, _]));rfl;rfl;rfl))|(apply rx_fieldAddr;rfl;rfl;rfl)|(apply rx_assign;rfl;rfl)|((with_reducible apply rx_callE (k := 66));(case ha => rfl);(case h => (apply bits_c <;> (assumption)));(case hp => (rfl));(case hN => rfl))|(apply rx_len;rfl;rfl;rfl)|(apply rw_nil;kernel_rfl)|(apply rx_nil;rfl;rfl;rfl)|(apply rx_box;rfl;rfl;rfl;rfl))|(apply id_aw;first|apply aw_seq|apply aw_region|(apply aw_draw;kernel_rfl)|apply aw_block)|with_reducible apply tq_normal)
  rw [← hL]
  refine aw_loopK (σ := Nat) [0, 3, 26, 27] [(0, _), (3, _), (26, _), (27, _)] [0, 1, 2, 3] [(0, some _), (1, some _), (2, some _), (3, some _)] (fun k => [(28, iv (k : Int))]) (fun k => []) (fun k => k ≤ L.length ∧ ∀ j, j < k → s.slots[(L[j]!).toNat]!.set = true) (fun k => L.length - k) (0) ⟨Nat.zero_le _, fun j h => absurd h (by omega)⟩ rfl rfl (by repeat' (first|exact trivial|refine And.intro rfl ?_)) (by repeat' (exact trivial)) ?_
  rintro k ⟨hk, hall⟩
  by_cases hkn : k < L.length
  · have hmk := hmem k hkn
    repeat' (first|(apply id_rw;first|(apply rx_move;rfl;rfl)|(first|(apply rx_loadFj;(case hx|hH => rfl);(case hf|hg|hα => infer_instance);(case hk => omega);(case hc|hN => rfl))|(apply rx_load1;rfl;rfl;rfl;rfl))|(apply rx_fieldAddr;rfl;rfl;rfl)|(first|(apply rx_add;rfl;rfl;omega;rfl)|(apply rx_bin;rfl;rfl;rfl;rfl))|(apply rx_assign;rfl;rfl)|(first|(apply rx_indexFN;(case hx|hi => rfl);(case hm => (assumption));(case hml => (rfl));(case hα | hf|hg => infer_instance);(case hN => rfl))|(apply rx_indexO;rfl;rfl;(omega);rfl))|(apply rw_nil;kernel_rfl)|(apply rx_not;rfl;rfl)|(apply rx_nil;rfl;rfl;rfl))|(apply id_aw;first|apply aw_seq|apply aw_region|(apply aw_cond;rfl;all_goals intro hc;have hq:=hc;(try simp only [bqs] at hq);try exfalso;omega)|apply aw_block|apply aw_skip|apply aw_ret)|with_reducible apply tq_normal|with_reducible apply tq_ret|with_reducible apply bq_normal|with_reducible apply bq_ret)
    · exfalso
      have hu : unsF ts s x = true := (uns_bits htl).2 ⟨L[k]!, by rw [← hL]; exact getB_mem _ _ hkn, by assumption⟩
      rw [hun] at hu;cases hu
    · (apply ex3 (k + 1); focus (refine Le.ren [(3, 3)] rfl (by decide) ?_ ?_ <;> repeat' (first | exact trivial | refine And.intro ⟨_, rfl, ?_⟩ ?_ | refine And.intro ⟨_, _, rfl, rfl, ?_⟩ ?_ | exact Or.inr rfl | refine Or.inl ⟨?_, (by first | rfl | exact pur_sl _ _ | exact Pur.pf)⟩ | refine Or.inr (All2.cons ?_ ?_) | refine All2.cons ?_ ?_ | exact All2.nil | rfl)))
      · refine ⟨by omega, fun j hj => ?_⟩
        rcases Nat.lt_or_ge j k with h|h
        · exact hall j h
        · rw [show j = k by omega]; assumption
      · omega
  · have hu : unsF ts s x = false := by
      cases q : unsF ts s x with
      | false => rfl
      | true =>
        obtain ⟨v, hv, hs⟩ := (uns_bits htl).1 q
        rw [← hL] at hv
        obtain ⟨j, hj, e⟩ := List.getElem_of_mem hv
        have h1 := hall j (by omega)
        rw [getB _ _ hj, e, hs] at h1;cases h1
    rw [dx_n hu]
    have hrc := ReadCellI_c s.cells hm s.slots[x.y.toNat]!.ptr
    have hp := mputI_c ts bd pts ⟨s.slots, tchM s.cells s.slots[x.y.toNat]!.ptr false, s.read ++ [rdN s.cells s.slots[x.y.toNat]!.ptr]⟩ x.x ⟨true, rdN s.cells s.slots[x.y.toNat]!.ptr, ⟨0, 0⟩⟩ (hm.tch _ _) hsl hx
    have hd : doF ts s x = putF ts ⟨s.slots, tchM s.cells s.slots[x.y.toNat]!.ptr false, s.read ++ [rdN s.cells s.slots[x.y.toNat]!.ptr]⟩ x.x.toNat ⟨true, rdN s.cells s.slots[x.y.toNat]!.ptr, ⟨0, 0⟩⟩ := by unfold doF;rw [if_neg (show ¬ x.op = 1 by omega), if_neg (show ¬ x.op = 2 by omega), if_neg (show ¬ x.op = 3 by omega), if_neg (show ¬ (x.op = 4 ∨ x.op = 5) by omega), if_pos ho, if_pos hz]
    rw [hd]
    rw [hz] at hrc
    repeat' (first|(apply id_rw;first|(apply rx_loadFP;(case hx|hH => rfl);(case hf|hg|hα => infer_instance);(case hk => omega);(case hj => decide);(case hc => exact (rfl:_=[_, _]));(case h0|hN => rfl))|((with_reducible apply rx_callE (k := 118));(case ha => rfl);(case h => exact hrc);(case hp => (exact Pur.pf));(case hN => rfl))|(with_reducible apply rw_stop (d := 184))|(apply rx_move;rfl;rfl)|(apply rx_load1;rfl;rfl;rfl;rfl)|(apply rx_fieldAddr;rfl;rfl;rfl)|(apply rx_bin;rfl;rfl;rfl;rfl)|(apply rx_assign;rfl;rfl)|(apply rx_indexO;rfl;rfl;(assumption);rfl)|(apply rx_append;rfl;rfl;rfl;rfl;rfl;(rw [flat_length]; omega);(rfl);omega;omega;(exact app_int (by (omega)));rfl;rfl)|(apply rw_nil;kernel_rfl)|(apply rx_nil;rfl;rfl;rfl)|(apply rx_extract;rfl;rfl;rfl)|((apply rx_buildSliceI (t := _));(case hze|hsm|hl => rfl);(case hfl => exact (rfl:_=some [_]));(case hM|hN => rfl))|(apply rx_store;rfl;rfl;rfl;rfl;rfl;(case hl => (simp;done));(exact (rfl:_=[_, _, _, _]))))|(apply id_aw;first|apply aw_seq|apply aw_region|(apply aw_draw;kernel_rfl)|(apply aw_condF;rfl;(rfl))|(apply aw_cond;rfl;all_goals intro hc;have hq:=hc;(try simp only [bqs] at hq);try exfalso;omega)|apply aw_block|apply aw_skip|apply aw_exit)|with_reducible apply tq_normal|with_reducible apply tq_exit|with_reducible apply bq_here)
    refine rw_go ?_
    rw [show s.read.length + 1 = (s.read ++ [rdN s.cells s.slots[x.y.toNat]!.ptr]).length from by rw [List.length_append]; rfl]
    repeat' (first|(apply id_rw;first|((apply rx_mputI (ts := ts) (bd := bd) (pts := pts) (s := ⟨s.slots, tchM s.cells s.slots[x.y.toNat]!.ptr false, s.read ++ [rdN s.cells s.slots[x.y.toNat]!.ptr]⟩) (v := x.x) (y := ⟨true, rdN s.cells s.slots[x.y.toNat]!.ptr, ⟨0, 0⟩⟩));(case ha0|ha1|ha2|hH0|hH1|hH2|hdd => rfl);(case hmc => exact hp);(case hM|hN => rfl))|(apply rx_move;rfl;rfl)|(apply rx_load1;rfl;rfl;rfl;rfl)|(apply rx_fieldAddr;rfl;rfl;rfl)|(apply rx_assign;rfl;rfl)|(apply rw_nil;kernel_rfl)|(apply rx_buildK;rfl;(exact (rfl:_=some [_, _, _, _]));(exact (rfl:_=[_, _, _, _]));rfl))|(apply id_aw;(apply aw_ret))|with_reducible apply tq_normal|with_reducible apply tq_ret|with_reducible apply bq_ret)
    (refine rq_ret rfl ?_; refine mc_ret () trivial ?_ ⟨.inr (Eq.trans (b := some _) rfl ?_), ⟨.inr (Eq.trans (b := some _) rfl ?_), ⟨.inr (Eq.trans (b := some _) rfl ?_), trivial⟩⟩⟩)
    · rfl
    · rfl
    · rfl
    · rfl
theorem mdo_u (ts : List Int) (bd : List AL.Stmt) (pts : List Pnt) (s : Mc) (x : Pnt) (htl : ts.length ≤ 6) (hm : OkM s.cells) (hsl : s.slots.length = ts.length) (hun : unsF ts s x = true) : MC Tryz.prog 89 [.optr 0 0, aPnt x] [(0, some (mO ts bd pts 1 2 s)), (1, some (flat cSl s.slots)), (2, some (flat cI s.read))] 3 (fun _ : Unit => True) (fun _ => iv (dxF ts s x).2) (fun _ => [(0, some (mO ts bd pts 1 2 (dxF ts s x).1)), (1, some (flat cSl (dxF ts s x).1.slots)), (2, some (flat cI (dxF ts s x).1.read))]) := by
  have hus := used_c ts bd pts x htl
  have hsm : Sm (wS ts x [1, 2, 3]) := mkBits_sm (by omega)
  obtain ⟨L, hL⟩ : ∃ L, L = bitsI (wS ts x [1, 2, 3]) := ⟨_, rfl⟩
  have hLl : L.length ≤ 62 := by rw [hL]; exact bitsI_len _
  have hmem : ∀ k, k < L.length → 0 ≤ L[k]! ∧ L[k]! < s.slots.length := fun k hk => by
    rw [hsl]; exact bits_lt (by rw [← hL]; exact getB_mem _ _ hk)
  (refine mc_of_aw Tryz.func89 rfl (by simp [Tryz.ntmps89]) ?_; rw [Tryz.ntmps89])
  repeat' (first|(apply id_rw;first|((with_reducible apply rx_callE (k := 100));(case ha => rfl);(case h => exact hus);(case hp => (exact Pur.pf));(case hN => rfl))|(apply rx_move;rfl;rfl)|(first|(apply rx_load1;rfl;rfl;rfl;rfl)|(apply rx_loadA;rfl;rfl;(exact (rfl:_=[_, _, _, _, _]));rfl;rfl;rfl))|(apply rx_fieldAddr;rfl;rfl;rfl)|(apply rx_assign;rfl;rfl)|((with_reducible apply rx_callE (k := 66));(case ha => rfl);(case h => (apply bits_c <;> (assumption)));(case hp => (rfl));(case hN => rfl))|(apply rx_len;rfl;rfl;rfl)|(apply rw_nil;kernel_rfl)|(apply rx_nil;rfl;rfl;rfl)|(apply rx_box;rfl;rfl;rfl;rfl))|(apply id_aw;first|apply aw_seq|apply aw_region|(apply aw_draw;kernel_rfl)|apply aw_block)|with_reducible apply tq_normal)
  rw [← hL]
  refine aw_loopK (σ := Nat) [0, 3, 26, 27] [(0, _), (3, _), (26, _), (27, _)] [0, 1, 2, 3] [(0, some _), (1, some _), (2, some _), (3, some _)] (fun k => [(28, iv (k : Int))]) (fun k => []) (fun k => k ≤ L.length ∧ ∀ j, j < k → s.slots[(L[j]!).toNat]!.set = true) (fun k => L.length - k) (0) ⟨Nat.zero_le _, fun j h => absurd h (by omega)⟩ rfl rfl (by repeat' (first|exact trivial|refine And.intro rfl ?_)) (by repeat' (exact trivial)) ?_
  rintro k ⟨hk, hall⟩
  by_cases hkn : k < L.length
  · have hmk := hmem k hkn
    repeat' (first|(apply id_rw;first|(apply rx_move;rfl;rfl)|(first|(apply rx_loadFj;(case hx|hH => rfl);(case hf|hg|hα => infer_instance);(case hk => omega);(case hc|hN => rfl))|(apply rx_load1;rfl;rfl;rfl;rfl))|(apply rx_fieldAddr;rfl;rfl;rfl)|(first|(apply rx_add;rfl;rfl;omega;rfl)|(apply rx_bin;rfl;rfl;rfl;rfl))|(apply rx_assign;rfl;rfl)|(first|(apply rx_indexFN;(case hx|hi => rfl);(case hm => (assumption));(case hml => (rfl));(case hα | hf|hg => infer_instance);(case hN => rfl))|(apply rx_indexO;rfl;rfl;(omega);rfl))|(apply rw_nil;kernel_rfl)|(apply rx_not;rfl;rfl)|(apply rx_nil;rfl;rfl;rfl))|(apply id_aw;first|apply aw_seq|apply aw_region|(apply aw_cond;rfl;all_goals intro hc;have hq:=hc;(try simp only [bqs] at hq);try exfalso;omega)|apply aw_block|apply aw_skip|apply aw_ret)|with_reducible apply tq_normal|with_reducible apply tq_ret|with_reducible apply bq_normal|with_reducible apply bq_ret)
    · have hu : unsF ts s x = true := (uns_bits htl).2 ⟨L[k]!, by rw [← hL]; exact getB_mem _ _ hkn, by assumption⟩
      rw [dx_u hu]
      (refine rq_ret rfl ?_; refine mc_ret () trivial ?_ ⟨.inr (Eq.trans (b := some _) rfl ?_), ⟨.inr (Eq.trans (b := some _) rfl ?_), ⟨.inr (Eq.trans (b := some _) rfl ?_), trivial⟩⟩⟩)
      · rfl
      · rfl
      · rfl
      · rfl
    · (apply ex3 (k + 1); focus (refine Le.ren [(3, 3)] rfl (by decide) ?_ ?_ <;> repeat' (first | exact trivial | refine And.intro ⟨_, rfl, ?_⟩ ?_ | refine And.intro ⟨_, _, rfl, rfl, ?_⟩ ?_ | exact Or.inr rfl | refine Or.inl ⟨?_, (by first | rfl | exact pur_sl _ _ | exact Pur.pf)⟩ | refine Or.inr (All2.cons ?_ ?_) | refine All2.cons ?_ ?_ | exact All2.nil | rfl)))
      · refine ⟨by omega, fun j hj => ?_⟩
        rcases Nat.lt_or_ge j k with h|h
        · exact hall j h
        · rw [show j = k by omega]; assumption
      · omega
  · have hu : unsF ts s x = false := by
      cases q : unsF ts s x with
      | false => rfl
      | true =>
        obtain ⟨v, hv, hs⟩ := (uns_bits htl).1 q
        rw [← hL] at hv
        obtain ⟨j, hj, e⟩ := List.getElem_of_mem hv
        have h1 := hall j (by omega)
        rw [getB _ _ hj, e, hs] at h1;cases h1
    rw [dx_n hu]
    rw [hun] at hu;cases hu
end Go.Proofs.YtlbbbmeadnelbaaGreat
