/-
  A part of the proofs over this program: rules and contracts of its functions (the contracts).
-/
import Derived.Test.YtlbbbmeadnelbaaGreatB06
set_option linter.unusedVariables false
set_option linter.unusedSimpArgs false
set_option maxHeartbeats 8000000
set_option maxRecDepth 4000
attribute [local irreducible] Go.AL.RW Go.AL.AW Go.AL.Stop
namespace Go.Proofs.YtlbbbmeadnelbaaGreat
open Go.AL Go.RowKit
theorem rx_mdo6 {ts : List Int} {bd : List AL.Stmt} {pts : List Pnt} {s : Mc} {x : Pnt} {N : Nat} {Q : Exit → AS → Prop} {all : Array Oper} {rest : List Oper} {tsl : List (Nat × AV)} {hsl : List (Nat × Option (List AV))} {nidl : Nat} {z0 : Lo} {md : Md} {d : Nat} {ty : TypeId} {pos : String} {af : Array Edge} {tys : Array TypeId} {x0 x1 : Operand} {i0 i1 i2 : Nat} (ha0 : ev (lk tsl) x0 = some (.optr i0 0)) (ha1 : ev (lk tsl) x1 = some (aPnt x)) (hH0 : lkH hsl i0 = some (mO ts bd pts i1 i2 s)) (hH1 : lkH hsl i1 = some (flat cSl s.slots)) (hH2 : lkH hsl i2 = some (flat cI s.read)) (hdd : Go.AL.distinct [i0, i1, i2] = true) (hmc : MC Tryz.prog 89 [.optr 0 0, aPnt x] [(0, some (mO ts bd pts 1 2 s)), (1, some (flat cSl s.slots)), (2, some (flat cI s.read))] 3 (fun _ : Unit => True) (fun _ => iv (dxF ts s x).2) (fun _ => [(0, some (mO ts bd pts 1 5 (dxF ts s x).1)), (1, some (flat cSl (dxF ts s x).1.slots)), (5, some (flat cI (dxF ts s x).1.read))])) (hM : Nat.ble (nidl + 3) big = true) (hN : Nat.blt d N = true) {md' : Md} [hmd : MdA md (rOs [x0, x1] ++ [.inr i0, .inr i1, .inr i2]) (List.map Sum.inr (List.map Prod.fst ([(i0, some (mO ts bd pts i1 (nidl + 2) (dxF ts s x).1)), (i1, some (flat cSl (dxF ts s x).1.slots)), ((nidl + 2), some (flat cI (dxF ts s x).1.read)), (i2, none)] : List (Nat × Option (List AV)))) ++ [.inl d]) md'] (kk : RW Tryz.prog N all Q md' rest ⟨(d, iv (dxF ts s x).2) :: tsl, wrH hsl [(i0, some (mO ts bd pts i1 (nidl + 2) (dxF ts s x).1)), (i1, some (flat cSl (dxF ts s x).1.slots)), ((nidl + 2), some (flat cI (dxF ts s x).1.read)), (i2, none)], nidl + 3, z0⟩) : RW Tryz.prog N all Q md (⟨some d, .call ⟨.value (.func 89), #[x0, x1], tys⟩, ty, pos, af, none⟩ :: rest) ⟨tsl, hsl, nidl, z0⟩ := by
  refine rx_mcallE [i0, i1, i2] 6 [(i0, some (mO ts bd pts i1 (nidl + 2) (dxF ts s x).1)), (i1, some (flat cSl (dxF ts s x).1.slots)), ((nidl + 2), some (flat cI (dxF ts s x).1.read)), (i2, none)] hmc (avs := [.optr i0 0, aPnt x]) ?_ hdd ?_ rfl ?_ (by simpa using hM) ?_ ?_ ?_ hN (md' := md') (hmd := hmd) kk
  · show evL (lk tsl) [x0, x1] = _
    simp only [evL, ha0, ha1]
  · exact ⟨⟨_, _, rfl, hH0, by (repeat' (first|exact RnL.purI inferInstance|exact RnV.purI inferInstance|exact RnV.own rfl|refine RnL.cons ?_ ?_))⟩, ⟨⟨_, _, rfl, hH1, by (repeat' (exact RnL.purI inferInstance))⟩, ⟨⟨_, _, rfl, hH2, by (repeat' (exact RnL.purI inferInstance))⟩, trivial⟩⟩⟩
  · (repeat' (first|exact RnL.purI inferInstance|exact RnV.optr rfl|refine RnL.cons ?_ ?_))
  · (repeat' (exact RnV.purI inferInstance))
  · simp [wsAll]
  · (repeat' (first|exact trivial|(refine And.intro ⟨0, _, rfl, rfl, ?_⟩ ?_)|(refine And.intro ⟨1, _, rfl, rfl, ?_⟩ ?_)|(refine And.intro ⟨5, _, rfl, rfl, ?_⟩ ?_)|exact RnL.purI inferInstance|exact RnV.purI inferInstance|exact RnV.own rfl|refine RnL.cons ?_ ?_))
theorem mdo_c (ts : List Int) (bd : List AL.Stmt) (pts : List Pnt) (s : Mc) (x : Pnt) (htl : ts.length ≤ 6) (hm : OkM s.cells) (hsl : s.slots.length = ts.length) (hop : 1 ≤ x.op ∧ x.op ≤ 11) (hrl : s.read.length ≤ 1000)
    (hx : x.op ≤ 8 → 0 ≤ x.x ∧ x.x < ts.length) (hy : 3 ≤ x.op → x.op ≤ 7 → 0 ≤ x.y ∧ x.y < ts.length) (hn : x.op = 2 → 0 ≤ x.n ∧ x.n ≤ 9) (h6 : ¬ (x.op = 6 ∧ tchK s.cells s.slots[x.y.toNat]!.ptr false = 0 ∧ unsF ts s x = false)) : MC Tryz.prog 89 [.optr 0 0, aPnt x] [(0, some (mO ts bd pts 1 2 s)), (1, some (flat cSl s.slots)), (2, some (flat cI s.read))] 3 (fun _ : Unit => True) (fun _ => iv (dxF ts s x).2) (fun _ => [(0, some (mO ts bd pts 1 2 (dxF ts s x).1)), (1, some (flat cSl (dxF ts s x).1.slots)), (2, some (flat cI (dxF ts s x).1.read))]) := by
  by_cases h1 : x.op = 1
  · exact mdo_1 ts bd pts s x htl hm hsl h1 (hx (by omega))
  by_cases h2 : x.op = 2
  · exact mdo_2 ts bd pts s x htl hm hsl h2 (hn h2) (hx (by omega))
  by_cases h3 : x.op = 3
  · exact mdo_3 ts bd pts s x htl hm hsl h3 (hx (by omega)) (hy (by omega) (by omega))
  by_cases h4 : x.op = 4 ∨ x.op = 5
  · exact mdo_45 ts bd pts s x htl hm hsl h4 (hx (by omega)) (hy (by omega) (by omega))
  by_cases h6' : x.op = 6
  · by_cases hu : unsF ts s x = true
    · exact mdo_u ts bd pts s x htl hm hsl hu
    · exact mdo_6 ts bd pts s x htl hm hsl h6' hrl (hx (by omega)) (hy (by omega) (by omega)) (fun q => h6 ⟨h6', q, by simpa using hu⟩)
  by_cases h7 : x.op = 7
  · exact mdo_7 ts bd pts s x htl hm hsl h7 (hx (by omega)) (hy (by omega) (by omega))
  by_cases h8 : x.op = 8
  · exact mdo_8 ts bd pts s x htl hm hsl h8 (hx (by omega))
  · exact mdo_9 ts bd pts s x htl hm hsl (by omega)
theorem isChoice_c (x : Pnt) (h : x.next.length ≤ 1000000) : PC Tryz.prog 77 [aPnt x] (fun r => r = bv (decide (x.next.length = 2))) := by
  (refine pc_of_aw Tryz.func77 rfl (by simp [Tryz.ntmps77]) ?_; rw [Tryz.ntmps77])
  repeat' (first|(apply id_rw;first|(apply rx_load1;rfl;rfl;rfl;rfl)|(apply rx_fieldAddr;rfl;rfl;rfl)|(apply rx_bin;rfl;rfl;rfl;rfl)|(apply rx_assign;rfl;rfl)|(apply rx_len;rfl;rfl;rfl)|(apply rw_nil;kernel_rfl)|(apply rx_box;rfl;rfl;rfl;rfl))|(apply id_aw;first|apply aw_seq|apply aw_region|apply aw_ret)|with_reducible apply tq_normal)
  refine rq_ret rfl ⟨?_, rfl⟩
  simp only [oneOf, AV.v.injEq, Value.bool.injEq, decide_eq_decide]; omega
theorem stW_d {pts : List Pnt} {a : Nat} {C : List Int} (h : pts[a]!.next.length = 2) (hC : 0 < C.length) : stpW pts a C = ((pts[a]!.next[(C[0]! % 2).toNat]!).toNat, C.drop 1) := by
  cases C with
  | nil => simp at hC
  | cons c C => unfold stpW;rw [if_pos h]; rfl
theorem stW_0 {pts : List Pnt} {a : Nat} (h : pts[a]!.next.length = 2) : stpW pts a [] = ((pts[a]!.next[1]!).toNat, []) := by unfold stpW; rw [if_pos h]
theorem stepG {pts : List Pnt} {n a b : Nat} {out C C2 : List Int} {q : List Int × Bool} (h : ¬ pts[a]!.op = 11) (ho : out.length ≤ n) (hs : stpW pts a C = (b, C2)) (hq : q = (out ++ (wm pts (n - out.length) a C).1, (wm pts (n - out.length) a C).2)) :
    ((out ++ [(a : Int)]).length ≤ n ∧ q = ((out ++ [(a : Int)]) ++ (wm pts (n - (out ++ [(a : Int)]).length) b C2).1, (wm pts (n - (out ++ [(a : Int)]).length) b C2).2)) ∨ ((out ++ [(a : Int)]).length = n + 1 ∧ q = ((out ++ [(a : Int)]).take n, false)) := by
  have hl : (out ++ [(a : Int)]).length = out.length + 1 := by rw [List.length_append]; rfl
  rcases Nat.lt_or_ge out.length n with h1|h1
  · exact .inl ⟨by omega, wm_step h h1 hs hq⟩
  · refine .inr ⟨by omega, ?_⟩
    have e : out.length = n := by omega
    rw [hq, e, Nat.sub_self, wm_cut h, ← e, List.take_left' rfl, List.append_nil]
theorem runG_c (ts : List Int) (bd : List AL.Stmt) (pts : List Pnt) (cs : List Int) (n : Nat) (w : WG ts pts) (wa : WA ts pts) (hn : n ≤ 1000) (hcl : cs.length ≤ 1000000) : PC Tryz.prog 59 [aG ts bd pts, sl cI cs, iv (n : Int)] (fun r => r = .tup [sl cI (wm pts n 0 cs).1, bv (wm pts n 0 cs).2]) := by
  have hpl := w.pl
  have hp0 := w.p0
  (refine pc_of_aw Tryz.func59 rfl (by simp [Tryz.ntmps59]) ?_; rw [Tryz.ntmps59])
  repeat' (first|(apply id_rw;first|((apply rx_assignNil (d := 8) (e := 1));(case hM|hN => rfl))|(apply rx_assign;rfl;rfl)|(apply rw_nil;kernel_rfl))|(apply id_aw;first|apply aw_seq|apply aw_region|apply aw_block)|with_reducible apply tq_normal)
  refine aw_loopK (σ := Int × List Int × Nat × List Int) [0, 2] [(0, _), (2, _)] [] [] (fun k => [(9, iv k.1), (1, sl cI k.2.2.2), (8, .own 0 0 k.2.2.1 1)]) (fun k => [(0, some (flat cI k.2.1))]) (fun k => (0 ≤ k.1 ∧ k.1 < pts.length) ∧ k.2.2.1 = k.2.1.length ∧ k.2.2.2.length ≤ 1000000 ∧ ((k.2.1.length ≤ n ∧ wm pts n 0 cs = (k.2.1 ++ (wm pts (n - k.2.1.length) k.1.toNat k.2.2.2).1, (wm pts (n - k.2.1.length) k.1.toNat k.2.2.2).2)) ∨ (k.2.1.length = n + 1 ∧ wm pts n 0 cs = (k.2.1.take n, false)))) (fun k => n + 1 - k.2.1.length) (0, [], 0, cs) ⟨⟨Int.le_refl _, by show (0 : Int) < _; omega⟩, rfl, hcl, .inl ⟨Nat.zero_le _, rfl⟩⟩ rfl rfl (by repeat' (first|exact trivial|refine And.intro rfl ?_)) (by repeat' (first|exact trivial|refine And.intro (.inr rfl) ?_)) ?_
  rintro ⟨a, out, m, C⟩ ⟨⟨ha0, ha⟩, hm, hC, hw⟩
  dsimp only at ha0 ha hm hC hw ⊢
  by_cases hout : out.length ≤ n
  · have hw2 : wm pts n 0 cs = (out ++ (wm pts (n - out.length) a.toNat C).1, (wm pts (n - out.length) a.toNat C).2) := by
      rcases hw with h|h
      · exact h.2
      · omega
    have hat : (a.toNat : Int) = a := Int.toNat_of_nonneg ha0
    have hnx := w.nx a.toNat (by omega)
    have hnl := w.nl a.toNat (by omega)
    have hn1 := wa.n a.toNat (by omega)
    have hk : ∀ k, k < pts[a.toNat]!.next.length → 0 ≤ pts[a.toNat]!.next[k]! ∧ pts[a.toNat]!.next[k]! < pts.length := fun k h => hnx _ (getB_mem _ _ h)
    have hch := isChoice_c pts[a.toNat]! (by omega)
    repeat' (first|(apply id_rw;first|((with_reducible apply rx_callE (k := 77));(case ha => rfl);(case h => exact hch);(case hp => (exact Pur.pf));(case hN => rfl))|(apply rx_andZ;rfl;rfl;rfl)|(apply rx_move;rfl;rfl)|(first|(apply rx_load1;rfl;rfl;rfl;rfl)|(apply rx_loadA;rfl;rfl;(exact (rfl:_=[_, _, _, _, _]));rfl;rfl;rfl))|(apply rx_fieldAddr;rfl;rfl;rfl)|(apply rx_bin;rfl;rfl;rfl;rfl)|(apply rx_assign;rfl;rfl)|(apply rx_indexF;(case hx|hi => rfl);(case hm => (omega));(case hml => (rfl));(case hα | hf|hg => infer_instance);(case hN => rfl))|(first|(apply rx_len;rfl;rfl;rfl)|(apply rx_append;rfl;rfl;rfl;rfl;rfl;(rw [flat_length]; omega);(rfl);omega;omega;(exact app_int (by (assumption)));rfl;rfl))|(apply rw_nil;kernel_rfl)|(apply rx_sliceF;rfl;infer_instance;rfl;rfl;(omega);rfl)|(apply rx_not;rfl;rfl)|(apply rx_nil;rfl;rfl;rfl)|(apply rx_alloc;rfl;rfl)|((apply rx_buildSliceI (t := _));(case hze|hsm|hl => rfl);(case hfl => exact (rfl:_=some [_]));(case hM|hN => rfl))|(apply rx_store;rfl;rfl;rfl;rfl;rfl;(case hl => (simp;done));(exact (rfl:_=[_, _, _, _, _]))))|(apply id_aw;first|apply aw_seq|apply aw_region|(apply aw_draw;kernel_rfl)|(apply aw_cond;rfl;all_goals intro hc;have hq:=hc;(try simp only [bqs] at hq);try exfalso;omega)|apply aw_block|apply aw_skip|apply aw_ret)|with_reducible apply tq_normal|with_reducible apply tq_ret|with_reducible apply bq_normal|with_reducible apply bq_ret)
    · have hop : pts[a.toNat]!.op = 11 := by assumption
      have e : wm pts n 0 cs = (out ++ [a], true) := by rw [hw2, wm_end hop, hat]
      rw [e]
      (refine rq_le (Le.frzD (d := 6) (i := 2) rfl rfl) ?_; refine rq_ret rfl ?_)
      refine ⟨?_, (by (exact Pur.pf))⟩
      simp only [oneOf, sl]
      rw [hm, List.length_append]; rfl
    · have hop : ¬ pts[a.toNat]!.op = 11 := by assumption
      have hst := stepG hop hout (stW_s (by omega)) hw2
      rw [hat] at hst
      have hk := hk 0 (by omega)
      (apply ex3 (pts[a.toNat]!.next[0]!, _, _, C);focus (refine Le.ren [(0, 2)] rfl (by decide) ?_ ?_ <;> repeat' (first|exact trivial|refine And.intro ⟨_, rfl, ?_⟩ ?_|refine And.intro ⟨_, _, rfl, rfl, ?_⟩ ?_|exact Or.inr rfl|refine Or.inl ⟨?_, (by first|rfl|exact pur_sl _ _|exact Pur.pf)⟩|rfl)))
      · exact ⟨hk, by dsimp only;rw [List.length_append, hm]; rfl, hC, hst⟩
      · dsimp only;rw [List.length_append]; simp only [List.length_singleton]; omega
    · have hop : ¬ pts[a.toNat]!.op = 11 := by assumption
      have hC0 : 0 < C.length := by omega
      have hst := stepG hop hout (stW_d (by omega) hC0) hw2
      rw [hat] at hst
      have hk := hk (C[0]! % 2).toNat (by omega)
      have hCe : List.take (C.length - Int.toNat 1) (List.drop (Int.toNat 1) C) = C.drop 1 := List.take_of_length_le (by rw [List.length_drop]; exact Nat.le_refl _)
      rw [hCe]
      (apply ex3 (pts[a.toNat]!.next[(C[0]! % 2).toNat]!, _, _, C.drop 1);focus (refine Le.ren [(0, 2)] rfl (by decide) ?_ ?_ <;> repeat' (first|exact trivial|refine And.intro ⟨_, rfl, ?_⟩ ?_|refine And.intro ⟨_, _, rfl, rfl, ?_⟩ ?_|exact Or.inr rfl|refine Or.inl ⟨?_, (by first|rfl|exact pur_sl _ _|exact Pur.pf)⟩|rfl)))
      · exact ⟨hk, by dsimp only;rw [List.length_append, hm]; rfl, by dsimp only;rw [List.length_drop]; omega, hst⟩
      · dsimp only;rw [List.length_append]; simp only [List.length_singleton]; omega
    · have hop : ¬ pts[a.toNat]!.op = 11 := by assumption
      have hC0 : C = [] := List.eq_nil_of_length_eq_zero (by omega)
      subst hC0
      have hst := stepG hop hout (stW_0 (by omega)) hw2
      rw [hat] at hst
      have hk := hk 1 (by omega)
      (apply ex3 (pts[a.toNat]!.next[1]!, _, _, []);focus (refine Le.ren [(0, 2)] rfl (by decide) ?_ ?_ <;> repeat' (first|exact trivial|refine And.intro ⟨_, rfl, ?_⟩ ?_|refine And.intro ⟨_, _, rfl, rfl, ?_⟩ ?_|exact Or.inr rfl|refine Or.inl ⟨?_, (by first|rfl|exact pur_sl _ _|exact Pur.pf)⟩|rfl)))
      · exact ⟨hk, by dsimp only;rw [List.length_append, hm]; rfl, hC, hst⟩
      · dsimp only;rw [List.length_append]; simp only [List.length_singleton]; omega
  · have hw2 : out.length = n + 1 ∧ wm pts n 0 cs = (out.take n, false) := by
      rcases hw with h|h
      · omega
      · exact h
    repeat' (first|(apply id_rw;first|((apply rx_slice (d := 59) (l := 0) (h := n));(case hx|hn|hl => rfl);(case hh => exact bnd_to rfl (by omega));(case hp => exact if_pos (by omega));(case hN => rfl))|(apply rx_move;rfl;rfl)|(apply rx_bin;rfl;rfl;rfl;rfl)|(apply rx_assign;rfl;rfl)|(apply rx_len;rfl;rfl;rfl)|(apply rw_nil;kernel_rfl))|(apply id_aw;first|apply aw_seq|apply aw_region|(apply aw_cond;rfl;all_goals intro hc;have hq:=hc;(try simp only [bqs] at hq);try exfalso;omega)|apply aw_exit|apply aw_ret)|with_reducible apply tq_normal|with_reducible apply tq_exit|with_reducible apply bq_here)
    refine rq_le (Le.cut (i := 0) (n * 1) rfl) ?_
    refine rq_le (Le.frzD (d := 6) (i := 0) rfl rfl) ?_
    rw [hw2.2, flat_take cI (e := 1)]
    refine rq_ret (l := [.imm (n - 0) (flat cI (out.take n)), bv false]) rfl ⟨?_, (by (exact Pur.pf))⟩
    rw [sl_len (by rw [List.length_take]; omega)]
    rfl
theorem rx_runX {p : Prg} {cs : List Int} {n : Int} {N : Nat} {Q : Exit → AS → Prop} {all : Array Oper} {rest : List Oper} {tsl : List (Nat × AV)} {hsl : List (Nat × Option (List AV))} {nidl : Nat} {z0 : Lo} {md : Md} {d : Nat} {ty : TypeId} {pos : String} {af : Array Edge} {tys : Array TypeId} {x0 x1 x2 : Operand} (ha0 : ev (lk tsl) x0 = some (aPrg p)) (ha1 : ev (lk tsl) x1 = some (sl cI cs)) (ha2 : ev (lk tsl) x2 = some (iv n)) (hmc : MC Tryz.prog 54 [aPrg p, sl cI cs, iv n] [] 0 (fun _ : Unit => True) (fun _ => .tup [.optr 1 0, iv 5, iv 0]) (fun _ => [(1, some ([.v (.pointer none), .imm 0 [], .imm 0 [], .imm 0 []]))])) (hM : Nat.ble (nidl + 2) big = true) (hN : Nat.blt d N = true) {md' : Md} [hmd : MdA md (rOs [x0, x1, x2] ++ []) (List.map Sum.inr (List.map Prod.fst ([((nidl + 1), some ([.v (.pointer none), .imm 0 [], .imm 0 [], .imm 0 []]))] : List (Nat × Option (List AV)))) ++ [.inl d]) md'] (kk : RW Tryz.prog N all Q md' rest ⟨(d, .tup [.optr (nidl + 1) 0, iv 5, iv 0]) :: tsl, wrH hsl [((nidl + 1), some ([.v (.pointer none), .imm 0 [], .imm 0 [], .imm 0 []]))], nidl + 2, z0⟩) : RW Tryz.prog N all Q md (⟨some d, .call ⟨.value (.func 54), #[x0, x1, x2], tys⟩, ty, pos, af, none⟩ :: rest) ⟨tsl, hsl, nidl, z0⟩ := by
  refine rx_mcallE [] 2 [((nidl + 1), some ([.v (.pointer none), .imm 0 [], .imm 0 [], .imm 0 []]))] hmc (avs := [aPrg p, sl cI cs, iv n]) ?_ rfl ?_ rfl ?_ (by simpa using hM) ?_ ?_ ?_ hN (md' := md') (hmd := hmd) kk
  · show evL (lk tsl) [x0, x1, x2] = _
    simp only [evL, ha0, ha1, ha2]
  · exact trivial
  · (repeat' (exact RnL.purI inferInstance))
  · (repeat' (first|exact RnL.purI inferInstance|exact RnV.optr rfl|refine RnL.cons ?_ ?_|refine RnV.tup ?_))
  · simp [wsAll]
  · (repeat' (first|exact trivial|(refine And.intro ⟨1, _, rfl, rfl, ?_⟩ ?_)|exact RnL.purI inferInstance))
theorem Le.nilMid {ts : List (Nat × AV)} {hs : List (Nat × Option (List AV))} {n : Nat} {z0 : Lo} {i : Nat} (c1 : List AV) {c2 : List AV} (hi : lkH hs i = some (c1 ++ .v (.slice none 0 0) :: c2)) :
    Le ⟨ts, hs, n, z0⟩ ⟨ts, (i, some (c1 ++ .imm 0 [] :: c2)) :: hs, n, z0⟩ :=
  Le.cells hi (by simp) fun w bad ι b β h => RdC_mid (fun y hy => by have := Rd_kAV (av := .v (.slice none 0 0)) hy;exact this) c1 c2 b β h
theorem run_dx {ts : List Int} {pts : List Pnt} {a last : Nat} {l : List Nat} {s : Mc} : runF ts pts (a :: l) s last = if (dxF ts s pts[a]!).2 = -1 then runF ts pts l (dxF ts s pts[a]!).1 a else ((dxF ts s pts[a]!).1, (dxF ts s pts[a]!).2, a) := by
  rw [runF]
  by_cases h : unsF ts s pts[a]! = true
  · rw [if_pos h, dx_u h, if_neg (show ¬ (2 : Int) = -1 by decide)]
  · have h2 : unsF ts s pts[a]! = false := by simpa using h
    rw [if_neg h, dx_n h2]
theorem dx_ok {ts : List Int} {nt : Nat} {s : Mc} (h : OkS nt s) {x : Pnt} (hx : PtN x) : OkS nt (dxF ts s x).1 := by
  unfold dxF;split
  · exact h
  · exact h.do hx
theorem dx_read {ts : List Int} {s : Mc} {x : Pnt} : (dxF ts s x).1.read.length ≤ s.read.length + 1 := by
  unfold dxF;split
  · dsimp only;omega
  · exact do_readl
theorem dx_6 {ts : List Int} {s : Mc} {x : Pnt} (ho : x.op = 6) (hz : tchK s.cells s.slots[x.y.toNat]!.ptr false = 0) (hu : unsF ts s x = false) (ht : ts[x.x.toNat]! = 1) : (dxF ts s x).2 = -1 := by
  rw [dx_n hu]
  unfold doF
  rw [if_neg (show ¬ x.op = 1 by omega), if_neg (show ¬ x.op = 2 by omega), if_neg (show ¬ x.op = 3 by omega), if_neg (show ¬ (x.op = 4 ∨ x.op = 5) by omega), if_pos ho, if_pos hz]
  unfold putF
  rw [if_neg (fun h => by have := h.1;omega)]
theorem runX_c (p : Prg) (cs : List Int) (n : Int) (hl : p.types.length ≤ 1000000) (hs : cntL p.body ≤ 1000000) (hr : rgF p n = false) : MC Tryz.prog 54 [aPrg p, sl cI cs, iv n] [] 0 (fun _ : Unit => True) (fun _ => .tup [.optr 1 0, iv 5, iv 0]) (fun _ => [(1, some ([.v (.pointer none), .imm 0 [], .imm 0 [], .imm 0 []]))]) := by
  have hg := graphOf_c p hl hs
  unfold rgF at hr
  by_cases hv : validF p = true
  · rw [if_pos hv] at hg
    rw [hv] at hr
    have hnn : ¬ (0 ≤ n ∧ n ≤ 150) := fun h => by rw [decide_eq_true h.1, decide_eq_true h.2] at hr;cases hr
    (refine mc_of_aw Tryz.func54 rfl (by simp [Tryz.ntmps54]) ?_; rw [Tryz.ntmps54])
    repeat' (first|(apply id_rw;first|((with_reducible apply rx_callE (k := 57));(case ha => rfl);(case h => exact hg);(case hp => (exact Pur.pf));(case hN => rfl))|(apply rx_move;rfl;rfl)|(apply rx_loadA;rfl;rfl;(exact (rfl:_=[_, _]));rfl;rfl;rfl)|(apply rx_guardY;rfl;rfl;rfl;(rfl))|(apply rx_assign;rfl;rfl)|(apply rx_pickF;rfl;(rfl);rfl;rfl)|((with_reducible apply rx_callE (k := 58));(case ha => rfl);(case h => (apply within_c <;> (fail)));(case hp => (rfl));(case hN => rfl))|(apply rw_nil;kernel_rfl)|(apply rx_buildK;rfl;(exact (rfl:_=some [_, _, _, _]));(exact (rfl:_=[_, _, _, _]));rfl)|(apply rx_not;rfl;rfl)|(apply rx_box;rfl;rfl;rfl;rfl)|(apply rx_extract;rfl;rfl;rfl))|(apply id_aw;first|apply aw_seq|apply aw_region|(apply aw_cond;rfl;all_goals intro hc;have hq:=hc;(try simp only [bqs] at hq);try exfalso;omega)|apply aw_ret)|with_reducible apply tq_normal|with_reducible apply tq_ret)
    · (refine rq_ret rfl ?_; refine mc_ret () trivial ?_ ⟨.inr (Eq.trans (b := some _) rfl ?_), trivial⟩)
      · rfl
      · rfl
  · rw [if_neg hv] at hg
    (refine mc_of_aw Tryz.func54 rfl (by simp [Tryz.ntmps54]) ?_; rw [Tryz.ntmps54])
    repeat' (first|(apply id_rw;first|((with_reducible apply rx_callE (k := 57));(case ha => rfl);(case h => exact hg);(case hp => (exact Pur.pf));(case hN => rfl))|(apply rx_move;rfl;rfl)|(apply rx_loadA;rfl;rfl;(exact (rfl:_=[_, _]));rfl;rfl;rfl)|(apply rx_guardNs;rfl;rfl;rfl;(rfl))|(apply rx_assign;rfl;rfl)|(apply rx_pickT;rfl;(rfl);rfl;rfl)|(apply rw_nil;kernel_rfl)|(apply rx_buildK;rfl;(exact (rfl:_=some [_, _, _, _]));(exact (rfl:_=[_, _, _, _]));rfl)|(apply rx_not;rfl;rfl)|(apply rx_box;rfl;rfl;rfl;rfl)|(apply rx_extract;rfl;rfl;rfl))|(apply id_aw;first|apply aw_seq|apply aw_region|(apply aw_condT;rfl;(rfl))|apply aw_ret)|with_reducible apply tq_normal|with_reducible apply tq_ret)
    (refine rq_ret rfl ?_; refine mc_ret () trivial ?_ ⟨.inr (Eq.trans (b := some _) rfl ?_), trivial⟩)
    · rfl
    · rfl
theorem runV_c (p : Prg) (cs : List Int) (n : Nat) (q : Mc × Int × Nat) (hqq : q = runP p.types (ptsF p) cs n) (hv : validF p = true) (hl : p.types.length ≤ 1000000) (hs : cntL p.body ≤ 1000000) (hn : n ≤ 150) (hcl : cs.length ≤ 1000000) : MC Tryz.prog 54 [aPrg p, sl cI cs, iv (n : Int)] [] 0 (fun _ : Unit => True) (fun _ => .tup [.optr 2 0, iv q.2.1, iv (q.2.2 : Int)]) (fun _ => [(2, some (mO p.types p.body (ptsF p) 1 3 q.1)), (1, some (flat cSl q.1.slots)), (3, some (flat cI q.1.read))]) := by
  have hg := graphOf_c p hl hs
  rw [if_pos hv] at hg
  have w := WG.of_valid hv
  have wa := WA.of_valid hv
  have hru := runG_c p.types p.body (ptsF p) cs n w wa (by omega) hcl
  have htl := w.tl
  have hpl := w.pl
  have hL := way_lt w wa n 0 cs w.p0
  have hLl := way_len (pts := ptsF p) n 0 cs
  unfold runP at hqq
  unfold wm at hru
  obtain ⟨L, hLe⟩ : ∃ L, L = (wayF (ptsF p) n 0 cs).1 := ⟨_, rfl⟩
  obtain ⟨dn, hdn⟩ : ∃ dn, dn = (wayF (ptsF p) n 0 cs).2 := ⟨_, rfl⟩
  rw [← hLe, ← hdn] at hru
  rw [← hLe] at hqq hL hLl
  have hgx : ∀ i, i < L.length → (L.map (fun a : Nat => (a : Int)))[i]! = (L[i]! : Int) := fun i h => by rw [getB _ _ (by rw [List.length_map]; exact h), List.getElem_map, getB _ _ h]
  have hml : (L.map (fun a : Nat => (a : Int))).length = L.length := List.length_map _
  generalize (L.map (fun a : Nat => (a : Int))) = LI at *
  generalize hP : ptsF p = pts at *
  (refine mc_of_aw Tryz.func54 rfl (by simp [Tryz.ntmps54]) ?_; rw [Tryz.ntmps54])
  repeat' (first|(apply id_rw;first|((with_reducible apply rx_callE (k := 57));(case ha => rfl);(case h => exact hg);(case hp => (exact Pur.pf));(case hN => rfl))|(with_reducible apply rw_stop (d := 40))|(apply rx_move;rfl;rfl)|(first|(apply rx_load1;rfl;rfl;rfl;rfl)|(apply rx_loadA;rfl;rfl;(exact (rfl:_=[_, _]));rfl;rfl;rfl))|(apply rx_fieldAddr;rfl;rfl;rfl)|(apply rx_guardY;rfl;rfl;rfl;(rfl))|(apply rx_assign;rfl;rfl)|(apply rx_pickF;rfl;(rfl);rfl;rfl)|((with_reducible apply rx_callE (k := 58));(case ha => rfl);(case h => (apply within_c <;> (fail)));(case hp => (rfl));(case hN => rfl))|(apply rx_len;rfl;rfl;rfl)|(apply rw_nil;kernel_rfl)|(apply rx_not;rfl;rfl)|(apply rx_nil;rfl;rfl;rfl)|(apply rx_box;rfl;rfl;rfl;rfl)|(apply rx_extract;rfl;rfl;rfl)|(apply rx_makeSliceE;rfl;rfl;rfl;omega;omega;(rfl);rfl;rfl))|(apply id_aw;first|apply aw_seq|apply aw_region|(apply aw_cond;rfl;all_goals intro hc;have hq:=hc;(try simp only [bqs] at hq);try exfalso;omega)|apply aw_skip)|with_reducible apply tq_normal)
  refine rw_go ?_
  rw [show (List.replicate p.types.length ([Value.bool false, Value.int .i64 0, Value.int .i64 0, Value.int .i64 0].map AV.v)).flatten = flat cSl (List.replicate p.types.length sl0) from mk_rep rfl]
  apply rx_build
  case hl => rfl
  case hf => exact (rfl:_=some [_, _, AV.v (.slice none 0 0), AV.v (.slice none 0 0)])
  case hN => rfl
  repeat' (first|(apply id_rw;first|(with_reducible apply rw_stop (d := 43))|(apply rx_assign;rfl;rfl)|(apply rw_nil;kernel_rfl)|(apply rx_box;rfl;rfl;rfl;rfl))|(apply id_aw;first|apply aw_seq|apply aw_region)|with_reducible apply tq_normal)
  refine rw_go (rw_le ?_ (Le.nilMid (i := 2) [_, _] rfl))
  refine rw_le ?_ (Le.nilCell (i := 2) 1 [_, _, _] rfl (by decide) (by decide))
  repeat' (first|(apply id_rw;first|((with_reducible apply rx_callE (k := 59));(case ha => rfl);(case h => exact hru);(case hp => (exact Pur.pf));(case hN => rfl))|(apply rx_move;rfl;rfl)|(apply rx_assign;rfl;rfl)|(apply rx_len;rfl;rfl;rfl)|(apply rw_nil;kernel_rfl)|(apply rx_extract;rfl;rfl;rfl))|(apply id_aw;first|apply aw_seq|apply aw_region|apply aw_block)|with_reducible apply tq_normal)
  refine aw_loopK (σ := Nat × Mc × Nat) [9, 11, 49, 50] [(9, _), (11, _), (49, _), (50, _)] [] [] (fun k => [(51, iv (k.1 : Int)), (14, iv (k.2.2 : Int))]) (fun k => [(2, some (mO p.types p.body pts 1 3 k.2.1)), (1, some (flat cSl k.2.1.slots)), (3, some (flat cI k.2.1.read))]) (fun k => k.1 ≤ L.length ∧ runF p.types pts (L.drop k.1) k.2.1 k.2.2 = q ∧ OkS p.types.length k.2.1 ∧ k.2.1.read.length ≤ k.1) (fun k => L.length - k.1) (0, mc0 p.types.length, 0) ⟨Nat.zero_le _, hqq.symm, OkS.mc0 _, Nat.le_refl _⟩ rfl rfl (by repeat' (first|exact trivial|refine And.intro rfl ?_)) (by repeat' (first|exact trivial|refine And.intro (.inr rfl) ?_)) ?_
  rintro ⟨i, s, last⟩ ⟨hi, hf, hok, hrd⟩
  dsimp only at hi hf hok hrd ⊢
  by_cases hiL : i < L.length
  · have hap := hL L[i]! (getB_mem _ _ hiL)
    have hop := w.op L[i]! hap
    have hwx := w.x L[i]! hap
    have hwy := w.y L[i]! hap
    have hA := wa.a L[i]! hap
    have hg2 := hgx i hiL
    have hdr : L.drop i = L[i]! :: L.drop (i + 1) := by rw [List.drop_eq_getElem_cons hiL, getB _ _ hiL]
    rw [hdr, run_dx] at hf
    have hpt : PtN pts[L[i]!]! := ⟨fun h => hA.n (.inr h)⟩
    have hdo := dx_ok (ts := p.types) hok hpt
    have hdr2 := dx_read (ts := p.types) (s := s) (x := pts[L[i]!]!)
    by_cases h6 : pts[L[i]!]!.op = 6 ∧ tchK s.cells s.slots[(pts[L[i]!]!).y.toNat]!.ptr false = 0 ∧ unsF p.types s pts[L[i]!]! = false
    · have hm6 := mdo6_c p.types p.body pts s pts[L[i]!]! htl hok.m hok.l h6.1 (by omega) (by omega) (by omega) h6.2.1 h6.2.2
      repeat' (first|(apply id_rw;first|(with_reducible apply rw_stop (d := 16))|(apply rx_load1;rfl;rfl;rfl;rfl)|(apply rx_bin;rfl;rfl;rfl;rfl)|(apply rx_indexFN;(case hx|hi => rfl);(case hm => (omega));(case hml => (rfl));(case hα | hf|hg => infer_instance);(case hN => rfl))|(apply rw_nil;kernel_rfl))|(apply id_aw;first|apply aw_seq|apply aw_region|(apply aw_cond;rfl;all_goals intro hc;have hq:=hc;(try simp only [bqs] at hq);try exfalso;omega)|apply aw_block|apply aw_skip)|with_reducible apply tq_normal)
      refine rw_go ?_
      rw [hg2]
      repeat' (first|(apply id_rw;first|((apply rx_mdo6 (ts := p.types) (bd := p.body) (pts := pts) (s := s) (x := pts[L[i]!]!));(case ha0|ha1|hH0|hH1|hH2|hdd => rfl);(case hmc => exact hm6);(case hM|hN => rfl))|(apply rx_move;rfl;rfl)|(first|(apply rx_load1;rfl;rfl;rfl;rfl)|(apply rx_loadA;rfl;rfl;(exact (rfl:_=[_, _, _, _, _]));rfl;rfl;rfl))|(apply rx_fieldAddr;rfl;rfl;rfl)|(first|(apply rx_add;rfl;rfl;omega;rfl)|(apply rx_bin;rfl;rfl;rfl;rfl))|(apply rx_assign;rfl;rfl)|(apply rx_indexFN;(case hx|hi => rfl);(case hm => (assumption));(case hml => (rfl));(case hα | hf|hg => infer_instance);(case hN => rfl))|(apply rw_nil;kernel_rfl)|(apply rx_nil;rfl;rfl;rfl))|(apply id_aw;first|apply aw_seq|apply aw_region|(apply aw_cond;rfl;all_goals intro hc;have hq:=hc;(try simp only [bqs] at hq);try exfalso;omega)|apply aw_skip|apply aw_ret)|with_reducible apply tq_normal|with_reducible apply tq_ret|with_reducible apply bq_normal|with_reducible apply bq_ret)
      · exfalso
        have h9 : ¬ (dxF p.types s pts[L[i]!]!).2 = -1 := by assumption
        exact h9 (dx_6 h6.1 h6.2.1 h6.2.2 (hA.t6 h6.1).1)
      · (apply ex3 (i + 1, (dxF p.types s pts[L[i]!]!).1, L[i]!); focus (refine Le.ren [(1, 1), (2, 2), (3, 6)] rfl (by decide) ?_ ?_ <;> repeat' (first | exact trivial | refine And.intro ⟨_, rfl, ?_⟩ ?_ | refine And.intro ⟨_, _, rfl, rfl, ?_⟩ ?_ | exact Or.inr rfl | refine Or.inl ⟨?_, (by first | rfl | exact pur_sl _ _ | exact Pur.pf)⟩ | refine Or.inr (All2.cons ?_ ?_) | refine All2.cons ?_ ?_ | exact All2.nil | rfl)))
        · refine ⟨by dsimp only; omega, ?_, hdo, by dsimp only; omega⟩
          dsimp only
          rw [if_pos (by assumption)] at hf
          exact hf
        · dsimp only;omega
    · have hmd := mdo_c p.types p.body pts s pts[L[i]!]! htl hok.m hok.l hop (by omega) (fun h => by omega) (fun h h2 => by omega) (fun h => hA.n (.inr h)) h6
      repeat' (first|(apply id_rw;first|(with_reducible apply rw_stop (d := 16))|(apply rx_load1;rfl;rfl;rfl;rfl)|(apply rx_bin;rfl;rfl;rfl;rfl)|(apply rx_indexFN;(case hx|hi => rfl);(case hm => (omega));(case hml => (rfl));(case hα | hf|hg => infer_instance);(case hN => rfl))|(apply rw_nil;kernel_rfl))|(apply id_aw;first|apply aw_seq|apply aw_region|(apply aw_cond;rfl;all_goals intro hc;have hq:=hc;(try simp only [bqs] at hq);try exfalso;omega)|apply aw_block|apply aw_skip)|with_reducible apply tq_normal)
      refine rw_go ?_
      rw [hg2]
      repeat' (first|(apply id_rw;first|((apply rx_mdo (ts := p.types) (bd := p.body) (pts := pts) (s := s) (x := pts[L[i]!]!));(case ha0|ha1|hH0|hH1|hH2|hdd => rfl);(case hmc => exact hmd);(case hM|hN => rfl))|(apply rx_move;rfl;rfl)|(first|(apply rx_load1;rfl;rfl;rfl;rfl)|(apply rx_loadA;rfl;rfl;(exact (rfl:_=[_, _, _, _, _]));rfl;rfl;rfl))|(apply rx_fieldAddr;rfl;rfl;rfl)|(first|(apply rx_add;rfl;rfl;omega;rfl)|(apply rx_bin;rfl;rfl;rfl;rfl))|(apply rx_assign;rfl;rfl)|(apply rx_indexFN;(case hx|hi => rfl);(case hm => (assumption));(case hml => (rfl));(case hα | hf|hg => infer_instance);(case hN => rfl))|(apply rw_nil;kernel_rfl)|(apply rx_nil;rfl;rfl;rfl))|(apply id_aw;first|apply aw_seq|apply aw_region|(apply aw_cond;rfl;all_goals intro hc;have hq:=hc;(try simp only [bqs] at hq);try exfalso;omega)|apply aw_skip|apply aw_ret)|with_reducible apply tq_normal|with_reducible apply tq_ret|with_reducible apply bq_normal|with_reducible apply bq_ret)
      · have h9 : ¬ (dxF p.types s pts[L[i]!]!).2 = -1 := by assumption
        rw [if_neg h9] at hf
        rw [← hf]
        (refine rq_ret rfl ?_; refine mc_ret () trivial ?_ ⟨.inr (Eq.trans (b := some _) rfl ?_), ⟨.inr (Eq.trans (b := some _) rfl ?_), ⟨.inr (Eq.trans (b := some _) rfl ?_), trivial⟩⟩⟩)
        · rfl
        · rfl
        · rfl
        · rfl
      · (apply ex3 (i + 1, (dxF p.types s pts[L[i]!]!).1, L[i]!); focus (refine Le.ren [(1, 1), (2, 2), (3, 3)] rfl (by decide) ?_ ?_ <;> repeat' (first | exact trivial | refine And.intro ⟨_, rfl, ?_⟩ ?_ | refine And.intro ⟨_, _, rfl, rfl, ?_⟩ ?_ | exact Or.inr rfl | refine Or.inl ⟨?_, (by first | rfl | exact pur_sl _ _ | exact Pur.pf)⟩ | refine Or.inr (All2.cons ?_ ?_) | refine All2.cons ?_ ?_ | exact All2.nil | rfl)))
        · refine ⟨by dsimp only; omega, ?_, hdo, by dsimp only; omega⟩
          dsimp only
          rw [if_pos (by assumption)] at hf
          exact hf
        · dsimp only;omega
  · repeat' (first | (apply id_rw; first | (apply rx_move;rfl;rfl) | (apply rx_bin;rfl;rfl;rfl;rfl) | (apply rx_assign;rfl;rfl) | (apply rw_nil;kernel_rfl)) | (apply id_aw; first | apply aw_seq | apply aw_region | (apply aw_cond;rfl;all_goals intro hc;have hq:=hc;(try simp only [bqs] at hq);try exfalso;omega) | apply aw_exit | apply aw_ret) | with_reducible apply tq_normal | with_reducible apply tq_exit | with_reducible apply bq_here)
    have hie : i = L.length := by omega
    have hq2 : q = (s, 1, last) := by rw [← hf, hie, List.drop_length]; rfl
    rw [hq2]
    (refine rq_ret rfl ?_; refine mc_ret () trivial ?_ ⟨.inr (Eq.trans (b := some _) rfl ?_), ⟨.inr (Eq.trans (b := some _) rfl ?_), ⟨.inr (Eq.trans (b := some _) rfl ?_), trivial⟩⟩⟩)
    · rfl
    · rfl
    · rfl
    · rfl
theorem rx_runVI {p : Prg} {cs : List Int} {n : Int} {q : Mc × Int × Nat} {N : Nat} {Q : Exit → AS → Prop} {all : Array Oper} {rest : List Oper} {tsl : List (Nat × AV)} {hsl : List (Nat × Option (List AV))} {nidl : Nat} {z0 : Lo} {md : Md} {d : Nat} {ty : TypeId} {pos : String} {af : Array Edge} {tys : Array TypeId} {x0 x1 x2 : Operand} (ha0 : ev (lk tsl) x0 = some (aPrg p)) (ha1 : ev (lk tsl) x1 = some (sl cI cs)) (ha2 : ev (lk tsl) x2 = some (iv n)) (hmc : MC Tryz.prog 54 [aPrg p, sl cI cs, iv n] [] 0 (fun _ : Unit => True) (fun _ => .tup [.optr 2 0, iv q.2.1, iv (q.2.2 : Int)]) (fun _ => [(2, some (mO p.types p.body (ptsF p) 1 3 q.1)), (1, some (flat cSl q.1.slots)), (3, some (flat cI q.1.read))])) (hM : Nat.ble (nidl + 4) big = true) (hN : Nat.blt d N = true) {md' : Md} [hmd : MdA md (rOs [x0, x1, x2] ++ []) (List.map Sum.inr (List.map Prod.fst ([((nidl + 2), some (mO p.types p.body (ptsF p) (nidl + 1) (nidl + 3) q.1)), ((nidl + 1), some (flat cSl q.1.slots)), ((nidl + 3), some (flat cI q.1.read))] : List (Nat × Option (List AV)))) ++ [.inl d]) md'] (kk : RW Tryz.prog N all Q md' rest ⟨(d, .tup [.optr (nidl + 2) 0, iv q.2.1, iv (q.2.2 : Int)]) :: tsl, wrH hsl [((nidl + 2), some (mO p.types p.body (ptsF p) (nidl + 1) (nidl + 3) q.1)), ((nidl + 1), some (flat cSl q.1.slots)), ((nidl + 3), some (flat cI q.1.read))], nidl + 4, z0⟩) : RW Tryz.prog N all Q md (⟨some d, .call ⟨.value (.func 54), #[x0, x1, x2], tys⟩, ty, pos, af, none⟩ :: rest) ⟨tsl, hsl, nidl, z0⟩ := by
  refine rx_mcallE [] 4 [((nidl + 2), some (mO p.types p.body (ptsF p) (nidl + 1) (nidl + 3) q.1)), ((nidl + 1), some (flat cSl q.1.slots)), ((nidl + 3), some (flat cI q.1.read))] hmc (avs := [aPrg p, sl cI cs, iv n]) ?_ rfl ?_ rfl ?_ (by simpa using hM) ?_ ?_ ?_ hN (md' := md') (hmd := hmd) kk
  · show evL (lk tsl) [x0, x1, x2] = _
    simp only [evL, ha0, ha1, ha2]
  · exact trivial
  · (repeat' (exact RnL.purI inferInstance))
  · (repeat' (first|exact RnL.purI inferInstance|exact RnV.optr rfl|refine RnL.cons ?_ ?_|refine RnV.tup ?_))
  · simp [wsAll]
  · (repeat' (first|exact trivial|(refine And.intro ⟨1, _, rfl, rfl, ?_⟩ ?_)|(refine And.intro ⟨2, _, rfl, rfl, ?_⟩ ?_)|(refine And.intro ⟨3, _, rfl, rfl, ?_⟩ ?_)|exact RnL.purI inferInstance|exact RnV.purI inferInstance|exact RnV.own rfl|refine RnL.cons ?_ ?_))
theorem RunProgramI_c (p : Prg) (cs : List Int) (most : Int) (hl : p.types.length ≤ 1000000) (hs : cntL p.body ≤ 1000000) (hcl : cs.length ≤ 1000000) : PC Tryz.prog 18 [aPrg p, sl cI cs, iv most] (fun r => r = .tup (if rgF p most = true then [iv (runP p.types (ptsF p) cs most.toNat).2.1, iv (runP p.types (ptsF p) cs most.toNat).2.2] else [iv 5, iv 0])) := by
  by_cases h : rgF p most = true
  · have h' := h
    unfold rgF at h'
    simp only [Bool.and_eq_true, decide_eq_true_eq] at h'
    obtain ⟨hv, h0, h1⟩ := h'
    have hru := runV_c p cs most.toNat _ rfl hv hl hs (by omega) hcl
    have hok := run_ok (cs := cs) (n := most.toNat) hv
    have hrl := runP_readl (ts := p.types) (pts := ptsF p) (cs := cs) (n := most.toNat) (by omega)
    have htl := (WG.of_valid hv).tl
    rw [Int.toNat_of_nonneg h0] at hru
    rw [if_pos h]
    have hon := Int.toNat_of_nonneg h0
    have hm := hok.m
    have hml := hm.l
    have hsl := hok.l
    generalize runP p.types (ptsF p) cs most.toNat = q at *
    (refine pc_of_aw Tryz.func18 rfl (by simp [Tryz.ntmps18]) ?_; rw [Tryz.ntmps18])
    repeat' (first|(apply id_rw;first|((apply rx_runVI (p := p) (cs := cs) (n := most) (q := q));(case ha0|ha1|ha2 => rfl);(case hmc => exact hru);(case hM|hN => rfl))|(apply rx_move;rfl;rfl)|(apply rx_loadA;rfl;rfl;(exact (rfl:_=[_, _]));rfl;rfl;rfl)|(apply rx_assign;rfl;rfl)|(apply rw_nil;kernel_rfl)|(apply rx_box;rfl;rfl;rfl;rfl)|(apply rx_extract;rfl;rfl;rfl))|(apply id_aw;first|apply aw_seq|apply aw_region|apply aw_ret)|with_reducible apply tq_normal)
    exact rq_ret (l := [iv q.2.1, iv q.2.2]) rfl ⟨rfl, rfl⟩
  · rw [if_neg h]
    have h2 : rgF p most = false := by simpa using h
    (refine pc_of_aw Tryz.func18 rfl (by simp [Tryz.ntmps18]) ?_; rw [Tryz.ntmps18])
    repeat' (first|(apply id_rw;first|((apply rx_runX (p := p) (cs := cs) (n := most));(case ha0|ha1|ha2 => rfl);(case hmc => exact runX_c p cs most hl hs h2);(case hM|hN => rfl))|(apply rx_move;rfl;rfl)|(apply rx_loadA;rfl;rfl;(exact (rfl:_=[_, _]));rfl;rfl;rfl)|(apply rx_assign;rfl;rfl)|(apply rw_nil;kernel_rfl)|(apply rx_box;rfl;rfl;rfl;rfl)|(apply rx_extract;rfl;rfl;rfl))|(apply id_aw;first|apply aw_seq|apply aw_region|apply aw_ret)|with_reducible apply tq_normal)
    exact rq_ret (l := [iv 5, iv 0]) rfl ⟨rfl, rfl⟩
theorem FinalCellsI_c (p : Prg) (cs : List Int) (most : Int) (hl : p.types.length ≤ 1000000) (hs : cntL p.body ≤ 1000000) (hcl : cs.length ≤ 1000000) : PC Tryz.prog 31 [aPrg p, sl cI cs, iv most] (fun r => r = .tup (if rgF p most = true then [sl cCl (runP p.types (ptsF p) cs most.toNat).1.cells, iv (runP p.types (ptsF p) cs most.toNat).2.1] else [sl cCl [], iv 5])) := by
  by_cases h : rgF p most = true
  · have h' := h
    unfold rgF at h'
    simp only [Bool.and_eq_true, decide_eq_true_eq] at h'
    obtain ⟨hv, h0, h1⟩ := h'
    have hru := runV_c p cs most.toNat _ rfl hv hl hs (by omega) hcl
    have hok := run_ok (cs := cs) (n := most.toNat) hv
    have hrl := runP_readl (ts := p.types) (pts := ptsF p) (cs := cs) (n := most.toNat) (by omega)
    have htl := (WG.of_valid hv).tl
    rw [Int.toNat_of_nonneg h0] at hru
    rw [if_pos h]
    have hon := Int.toNat_of_nonneg h0
    have hm := hok.m
    have hml := hm.l
    have hsl := hok.l
    generalize runP p.types (ptsF p) cs most.toNat = q at *
    (refine pc_of_aw Tryz.func31 rfl (by simp [Tryz.ntmps31]) ?_; rw [Tryz.ntmps31])
    repeat' (first|(apply id_rw;first|((apply rx_runVI (p := p) (cs := cs) (n := most) (q := q));(case ha0|ha1|ha2 => rfl);(case hmc => exact hru);(case hM|hN => rfl))|(apply rx_move;rfl;rfl)|(first|(apply rx_load1;rfl;rfl;rfl;rfl)|(apply rx_loadA;rfl;rfl;(exact (rfl:_=[_, _]));rfl;rfl;rfl))|(apply rx_fieldAddr;rfl;rfl;rfl)|(apply rx_assign;rfl;rfl)|(apply rw_nil;kernel_rfl)|(apply rx_nil;rfl;rfl;rfl)|(apply rx_box;rfl;rfl;rfl;rfl)|(apply rx_extract;rfl;rfl;rfl))|(apply id_aw;first|apply aw_seq|apply aw_region|apply aw_ret)|with_reducible apply tq_normal)
    exact rq_ret (l := [sl cCl q.1.cells, iv q.2.1]) rfl ⟨rfl, by (exact Pur.pf)⟩
  · rw [if_neg h]
    have h2 : rgF p most = false := by simpa using h
    (refine pc_of_aw Tryz.func31 rfl (by simp [Tryz.ntmps31]) ?_; rw [Tryz.ntmps31])
    repeat' (first|(apply id_rw;first|((apply rx_runX (p := p) (cs := cs) (n := most));(case ha0|ha1|ha2 => rfl);(case hmc => exact runX_c p cs most hl hs h2);(case hM|hN => rfl))|(apply rx_move;rfl;rfl)|(first|(apply rx_load1;rfl;rfl;rfl;rfl)|(apply rx_loadA;rfl;rfl;(exact (rfl:_=[_, _]));rfl;rfl;rfl))|(apply rx_fieldAddr;rfl;rfl;rfl)|(apply rx_assign;rfl;rfl)|(apply rw_nil;kernel_rfl)|(apply rx_nil;rfl;rfl;rfl)|(apply rx_box;rfl;rfl;rfl;rfl)|(apply rx_extract;rfl;rfl;rfl))|(apply id_aw;first|apply aw_seq|apply aw_region|apply aw_ret)|with_reducible apply tq_normal)
    exact rq_ret (l := [sl cCl [], iv 5]) rfl ⟨rfl, rfl⟩
theorem FinalSlotsI_c (p : Prg) (cs : List Int) (most : Int) (hl : p.types.length ≤ 1000000) (hs : cntL p.body ≤ 1000000) (hcl : cs.length ≤ 1000000) : PC Tryz.prog 33 [aPrg p, sl cI cs, iv most] (fun r => r = .tup (if rgF p most = true then [sl cSl (runP p.types (ptsF p) cs most.toNat).1.slots, iv (runP p.types (ptsF p) cs most.toNat).2.1] else [sl cSl [], iv 5])) := by
  by_cases h : rgF p most = true
  · have h' := h
    unfold rgF at h'
    simp only [Bool.and_eq_true, decide_eq_true_eq] at h'
    obtain ⟨hv, h0, h1⟩ := h'
    have hru := runV_c p cs most.toNat _ rfl hv hl hs (by omega) hcl
    have hok := run_ok (cs := cs) (n := most.toNat) hv
    have hrl := runP_readl (ts := p.types) (pts := ptsF p) (cs := cs) (n := most.toNat) (by omega)
    have htl := (WG.of_valid hv).tl
    rw [Int.toNat_of_nonneg h0] at hru
    rw [if_pos h]
    have hon := Int.toNat_of_nonneg h0
    have hm := hok.m
    have hml := hm.l
    have hsl := hok.l
    generalize runP p.types (ptsF p) cs most.toNat = q at *
    (refine pc_of_aw Tryz.func33 rfl (by simp [Tryz.ntmps33]) ?_; rw [Tryz.ntmps33])
    repeat' (first|(apply id_rw;first|((apply rx_runVI (p := p) (cs := cs) (n := most) (q := q));(case ha0|ha1|ha2 => rfl);(case hmc => exact hru);(case hM|hN => rfl))|(apply rx_move;rfl;rfl)|(first|(apply rx_load1;rfl;rfl;rfl;rfl)|(apply rx_loadA;rfl;rfl;(exact (rfl:_=[_, _]));rfl;rfl;rfl))|(apply rx_fieldAddr;rfl;rfl;rfl)|(apply rx_assign;rfl;rfl)|(apply rw_nil;kernel_rfl)|(apply rx_nil;rfl;rfl;rfl)|(apply rx_box;rfl;rfl;rfl;rfl)|(apply rx_extract;rfl;rfl;rfl))|(apply id_aw;first|apply aw_seq|apply aw_region|apply aw_ret)|with_reducible apply tq_normal)
    refine rq_le (Le.frzD (d := 6) (i := 2) rfl rfl) ?_
    refine rq_ret (l := [.imm p.types.length (flat cSl q.1.slots), iv q.2.1]) rfl ?_
    rw [sl_len hsl.symm]
    exact ⟨rfl, by (exact Pur.pf)⟩
  · rw [if_neg h]
    have h2 : rgF p most = false := by simpa using h
    (refine pc_of_aw Tryz.func33 rfl (by simp [Tryz.ntmps33]) ?_; rw [Tryz.ntmps33])
    repeat' (first|(apply id_rw;first|((apply rx_runX (p := p) (cs := cs) (n := most));(case ha0|ha1|ha2 => rfl);(case hmc => exact runX_c p cs most hl hs h2);(case hM|hN => rfl))|(apply rx_move;rfl;rfl)|(first|(apply rx_load1;rfl;rfl;rfl;rfl)|(apply rx_loadA;rfl;rfl;(exact (rfl:_=[_, _]));rfl;rfl;rfl))|(apply rx_fieldAddr;rfl;rfl;rfl)|(apply rx_assign;rfl;rfl)|(apply rw_nil;kernel_rfl)|(apply rx_nil;rfl;rfl;rfl)|(apply rx_box;rfl;rfl;rfl;rfl)|(apply rx_extract;rfl;rfl;rfl))|(apply id_aw;first|apply aw_seq|apply aw_region|apply aw_ret)|with_reducible apply tq_normal)
    exact rq_ret (l := [sl cSl [], iv 5]) rfl ⟨rfl, rfl⟩
theorem NumbersReadI_c (p : Prg) (cs : List Int) (most : Int) (hl : p.types.length ≤ 1000000) (hs : cntL p.body ≤ 1000000) (hcl : cs.length ≤ 1000000) : PC Tryz.prog 27 [aPrg p, sl cI cs, iv most] (fun r => r = .tup (if rgF p most = true then [sl cI (runP p.types (ptsF p) cs most.toNat).1.read, iv (runP p.types (ptsF p) cs most.toNat).2.1] else [sl cI [], iv 5])) := by
  by_cases h : rgF p most = true
  · have h' := h
    unfold rgF at h'
    simp only [Bool.and_eq_true, decide_eq_true_eq] at h'
    obtain ⟨hv, h0, h1⟩ := h'
    have hru := runV_c p cs most.toNat _ rfl hv hl hs (by omega) hcl
    have hok := run_ok (cs := cs) (n := most.toNat) hv
    have hrl := runP_readl (ts := p.types) (pts := ptsF p) (cs := cs) (n := most.toNat) (by omega)
    have htl := (WG.of_valid hv).tl
    rw [Int.toNat_of_nonneg h0] at hru
    rw [if_pos h]
    have hon := Int.toNat_of_nonneg h0
    have hm := hok.m
    have hml := hm.l
    have hsl := hok.l
    generalize runP p.types (ptsF p) cs most.toNat = q at *
    (refine pc_of_aw Tryz.func27 rfl (by simp [Tryz.ntmps27]) ?_; rw [Tryz.ntmps27])
    repeat' (first|(apply id_rw;first|((apply rx_runVI (p := p) (cs := cs) (n := most) (q := q));(case ha0|ha1|ha2 => rfl);(case hmc => exact hru);(case hM|hN => rfl))|(apply rx_move;rfl;rfl)|(first|(apply rx_load1;rfl;rfl;rfl;rfl)|(apply rx_loadA;rfl;rfl;(exact (rfl:_=[_, _]));rfl;rfl;rfl))|(apply rx_fieldAddr;rfl;rfl;rfl)|(apply rx_assign;rfl;rfl)|(apply rw_nil;kernel_rfl)|(apply rx_nil;rfl;rfl;rfl)|(apply rx_box;rfl;rfl;rfl;rfl)|(apply rx_extract;rfl;rfl;rfl))|(apply id_aw;first|apply aw_seq|apply aw_region|apply aw_ret)|with_reducible apply tq_normal)
    refine rq_le (Le.frzD (d := 6) (i := 4) rfl rfl) ?_
    exact rq_ret (l := [sl cI q.1.read, iv q.2.1]) rfl ⟨rfl, by (exact Pur.pf)⟩
  · rw [if_neg h]
    have h2 : rgF p most = false := by simpa using h
    (refine pc_of_aw Tryz.func27 rfl (by simp [Tryz.ntmps27]) ?_; rw [Tryz.ntmps27])
    repeat' (first|(apply id_rw;first|((apply rx_runX (p := p) (cs := cs) (n := most));(case ha0|ha1|ha2 => rfl);(case hmc => exact runX_c p cs most hl hs h2);(case hM|hN => rfl))|(apply rx_move;rfl;rfl)|(first|(apply rx_load1;rfl;rfl;rfl;rfl)|(apply rx_loadA;rfl;rfl;(exact (rfl:_=[_, _]));rfl;rfl;rfl))|(apply rx_fieldAddr;rfl;rfl;rfl)|(apply rx_assign;rfl;rfl)|(apply rw_nil;kernel_rfl)|(apply rx_nil;rfl;rfl;rfl)|(apply rx_box;rfl;rfl;rfl;rfl)|(apply rx_extract;rfl;rfl;rfl))|(apply id_aw;first|apply aw_seq|apply aw_region|apply aw_ret)|with_reducible apply tq_normal)
    exact rq_ret (l := [sl cI [], iv 5]) rfl ⟨rfl, rfl⟩
theorem alv_hit {m : List Cl} {k : Nat} (h : m[k]!.alive = true) : (((List.range (k + 1)).filter (fun k => m[k]!.alive)).map (fun k : Nat => (k : Int))) = (((List.range k).filter (fun k => m[k]!.alive)).map (fun k : Nat => (k : Int))) ++ [(k : Int)] := by
  rw [List.range_succ, List.filter_append, List.map_append, filter1_t (p := fun k => m[k]!.alive) (a := k) h]; rfl
theorem alv_skip {m : List Cl} {k : Nat} (h : m[k]!.alive = false) : (((List.range (k + 1)).filter (fun k => m[k]!.alive)).map (fun k : Nat => (k : Int))) = (((List.range k).filter (fun k => m[k]!.alive)).map (fun k : Nat => (k : Int))) := by
  rw [List.range_succ, List.filter_append, List.map_append, filter1_f (p := fun k => m[k]!.alive) (a := k) h]; exact List.append_nil _
theorem AliveCellsI_c (m : List Cl) (hm : OkM m) : PC Tryz.prog 36 [sl cCl m] (fun r => r = sl cI (alvL m)) := by
  have hml := hm.l
  have hcv := CellsValidI_c m hm
  unfold alvL
  (refine pc_of_aw Tryz.func36 rfl (by simp [Tryz.ntmps36]) ?_; rw [Tryz.ntmps36])
  repeat' (first|(apply id_rw;first|((with_reducible apply rx_callE (k := 35));(case ha => rfl);(case h => exact hcv);(case hp => (exact Pur.pf));(case hN => rfl))|((apply rx_assignNil (d := 3) (e := 1));(case hM|hN => rfl))|(apply rx_move;rfl;rfl)|(apply rx_assign;rfl;rfl)|(apply rx_len;rfl;rfl;rfl)|(apply rw_nil;kernel_rfl)|(apply rx_not;rfl;rfl))|(apply id_aw;first|apply aw_seq|apply aw_region|(apply aw_condF;rfl;(rfl))|apply aw_block|apply aw_skip)|with_reducible apply tq_normal)
  refine aw_loopK (σ := Nat × List Int × Nat) [9, 10] [(9, _), (10, _)] [] [] (fun k => [(11, iv (k.1 : Int)), (3, .own 0 0 k.2.2 1)]) (fun k => [(0, some (flat cI k.2.1))]) (fun k => k.1 ≤ m.length ∧ k.2.1 = ((List.range k.1).filter (fun k => m[k]!.alive)).map (fun v : Nat => (v : Int)) ∧ k.2.2 = k.2.1.length ∧ k.2.2 ≤ k.1) (fun k => m.length - k.1) (0, [], 0) ⟨by omega, rfl, rfl, Nat.le_refl _⟩ rfl rfl (by repeat' (first|exact trivial|refine And.intro rfl ?_)) (by repeat' (first|exact trivial|refine And.intro (.inr rfl) ?_)) ?_
  rintro ⟨i, xs, n⟩ ⟨hi, hxs, hn, hni⟩
  dsimp only at hi hxs hn hni ⊢
  repeat' (first|(apply id_rw;first|(apply rx_move;rfl;rfl)|(first|(apply rx_load1;rfl;rfl;rfl;rfl)|(apply rx_loadA;rfl;rfl;(exact (rfl:_=[_, _, _, _]));rfl;rfl;rfl))|(apply rx_fieldAddr;rfl;rfl;rfl)|(first|(apply rx_add;rfl;rfl;omega;rfl)|(apply rx_bin;rfl;rfl;rfl;rfl))|(apply rx_assign;rfl;rfl)|(apply rx_indexFN;(case hx|hi => rfl);(case hm => (omega));(case hml => (rfl));(case hα | hf|hg => infer_instance);(case hN => rfl))|(apply rx_append;rfl;rfl;rfl;rfl;rfl;(rw [flat_length]; omega);(rfl);omega;omega;(exact app_int (by (assumption)));rfl;rfl)|(apply rw_nil;kernel_rfl)|(apply rx_alloc;rfl;rfl)|((apply rx_buildSliceI (t := _));(case hze|hsm|hl => rfl);(case hfl => exact (rfl:_=some [_]));(case hM|hN => rfl))|(apply rx_store;rfl;rfl;rfl;rfl;rfl;(case hl => (simp;done));(exact (rfl:_=[_, _, _, _]))))|(apply id_aw;first|apply aw_seq|apply aw_region|(apply aw_cond;rfl;all_goals intro hc;have hq:=hc;(try simp only [bqs] at hq);try exfalso;omega)|apply aw_block|apply aw_skip|apply aw_exit|apply aw_ret)|with_reducible apply tq_normal|with_reducible apply tq_exit|with_reducible apply bq_normal|with_reducible apply bq_here)
  · (apply ex3 (i + 1, _, _); focus (refine Le.ren [(0, 3)] rfl (by decide) ?_ ?_ <;> repeat' (first | exact trivial | refine And.intro ⟨_, rfl, ?_⟩ ?_ | refine And.intro ⟨_, _, rfl, rfl, ?_⟩ ?_ | exact Or.inr rfl | refine Or.inl ⟨?_, (by first | rfl | exact pur_sl _ _)⟩ | rfl)))
    · exact ⟨by dsimp only;omega, by dsimp only;rw [hxs]; exact (alv_hit (by assumption)).symm, by dsimp only;rw [List.length_append, hn]; rfl, by dsimp only;omega⟩
    · dsimp only;omega
  · (apply ex3 (i + 1, xs, n); focus (refine Le.ren [(0, 0)] rfl (by decide) ?_ ?_ <;> repeat' (first | exact trivial | refine And.intro ⟨_, rfl, ?_⟩ ?_ | refine And.intro ⟨_, _, rfl, rfl, ?_⟩ ?_ | exact Or.inr rfl | refine Or.inl ⟨?_, (by first | rfl | exact pur_sl _ _)⟩ | rfl)))
    · exact ⟨by dsimp only;omega, by dsimp only;rw [hxs]; exact (alv_skip (by assumption)).symm, hn, by dsimp only;omega⟩
    · dsimp only;omega
  · (refine rq_le (Le.frzD (d := 2) (i := 0) rfl rfl) ?_; refine rq_ret rfl ?_)
    refine ⟨?_, (by (exact pur_sl _ _))⟩
    have hie : i = m.length := by omega
    simp only [oneOf, sl]
    rw [hn, hxs, hie]
theorem cloneN_c (xs : List Int) (hl : xs.length ≤ 1000000) : PC Tryz.prog 60 [sl cI xs] (fun r => r = sl cI xs) := by
  (refine pc_of_aw Tryz.func60 rfl (by simp [Tryz.ntmps60]) ?_; rw [Tryz.ntmps60])
  repeat' (first|(apply id_rw;first|(apply rx_eqNil;rfl;rfl;(intro b hb))|(apply rx_move;rfl;rfl)|(apply rx_assign;rfl;rfl)|(apply rx_append;rfl;rfl;rfl;rfl;rfl;(case hl => (simp [flat_length]; done));(exact sC_imm (by (rfl)));omega;omega;(exact app_nilF (by (omega)));rfl;rfl)|(apply rw_nil;kernel_rfl)|(apply rx_buildSlice;rfl;rfl;rfl;(rfl);rfl;rfl))|(apply id_aw;first|apply aw_seq|apply aw_region|(apply aw_cond;rfl;all_goals intro hc;have hq:=hc;(try simp only [bqs] at hq);try exfalso;omega)|apply aw_skip|apply aw_ret)|with_reducible apply tq_normal|with_reducible apply tq_ret)
  · have h0 : xs = [] := List.eq_nil_of_length_eq_zero (hb (by assumption))
    subst h0
    (refine rq_le (Le.nilImm (d := 2) rfl) ?_; refine rq_ret rfl ?_)
    exact ⟨rfl, rfl⟩
  · (refine rq_le (Le.frzD (d := 2) (i := 1) rfl rfl) ?_; refine rq_ret rfl ?_)
    refine ⟨?_, (by (exact pur_sl _ _))⟩
    simp only [oneOf, sl, Nat.zero_add]
theorem RunPathI_c (p : Prg) (cs : List Int) (n : Int) (hl : p.types.length ≤ 1000000) (hs : cntL p.body ≤ 1000000) (hcl : cs.length ≤ 1000000) : PC Tryz.prog 20 [aPrg p, sl cI cs, iv n] (fun r => r = if validF p = true ∧ 0 ≤ n ∧ n ≤ 1000 then .tup [sl cI (wm (ptsF p) n.toNat 0 cs).1, bv (wm (ptsF p) n.toNat 0 cs).2] else .tup [sl cI [], bv false]) := by
  have hg := graphOf_c p hl hs
  by_cases hv : validF p = true
  · rw [if_pos hv] at hg
    by_cases hn : 0 ≤ n ∧ n ≤ 1000
    · rw [if_pos ⟨hv, hn⟩]
      have hru := runG_c p.types p.body (ptsF p) cs n.toNat (WG.of_valid hv) (WA.of_valid hv) (by omega) hcl
      have hwl : (wm (ptsF p) n.toNat 0 cs).1.length ≤ 1001 := by
        have := way_len (pts := ptsF p) n.toNat 0 cs
        unfold wm;rw [List.length_map]; omega
      rw [Int.toNat_of_nonneg hn.1] at hru
      generalize wm (ptsF p) n.toNat 0 cs = q at *
      have hcn := cloneN_c q.1 (by omega)
      (refine pc_of_aw Tryz.func20 rfl (by simp [Tryz.ntmps20]) ?_; rw [Tryz.ntmps20])
      repeat' (first|(apply id_rw;first|((with_reducible apply rx_callE (k := 57));(case ha => rfl);(case h => exact hg);(case hp => (exact Pur.pf));(case hN => rfl))|((with_reducible apply rx_callE (k := 59));(case ha => rfl);(case h => exact hru);(case hp => (exact Pur.pf));(case hN => rfl))|((with_reducible apply rx_callE (k := 60));(case ha => rfl);(case h => exact hcn);(case hp => (exact Pur.pf));(case hN => rfl))|(apply rx_move;rfl;rfl)|(apply rx_loadA;rfl;rfl;(exact (rfl:_=[_, _]));rfl;rfl;rfl)|(apply rx_guardY;rfl;rfl;rfl;(rfl))|(apply rx_assign;rfl;rfl)|(apply rx_pickF;rfl;(rfl);rfl;rfl)|((with_reducible apply rx_callE (k := 58));(case ha => rfl);(case h => (apply within_c <;> (fail)));(case hp => (rfl));(case hN => rfl))|(apply rw_nil;kernel_rfl)|(apply rx_not;rfl;rfl)|(apply rx_box;rfl;rfl;rfl;rfl)|(apply rx_extract;rfl;rfl;rfl))|(apply id_aw;first|apply aw_seq|apply aw_region|(apply aw_cond;rfl;all_goals intro hc;have hq:=hc;(try simp only [bqs] at hq);try exfalso;omega)|apply aw_skip|apply aw_ret)|with_reducible apply tq_normal)
      exact rq_ret (l := [sl cI q.1, bv q.2]) rfl ⟨rfl, (by (exact Pur.pf))⟩
    · rw [if_neg (fun h => hn h.2)]
      (refine pc_of_aw Tryz.func20 rfl (by simp [Tryz.ntmps20]) ?_; rw [Tryz.ntmps20])
      repeat' (first|(apply id_rw;first|((with_reducible apply rx_callE (k := 57));(case ha => rfl);(case h => exact hg);(case hp => (exact Pur.pf));(case hN => rfl))|(apply rx_move;rfl;rfl)|(apply rx_loadA;rfl;rfl;(exact (rfl:_=[_, _]));rfl;rfl;rfl)|(apply rx_guardY;rfl;rfl;rfl;(rfl))|(apply rx_assign;rfl;rfl)|(apply rx_pickF;rfl;(rfl);rfl;rfl)|((with_reducible apply rx_callE (k := 58));(case ha => rfl);(case h => (apply within_c <;> (fail)));(case hp => (rfl));(case hN => rfl))|(apply rw_nil;kernel_rfl)|(apply rx_not;rfl;rfl)|(apply rx_box;rfl;rfl;rfl;rfl)|(apply rx_extract;rfl;rfl;rfl))|(apply id_aw;first|apply aw_seq|apply aw_region|(apply aw_cond;rfl;all_goals intro hc;have hq:=hc;(try simp only [bqs] at hq);try exfalso;omega)|apply aw_ret)|with_reducible apply tq_normal|with_reducible apply tq_ret)
      all_goals first
        | (refine rq_le (Le.nilImm (d := 6) rfl) ?_
           exact rq_ret (l := [sl cI [], bv false]) rfl ⟨rfl, rfl⟩)
        | (exfalso;omega)
  · rw [if_neg hv] at hg
    rw [if_neg (fun h => hv h.1)]
    (refine pc_of_aw Tryz.func20 rfl (by simp [Tryz.ntmps20]) ?_; rw [Tryz.ntmps20])
    repeat' (first|(apply id_rw;first|((with_reducible apply rx_callE (k := 57));(case ha => rfl);(case h => exact hg);(case hp => (exact Pur.pf));(case hN => rfl))|(apply rx_move;rfl;rfl)|(apply rx_loadA;rfl;rfl;(exact (rfl:_=[_, _]));rfl;rfl;rfl)|(apply rx_guardNs;rfl;rfl;rfl;(rfl))|(apply rx_assign;rfl;rfl)|(apply rx_pickT;rfl;(rfl);rfl;rfl)|(apply rw_nil;kernel_rfl)|(apply rx_not;rfl;rfl)|(apply rx_box;rfl;rfl;rfl;rfl)|(apply rx_extract;rfl;rfl;rfl))|(apply id_aw;first|apply aw_seq|apply aw_region|(apply aw_condT;rfl;(rfl))|apply aw_ret)|with_reducible apply tq_normal|with_reducible apply tq_ret)
    refine rq_le (Le.nilImm (d := 6) rfl) ?_
    exact rq_ret (l := [sl cI [], bv false]) rfl ⟨rfl, rfl⟩
theorem CellsMadeI_c (p : Prg) (cs : List Int) (most : Int) (hl : p.types.length ≤ 1000000) (hs : cntL p.body ≤ 1000000) (hcl : cs.length ≤ 1000000) : PC Tryz.prog 24 [aPrg p, sl cI cs, iv most] (fun r => r = .tup (if rgF p most = true then [iv (runP p.types (ptsF p) cs most.toNat).1.cells.length, iv ((runP p.types (ptsF p) cs most.toNat).1.cells.length - (alvL (runP p.types (ptsF p) cs most.toNat).1.cells).length), iv (runP p.types (ptsF p) cs most.toNat).2.1] else [iv 0, iv 0, iv 5])) := by
  by_cases h : rgF p most = true
  · have h' := h
    unfold rgF at h'
    simp only [Bool.and_eq_true, decide_eq_true_eq] at h'
    obtain ⟨hv, h0, h1⟩ := h'
    have hru := runV_c p cs most.toNat _ rfl hv hl hs (by omega) hcl
    have hok := run_ok (cs := cs) (n := most.toNat) hv
    have hrl := runP_readl (ts := p.types) (pts := ptsF p) (cs := cs) (n := most.toNat) (by omega)
    have htl := (WG.of_valid hv).tl
    rw [Int.toNat_of_nonneg h0] at hru
    rw [if_pos h]
    have hon := Int.toNat_of_nonneg h0
    have hm := hok.m
    have hml := hm.l
    have hsl := hok.l
    generalize runP p.types (ptsF p) cs most.toNat = q at *
    have hal : (alvL q.1.cells).length ≤ q.1.cells.length := by
      unfold alvL;rw [List.length_map]; exact Nat.le_trans (List.length_filter_le _ _) (by rw [List.length_range]; exact Nat.le_refl _)
    (refine pc_of_aw Tryz.func24 rfl (by simp [Tryz.ntmps24]) ?_; rw [Tryz.ntmps24])
    repeat' (first|(apply id_rw;first|((apply rx_runVI (p := p) (cs := cs) (n := most) (q := q));(case ha0|ha1|ha2 => rfl);(case hmc => exact hru);(case hM|hN => rfl))|(apply rx_move;rfl;rfl)|(first|(apply rx_load1;rfl;rfl;rfl;rfl)|(apply rx_loadA;rfl;rfl;(exact (rfl:_=[_, _]));rfl;rfl;rfl))|(apply rx_fieldAddr;rfl;rfl;rfl)|(apply rx_assign;rfl;rfl)|(apply rx_len;rfl;rfl;rfl)|(apply rw_nil;kernel_rfl)|(apply rx_nil;rfl;rfl;rfl)|(apply rx_box;rfl;rfl;rfl;rfl)|(apply rx_extract;rfl;rfl;rfl))|(apply id_aw;first|apply aw_seq|apply aw_region|apply aw_block)|with_reducible apply tq_normal)
    refine aw_loopK (σ := Nat × Int) [9, 10, 26, 27] [(9, _), (10, _), (26, _), (27, _)] [3] [(3, some _)] (fun k => [(28, iv (k.1 : Int)), (12, iv k.2)]) (fun k => []) (fun k => k.1 ≤ q.1.cells.length ∧ k.2 = (k.1 : Int) - (((List.range k.1).filter (fun k => q.1.cells[k]!.alive)).map (fun v : Nat => (v : Int))).length) (fun k => q.1.cells.length - k.1) (0, 0) ⟨Nat.zero_le _, rfl⟩ rfl rfl (by repeat' (first|exact trivial|refine And.intro rfl ?_)) (by repeat' (exact trivial)) ?_
    rintro ⟨i, fr⟩ ⟨hi, hfr⟩
    dsimp only at hi hfr ⊢
    have hb : (((List.range i).filter (fun k => q.1.cells[k]!.alive)).map (fun v : Nat => (v : Int))).length ≤ i := by
      rw [List.length_map]; exact Nat.le_trans (List.length_filter_le _ _) (by rw [List.length_range]; exact Nat.le_refl _)
    have hfb : 0 ≤ fr ∧ fr ≤ i := by omega
    repeat' (first|(apply id_rw;first|(apply rx_move;rfl;rfl)|(first|(apply rx_load1;rfl;rfl;rfl;rfl)|(apply rx_loadA;rfl;rfl;(exact (rfl:_=[_, _, _, _]));rfl;rfl;rfl))|(apply rx_fieldAddr;rfl;rfl;rfl)|(first|(apply rx_add;rfl;rfl;omega;rfl)|(apply rx_bin;rfl;rfl;rfl;rfl))|(apply rx_assign;rfl;rfl)|(apply rx_indexFN;(case hx|hi => rfl);(case hm => (omega));(case hml => (rfl));(case hα | hf|hg => infer_instance);(case hN => rfl))|(apply rx_len;rfl;rfl;rfl)|(apply rw_nil;kernel_rfl)|(apply rx_not;rfl;rfl)|(apply rx_nil;rfl;rfl;rfl)|(apply rx_alloc;rfl;rfl)|(apply rx_store;rfl;rfl;rfl;rfl;rfl;(case hl => (simp;done));(exact (rfl:_=[_, _, _, _]))))|(apply id_aw;first|apply aw_seq|apply aw_region|(apply aw_cond;rfl;all_goals intro hc;have hq:=hc;(try simp only [bqs] at hq);try exfalso;omega)|apply aw_block|apply aw_skip|apply aw_exit|apply aw_ret)|with_reducible apply tq_normal|with_reducible apply tq_exit|with_reducible apply bq_normal|with_reducible apply bq_here)
    · (apply ex3 (i + 1, fr + 1); focus (refine Le.ren [(2, 2), (3, 3), (4, 4)] rfl (by decide) ?_ ?_ <;> repeat' (first | exact trivial | refine And.intro ⟨_, rfl, ?_⟩ ?_ | refine And.intro ⟨_, _, rfl, rfl, ?_⟩ ?_ | exact Or.inr rfl | refine Or.inl ⟨?_, (by first | rfl | exact pur_sl _ _ | exact Pur.pf)⟩ | refine Or.inr (All2.cons ?_ ?_) | refine All2.cons ?_ ?_ | exact All2.nil | rfl)))
      · refine ⟨by dsimp only; omega, ?_⟩
        dsimp only
        rw [alv_skip (by assumption)]; omega
      · dsimp only;omega
    · (apply ex3 (i + 1, fr); focus (refine Le.ren [(2, 2), (3, 3), (4, 4)] rfl (by decide) ?_ ?_ <;> repeat' (first | exact trivial | refine And.intro ⟨_, rfl, ?_⟩ ?_ | refine And.intro ⟨_, _, rfl, rfl, ?_⟩ ?_ | exact Or.inr rfl | refine Or.inl ⟨?_, (by first | rfl | exact pur_sl _ _ | exact Pur.pf)⟩ | refine Or.inr (All2.cons ?_ ?_) | refine All2.cons ?_ ?_ | exact All2.nil | rfl)))
      · refine ⟨by dsimp only; omega, ?_⟩
        dsimp only
        rw [alv_hit (by assumption), List.length_append, List.length_singleton]; omega
      · dsimp only;omega
    · have hie : i = q.1.cells.length := by omega
      have hfe : fr = (q.1.cells.length : Int) - (alvL q.1.cells).length := by rw [hfr, hie]; rfl
      rw [← hfe]
      exact rq_ret (l := [iv q.1.cells.length, iv fr, iv q.2.1]) rfl ⟨rfl, rfl⟩
  · rw [if_neg h]
    have h2 : rgF p most = false := by simpa using h
    (refine pc_of_aw Tryz.func24 rfl (by simp [Tryz.ntmps24]) ?_; rw [Tryz.ntmps24])
    repeat' (first|(apply id_rw;first|((apply rx_runX (p := p) (cs := cs) (n := most));(case ha0|ha1|ha2 => rfl);(case hmc => exact runX_c p cs most hl hs h2);(case hM|hN => rfl))|(apply rx_move;rfl;rfl)|(first|(apply rx_load1;rfl;rfl;rfl;rfl)|(apply rx_loadA;rfl;rfl;(exact (rfl:_=[_, _]));rfl;rfl;rfl))|(apply rx_fieldAddr;rfl;rfl;rfl)|(apply rx_assign;rfl;rfl)|(apply rx_len;rfl;rfl;rfl)|(apply rw_nil;kernel_rfl)|(apply rx_nil;rfl;rfl;rfl)|(apply rx_box;rfl;rfl;rfl;rfl)|(apply rx_extract;rfl;rfl;rfl))|(apply id_aw;first|apply aw_seq|apply aw_region|apply aw_block)|with_reducible apply tq_normal)
    refine aw_loopK (σ := Unit) [9, 10, 12, 26, 27] [(9, _), (10, _), (12, _), (26, _), (27, _)] [2] [(2, some _)] (fun _u => [(28, iv 0)]) (fun _u => []) (fun _u => True) (fun _u => 0) () trivial rfl rfl (by repeat' (first|exact trivial|refine And.intro rfl ?_)) (by repeat' (exact trivial)) ?_
    intro _ _
    repeat' (first|(apply id_rw;first|(apply rx_move;rfl;rfl)|(apply rx_load1;rfl;rfl;rfl;rfl)|(apply rx_fieldAddr;rfl;rfl;rfl)|(apply rx_bin;rfl;rfl;rfl;rfl)|(apply rx_assign;rfl;rfl)|(apply rx_len;rfl;rfl;rfl)|(apply rw_nil;kernel_rfl)|(apply rx_nil;rfl;rfl;rfl))|(apply id_aw;first|apply aw_seq|apply aw_region|(apply aw_condF;rfl;(rfl))|apply aw_exit|apply aw_ret)|with_reducible apply tq_normal|with_reducible apply tq_exit|with_reducible apply bq_here)
    exact rq_ret (l := [iv 0, iv 0, iv 5]) rfl ⟨rfl, rfl⟩
theorem choices_c (bs : List UInt8) (p : Nat) (hb : bs.length ≤ 2000) (hp : p ≤ 10000) : MC Tryz.prog 87 [.optr 0 0] [(0, some (cRd bs p))] 1 (fun x : List Int × Nat => x.1.length ≤ 8 ∧ x.2 ≤ 20000) (fun x => sl cI x.1) (fun x => [(0, some (cRd bs x.2))]) := by
  have hn := num_bd bs p [4, 2, 6, 0, 8] 0 8 (by decide) (by decide)
  (refine mc_of_aw Tryz.func87 rfl (by simp [Tryz.ntmps87]) ?_; rw [Tryz.ntmps87])
  repeat' (first|(apply id_rw;first|(apply rx_move;rfl;rfl)|(apply rx_assign;rfl;rfl)|(apply rx_numO;rfl;rfl;rfl;rfl;infer_instance;rfl;(rfl);assumption;omega;(decide);(decide);rfl;rfl)|(apply rw_nil;kernel_rfl)|(apply rx_buildSlice;rfl;rfl;rfl;(first|exact (rfl:_=some [_, _, _, _, _])|rfl);rfl;rfl))|(apply id_aw;first|apply aw_seq|apply aw_region|apply aw_block)|with_reducible apply tq_normal)
  refine aw_loopK (σ := Int × List Int × Nat × Nat) [0] [(0, _)] [] [] (fun k => [(4, iv k.1), (3, .own 1 0 k.2.2.1 1)]) (fun k => [(0, some (cRd bs k.2.2.2)), (1, some (flat cI k.2.1))]) (fun k => (0 ≤ k.1 ∧ k.1 + k.2.1.length ≤ 8) ∧ k.2.2.1 = k.2.1.length ∧ k.2.2.2 ≤ 10001 + k.2.1.length) (fun k => k.1.toNat) (numF bs p [4, 2, 6, 0, 8], [], 0, p + 1) ⟨⟨hn.1, by show _ + ((0 : Nat) : Int) ≤ 8;omega⟩, rfl, by dsimp only;omega⟩ rfl rfl (by repeat' (first|exact trivial|refine And.intro rfl ?_)) (by repeat' (first|exact trivial|refine And.intro (.inr rfl) ?_)) ?_
  rintro ⟨i, xs, m, p'⟩ ⟨⟨hi, hx⟩, hm, hp'⟩
  dsimp only at hi hx hm hp' ⊢
  repeat' (first|(apply id_rw;first|(apply rx_move;rfl;rfl)|(first|(apply rx_sub;rfl;rfl;omega;rfl)|(apply rx_bin;rfl;rfl;rfl;rfl))|(apply rx_assign;rfl;rfl)|(apply rx_num;rfl;rfl;infer_instance;rfl;(rfl);assumption;omega;(decide);(decide);rfl;rfl)|(apply rx_append;rfl;rfl;rfl;rfl;rfl;(rw [flat_length]; omega);(rfl);omega;omega;(exact app_int (by (assumption)));rfl;rfl)|(apply rw_nil;kernel_rfl)|((apply rx_buildSliceI (t := _));(case hze|hsm|hl => rfl);(case hfl => (first|exact (rfl:_=some [_])|exact (rfl:_=some [_, _, _, _, _, _])));(case hM|hN => rfl)))|(apply id_aw;first|apply aw_seq|apply aw_region|(apply aw_cond;rfl;all_goals intro hc;have hq:=hc;(try simp only [bqs] at hq);try exfalso;omega)|apply aw_block|apply aw_skip|apply aw_exit|apply aw_ret)|with_reducible apply tq_normal|with_reducible apply tq_exit|with_reducible apply bq_normal|with_reducible apply bq_here)
  · (apply ex3 (i - 1, xs ++ [numF bs p' [0, 1, 0, 1, -1, 2]], m + 1, p' + 1); focus (refine Le.ren [(1, 5)] rfl (by decide) ?_ ?_ <;> repeat' (first | exact trivial | refine And.intro ⟨_, rfl, ?_⟩ ?_ | refine And.intro ⟨_, _, rfl, rfl, ?_⟩ ?_ | exact Or.inr rfl | refine Or.inl ⟨?_, (by first | rfl | exact pur_sl _ _ | exact Pur.pf)⟩ | rfl)))
    · refine ⟨⟨by dsimp only; omega, ?_⟩, by dsimp only; rw [List.length_append, hm]; rfl, ?_⟩
      · dsimp only;rw [List.length_append]; simp only [List.length_singleton]; omega
      · dsimp only;rw [List.length_append]; simp only [List.length_singleton]; omega
    · dsimp only;omega
  · refine rq_le (Le.frzD (d := 2) (i := 1) rfl rfl) ?_
    refine rq_ret rfl ?_
    refine mc_ret (xs, p') ⟨by dsimp only;omega, by dsimp only;omega⟩ ?_ ⟨.inr rfl, trivial⟩
    show AV.imm m (flat cI xs) = sl cI xs
    rw [hm]
theorem rx_chcall {P : Program} {N : Nat} {Q : Exit → AS → Prop} {all : Array Oper} {rest : List Oper} {ts : List (Nat × AV)} {hs : List (Nat × Option (List AV))} {n : Nat} {z0 : Lo} {ty : TypeId} {pos : String} {af : Array Edge} {d : Nat} {args : Array Operand} {tys : Array TypeId}
    {k : FuncId} {p0 : List Int × Nat → Prop} {i p : Nat} {bs : List UInt8} (h : MC P k [.optr 0 0] [(0, some (cRd bs p))] 1 p0 (fun x => sl cI x.1) (fun x => [(0, some (cRd bs x.2))])) [hc : CaT P k] (ha : evL (lk ts) args.toList = some [.optr i 0])
    (hH : lkH hs i = some (cRd bs p)) (hM : Nat.ble (n + 0) big = true) (hN : Nat.blt d N = true) (kk : ∀ x, p0 x → RW P N all Q .txt rest ⟨(d, sl cI x.1) :: ts, (i, some (cRd bs x.2)) :: hs, n + 0, z0⟩) :
    RW P N all Q .txt (⟨some d, .call ⟨.value (.func k), args, tys⟩, ty, pos, af, none⟩ :: rest) ⟨ts, hs, n, z0⟩ :=
  rx_mcall (σ := List Int × Nat) [i] 1 (fun x : List Int × Nat => [(i, some (cRd bs x.2))]) h ha rfl ⟨⟨_, _, rfl, hH, RnL.purI inferInstance⟩, trivial⟩ rfl (RnL.cons (RnV.optr rfl) .nil) (by simpa using hM)
    (fun x _ => RnV.purI inferInstance) (fun x _ => by simp [wsAll]) (fun x _ => ⟨⟨0, _, rfl, rfl, RnL.purI inferInstance⟩, trivial⟩) hN kk
theorem case7_c (bs : List UInt8) (hb : bs.length ≤ 1048576) : PC Tryz.prog 53 [sl cU bs] (fun r => ∃ (q : Prg) (cs : List Int) (n : Int), r = .tup [aPrg q, sl cI cs, iv n] ∧ cntL q.body ≤ 20000 ∧ q.types.length ≤ 1000 ∧ cs.length ≤ 8 ∧ -1 ≤ n ∧ n ≤ 151) := by
  have hb2 : (bs.take 2000).length ≤ 2000 := by rw [List.length_take]; omega
  (refine pc_of_aw Tryz.func53 rfl (by simp [Tryz.ntmps53]) ?_; rw [Tryz.ntmps53])
  repeat' (first|(apply id_rw;first|((with_reducible apply rx_prgcall (k := 86));(case h => exact draw_c (bs.take 2000) 0 hb2 (by decide));(case ha|hpv|hH|hM|hN => rfl);(rintro ⟨q, p1⟩ ⟨hq1, hq2, hq3⟩);(dsimp only at hq1 hq2 hq3))|((with_reducible apply rx_prgcall (k := 85));(case h => exact mutate_c (bs.take 2000) p1 q hb2 (by omega) (by omega) (by omega));(case ha => rfl);(case hpv => exact Pur.pf);(case hH|hM|hN => rfl);(rintro ⟨q2, p2⟩ ⟨hr1, hr2, hr3⟩);(dsimp only at hr1 hr2 hr3))|((apply rx_chcall (k := 87));(case h => exact choices_c (bs.take 2000) p2 hb2 (by omega));(case ha|hH|hM|hN => rfl);(rintro ⟨cs, p3⟩ ⟨hc1, hc2⟩);(dsimp only at hc1 hc2);(have hn9 := num_bd (bs.take 2000) p3 [100, 150, 60, 5, 0, 151, -1] (-1) 151 (by decide) (by decide)))|(apply rx_move;rfl;rfl)|(apply rx_loadA;rfl;rfl;(exact (rfl:_=[_, _]));rfl;rfl;rfl)|(apply rx_assign;rfl;rfl)|(first|(apply rx_l17Open;rfl;(apply l17Open_c <;> (assumption));rfl;rfl)|(apply rx_numO;rfl;rfl;rfl;rfl;infer_instance;rfl;(rfl);assumption;omega;(decide);(decide);rfl;rfl))|(apply rw_nil;kernel_rfl)|(apply rx_alloc;rfl;rfl)|(apply rx_buildSlice;rfl;rfl;rfl;(exact (rfl:_=some [_, _, _, _, _, _, _]));rfl;rfl)|(apply rx_store;rfl;rfl;rfl;rfl;rfl;(case hl => (simp;done));(exact (rfl:_=[_, _]))))|(apply id_aw;first|apply aw_seq|apply aw_region|(apply aw_draw;kernel_rfl)|apply aw_ret)|with_reducible apply tq_normal)
  exact rq_ret (l := [aPrg q2, sl cI cs, iv (numF (bs.take 2000) p3 [100, 150, 60, 5, 0, 151, -1])]) rfl ⟨⟨q2, cs, _, rfl, by omega, by omega, hc1, hn9.1, hn9.2⟩, Pur.pf⟩
theorem drawRun_c (bs : List UInt8) (hb : bs.length ≤ 1048576) : PC Tryz.prog 17 [sl cU bs] (fun r => ∃ (q : Prg) (cs : List Int) (n : Int), r = .tup [aPrg q, sl cI cs, iv n] ∧ cntL q.body ≤ 20000 ∧ q.types.length ≤ 1000 ∧ cs.length ≤ 8 ∧ -1 ≤ n ∧ n ≤ 151) := by
  (refine pc_of_aw Tryz.func17 rfl (by simp [Tryz.ntmps17]) ?_; rw [Tryz.ntmps17])
  repeat' (first|(apply id_rw;first|((with_reducible apply rx_call (k := 53));(case ha => rfl);(case h => exact case7_c bs hb);(case hp => (exact Pur.pf));(case hN => rfl);(rintro _ ⟨q, cs, n, rfl, h1, h2, h3, h4, h5⟩ _))|(apply rx_move;rfl;rfl)|(apply rx_assign;rfl;rfl)|(apply rw_nil;kernel_rfl)|(apply rx_alloc;rfl;rfl)|(apply rx_extract;rfl;rfl;rfl)|(apply rx_store;rfl;rfl;rfl;rfl;rfl;(case hl => (simp;done));(exact (rfl:_=[_, _]))))|(apply id_aw;first|apply aw_seq|apply aw_region|apply aw_ret)|with_reducible apply tq_normal)
  exact rq_ret (l := [aPrg q, sl cI cs, iv n]) rfl ⟨⟨q, cs, n, rfl, h1, h2, h3, h4, h5⟩, Pur.pf⟩
theorem drawCM_c (bs : List UInt8) (hb : bs.length ≤ 1048576) : PC Tryz.prog 23 [sl cU bs] (fun r => ∃ (q : Prg) (cs : List Int) (n : Int), r = .tup [aPrg q, sl cI cs, iv n] ∧ cntL q.body ≤ 20000 ∧ q.types.length ≤ 1000 ∧ cs.length ≤ 8 ∧ -1 ≤ n ∧ n ≤ 151) := by
  (refine pc_of_aw Tryz.func23 rfl (by simp [Tryz.ntmps23]) ?_; rw [Tryz.ntmps23])
  repeat' (first|(apply id_rw;first|((with_reducible apply rx_call (k := 53));(case ha => rfl);(case h => exact case7_c bs hb);(case hp => (exact Pur.pf));(case hN => rfl);(rintro _ ⟨q, cs, n, rfl, h1, h2, h3, h4, h5⟩ _))|(apply rx_move;rfl;rfl)|(apply rx_assign;rfl;rfl)|(apply rw_nil;kernel_rfl)|(apply rx_alloc;rfl;rfl)|(apply rx_extract;rfl;rfl;rfl)|(apply rx_store;rfl;rfl;rfl;rfl;rfl;(case hl => (simp;done));(exact (rfl:_=[_, _]))))|(apply id_aw;first|apply aw_seq|apply aw_region|apply aw_ret)|with_reducible apply tq_normal)
  exact rq_ret (l := [aPrg q, sl cI cs, iv n]) rfl ⟨⟨q, cs, n, rfl, h1, h2, h3, h4, h5⟩, Pur.pf⟩
theorem drawNR_c (bs : List UInt8) (hb : bs.length ≤ 1048576) : PC Tryz.prog 26 [sl cU bs] (fun r => ∃ (q : Prg) (cs : List Int) (n : Int), r = .tup [aPrg q, sl cI cs, iv n] ∧ cntL q.body ≤ 20000 ∧ q.types.length ≤ 1000 ∧ cs.length ≤ 8 ∧ -1 ≤ n ∧ n ≤ 151) := by
  (refine pc_of_aw Tryz.func26 rfl (by simp [Tryz.ntmps26]) ?_; rw [Tryz.ntmps26])
  repeat' (first|(apply id_rw;first|((with_reducible apply rx_call (k := 53));(case ha => rfl);(case h => exact case7_c bs hb);(case hp => (exact Pur.pf));(case hN => rfl);(rintro _ ⟨q, cs, n, rfl, h1, h2, h3, h4, h5⟩ _))|(apply rx_move;rfl;rfl)|(apply rx_assign;rfl;rfl)|(apply rw_nil;kernel_rfl)|(apply rx_alloc;rfl;rfl)|(apply rx_extract;rfl;rfl;rfl)|(apply rx_store;rfl;rfl;rfl;rfl;rfl;(case hl => (simp;done));(exact (rfl:_=[_, _]))))|(apply id_aw;first|apply aw_seq|apply aw_region|apply aw_ret)|with_reducible apply tq_normal)
  exact rq_ret (l := [aPrg q, sl cI cs, iv n]) rfl ⟨⟨q, cs, n, rfl, h1, h2, h3, h4, h5⟩, Pur.pf⟩
theorem drawFC_c (bs : List UInt8) (hb : bs.length ≤ 1048576) : PC Tryz.prog 30 [sl cU bs] (fun r => ∃ (q : Prg) (cs : List Int) (n : Int), r = .tup [aPrg q, sl cI cs, iv n] ∧ cntL q.body ≤ 20000 ∧ q.types.length ≤ 1000 ∧ cs.length ≤ 8 ∧ -1 ≤ n ∧ n ≤ 151) := by
  (refine pc_of_aw Tryz.func30 rfl (by simp [Tryz.ntmps30]) ?_; rw [Tryz.ntmps30])
  repeat' (first|(apply id_rw;first|((with_reducible apply rx_call (k := 53));(case ha => rfl);(case h => exact case7_c bs hb);(case hp => (exact Pur.pf));(case hN => rfl);(rintro _ ⟨q, cs, n, rfl, h1, h2, h3, h4, h5⟩ _))|(apply rx_move;rfl;rfl)|(apply rx_assign;rfl;rfl)|(apply rw_nil;kernel_rfl)|(apply rx_alloc;rfl;rfl)|(apply rx_extract;rfl;rfl;rfl)|(apply rx_store;rfl;rfl;rfl;rfl;rfl;(case hl => (simp;done));(exact (rfl:_=[_, _]))))|(apply id_aw;first|apply aw_seq|apply aw_region|apply aw_ret)|with_reducible apply tq_normal)
  exact rq_ret (l := [aPrg q, sl cI cs, iv n]) rfl ⟨⟨q, cs, n, rfl, h1, h2, h3, h4, h5⟩, Pur.pf⟩
theorem drawFS_c (bs : List UInt8) (hb : bs.length ≤ 1048576) : PC Tryz.prog 38 [sl cU bs] (fun r => ∃ (q : Prg) (cs : List Int) (n : Int), r = .tup [aPrg q, sl cI cs, iv n] ∧ cntL q.body ≤ 20000 ∧ q.types.length ≤ 1000 ∧ cs.length ≤ 8 ∧ -1 ≤ n ∧ n ≤ 151) := by
  (refine pc_of_aw Tryz.func38 rfl (by simp [Tryz.ntmps38]) ?_; rw [Tryz.ntmps38])
  repeat' (first|(apply id_rw;first|((with_reducible apply rx_call (k := 53));(case ha => rfl);(case h => exact case7_c bs hb);(case hp => (exact Pur.pf));(case hN => rfl);(rintro _ ⟨q, cs, n, rfl, h1, h2, h3, h4, h5⟩ _))|(apply rx_move;rfl;rfl)|(apply rx_assign;rfl;rfl)|(apply rw_nil;kernel_rfl)|(apply rx_alloc;rfl;rfl)|(apply rx_extract;rfl;rfl;rfl)|(apply rx_store;rfl;rfl;rfl;rfl;rfl;(case hl => (simp;done));(exact (rfl:_=[_, _]))))|(apply id_aw;first|apply aw_seq|apply aw_region|apply aw_ret)|with_reducible apply tq_normal)
  exact rq_ret (l := [aPrg q, sl cI cs, iv n]) rfl ⟨⟨q, cs, n, rfl, h1, h2, h3, h4, h5⟩, Pur.pf⟩
def reE (p : Prg) (cs : List Int) (n : Int) : Int := if rgF p n = true then (runP p.types (ptsF p) cs n.toNat).2.1 else 5
def reA (p : Prg) (cs : List Int) (n : Int) : Int := if rgF p n = true then ((runP p.types (ptsF p) cs n.toNat).2.2 : Int) else 0
theorem runI_e (p : Prg) (cs : List Int) (n : Int) (hl : p.types.length ≤ 1000000) (hs : cntL p.body ≤ 1000000) (hcl : cs.length ≤ 1000000) : PC Tryz.prog 18 [aPrg p, sl cI cs, iv n] (fun r => r = .tup [iv (reE p cs n), iv (reA p cs n)]) := by
  have h := RunProgramI_c p cs n hl hs hcl
  unfold reE reA
  split
  · rename_i h2;rw [if_pos h2] at h;exact h
  · rename_i h2;rw [if_neg h2] at h;exact h
theorem runS_e (p : Prg) (cs : List Int) (n : Int) (hl : p.types.length ≤ 1000000) (hs : cntL p.body ≤ 1000000) (hcl : cs.length ≤ 1000000) : PC Tryz.prog 19 [aPrg p, sl cI cs, iv n] (fun r => r = .tup [iv (reE p cs n), iv (reA p cs n)]) := by
  have h := RunProgramS_c p cs n hl hs hcl
  unfold reE reA
  split
  · rename_i h2;rw [if_pos h2] at h;exact h
  · rename_i h2;rw [if_neg h2] at h;exact h
theorem rgF_true {p : Prg} {n : Int} : rgF p n = true ↔ validF p = true ∧ 0 ≤ n ∧ n ≤ 150 := by
  unfold rgF;simp only [Bool.and_eq_true, decide_eq_true_eq]
theorem re_more {p : Prg} {cs : List Int} {n : Int} (h1 : reE p cs n ≠ 1) (h5 : reE p cs n ≠ 5) : reE p cs 150 = reE p cs n ∧ reA p cs 150 = reA p cs n := by
  unfold reE at h1 h5
  by_cases h : rgF p n = true
  · obtain ⟨hv, h0, hn⟩ := rgF_true.1 h
    have h150 : rgF p 150 = true := rgF_true.2 ⟨hv, by decide, by decide⟩
    rw [if_pos h] at h1
    have e := run_more p.types (ptsF p) cs (n := n.toNat) (n' := 150) (by omega) h1
    unfold reE reA
    rw [if_pos h, if_pos h, if_pos h150, if_pos h150]
    have e2 : (150 : Int).toNat = 150 := rfl
    rw [e2, e]
    exact ⟨rfl, rfl⟩
  · rw [if_neg h] at h5;exact absurd rfl h5
theorem FnRunMore_c (bs : List UInt8) : PC Tryz.prog 3 [sl cU bs] (fun r => r = bv true) := by
  rcases Nat.lt_or_ge 1048576 bs.length with hb|hb
  · (refine pc_of_aw Tryz.func3 rfl (by simp [Tryz.ntmps3]) ?_; rw [Tryz.ntmps3])
    repeat' (first|(apply id_rw;first|(apply rx_move;rfl;rfl)|(apply rx_bin;rfl;rfl;rfl;rfl)|(apply rx_assign;rfl;rfl)|(apply rx_len;rfl;rfl;rfl)|(apply rw_nil;kernel_rfl))|(apply id_aw;first|apply aw_seq|apply aw_region|(apply aw_cond;rfl;all_goals intro hc;have hq:=hc;(try simp only [bqs] at hq);try exfalso;omega)|apply aw_ret)|with_reducible apply tq_normal|with_reducible apply tq_ret)
    exact rq_ret rfl ⟨rfl, rfl⟩
  (refine pc_of_aw Tryz.func3 rfl (by simp [Tryz.ntmps3]) ?_; rw [Tryz.ntmps3])
  repeat' (first|(apply id_rw;first|((with_reducible apply rx_call (k := 17));(case ha => rfl);(case h => exact drawRun_c bs hb);(case hp => (exact Pur.pf));(case hN => rfl);(rintro _ ⟨q, cs, n, rfl, hq1, hq2, hq3, hq4, hq5⟩ _))|(with_reducible apply rw_stop (d := 22))|(apply rx_move;rfl;rfl)|(apply rx_bin;rfl;rfl;rfl;rfl)|(apply rx_assign;rfl;rfl)|(apply rx_len;rfl;rfl;rfl)|(apply rw_nil;kernel_rfl)|(apply rx_alloc;rfl;rfl)|(apply rx_extract;rfl;rfl;rfl)|(apply rx_store;rfl;rfl;rfl;rfl;rfl;(case hl => (simp;done));(exact (rfl:_=[_, _]))))|(apply id_aw;first|apply aw_seq|apply aw_region|(apply aw_cond;rfl;all_goals intro hc;have hq:=hc;(try simp only [bqs] at hq);try exfalso;omega)|apply aw_skip)|with_reducible apply tq_normal)
  refine rw_go ?_
  have h1 := runI_e q cs n (by omega) (by omega) (by omega)
  have h2 := runS_e q cs n (by omega) (by omega) (by omega)
  have h3 := runI_e q cs 150 (by omega) (by omega) (by omega)
  have hm := re_more (p := q) (cs := cs) (n := n)
  generalize reE q cs n = e at *
  generalize reA q cs n = a at *
  generalize reE q cs 150 = e2 at *
  generalize reA q cs 150 = a2 at *
  repeat' (first|(apply id_rw;first|(with_reducible apply rw_stop (d := 60))|((with_reducible apply rx_callE (k := 18));(case ha => rfl);(case h => exact h1);(case hp => (exact Pur.pf));(case hN => rfl))|((with_reducible apply rx_callE (k := 19));(case ha => rfl);(case h => exact h2);(case hp => (exact Pur.pf));(case hN => rfl))|(apply rx_move;rfl;rfl)|(apply rx_loadA;rfl;rfl;(exact (rfl:_=[_, _]));rfl;rfl;rfl)|(first|(apply rx_guardY;rfl;rfl;rfl;(assumption))|(apply rx_guardNs;rfl;rfl;rfl;(first|rfl|assumption))|(apply rx_guardS;(case hj|hb|hN => rfl);all_goals (intro hg;have hq := hg;(try simp only [bqs] at hq);(try (exfalso;omega)))))|(apply rx_bin;rfl;rfl;rfl;rfl)|(apply rx_assign;rfl;rfl)|(first|(apply rx_pickT;rfl;(first|rfl|assumption);rfl;rfl)|(apply rx_pickF;rfl;(assumption);rfl;rfl))|(apply rw_nil;kernel_rfl)|(apply rx_extract;rfl;rfl;rfl))|(apply id_aw;first|apply aw_seq|apply aw_region|(apply aw_condT;rfl;(rfl))|(apply aw_cond;rfl;all_goals intro hc;have hq:=hc;(try simp only [bqs] at hq);try exfalso;omega)|apply aw_skip|apply aw_ret)|with_reducible apply tq_normal|with_reducible apply tq_ret)
  all_goals first
    | (exfalso;exact (by assumption : ¬ True) trivial)
    | (refine rq_ret rfl ⟨?_, rfl⟩; simp only [oneOf, decide_true]; done)
    | (refine rw_go ?_
       obtain ⟨m1, m2⟩ := hm (by assumption) (by assumption)
       subst m1 m2
       repeat' (first|(apply id_rw;first|((with_reducible apply rx_callE (k := 18));(case ha => rfl);(case h => exact h3);(case hp => (exact Pur.pf));(case hN => rfl))|(apply rx_move;rfl;rfl)|(apply rx_loadA;rfl;rfl;(exact (rfl:_=[_, _]));rfl;rfl;rfl)|(first|(apply rx_guardY;rfl;rfl;rfl;(assumption))|(apply rx_guardNs;rfl;rfl;rfl;(assumption))|(apply rx_guardS;(case hj|hb|hN => rfl);all_goals (intro hg;have hq := hg;(try simp only [bqs] at hq);(try (exfalso;omega)))))|(apply rx_bin;rfl;rfl;rfl;rfl)|(apply rx_assign;rfl;rfl)|(first|(apply rx_pickT;rfl;(assumption);rfl;rfl)|(apply rx_pickF;rfl;(assumption);rfl;rfl))|(apply rw_nil;kernel_rfl)|(apply rx_extract;rfl;rfl;rfl))|(apply id_aw;first|apply aw_seq|apply aw_region|apply aw_ret)|with_reducible apply tq_normal)
       all_goals first|(exfalso;exact (by assumption : ¬ True) trivial)|(refine rq_ret rfl ⟨?_, rfl⟩; simp only [oneOf, decide_true]; done))
theorem graphOfL_c (p : Prg) (xs : List Int) (hl : p.types.length ≤ 1000000) (hs : cntL p.body ≤ 1000000) (hx : xs.length ≤ 10) : PC Tryz.prog 57 [aPrg p, sl cI xs] (fun r => r = if validF p = true ∧ (∀ j, j < xs.length → 0 ≤ xs[j]! ∧ xs[j]! < (ptsF p).length) then .tup [aG p.types p.body (ptsF p), bv true] else .tup [.v (.pointer none), bv false]) := by
  have hpl := ptsF_len p
  have hnl := npL_le p.body
  (refine pc_of_aw Tryz.func57 rfl (by simp [Tryz.ntmps57]) ?_; rw [Tryz.ntmps57])
  repeat' (first|(apply id_rw;first|(apply rx_move;rfl;rfl)|(apply rx_loadA;rfl;rfl;(exact (rfl:_=[_, _]));rfl;rfl;rfl)|(apply rx_assign;rfl;rfl)|(first|((with_reducible apply rx_callE (k := 61));(case ha => rfl);(case h => (apply validI_c <;> (first|assumption|omega)));(case hp => (exact Pur.pf));(case hN => rfl))|((with_reducible apply rx_callE (k := 62));(case ha => rfl);(case h => (apply points_c <;> (assumption)));(case hp => (exact Pur.pf));(case hN => rfl)))|(apply rx_len;rfl;rfl;rfl)|(apply rw_nil;kernel_rfl)|(apply rx_buildK;rfl;(exact (rfl:_=some [_, _, _]));(exact (rfl:_=[_, _, _]));rfl)|(apply rx_not;rfl;rfl)|(apply rx_box;rfl;rfl;rfl;rfl))|(apply id_aw;first|apply aw_seq|apply aw_region|(apply aw_draw;kernel_rfl)|(apply aw_cond;rfl;all_goals intro hc;have hq:=hc;(try simp only [bqs] at hq);try exfalso;omega)|apply aw_block|apply aw_skip|apply aw_ret)|with_reducible apply tq_normal|with_reducible apply tq_ret)
  · refine rq_ret rfl ⟨?_, (by (rfl))⟩
    rw [if_neg (by simp [hq])]; rfl
  · refine aw_loopK (σ := Nat) [6, 17, 18] [(6, _), (17, _), (18, _)] [1] [(1, some _)] (fun k => [(19, iv (k : Int))]) (fun k => []) (fun k => k ≤ xs.length ∧ ∀ j, j < k → 0 ≤ xs[j]! ∧ xs[j]! < (ptsF p).length) (fun k => xs.length - k) (0) ⟨by omega, by omega⟩ rfl rfl (by repeat' (first | exact trivial | refine And.intro rfl ?_)) (by repeat' (exact trivial)) ?_
    rintro k ⟨hk, hall⟩
    repeat' (first|(apply id_rw;first|(apply rx_move;rfl;rfl)|(apply rx_load1;rfl;rfl;rfl;rfl)|(apply rx_fieldAddr;rfl;rfl;rfl)|(first|(apply rx_add;rfl;rfl;omega;rfl)|(apply rx_sub;rfl;rfl;omega;rfl)|(apply rx_bin;rfl;rfl;rfl;rfl))|(apply rx_assign;rfl;rfl)|(apply rx_indexFN;(case hx|hi => rfl);(case hm => (omega));(case hml => (rfl));(case hα | hf|hg => infer_instance);(case hN => rfl))|((with_reducible apply rx_callE (k := 58));(case ha => rfl);(case h => (apply within_c <;> (fail)));(case hp => (rfl));(case hN => rfl))|(apply rx_len;rfl;rfl;rfl)|(apply rw_nil;kernel_rfl)|(apply rx_not;rfl;rfl)|(apply rx_nil;rfl;rfl;rfl))|(apply id_aw;first|apply aw_seq|apply aw_region|(apply aw_cond;rfl;all_goals intro hc;have hq:=hc;(try simp only [bqs] at hq);try exfalso;omega)|apply aw_block|apply aw_skip|apply aw_exit|apply aw_ret)|with_reducible apply tq_normal|with_reducible apply tq_ret|with_reducible apply tq_exit|with_reducible apply bq_normal|with_reducible apply bq_ret|with_reducible apply bq_here)
    · refine rq_ret rfl ⟨?_, (by (rfl))⟩
      rw [if_neg (fun h => by have := h.2 k (by omega);omega)]; rfl
    · (apply ex3 (k + 1); focus (refine Le.ren [(1, 1)] rfl (by decide) ?_ ?_ <;> repeat' (first | exact trivial | refine And.intro ⟨_, rfl, ?_⟩ ?_ | refine And.intro ⟨_, _, rfl, rfl, ?_⟩ ?_ | exact Or.inr rfl | refine Or.inl ⟨?_, (by first | rfl | exact pur_sl _ _)⟩ | refine Or.inr (All2.cons ?_ ?_) | refine All2.cons ?_ ?_ | exact All2.nil | rfl)))
      · exact ⟨by omega, fun j hj => by
          by_cases e : j = k
          · subst e;omega
          · exact hall j (by omega)⟩
      · omega
    · refine rq_le (Le.frzP (d := 4) (i := 1) rfl rfl) ?_
      refine rq_ret rfl ⟨?_, (by show (AV.tup [aG p.types p.body (ptsF p), bv true]).pur = true;exact PurV.pf)⟩
      rw [if_pos ⟨by assumption, fun j hj => hall j (by omega)⟩]; rfl
def OkAt (p : Prg) (i : Int) : Prop := validF p = true ∧ 0 ≤ i ∧ i < (ptsF p).length
theorem graphAt_c (p : Prg) (i : Int) (hl : p.types.length ≤ 1000000) (hs : cntL p.body ≤ 1000000) (h : OkAt p i) : PC Tryz.prog 57 [aPrg p, .imm 1 [iv i]] (fun r => r = .tup [aG p.types p.body (ptsF p), bv true]) := by
  have := graphOfL_c p [i] hl hs (by simp)
  rw [if_pos ⟨h.1, fun j hj => by obtain rfl : j = 0 := by simpa using hj
                                  exact h.2⟩] at this
  exact this
theorem AlwaysSetY_c (p : Prg) (i : Int) (f : Flows p.types (ptsF p)) (hl : p.types.length ≤ 1000000) (hs : cntL p.body ≤ 1000000) (h : OkAt p i) : PC Tryz.prog 40 [aPrg p, iv i] (fun r => r = sl cI (bitsI f.Aa[i.toNat]!)) := by
  have hg := graphAt_c p i hl hs h
  have w := WG.of_valid h.1
  have hpl := w.pl
  have htl := w.tl
  have hi : 0 ≤ i ∧ i < (ptsF p).length := h.2
  have hin : i.toNat < (ptsF p).length := by omega
  have b := f.bnd w
  have hsA := b.sA
  have hla := b.la
  (refine pc_of_aw Tryz.func40 rfl (by simp [Tryz.ntmps40]) ?_; rw [Tryz.ntmps40])
  repeat' (first|(apply id_rw;first|((with_reducible apply rx_callE (k := 57));(case ha => rfl);(case h => exact hg);(case hp => (exact Pur.pf));(case hN => rfl))|((with_reducible apply rx_callE (k := 67));(case ha => rfl);(case h => exact always_c p.types p.body (ptsF p) f.Aa w f.ga);(case hp => (exact Pur.pf));(case hN => rfl))|(apply rx_move;rfl;rfl)|(first|(apply rx_load1;rfl;rfl;rfl;rfl)|(apply rx_loadA;rfl;rfl;(exact (rfl:_=[_, _]));rfl;rfl;rfl))|(apply rx_assign;rfl;rfl)|(apply rx_indexF;(case hx|hi => rfl);(case hm => (assumption));(case hml => (omega));(case hα | hf|hg => infer_instance);(case hN => rfl))|((with_reducible apply rx_callE (k := 66));(case ha => rfl);(case h => (apply bits_c <;> (infer_instance)));(case hp => (rfl));(case hN => rfl))|(apply rw_nil;kernel_rfl)|(apply rx_not;rfl;rfl)|(apply rx_box;rfl;rfl;rfl;rfl)|(apply rx_extract;rfl;rfl;rfl)|((apply rx_buildSliceI (t := _));(case hze|hsm|hl => rfl);(case hfl => exact (rfl:_=some [_]));(case hM|hN => rfl)))|(apply id_aw;first|apply aw_seq|apply aw_region|(apply aw_condF;rfl;(rfl))|apply aw_skip|apply aw_ret)|with_reducible apply tq_normal)
  refine rq_ret rfl ⟨rfl, (by (exact pur_sl _ _))⟩
theorem MaybeSetY_c (p : Prg) (i : Int) (f : Flows p.types (ptsF p)) (hl : p.types.length ≤ 1000000) (hs : cntL p.body ≤ 1000000) (h : OkAt p i) : PC Tryz.prog 41 [aPrg p, iv i] (fun r => r = sl cI (bitsI f.Am[i.toNat]!)) := by
  have hg := graphAt_c p i hl hs h
  have w := WG.of_valid h.1
  have hpl := w.pl
  have htl := w.tl
  have hi : 0 ≤ i ∧ i < (ptsF p).length := h.2
  have hin : i.toNat < (ptsF p).length := by omega
  have b := f.bnd w
  have hsA := b.sM
  have hla := b.lm
  (refine pc_of_aw Tryz.func41 rfl (by simp [Tryz.ntmps41]) ?_; rw [Tryz.ntmps41])
  repeat' (first|(apply id_rw;first|((with_reducible apply rx_callE (k := 57));(case ha => rfl);(case h => exact hg);(case hp => (exact Pur.pf));(case hN => rfl))|((with_reducible apply rx_callE (k := 68));(case ha => rfl);(case h => exact maybe_c p.types p.body (ptsF p) f.Am w f.gm);(case hp => (exact Pur.pf));(case hN => rfl))|(apply rx_move;rfl;rfl)|(first|(apply rx_load1;rfl;rfl;rfl;rfl)|(apply rx_loadA;rfl;rfl;(exact (rfl:_=[_, _]));rfl;rfl;rfl))|(apply rx_assign;rfl;rfl)|(apply rx_indexF;(case hx|hi => rfl);(case hm => (assumption));(case hml => (omega));(case hα | hf|hg => infer_instance);(case hN => rfl))|((with_reducible apply rx_callE (k := 66));(case ha => rfl);(case h => (apply bits_c <;> (infer_instance)));(case hp => (rfl));(case hN => rfl))|(apply rw_nil;kernel_rfl)|(apply rx_not;rfl;rfl)|(apply rx_box;rfl;rfl;rfl;rfl)|(apply rx_extract;rfl;rfl;rfl)|((apply rx_buildSliceI (t := _));(case hze|hsm|hl => rfl);(case hfl => exact (rfl:_=some [_]));(case hM|hN => rfl)))|(apply id_aw;first|apply aw_seq|apply aw_region|(apply aw_condF;rfl;(rfl))|apply aw_skip|apply aw_ret)|with_reducible apply tq_normal)
  refine rq_ret rfl ⟨rfl, (by (exact pur_sl _ _))⟩
theorem LoansOf_c (p : Prg) (hl : p.types.length ≤ 1000000) (hs : cntL p.body ≤ 1000000) : PC Tryz.prog 42 [aPrg p] (fun r => r = sl cLon (if validF p = true then lnL (ptsF p) (ptsF p).length else [])) := by
  have hP := PointsOfI_c p hl hs
  have hn : (if validF p = true then ptsF p else []).length ≤ 61 := by
    split
    · rename_i h;exact (WG.of_valid h).pl
    · simp
  have e : (if validF p = true then lnL (ptsF p) (ptsF p).length else []) = lnL (if validF p = true then ptsF p else []) (if validF p = true then ptsF p else []).length := by
    split <;> rfl
  rw [e]
  generalize (if validF p = true then ptsF p else []) = pts at *
  (refine pc_of_aw Tryz.func42 rfl (by simp [Tryz.ntmps42]) ?_; rw [Tryz.ntmps42])
  repeat' (first|(apply id_rw;first|((with_reducible apply rx_callE (k := 22));(case ha => rfl);(case h => exact hP);(case hp => (exact Pur.pf));(case hN => rfl))|(apply rx_move;rfl;rfl)|(apply rx_loadA;rfl;rfl;(exact (rfl:_=[_, _]));rfl;rfl;rfl)|(apply rx_assign;rfl;rfl)|(apply rx_len;rfl;rfl;rfl)|(apply rw_nil;kernel_rfl)|(apply rx_box;rfl;rfl;rfl;rfl))|(apply id_aw;first|apply aw_seq|apply aw_region|apply aw_block)|with_reducible apply tq_normal)
  refine AW.le ?_ (Le.nilOwn (d := 3) 3 rfl (by decide))
  refine aw_loopK (σ := Nat × List Lon × Nat) [7, 8] [(7, _), (8, _)] [] [] (fun k => [(9, iv (k.1 : Int)), (3, .own 1 0 k.2.2 3)]) (fun k => [(1, some (flat cLon k.2.1))]) (fun k => k.1 ≤ pts.length ∧ k.2.1 = lnL pts k.1 ∧ k.2.2 = k.2.1.length ∧ k.2.2 ≤ k.1) (fun k => pts.length - k.1) (0, [], 0) ⟨by omega, rfl, rfl, Nat.le_refl _⟩ rfl rfl (by repeat' (first|exact trivial|refine And.intro rfl ?_)) (by repeat' (first|exact trivial|refine And.intro (.inr rfl) ?_)) ?_
  rintro ⟨k, u, m⟩ ⟨hk, hu, hm, hmk⟩
  dsimp only at hk hu hm hmk ⊢
  repeat' (first|(apply id_rw;first|(apply rx_move;rfl;rfl)|(first|(apply rx_load1;rfl;rfl;rfl;rfl)|(apply rx_loadA;rfl;rfl;(exact (rfl:_=[_, _, _, _, _]));rfl;rfl;rfl))|(apply rx_fieldAddr;rfl;rfl;rfl)|(first|(apply rx_add;rfl;rfl;omega;rfl)|(apply rx_bin;rfl;rfl;rfl;rfl))|(apply rx_assign;rfl;rfl)|(apply rx_indexFN;(case hx|hi => rfl);(case hm => (omega));(case hml => (rfl));(case hα | hf|hg => infer_instance);(case hN => rfl))|((with_reducible apply rx_callE (k := 69));(case ha => rfl);(case h => (apply isLoan_c <;> (fail)));(case hp => (exact Pur.pf));(case hN => rfl))|(apply rx_append;rfl;rfl;rfl;rfl;rfl;(rw [flat_length]; omega);(rfl);omega;omega;(exact app_lon (by (assumption)));rfl;rfl)|(apply rw_nil;kernel_rfl)|(apply rx_buildK;rfl;(exact (rfl:_=some [_, _, _]));(exact (rfl:_=[_, _, _]));rfl)|(apply rx_alloc;rfl;rfl)|((apply rx_buildSliceI (t := _));(case hze|hsm|hl => rfl);(case hfl => (exact (rfl:_=some [_, _, _])));(case hM|hN => rfl))|(apply rx_store;rfl;rfl;rfl;rfl;rfl;(case hl => (simp;done));(exact (rfl:_=[_, _, _, _, _]))))|(apply id_aw;first|apply aw_seq|apply aw_region|(apply aw_cond;rfl;all_goals intro hc;have hq:=hc;(try simp only [bqs] at hq);try exfalso;omega)|apply aw_block|apply aw_skip|apply aw_exit|apply aw_ret)|with_reducible apply tq_normal|with_reducible apply tq_exit|with_reducible apply bq_normal|with_reducible apply bq_here)
  · (apply ex3 (k + 1, u ++ [⟨k, decide (pts[k]!.op = 5), pts[k]!.y⟩], m + 1); focus (refine Le.ren [(1, 4)] rfl (by decide) ?_ ?_ <;> repeat' (first | exact trivial | refine And.intro ⟨_, rfl, ?_⟩ ?_ | refine And.intro ⟨_, _, rfl, rfl, ?_⟩ ?_ | exact Or.inr rfl | refine Or.inl ⟨?_, (by first | rfl | exact pur_sl _ _)⟩ | rfl)))
    · exact ⟨by dsimp only;omega, by dsimp only;rw [hu]; exact (lnL_hit (by assumption)).symm, by simp;omega, by dsimp only;omega⟩
    · dsimp only;omega
  · (apply ex3 (k + 1, u, m); focus (refine Le.ren [(1, 1)] rfl (by decide) ?_ ?_ <;> repeat' (first | exact trivial | refine And.intro ⟨_, rfl, ?_⟩ ?_ | refine And.intro ⟨_, _, rfl, rfl, ?_⟩ ?_ | exact Or.inr rfl | refine Or.inl ⟨?_, (by first | rfl | exact pur_sl _ _)⟩ | rfl)))
    · exact ⟨by dsimp only;omega, by dsimp only;rw [hu]; exact (lnL_skip (by assumption)).symm, hm, by dsimp only;omega⟩
    · dsimp only;omega
  · (refine rq_le (Le.frzD (d := 2) (i := 1) rfl rfl) ?_; refine rq_ret rfl ?_)
    refine ⟨?_, (by (exact pur_sl _ _))⟩
    simp only [oneOf, sl]
    rw [hm, hu, show k = pts.length by omega]
theorem unset_c (ts : List Int) (bd : List AL.Stmt) (pts : List Pnt) (w : WG ts pts) (f : Flows ts pts) : PC Tryz.prog 65 [aG ts bd pts, iv 0] (fun r => r = sl cI (unL ts pts f.Aa pts.length)) := by
  have hpl := w.pl
  have htl := w.tl
  have b := f.bnd w
  have hsA := b.sA
  have hla := b.la
  (refine pc_of_aw Tryz.func65 rfl (by simp [Tryz.ntmps65]) ?_; rw [Tryz.ntmps65])
  repeat' (first|(apply id_rw;first|((with_reducible apply rx_callE (k := 67));(case ha => rfl);(case h => exact always_c ts bd pts f.Aa w f.ga);(case hp => (exact Pur.pf));(case hN => rfl))|(apply rx_move;rfl;rfl)|(apply rx_assign;rfl;rfl)|(apply rx_len;rfl;rfl;rfl)|(apply rw_nil;kernel_rfl))|(apply id_aw;first|apply aw_seq|apply aw_region|apply aw_block)|with_reducible apply tq_normal)
  refine AW.le ?_ (Le.nilOwn (d := 5) 1 rfl (by decide))
  refine aw_loopK (σ := Nat × List Int × Nat) [0, 10, 11] [(0, _), (10, _), (11, _)] [] [] (fun k => [(12, iv (k.1 : Int)), (5, .own 0 0 k.2.2 1)]) (fun k => [(0, some (flat cI k.2.1))]) (fun k => k.1 ≤ pts.length ∧ k.2.1 = unL ts pts f.Aa k.1 ∧ k.2.2 = k.2.1.length ∧ k.2.2 ≤ k.1) (fun k => pts.length - k.1) (0, [], 0) ⟨by omega, rfl, rfl, Nat.le_refl _⟩ rfl rfl (by repeat' (first|exact trivial|refine And.intro rfl ?_)) (by repeat' (first|exact trivial|refine And.intro (.inr rfl) ?_)) ?_
  rintro ⟨k, u, m⟩ ⟨hk, hu, hm, hmk⟩
  dsimp only at hk hu hm hmk ⊢
  have hs1 : Sm (wS ts pts[k]! [1, 2, 3]) := mkBits_sm (by omega)
  repeat' (first|(apply id_rw;first|(apply rx_move;rfl;rfl)|(first|(apply rx_load1;rfl;rfl;rfl;rfl)|(apply rx_loadA;rfl;rfl;(exact (rfl:_=[_, _, _, _, _]));rfl;rfl;rfl))|(apply rx_fieldAddr;rfl;rfl;rfl)|(first|(apply rx_anlN;rfl;rfl;infer_instance;infer_instance;infer_instance;rfl)|(apply rx_add;rfl;rfl;omega;rfl)|(apply rx_bin;rfl;rfl;rfl;rfl))|(apply rx_assign;rfl;rfl)|(apply rx_indexFN;(case hx|hi => rfl);(case hm => (omega));(case hml => (first|rfl|omega));(case hα | hf|hg => infer_instance);(case hN => rfl))|((with_reducible apply rx_callE (k := 100));(case ha => rfl);(case h => (apply used_c <;> (assumption)));(case hp => (exact Pur.pf));(case hN => rfl))|(apply rx_append;rfl;rfl;rfl;rfl;rfl;(rw [flat_length]; omega);(rfl);omega;omega;(exact app_int (by (assumption)));rfl;rfl)|(apply rw_nil;kernel_rfl)|(apply rx_nil;rfl;rfl;rfl)|((apply rx_buildSliceI (t := _));(case hze|hsm|hl => rfl);(case hfl => exact (rfl:_=some [_]));(case hM|hN => rfl)))|(apply id_aw;first|apply aw_seq|apply aw_region|(apply aw_cond;rfl;all_goals intro hc;have hq:=hc;(try simp only [bqs] at hq);try exfalso;omega)|apply aw_block|apply aw_skip|apply aw_exit|apply aw_ret)|with_reducible apply tq_normal|with_reducible apply tq_exit|with_reducible apply bq_normal|with_reducible apply bq_here)
  · (apply ex3 (k + 1, u ++ [(k : Int)], m + 1); focus (refine Le.ren [(0, 2)] rfl (by decide) ?_ ?_ <;> repeat' (first | exact trivial | refine And.intro ⟨_, rfl, ?_⟩ ?_ | refine And.intro ⟨_, _, rfl, rfl, ?_⟩ ?_ | exact Or.inr rfl | refine Or.inl ⟨?_, (by first | rfl | exact pur_sl _ _ | exact Pur.pf)⟩ | rfl)))
    · exact ⟨by dsimp only;omega, by dsimp only;rw [hu]; exact (unL_hit (by unfold unB;rw [decide_eq_true_eq]; omega)).symm, by simp;omega, by dsimp only;omega⟩
    · dsimp only;omega
  · (apply ex3 (k + 1, u, m); focus (refine Le.ren [(0, 0)] rfl (by decide) ?_ ?_ <;> repeat' (first | exact trivial | refine And.intro ⟨_, rfl, ?_⟩ ?_ | refine And.intro ⟨_, _, rfl, rfl, ?_⟩ ?_ | exact Or.inr rfl | refine Or.inl ⟨?_, (by first | rfl | exact pur_sl _ _ | exact Pur.pf)⟩ | rfl)))
    · exact ⟨by dsimp only;omega, by dsimp only;rw [hu]; exact (unL_skip (by unfold unB;rw [decide_eq_false_iff_not]; omega)).symm, hm, by dsimp only;omega⟩
    · dsimp only;omega
  · (refine rq_le (Le.frzD (d := 4) (i := 0) rfl rfl) ?_; refine rq_ret rfl ?_)
    refine ⟨?_, (by (exact pur_sl _ _))⟩
    simp only [oneOf, sl]
    rw [hm, hu, show k = pts.length by omega]
theorem UnsetNo_c (p : Prg) (hv : validF p = false) (hl : p.types.length ≤ 1000000) (hs : cntL p.body ≤ 1000000) : PC Tryz.prog 37 [aPrg p] (fun r => r = sl cI []) := by
  have hg := graphOf_c p hl hs
  rw [if_neg (by simp [hv])] at hg
  (refine pc_of_aw Tryz.func37 rfl (by simp [Tryz.ntmps37]) ?_; rw [Tryz.ntmps37])
  repeat' (first|(apply id_rw;first|((with_reducible apply rx_callE (k := 57));(case ha => rfl);(case h => exact hg);(case hp => (exact Pur.pf));(case hN => rfl))|(apply rx_move;rfl;rfl)|(apply rx_loadA;rfl;rfl;(exact (rfl:_=[_, _]));rfl;rfl;rfl)|(apply rx_assign;rfl;rfl)|(apply rw_nil;kernel_rfl)|(apply rx_not;rfl;rfl)|(apply rx_box;rfl;rfl;rfl;rfl)|(apply rx_extract;rfl;rfl;rfl))|(apply id_aw;first|apply aw_seq|apply aw_region|(apply aw_condT;rfl;(rfl))|apply aw_ret)|with_reducible apply tq_normal|with_reducible apply tq_ret)
  (refine rq_le (Le.nilImm (d := 2) rfl) ?_; refine rq_ret rfl ?_)
  exact ⟨rfl, rfl⟩
theorem UnsetY_c (p : Prg) (f : Flows p.types (ptsF p)) (hv : validF p = true) (hl : p.types.length ≤ 1000000) (hs : cntL p.body ≤ 1000000) : PC Tryz.prog 37 [aPrg p] (fun r => r = sl cI (unL p.types (ptsF p) f.Aa (ptsF p).length)) := by
  have hg := graphOf_c p hl hs
  rw [if_pos hv] at hg
  (refine pc_of_aw Tryz.func37 rfl (by simp [Tryz.ntmps37]) ?_; rw [Tryz.ntmps37])
  repeat' (first|(apply id_rw;first|((with_reducible apply rx_callE (k := 57));(case ha => rfl);(case h => exact hg);(case hp => (exact Pur.pf));(case hN => rfl))|((with_reducible apply rx_callE (k := 65));(case ha => rfl);(case h => exact unset_c p.types p.body (ptsF p) (WG.of_valid hv) f);(case hp => (exact Pur.pf));(case hN => rfl))|(apply rx_move;rfl;rfl)|(apply rx_loadA;rfl;rfl;(exact (rfl:_=[_, _]));rfl;rfl;rfl)|(apply rx_assign;rfl;rfl)|(apply rw_nil;kernel_rfl)|(apply rx_not;rfl;rfl)|(apply rx_box;rfl;rfl;rfl;rfl)|(apply rx_extract;rfl;rfl;rfl))|(apply id_aw;first|apply aw_seq|apply aw_region|(apply aw_condF;rfl;(rfl))|apply aw_skip|apply aw_ret)|with_reducible apply tq_normal)
  exact rq_ret rfl ⟨rfl, (by (exact pur_sl _ _))⟩
theorem bcInts_c (L : List Int) (hl : L.length ≤ 1000000) : PC Tryz.prog 29 [sl cI L, sl cI L] (fun r => r = bv true) := by
  (refine pc_of_aw Tryz.func29 rfl (by simp [Tryz.ntmps29]) ?_; rw [Tryz.ntmps29])
  repeat' (first|(apply id_rw;first|(apply rx_move;rfl;rfl)|(apply rx_bin;rfl;rfl;rfl;rfl)|(apply rx_assign;rfl;rfl)|(apply rx_len;rfl;rfl;rfl)|(apply rw_nil;kernel_rfl))|(apply id_aw;first|apply aw_seq|apply aw_region|(apply aw_cond;rfl;all_goals intro hc;have hq:=hc;(try simp only [bqs] at hq);try exfalso;omega)|apply aw_block|apply aw_skip|apply aw_ret)|with_reducible apply tq_normal|with_reducible apply tq_ret)
  · exact (hq trivial).elim
  refine aw_loopK (σ := Nat) [0, 1] [(0, _), (1, _)] [] [] (fun k => [(5, iv (k : Int))]) (fun k => []) (fun k => k ≤ L.length) (fun k => L.length - k) (0) (by omega) rfl rfl (by repeat' (first|exact trivial|refine And.intro rfl ?_)) (by repeat' (exact trivial)) ?_
  rintro k hk
  repeat' (first|(apply id_rw;first|(apply rx_move;rfl;rfl)|(apply rx_load1;rfl;rfl;rfl;rfl)|(first|(apply rx_add;rfl;rfl;omega;rfl)|(apply rx_bin;rfl;rfl;rfl;rfl))|(apply rx_assign;rfl;rfl)|(apply rx_indexFN;(case hx|hi => rfl);(case hm => (omega));(case hml => (rfl));(case hα | hf|hg => infer_instance);(case hN => rfl))|(apply rx_len;rfl;rfl;rfl)|(apply rw_nil;kernel_rfl))|(apply id_aw;first|apply aw_seq|apply aw_region|(apply aw_draw;kernel_rfl)|(apply aw_cond;rfl;all_goals intro hc;have hq:=hc;(try simp only [bqs] at hq);try exfalso;omega)|apply aw_block|apply aw_skip|apply aw_exit|apply aw_ret)|with_reducible apply tq_normal|with_reducible apply tq_ret|with_reducible apply tq_exit|with_reducible apply bq_normal|with_reducible apply bq_ret|with_reducible apply bq_here)
  · exfalso
    simp at hq
  · (apply ex3 (k + 1); focus (refine Le.ren [] rfl (by decide) ?_ ?_ <;> repeat' (first | exact trivial | refine And.intro ⟨_, rfl, ?_⟩ ?_ | refine Or.inl ⟨?_, (by first | rfl | exact pur_sl _ _)⟩ | rfl)))
    · omega
    · omega
  · exact rq_ret rfl ⟨rfl, rfl⟩
theorem bcIn_c (L : List Int) (n : Int) (hl : L.length ≤ 1000000) : PC Tryz.prog 21 [sl cI L, iv n] (fun r => r = bv (decide (n ∈ L))) := by
  (refine pc_of_aw Tryz.func21 rfl (by simp [Tryz.ntmps21]) ?_; rw [Tryz.ntmps21])
  repeat' (first|(apply id_rw;first|(apply rx_assign;rfl;rfl)|(apply rw_nil;kernel_rfl))|(apply id_aw;first|apply aw_seq|apply aw_region|apply aw_block)|with_reducible apply tq_normal)
  refine aw_loopK (σ := Nat) [0, 1] [(0, _), (1, _)] [] [] (fun k => [(5, iv (k : Int))]) (fun k => []) (fun k => k ≤ L.length ∧ ∀ j, j < k → L[j]! ≠ n) (fun k => L.length - k) (0) ⟨by omega, by omega⟩ rfl rfl (by repeat' (first|exact trivial|refine And.intro rfl ?_)) (by repeat' (exact trivial)) ?_
  rintro k ⟨hk, hall⟩
  repeat' (first|(apply id_rw;first|(apply rx_move;rfl;rfl)|(apply rx_load1;rfl;rfl;rfl;rfl)|(first|(apply rx_add;rfl;rfl;omega;rfl)|(apply rx_bin;rfl;rfl;rfl;rfl))|(apply rx_assign;rfl;rfl)|(apply rx_indexFN;(case hx|hi => rfl);(case hm => (omega));(case hml => (rfl));(case hα | hf|hg => infer_instance);(case hN => rfl))|(apply rx_len;rfl;rfl;rfl)|(apply rw_nil;kernel_rfl))|(apply id_aw;first|apply aw_seq|apply aw_region|(apply aw_cond;rfl;all_goals intro hc;have hq:=hc;(try simp only [bqs] at hq);try exfalso;omega)|apply aw_block|apply aw_skip|apply aw_exit|apply aw_ret)|with_reducible apply tq_normal|with_reducible apply tq_ret|with_reducible apply tq_exit|with_reducible apply bq_normal|with_reducible apply bq_ret|with_reducible apply bq_here)
  · refine rq_ret rfl ⟨?_, rfl⟩
    simp only [oneOf]
    rw [decide_eq_true (by have h := getB_mem L k (by omega);rw [hq] at h;exact h)]
  · (apply ex3 (k + 1); focus (refine Le.ren [] rfl (by decide) ?_ ?_ <;> repeat' (first | exact trivial | refine And.intro ⟨_, rfl, ?_⟩ ?_ | refine Or.inl ⟨?_, (by first | rfl | exact pur_sl _ _)⟩ | rfl)))
    · exact ⟨by omega, fun j hj => by
        by_cases e : j = k
        · subst e;exact hq
        · exact hall j (by omega)⟩
    · omega
  · refine rq_ret rfl ⟨?_, rfl⟩
    simp only [oneOf]
    rw [decide_eq_false (fun h => by
      obtain ⟨j, hj, e⟩ := List.getElem_of_mem h
      exact hall j (by omega) (by rw [getB _ _ hj]; exact e))]
def rpL (p : Prg) (cs : List Int) (n : Int) : List Int := if validF p = true ∧ 0 ≤ n ∧ n ≤ 1000 then (wm (ptsF p) n.toNat 0 cs).1 else []
def psF (p : Prg) : List Pnt := if validF p = true then ptsF p else []
theorem rp_c (p : Prg) (cs : List Int) (n : Int) (hl : p.types.length ≤ 1000000) (hs : cntL p.body ≤ 1000000) (hcl : cs.length ≤ 1000000) : ∃ b : Bool, PC Tryz.prog 20 [aPrg p, sl cI cs, iv n] (fun r => r = .tup [sl cI (rpL p cs n), bv b]) := by
  have h := RunPathI_c p cs n hl hs hcl
  unfold rpL
  split
  · rename_i h2;rw [if_pos h2] at h;exact ⟨_, h⟩
  · rename_i h2;rw [if_neg h2] at h;exact ⟨_, h⟩
theorem rp_len {p : Prg} {cs : List Int} {n : Int} : (rpL p cs n).length ≤ 1001 := by
  unfold rpL;split
  · have := way_len (pts := ptsF p) n.toNat 0 cs
    unfold wm;rw [List.length_map]; omega
  · simp
theorem ps_len {p : Prg} : (psF p).length ≤ 61 := by
  unfold psF;split
  · rename_i h;exact (WG.of_valid h).pl
  · simp
theorem re_rg {p : Prg} {cs : List Int} {n : Int} (h5 : reE p cs n ≠ 5) : rgF p n = true := by
  apply Classical.byContradiction
  intro h
  unfold reE at h5
  rw [if_neg h] at h5;exact h5 rfl
theorem re_at {p : Prg} {cs : List Int} {n : Int} (h5 : reE p cs n ≠ 5) (hL : rpL p cs n ≠ []) : reA p cs n ∈ rpL p cs n := by
  have h := re_rg h5
  obtain ⟨hv, h0, hn⟩ := rgF_true.1 h
  have e : rpL p cs n = (wayF (ptsF p) n.toNat 0 cs).1.map (fun a : Nat => (a : Int)) := by unfold rpL;rw [if_pos ⟨hv, h0, by omega⟩]; rfl
  rw [e] at hL ⊢
  unfold reA;rw [if_pos h]
  refine List.mem_map.2 ⟨(runP p.types (ptsF p) cs n.toNat).2.2, ?_, rfl⟩
  unfold runP
  rcases run_at p.types (ptsF p) (wayF (ptsF p) n.toNat 0 cs).1 (mc0 p.types.length) 0 with ⟨_, h⟩|h
  · rw [h] at hL;exact absurd rfl hL
  · exact h
theorem re_done {p : Prg} {cs : List Int} {n : Int} (h0' : reE p cs n = 0) : reA p cs n = ((psF p).length : Int) - 1 := by
  have h := re_rg (p := p) (cs := cs) (n := n) (by rw [h0']; decide)
  obtain ⟨hv, h0, hn⟩ := rgF_true.1 h
  unfold reE at h0'; rw [if_pos h] at h0'
  have hd := run_done p.types (ptsF p) (wayF (ptsF p) n.toNat 0 cs).1 (mc0 p.types.length) 0 h0'
  change (ptsF p)[(runP p.types (ptsF p) cs n.toNat).2.2]!.op = 11 at hd
  unfold reA psF;rw [if_pos h, if_pos hv]
  generalize (runP p.types (ptsF p) cs n.toNat).2.2 = at' at *
  have hlt : at' < (ptsF p).length := by
    apply Classical.byContradiction
    intro hc
    rw [getB_def, dif_neg hc] at hd
    exact absurd hd (by decide)
  have := ((WA.of_valid hv).e at' hlt).1 hd
  omega
theorem FnRunPoint_c (bs : List UInt8) : PC Tryz.prog 4 [sl cU bs] (fun r => r = bv true) := by
  rcases Nat.lt_or_ge 1048576 bs.length with hb|hb
  · (refine pc_of_aw Tryz.func4 rfl (by simp [Tryz.ntmps4]) ?_; rw [Tryz.ntmps4])
    repeat' (first|(apply id_rw;first|(apply rx_move;rfl;rfl)|(apply rx_bin;rfl;rfl;rfl;rfl)|(apply rx_assign;rfl;rfl)|(apply rx_len;rfl;rfl;rfl)|(apply rw_nil;kernel_rfl))|(apply id_aw;first|apply aw_seq|apply aw_region|(apply aw_cond;rfl;all_goals intro hc;have hq:=hc;(try simp only [bqs] at hq);try exfalso;omega)|apply aw_ret)|with_reducible apply tq_normal|with_reducible apply tq_ret)
    exact rq_ret rfl ⟨rfl, rfl⟩
  (refine pc_of_aw Tryz.func4 rfl (by simp [Tryz.ntmps4]) ?_; rw [Tryz.ntmps4])
  repeat' (first|(apply id_rw;first|((with_reducible apply rx_call (k := 17));(case ha => rfl);(case h => exact drawRun_c bs hb);(case hp => (exact Pur.pf));(case hN => rfl);(rintro _ ⟨q, cs, n, rfl, hq1, hq2, hq3, hq4, hq5⟩ _))|(with_reducible apply rw_stop (d := 22))|(apply rx_move;rfl;rfl)|(apply rx_bin;rfl;rfl;rfl;rfl)|(apply rx_assign;rfl;rfl)|(apply rx_len;rfl;rfl;rfl)|(apply rw_nil;kernel_rfl)|(apply rx_alloc;rfl;rfl)|(apply rx_extract;rfl;rfl;rfl)|(apply rx_store;rfl;rfl;rfl;rfl;rfl;(case hl => (simp;done));(exact (rfl:_=[_, _]))))|(apply id_aw;first|apply aw_seq|apply aw_region|(apply aw_cond;rfl;all_goals intro hc;have hq:=hc;(try simp only [bqs] at hq);try exfalso;omega)|apply aw_skip)|with_reducible apply tq_normal)
  refine rw_go ?_
  have h1 := runI_e q cs n (by omega) (by omega) (by omega)
  have h2 := runS_e q cs n (by omega) (by omega) (by omega)
  obtain ⟨b, h3⟩ := rp_c q cs n (by omega) (by omega) (by omega)
  have h4 := PointsOfI_c q (by omega) (by omega)
  change PC _ _ _ (fun r => r = sl cPnt (psF q)) at h4
  have hL := rp_len (p := q) (cs := cs) (n := n)
  have hP := ps_len (p := q)
  have m1 := re_at (p := q) (cs := cs) (n := n)
  have m2 := re_done (p := q) (cs := cs) (n := n)
  have h5 := bcIn_c (rpL q cs n) (reA q cs n) (by omega)
  generalize reE q cs n = e at *
  generalize reA q cs n = a at *
  generalize rpL q cs n = L at *
  generalize psF q = ps at *
  repeat' (first|(apply id_rw;first|((with_reducible apply rx_callE (k := 18));(case ha => rfl);(case h => exact h1);(case hp => (exact Pur.pf));(case hN => rfl))|((with_reducible apply rx_callE (k := 19));(case ha => rfl);(case h => exact h2);(case hp => (exact Pur.pf));(case hN => rfl))|((with_reducible apply rx_callE (k := 20));(case ha => rfl);(case h => exact h3);(case hp => (exact Pur.pf));(case hN => rfl))|((with_reducible apply rx_callE (k := 22));(case ha => rfl);(case h => exact h4);(case hp => (exact Pur.pf));(case hN => rfl))|((with_reducible apply rx_callE (k := 21));(case ha => rfl);(case h => exact h5);(case hp => (exact Pur.pf));(case hN => rfl))|(apply rx_move;rfl;rfl)|(apply rx_loadA;rfl;rfl;(exact (rfl:_=[_, _]));rfl;rfl;rfl)|(first|(apply rx_guardU;rfl;rfl;rfl)|(apply rx_guardY;rfl;rfl;rfl;(assumption))|(apply rx_guardNs;rfl;rfl;rfl;(first|rfl|assumption))|(apply rx_guardS;(case hj|hb|hN => rfl);all_goals (intro hg;have hq := hg;(try simp only [bqs] at hq);(try (exfalso;omega)))))|(first|(apply rx_sub;rfl;rfl;omega;rfl)|(apply rx_bin;rfl;rfl;rfl;rfl))|(apply rx_assign;rfl;rfl)|(first|(apply rx_pickT;rfl;(first|rfl|assumption);rfl;rfl)|(apply rx_pickF;rfl;(assumption);rfl;rfl))|(apply rx_len;rfl;rfl;rfl)|(apply rw_nil;kernel_rfl)|(apply rx_extract;rfl;rfl;rfl))|(apply id_aw;first|apply aw_seq|apply aw_region|(apply aw_condT;rfl;(rfl))|(apply aw_cond;rfl;all_goals intro hc;have hq:=hc;(try simp only [bqs] at hq);try exfalso;omega)|apply aw_skip|apply aw_ret)|with_reducible apply tq_normal|with_reducible apply tq_ret)
  all_goals first
    | (exfalso;exact (by assumption : ¬ True) trivial)
    | (refine rq_ret rfl ⟨?_, rfl⟩; simp only [oneOf, decide_true]; done)
    | (refine rq_ret rfl ⟨?_, rfl⟩; simp only [oneOf]; rw [decide_eq_true (m2 (by assumption))]; done)
    | (exfalso
       have hin : ¬ a ∈ L := by assumption
       exact hin (m1 (by assumption) (fun h => (by assumption : ¬ ((L.length : Int) = 0)) (by rw [h]; rfl))))
theorem re_uns {p : Prg} {cs : List Int} {n : Int} (f : Flows p.types (ptsF p)) (h2 : reE p cs n = 2) : reA p cs n ∈ unL p.types (ptsF p) f.Aa (ptsF p).length := by
  have h := re_rg (p := p) (cs := cs) (n := n) (by rw [h2]; decide)
  obtain ⟨hv, h0, hn⟩ := rgF_true.1 h
  unfold reE at h2;rw [if_pos h] at h2
  unfold reA;rw [if_pos h]
  exact run_unset (WG.of_valid hv) (WA.of_valid hv) f cs n.toNat h2
theorem unset_e (p : Prg) (hl : p.types.length ≤ 1000000) (hs : cntL p.body ≤ 1000000) : ∃ U : List Int, PC Tryz.prog 37 [aPrg p] (fun r => r = sl cI U) ∧ U.length ≤ 61 ∧ ∀ cs n, reE p cs n = 2 → reA p cs n ∈ U := by
  cases hv : validF p
  · refine ⟨[], UnsetNo_c p hv hl hs, by simp, fun cs n h => ?_⟩
    have := (rgF_true.1 (re_rg (p := p) (cs := cs) (n := n) (by rw [h]; decide))).1
    rw [hv] at this;cases this
  · have w := WG.of_valid hv
    obtain ⟨f⟩ := Flows.ex w
    have hpl := w.pl
    refine ⟨_, UnsetY_c p f hv hl hs, ?_, fun cs n h => re_uns f h⟩
    unfold unL;rw [List.length_map]; exact Nat.le_trans (List.length_filter_le _ _) (by rw [List.length_range]; exact hpl)
theorem FnRunUnset_c (bs : List UInt8) : PC Tryz.prog 8 [sl cU bs] (fun r => r = bv true) := by
  rcases Nat.lt_or_ge 1048576 bs.length with hb|hb
  · (refine pc_of_aw Tryz.func8 rfl (by simp [Tryz.ntmps8]) ?_; rw [Tryz.ntmps8])
    repeat' (first|(apply id_rw;first|(apply rx_move;rfl;rfl)|(apply rx_bin;rfl;rfl;rfl;rfl)|(apply rx_assign;rfl;rfl)|(apply rx_len;rfl;rfl;rfl)|(apply rw_nil;kernel_rfl))|(apply id_aw;first|apply aw_seq|apply aw_region|(apply aw_cond;rfl;all_goals intro hc;have hq:=hc;(try simp only [bqs] at hq);try exfalso;omega)|apply aw_ret)|with_reducible apply tq_normal|with_reducible apply tq_ret)
    exact rq_ret rfl ⟨rfl, rfl⟩
  (refine pc_of_aw Tryz.func8 rfl (by simp [Tryz.ntmps8]) ?_; rw [Tryz.ntmps8])
  repeat' (first|(apply id_rw;first|((with_reducible apply rx_call (k := 17));(case ha => rfl);(case h => exact drawRun_c bs hb);(case hp => (exact Pur.pf));(case hN => rfl);(rintro _ ⟨q, cs, n, rfl, hq1, hq2, hq3, hq4, hq5⟩ _))|(with_reducible apply rw_stop (d := 20))|(apply rx_move;rfl;rfl)|(apply rx_bin;rfl;rfl;rfl;rfl)|(apply rx_assign;rfl;rfl)|(apply rx_len;rfl;rfl;rfl)|(apply rw_nil;kernel_rfl)|(apply rx_alloc;rfl;rfl)|(apply rx_extract;rfl;rfl;rfl)|(apply rx_store;rfl;rfl;rfl;rfl;rfl;(case hl => (simp;done));(exact (rfl:_=[_, _]))))|(apply id_aw;first|apply aw_seq|apply aw_region|(apply aw_cond;rfl;all_goals intro hc;have hq:=hc;(try simp only [bqs] at hq);try exfalso;omega)|apply aw_skip)|with_reducible apply tq_normal)
  refine rw_go ?_
  have h1 := runI_e q cs n (by omega) (by omega) (by omega)
  have h2 := runS_e q cs n (by omega) (by omega) (by omega)
  obtain ⟨U, h3, hU, m1⟩ := unset_e q (by omega) (by omega)
  have m1 := m1 cs n
  have h4 := bcIn_c U (reA q cs n) (by omega)
  generalize reE q cs n = e at *
  generalize reA q cs n = a at *
  repeat' (first|(apply id_rw;first|((with_reducible apply rx_callE (k := 18));(case ha => rfl);(case h => exact h1);(case hp => (exact Pur.pf));(case hN => rfl))|((with_reducible apply rx_callE (k := 19));(case ha => rfl);(case h => exact h2);(case hp => (exact Pur.pf));(case hN => rfl))|((with_reducible apply rx_callE (k := 37));(case ha => rfl);(case h => exact h3);(case hp => (exact Pur.pf));(case hN => rfl))|((with_reducible apply rx_callE (k := 21));(case ha => rfl);(case h => exact h4);(case hp => (exact Pur.pf));(case hN => rfl))|(apply rx_move;rfl;rfl)|(apply rx_loadA;rfl;rfl;(exact (rfl:_=[_, _]));rfl;rfl;rfl)|(first|(apply rx_guardY;rfl;rfl;rfl;(assumption))|(apply rx_guardNs;rfl;rfl;rfl;(first|rfl|assumption))|(apply rx_guardS;(case hj|hb|hN => rfl);all_goals (intro hg;have hq := hg;(try simp only [bqs] at hq);(try (exfalso;omega)))))|(apply rx_bin;rfl;rfl;rfl;rfl)|(apply rx_assign;rfl;rfl)|(first|(apply rx_pickT;rfl;(first|rfl|assumption);rfl;rfl)|(apply rx_pickF;rfl;(assumption);rfl;rfl))|(apply rw_nil;kernel_rfl)|(apply rx_extract;rfl;rfl;rfl))|(apply id_aw;first|apply aw_seq|apply aw_region|(apply aw_condT;rfl;(rfl))|(apply aw_cond;rfl;all_goals intro hc;have hq:=hc;(try simp only [bqs] at hq);try exfalso;omega)|apply aw_skip|apply aw_ret)|with_reducible apply tq_normal|with_reducible apply tq_ret)
  all_goals first
    | (exfalso;exact (by assumption : ¬ True) trivial)
    | (refine rq_ret rfl ⟨?_, rfl⟩; simp only [oneOf, decide_true]; done)
    | (refine rq_ret rfl ⟨?_, rfl⟩; simp only [oneOf]; rw [decide_eq_true (m1 (by assumption))]; done)
end Go.Proofs.YtlbbbmeadnelbaaGreat
