/-
  A part of the proofs over this program: rules and contracts of its functions (the contracts).
-/
import Derived.Test.YtejkbiijonnefaaGreatB05
set_option linter.unusedVariables false
set_option linter.unusedSimpArgs false
set_option maxHeartbeats 8000000
set_option maxRecDepth 4000
attribute [local irreducible] Go.AL.RW Go.AL.AW Go.AL.Stop
namespace Go.Proofs.YtejkbiijonnefaaGreat
open Go.AL Go.RowKit

theorem graphOfL_c (p : Prg) (xs : List Int) (hl : p.types.length ≤ 1000000) (hs : cntL p.body ≤ 1000000) (hx : xs.length ≤ 10) : PC Tryz.prog 62 [aPrg p, sl cI xs] (fun r => r = if validF p = true ∧ (∀ j, j < xs.length → 0 ≤ xs[j]! ∧ xs[j]! < (ptsF p).length) then .tup [aG p.types p.body (ptsF p), bv true] else .tup [.v (.pointer none), bv false]) := by
  have hpl := ptsF_len p
  have hnl := npL_le p.body
  (refine pc_of_aw Tryz.func62 rfl (by simp [Tryz.ntmps62]) ?_; rw [Tryz.ntmps62])
  repeat' (first | (apply id_rw; first | (apply rx_move;rfl;rfl) | (apply rx_loadA;rfl;rfl;(exact (rfl:_=[_, _]));rfl;rfl;rfl) | (apply rx_assign;rfl;rfl) | (first | ((with_reducible apply rx_callE (k := 56)); (case ha => rfl); (case h => (apply validI_c <;> (first | assumption | omega))); (case hp => (exact Pur.pf)); (case hN => rfl)) | ((with_reducible apply rx_callE (k := 87)); (case ha => rfl); (case h => (apply points_c <;> (assumption))); (case hp => (exact Pur.pf)); (case hN => rfl))) | (apply rx_len;rfl;rfl;rfl) | (apply rw_nil;kernel_rfl) | (apply rx_buildK;rfl;(exact (rfl:_=some [_, _, _]));(exact (rfl:_=[_, _, _]));rfl) | (apply rx_not;rfl;rfl) | (apply rx_box;rfl;rfl;rfl;rfl)) | (apply id_aw; first | apply aw_seq | apply aw_region | (apply aw_draw;kernel_rfl) | (apply aw_cond;rfl;all_goals intro hc;have hq:=hc;(try simp only [bqs] at hq);try exfalso;omega) | apply aw_block | apply aw_skip | apply aw_ret) | with_reducible apply tq_normal | with_reducible apply tq_ret)
  · refine rq_ret rfl ⟨?_, (by (rfl))⟩
    rw [if_neg (by simp [hq])]; rfl
  · refine aw_loopK (σ := Nat) [6, 17, 18] [(6, _), (17, _), (18, _)] [1] [(1, some _)] (fun k => [(19, iv (k : Int))]) (fun k => []) (fun k => k ≤ xs.length ∧ ∀ j, j < k → 0 ≤ xs[j]! ∧ xs[j]! < (ptsF p).length) (fun k => xs.length - k) (0) ⟨by omega, by omega⟩ rfl rfl (by repeat' (first | exact trivial | refine And.intro rfl ?_)) (by repeat' (exact trivial)) ?_
    rintro k ⟨hk, hall⟩
    repeat' (first | (apply id_rw; first | (apply rx_move;rfl;rfl) | (apply rx_load1;rfl;rfl;rfl;rfl) | (apply rx_fieldAddr;rfl;rfl;rfl) | (first | (apply rx_add;rfl;rfl;omega;rfl) | (apply rx_sub;rfl;rfl;omega;rfl) | (apply rx_bin;rfl;rfl;rfl;rfl)) | (apply rx_assign;rfl;rfl) | (apply rx_indexFN; (case hx | hi => rfl); (case hm => (omega)); (case hml => (rfl)); (case hα | hf | hg => infer_instance); (case hN => rfl)) | ((with_reducible apply rx_callE (k := 136)); (case ha => rfl); (case h => (apply within_c <;> (fail))); (case hp => (rfl)); (case hN => rfl)) | (apply rx_len;rfl;rfl;rfl) | (apply rw_nil;kernel_rfl) | (apply rx_not;rfl;rfl) | (apply rx_nil;rfl;rfl;rfl)) | (apply id_aw; first | apply aw_seq | apply aw_region | (apply aw_cond;rfl;all_goals intro hc;have hq:=hc;(try simp only [bqs] at hq);try exfalso;omega) | apply aw_block | apply aw_skip | apply aw_exit | apply aw_ret) | with_reducible apply tq_normal | with_reducible apply tq_ret | with_reducible apply tq_exit | with_reducible apply bq_normal | with_reducible apply bq_ret | with_reducible apply bq_here)
    · refine rq_ret rfl ⟨?_, (by (rfl))⟩
      rw [if_neg (fun h => by have := h.2 k (by omega); omega)]; rfl
    · (apply ex3 (k + 1); focus (refine Le.ren [(1, 1)] rfl (by decide) ?_ ?_ <;> repeat' (first | exact trivial | refine And.intro ⟨_, rfl, ?_⟩ ?_ | refine And.intro ⟨_, _, rfl, rfl, ?_⟩ ?_ | exact Or.inr rfl | refine Or.inl ⟨?_, (by first | rfl | exact pur_sl _ _)⟩ | refine Or.inr (All2.cons ?_ ?_) | refine All2.cons ?_ ?_ | exact All2.nil | rfl)))
      · exact ⟨by omega, fun j hj => by
          by_cases e : j = k
          · subst e; omega
          · exact hall j (by omega)⟩
      · omega
    · refine rq_le (Le.frzP (d := 4) (i := 1) rfl rfl) ?_
      refine rq_ret rfl ⟨?_, (by show (AV.tup [aG p.types p.body (ptsF p), bv true]).pur = true; exact PurV.pf)⟩
      rw [if_pos ⟨by assumption, fun j hj => hall j (by omega)⟩]; rfl
end Go.Proofs.YtejkbiijonnefaaGreat

namespace Go.Proofs.YtejkbiijonnefaaGreat
open Go.AL Go.RowKit

theorem PointsOfS_c (p : Prg) (hl : p.types.length ≤ 1000000) (hs : cntL p.body ≤ 1000000) : PC Tryz.prog 74 [aPrg p] (fun r => r = sl cPnt (if validF p = true then ptsF p else [])) := by
  have hval := validS_c p hl (by omega)
  have h2 := l2Points_c p hs
  (refine pc_of_aw Tryz.func74 rfl (by simp [Tryz.ntmps74]) ?_; rw [Tryz.ntmps74])
  repeat' (first | (apply id_rw; first | ((with_reducible apply rx_callE (k := 61)); (case ha => rfl); (case h => exact hval); (case hp => (exact Pur.pf)); (case hN => rfl)) | ((with_reducible apply rx_callE (k := 106)); (case ha => rfl); (case h => exact h2); (case hp => (exact Pur.pf)); (case hN => rfl)) | (apply rx_loadA;rfl;rfl;(exact (rfl:_=[_, _]));rfl;rfl;rfl) | (apply rx_assign;rfl;rfl) | (apply rw_nil;kernel_rfl) | (apply rx_not;rfl;rfl) | (apply rx_box;rfl;rfl;rfl;rfl) | ((apply rx_buildSliceI (t := _)); (case hze | hsm | hl => rfl); (case hfl => (rfl)); (case hM | hN => rfl))) | (apply id_aw; first | apply aw_seq | apply aw_region | (apply aw_cond;rfl;all_goals intro hc;have hq:=hc;(try simp only [bqs] at hq);try exfalso;omega) | apply aw_skip | apply aw_ret) | with_reducible apply tq_normal | with_reducible apply tq_ret)
  · refine rq_ret rfl ⟨?_, (by (rfl))⟩
    rw [if_neg (by simp [hq])]; rfl
  · refine rq_ret rfl ⟨?_, (by (exact pur_sl _ _))⟩
    rw [if_pos hq]; rfl
theorem bcInts_c (L : List Int) (hl : L.length ≤ 1000000) : PC Tryz.prog 25 [sl cI L, sl cI L] (fun r => r = bv true) := by
  (refine pc_of_aw Tryz.func25 rfl (by simp [Tryz.ntmps25]) ?_; rw [Tryz.ntmps25])
  repeat' (first | (apply id_rw; first | (apply rx_move;rfl;rfl) | (apply rx_bin;rfl;rfl;rfl;rfl) | (apply rx_assign;rfl;rfl) | (apply rx_len;rfl;rfl;rfl) | (apply rw_nil;kernel_rfl)) | (apply id_aw; first | apply aw_seq | apply aw_region | (apply aw_cond;rfl;all_goals intro hc;have hq:=hc;(try simp only [bqs] at hq);try exfalso;omega) | apply aw_block | apply aw_skip | apply aw_ret) | with_reducible apply tq_normal | with_reducible apply tq_ret)
  · exact (hq trivial).elim
  refine aw_loopK (σ := Nat) [0, 1] [(0, _), (1, _)] [] [] (fun k => [(5, iv (k : Int))]) (fun k => []) (fun k => k ≤ L.length) (fun k => L.length - k) (0) (by omega) rfl rfl (by repeat' (first | exact trivial | refine And.intro rfl ?_)) (by repeat' (exact trivial)) ?_
  rintro k hk
  repeat' (first | (apply id_rw; first | (apply rx_move;rfl;rfl) | (apply rx_load1;rfl;rfl;rfl;rfl) | (first | (apply rx_add;rfl;rfl;omega;rfl) | (apply rx_bin;rfl;rfl;rfl;rfl)) | (apply rx_assign;rfl;rfl) | (apply rx_indexFN; (case hx | hi => rfl); (case hm => (omega)); (case hml => (rfl)); (case hα | hf | hg => infer_instance); (case hN => rfl)) | (apply rx_len;rfl;rfl;rfl) | (apply rw_nil;kernel_rfl)) | (apply id_aw; first | apply aw_seq | apply aw_region | (apply aw_draw;kernel_rfl) | (apply aw_cond;rfl;all_goals intro hc;have hq:=hc;(try simp only [bqs] at hq);try exfalso;omega) | apply aw_block | apply aw_skip | apply aw_exit | apply aw_ret) | with_reducible apply tq_normal | with_reducible apply tq_ret | with_reducible apply tq_exit | with_reducible apply bq_normal | with_reducible apply bq_ret | with_reducible apply bq_here)
  · exfalso
    simp at hq
  · (apply ex3 (k + 1); focus (refine Le.ren [] rfl (by decide) ?_ ?_ <;> repeat' (first | exact trivial | refine And.intro ⟨_, rfl, ?_⟩ ?_ | refine Or.inl ⟨?_, (by first | rfl | exact pur_sl _ _)⟩ | rfl)))
    · omega
    · omega
  · exact rq_ret rfl ⟨rfl, rfl⟩
end Go.Proofs.YtejkbiijonnefaaGreat

namespace Go.Proofs.YtejkbiijonnefaaGreat
open Go.AL Go.RowKit

end Go.Proofs.YtejkbiijonnefaaGreat

namespace Go.Proofs.YtejkbiijonnefaaGreat
open Go.AL Go.RowKit

theorem rx_rev {xs : List Int} {m : Nat} {N : Nat} {Q : Exit → AS → Prop} {all : Array Oper} {rest : List Oper} {tsl : List (Nat × AV)} {hsl : List (Nat × Option (List AV))} {nidl : Nat} {z0 : Lo} {md : Md} {d : Nat} {ty : TypeId} {pos : String} {af : Array Edge} {tys : Array TypeId} {x0 : Operand} {i0 : Nat} (ha0 : ev (lk tsl) x0 = some (.own i0 0 m 1)) (hH0 : lkH hsl i0 = some (flat cI xs)) (hmc : MC Tryz.prog 163 [.own 0 0 m 1] [(0, some (flat cI xs))] 1 (fun _ : Unit => True) (fun _ => .tup []) (fun _ => [(0, some (flat cI xs.reverse))])) (hM : Nat.ble (nidl + 0) big = true) (hN : Nat.blt d N = true) {md' : Md} [hmd : MdA md (rOs [x0] ++ [.inr i0]) (List.map Sum.inr (List.map Prod.fst ([(i0, some (flat cI xs.reverse))] : List (Nat × Option (List AV)))) ++ [.inl d]) md'] (kk : RW Tryz.prog N all Q md' rest ⟨(d, .tup []) :: tsl, wrH hsl [(i0, some (flat cI xs.reverse))], nidl + 0, z0⟩) : RW Tryz.prog N all Q md (⟨some d, .call ⟨.value (.func 163), #[x0], tys⟩, ty, pos, af, none⟩ :: rest) ⟨tsl, hsl, nidl, z0⟩ := by
  refine rx_mcallE [i0] 1 [(i0, some (flat cI xs.reverse))] hmc (avs := [.own i0 0 m 1]) ?_ rfl ?_ rfl ?_ (by simpa using hM) ?_ ?_ ?_ hN (md' := md') (hmd := hmd) kk
  · show evL (lk tsl) [x0] = _
    simp only [evL, ha0]
  · exact ⟨⟨_, _, rfl, hH0, by (repeat' (exact RnL.purI inferInstance))⟩, trivial⟩
  · (repeat' (first | exact RnL.purI inferInstance | exact RnV.own rfl | refine RnL.cons ?_ ?_))
  · (repeat' (exact RnV.purI inferInstance))
  · simp [wsAll]
  · (repeat' (first | exact trivial | (refine And.intro ⟨0, _, rfl, rfl, ?_⟩ ?_) | exact RnL.purI inferInstance))

theorem rev_c (xs : List Int) (m : Nat) (hm : m = xs.length) (hl : xs.length ≤ 1000000) : MC Tryz.prog 163 [.own 0 0 m 1] [(0, some (flat cI xs))] 1 (fun _ : Unit => True) (fun _ => .tup []) (fun _ => [(0, some (flat cI xs.reverse))]) := by
  subst hm
  (refine mc_of_aw Tryz.func163 rfl (by simp [Tryz.ntmps163]) ?_; rw [Tryz.ntmps163])
  repeat' (first | (apply id_rw; first | (apply rx_move;rfl;rfl) | (apply rx_sub;rfl;rfl;omega;rfl) | (apply rx_assign;rfl;rfl) | (apply rx_len;rfl;rfl;rfl) | (apply rw_nil;kernel_rfl)) | (apply id_aw; first | apply aw_seq | apply aw_region | apply aw_block) | with_reducible apply tq_normal)
  refine aw_loopK (σ := Nat × List Int × Int) [0] [(0, _)] [] [] (fun k => [(2, iv (k.1 : Int)), (3, iv k.2.2)]) (fun k => [(0, some (flat cI k.2.1))]) (fun k => 2 * k.1 ≤ xs.length ∧ k.2.1.length = xs.length ∧ (∀ l, l < xs.length → k.2.1[l]! = if l < k.1 ∨ xs.length ≤ l + k.1 then xs[xs.length - 1 - l]! else xs[l]!) ∧ k.2.2 = (xs.length : Int) - 1 - (k.1 : Int)) (fun k => xs.length - k.1) (0, xs, (xs.length : Int) - 1) ⟨by omega, rfl, fun l hl => by rw [if_neg (by omega)], by simp⟩ rfl rfl (by repeat' (first | exact trivial | refine And.intro rfl ?_)) (by repeat' (first | exact trivial | refine And.intro (.inr rfl) ?_)) ?_
  rintro ⟨k, u, z⟩ ⟨hk, hul, hu, hz⟩
  dsimp only at hk hul hu hz
  try dsimp only
  repeat' (first | (apply id_rw; first | (apply rx_move;rfl;rfl) | (apply rx_loadF0; (case hx | hH => rfl); (case hf | hg | hα => infer_instance); (case hk => omega); (case hc | hN => rfl)) | (first | (apply rx_add;rfl;rfl;omega;rfl) | (apply rx_sub;rfl;rfl;omega;rfl) | (apply rx_bin;rfl;rfl;rfl;rfl)) | (apply rx_assign;rfl;rfl) | (first | (apply rx_indexON;rfl;rfl;(omega);rfl) | (apply rx_indexO;rfl;rfl;(omega);rfl)) | (apply rw_nil;kernel_rfl) | (apply rx_store;rfl;rfl;rfl;rfl;rfl;(rw [flat_length]; simp only [lns] <;> omega);(exact st_int (by (first | omega | (simp only [lns] <;> omega)))))) | (apply id_aw; first | apply aw_seq | apply aw_region | (apply aw_draw;kernel_rfl) | (apply aw_cond;rfl;all_goals intro hc;have hq:=hc;(try simp only [bqs] at hq);try exfalso;omega) | apply aw_block | apply aw_skip | apply aw_exit) | with_reducible apply tq_normal | with_reducible apply tq_exit | with_reducible apply bq_normal | with_reducible apply bq_here)
  · (apply ex3 (k + 1, _, _); focus (refine Le.ren [] rfl (by decide) ?_ ?_ <;> repeat' (first | exact trivial | refine And.intro ⟨_, rfl, ?_⟩ ?_ | refine And.intro ⟨_, _, rfl, rfl, ?_⟩ ?_ | exact Or.inr rfl | refine Or.inl ⟨?_, (by first | rfl | exact pur_sl _ _)⟩ | rfl)))
    · dsimp only
      refine ⟨by omega, by rw [List.length_set, List.length_set]; exact hul, fun l hl => ?_, by omega⟩
      have h1 := hu l hl
      have h2 := hu k (by omega)
      have h3 := hu z.toNat (by omega)
      have e1 : xs.length - 1 - k = z.toNat := by omega
      have e2 : xs.length - 1 - z.toNat = k := by omega
      rw [if_neg (by omega)] at h2 h3
      rw [set_get, set_get, List.length_set]
      by_cases q1 : z.toNat = l
      · rw [if_pos ⟨q1, by omega⟩, if_pos (by omega), h2, ← q1, e2]
      · rw [if_neg (by omega)]
        by_cases q2 : k = l
        · rw [if_pos ⟨q2, by omega⟩, if_pos (by omega), h3, ← q2, e1]
        · rw [if_neg (by omega), h1]
          by_cases q3 : l < k ∨ xs.length ≤ l + k
          · rw [if_pos q3, if_pos (by omega)]
          · rw [if_neg q3, if_neg (by omega)]
    · dsimp only; omega
  · refine rq_end (l := []) rfl ?_
    refine mc_ret () trivial rfl ⟨.inr (Eq.trans (b := some _) rfl ?_), trivial⟩
    have e : u = xs.reverse := ext_get (by rw [List.length_reverse, hul]) fun l hl => by
      rw [hul] at hl
      rw [hu l hl, getB xs.reverse l (by simpa using hl), List.getElem_reverse, ← getB]
      split
      · rfl
      · congr 1; omega
    rw [e]
theorem rx_grow {m : Nat} {N : Nat} {Q : Exit → AS → Prop} {all : Array Oper} {rest : List Oper} {tsl : List (Nat × AV)} {hsl : List (Nat × Option (List AV))} {nidl : Nat} {z0 : Lo} {md : Md} {d : Nat} {ty : TypeId} {pos : String} {af : Array Edge} {tys : Array TypeId} {x0 x1 : Operand} (ha0 : ev (lk tsl) x0 = some (.v (.slice none 0 0))) (ha1 : ev (lk tsl) x1 = some (iv (m : Int))) (hmc : MC Tryz.prog 164 [.v (.slice none 0 0), iv (m : Int)] [] 0 (fun _ : Unit => True) (fun _ => .own 0 0 0 1) (fun _ => [(0, some (flat cI ([] : List Int)))])) (hM : Nat.ble (nidl + 1) big = true) (hN : Nat.blt d N = true) {md' : Md} [hmd : MdA md (rOs [x0, x1] ++ []) (List.map Sum.inr (List.map Prod.fst ([(nidl, some (flat cI ([] : List Int)))] : List (Nat × Option (List AV)))) ++ [.inl d]) md'] (kk : RW Tryz.prog N all Q md' rest ⟨(d, .own nidl 0 0 1) :: tsl, wrH hsl [(nidl, some (flat cI ([] : List Int)))], nidl + 1, z0⟩) : RW Tryz.prog N all Q md (⟨some d, .call ⟨.value (.func 164), #[x0, x1], tys⟩, ty, pos, af, none⟩ :: rest) ⟨tsl, hsl, nidl, z0⟩ := by
  refine rx_mcallE [] 1 [(nidl, some (flat cI ([] : List Int)))] hmc (avs := [.v (.slice none 0 0), iv (m : Int)]) ?_ rfl ?_ rfl ?_ (by simpa using hM) ?_ ?_ ?_ hN (md' := md') (hmd := hmd) kk
  · show evL (lk tsl) [x0, x1] = _
    simp only [evL, ha0, ha1]
  · exact trivial
  · (repeat' (exact RnL.purI inferInstance))
  · (repeat' (exact RnV.own rfl))
  · simp [wsAll]
  · (repeat' (first | exact trivial | (refine And.intro ⟨0, _, rfl, rfl, ?_⟩ ?_) | exact RnL.purI inferInstance))

theorem grow_c (m : Nat) (hm : m ≤ 1000000) : MC Tryz.prog 164 [.v (.slice none 0 0), iv (m : Int)] [] 0 (fun _ : Unit => True) (fun _ => .own 0 0 0 1) (fun _ => [(0, some (flat cI ([] : List Int)))]) := by
  (refine mc_of_aw Tryz.func164 rfl (by simp [Tryz.ntmps164]) ?_; rw [Tryz.ntmps164])
  repeat' (first | (apply id_rw; first | (apply rx_capNil;rfl;rfl) | ((apply rx_zeros (m := m) (k' := .i64)); (case htn => kernel_rfl); (case hx | hy => rfl); (case hzm => omega); (case hze | he0 => rfl); (case h0 => omega); (case hsm => omega); (case hmx => omega); (case hM | hN => rfl)) | ((apply rx_sliceHi (h := 0)); (case hx | hy => rfl); (case hz => (rfl)); (case hb => omega); (case hN => rfl)) | (apply rx_sliceNil;rfl;rfl;rfl) | (apply rx_move;rfl;rfl) | (first | (apply rx_sub;rfl;rfl;omega;rfl) | (apply rx_bin;rfl;rfl;rfl;rfl)) | (apply rx_assign;rfl;rfl) | (apply rx_len;rfl;rfl;rfl) | (apply rw_nil;kernel_rfl)) | (apply id_aw; first | apply aw_seq | apply aw_region | (apply aw_condF;rfl;(rfl)) | (apply aw_cond;rfl;all_goals intro hc;have hq:=hc;(try simp only [bqs] at hq);try exfalso;omega) | apply aw_skip | apply aw_ret) | with_reducible apply tq_normal)
  ·
    refine rq_le (Le.cut (i := 0) 0 rfl) ?_
    refine rq_ret rfl ?_
    refine mc_ret () trivial ?_ ⟨.inr (Eq.trans (b := some _) rfl ?_), trivial⟩
    all_goals first | rfl | exact congrArg some (List.take_zero)
  · refine rq_le (Le.nilOwn (d := 4) 1 ?_ ?_) ?_
    · rfl
    · decide
    refine rq_ret rfl ?_
    refine mc_ret () trivial ?_ ⟨.inr (Eq.trans (b := some _) rfl ?_), trivial⟩
    all_goals rfl
theorem concat_c (Ls : List (List Int)) (hn : Ls.length ≤ 1000) (hl : Ls.flatten.length ≤ 1000000) : PC Tryz.prog 104 [sl cII Ls] (fun r => r = sl cI Ls.flatten) := by
  have hpre : ∀ k, (Ls.take k).flatten.length ≤ 1000000 := fun k => by
    have : Ls.flatten = (Ls.take k).flatten ++ (Ls.drop k).flatten := by rw [← List.flatten_append, List.take_append_drop]
    rw [this, List.length_append] at hl; omega
  have hst : ∀ k, k < Ls.length → (Ls.take (k + 1)).flatten = (Ls.take k).flatten ++ Ls[k]! := fun k hk => by rw [take_succB _ _ hk]; simp
  (refine pc_of_aw Tryz.func104 rfl (by simp [Tryz.ntmps104]) ?_; rw [Tryz.ntmps104])
  repeat' (first | (apply id_rw; first | (apply rx_move;rfl;rfl) | (apply rx_assign;rfl;rfl) | (apply rx_len;rfl;rfl;rfl) | (apply rw_nil;kernel_rfl)) | (apply id_aw; first | apply aw_seq | apply aw_region | apply aw_block) | with_reducible apply tq_normal)
  refine aw_loopK (σ := Nat × Int) [0, 9, 10] [(0, _), (9, _), (10, _)] [] [] (fun k => [(11, iv (k.1 : Int)), (3, iv k.2)]) (fun k => []) (fun k => k.1 ≤ Ls.length ∧ k.2 = ((Ls.take k.1).flatten.length : Int)) (fun k => Ls.length - k.1) (0, 0) ⟨by omega, rfl⟩ rfl rfl (by repeat' (first | exact trivial | refine And.intro rfl ?_)) (by repeat' (exact trivial)) ?_
  rintro ⟨k, z⟩ ⟨hk, hz⟩
  dsimp only at hk hz
  try dsimp only
  have hz2 := hpre k
  by_cases hkn : k < Ls.length
  · have h1 := hst k hkn
    have h2 := hpre (k + 1)
    rw [h1, List.length_append] at h2
    repeat' (first | (apply id_rw; first | (apply rx_move;rfl;rfl) | (apply rx_load1;rfl;rfl;rfl;rfl) | (first | (apply rx_add;rfl;rfl;omega;rfl) | (apply rx_bin;rfl;rfl;rfl;rfl)) | (apply rx_assign;rfl;rfl) | (apply rx_indexFN; (case hx | hi => rfl); (case hm => (assumption)); (case hml => (rfl)); (case hα | hf | hg => infer_instance); (case hN => rfl)) | (apply rx_len;rfl;rfl;rfl) | (apply rw_nil;kernel_rfl)) | (apply id_aw; first | apply aw_seq | apply aw_region | (apply aw_cond;rfl;all_goals intro hc;have hq:=hc;(try simp only [bqs] at hq);try exfalso;omega) | apply aw_block | apply aw_skip) | with_reducible apply tq_normal | with_reducible apply bq_normal)
    (apply ex3 (k + 1, _); focus (refine Le.ren [] rfl (by decide) ?_ ?_ <;> repeat' (first | exact trivial | refine And.intro ⟨_, rfl, ?_⟩ ?_ | refine Or.inl ⟨?_, (by first | rfl | exact pur_sl _ _)⟩ | rfl)))
    · exact ⟨by dsimp only; omega, by dsimp only; rw [h1, List.length_append]; omega⟩
    · dsimp only; omega
  · obtain ⟨z', rfl⟩ : ∃ z' : Nat, z = (z' : Int) := ⟨_, hz⟩
    repeat' (first | (apply id_rw; first | (apply rx_move;rfl;rfl) | (apply rx_bin;rfl;rfl;rfl;rfl) | (apply rx_assign;rfl;rfl) | (apply rx_grow;rfl;rfl;(apply grow_c <;> (omega));rfl;rfl) | (apply rx_len;rfl;rfl;rfl) | (apply rw_nil;kernel_rfl)) | (apply id_aw; first | apply aw_seq | apply aw_region | (apply aw_cond;rfl;all_goals intro hc;have hq:=hc;(try simp only [bqs] at hq);try exfalso;omega) | apply aw_block | apply aw_exit) | with_reducible apply tq_normal | with_reducible apply tq_exit | with_reducible apply bq_here)
    refine aw_loopK (σ := Nat × List Int × Nat) [25, 26] [(25, _), (26, _)] [] [] (fun k => [(27, iv (k.1 : Int)), (6, .own 0 0 k.2.2 1)]) (fun k => [(0, some (flat cI k.2.1))]) (fun k => k.1 ≤ Ls.length ∧ k.2.1 = (Ls.take k.1).flatten ∧ k.2.2 = k.2.1.length) (fun k => Ls.length - k.1) (0, [], 0) ⟨by omega, rfl, rfl⟩ rfl rfl (by repeat' (first | exact trivial | refine And.intro rfl ?_)) (by repeat' (first | exact trivial | refine And.intro (.inr rfl) ?_)) ?_
    rintro ⟨k, u, m⟩ ⟨hk, hu, hm⟩
    dsimp only at hk hu hm
    try dsimp only
    have hu2 := hpre k
    rw [← hu] at hu2
    by_cases hkn : k < Ls.length
    · have h1 := hst k hkn
      have h2 := hpre (k + 1)
      rw [h1, List.length_append, ← hu] at h2
      repeat' (first | (apply id_rw; first | (apply rx_move;rfl;rfl) | (apply rx_load1;rfl;rfl;rfl;rfl) | (first | (apply rx_add;rfl;rfl;omega;rfl) | (apply rx_bin;rfl;rfl;rfl;rfl)) | (apply rx_assign;rfl;rfl) | (apply rx_indexFN; (case hx | hi => rfl); (case hm => (assumption)); (case hml => (rfl)); (case hα | hf | hg => infer_instance); (case hN => rfl)) | (apply rx_append;rfl;rfl;rfl;rfl;rfl;(rw [flat_length]; omega);(exact sC_imm (by (rfl)));omega;omega;(exact app_ints (by (assumption)));rfl;rfl) | (apply rw_nil;kernel_rfl)) | (apply id_aw; first | apply aw_seq | apply aw_region | (apply aw_cond;rfl;all_goals intro hc;have hq:=hc;(try simp only [bqs] at hq);try exfalso;omega) | apply aw_block | apply aw_skip) | with_reducible apply tq_normal | with_reducible apply bq_normal)
      (apply ex3 (k + 1, _, _); focus (refine Le.ren [(0, 1)] rfl (by decide) ?_ ?_ <;> repeat' (first | exact trivial | refine And.intro ⟨_, rfl, ?_⟩ ?_ | refine And.intro ⟨_, _, rfl, rfl, ?_⟩ ?_ | exact Or.inr rfl | refine Or.inl ⟨?_, (by first | rfl | exact pur_sl _ _)⟩ | rfl)))
      · exact ⟨by dsimp only; omega, by dsimp only; rw [h1, hu], by dsimp only; rw [List.length_append]; omega⟩
      · dsimp only; omega
    · repeat' (first | (apply id_rw; first | (apply rx_move;rfl;rfl) | (apply rx_bin;rfl;rfl;rfl;rfl) | (apply rx_assign;rfl;rfl) | (apply rw_nil;kernel_rfl)) | (apply id_aw; first | apply aw_seq | apply aw_region | (apply aw_cond;rfl;all_goals intro hc;have hq:=hc;(try simp only [bqs] at hq);try exfalso;omega) | apply aw_exit | apply aw_ret) | with_reducible apply tq_normal | with_reducible apply tq_exit | with_reducible apply bq_here)
      refine rq_le (Le.frzD (d := 2) (i := 0) rfl rfl) ?_
      refine rq_ret rfl ⟨?_, (by (exact pur_sl _ _))⟩
      have e : u = Ls.flatten := by rw [hu, show k = Ls.length by omega, List.take_length]
      rw [← e]
      simp only [oneOf, sl, hm]
end Go.Proofs.YtejkbiijonnefaaGreat

namespace Go.Proofs.YtejkbiijonnefaaGreat
open Go.AL Go.RowKit

theorem shr_bit (A l : Nat) : decide (((A >>> l &&& 1 : Nat) : Int) = 1) = A.testBit l := by
  rw [Nat.testBit, Nat.and_comm]
  by_cases h : 1 &&& A >>> l = 1
  · rw [h]; rfl
  · have := Nat.and_le_left (n := 1) (m := A >>> l)
    have h0 : 1 &&& A >>> l = 0 := by omega
    rw [h0]; rfl
theorem fW_row {Af : List Nat} {n i v : Nat} (hA : Af.length = n * 6) (hi : i < n) (hv : v < 6) : (List.drop (v * 1) (flat cW (Af.drop (i * 6))))[0]? = some (.v (.int .u64 ((row6 Af i)[v]! : Nat))) := by
  rw [row6_at hA hi hv, Nat.mul_one]
  have e : flat cW (Af.drop (i * 6)) = (Af.drop (i * 6)).map (fun (x : Nat) => AV.v (.int .u64 (x : Int))) := by
    generalize Af.drop (i * 6) = l
    induction l with
    | nil => rfl
    | cons a l ih => rw [List.map_cons, ← ih]; rfl
  rw [e, List.getElem?_drop, List.getElem?_map, List.getElem?_drop, Nat.add_zero, List.getElem?_eq_getElem (by omega), getB Af _ (by omega)]; rfl
theorem useAfter1_c (v : Int) (n : Nat) (Af : List Nat) (i loan : Int) (hA : Af.length = n * 6) (hv : 0 ≤ v ∧ v < 6) (hi : 0 ≤ i ∧ i < n) (hl : 0 ≤ loan ∧ loan < 62) (hs : ∀ z : Nat, Sm (row6 Af i.toNat)[z]!) :
    PC Tryz.prog 160 [iv v, .iptr [.imm n (flat cW Af)], .iptr [iv i], .iptr [iv loan]] (fun r => r = bv ((row6 Af i.toNat)[v.toNat]!.testBit loan.toNat)) := by
  have hsv := hs v.toNat
  (refine pc_of_aw Tryz.func160 rfl (by simp [Tryz.ntmps160]) ?_; rw [Tryz.ntmps160])
  repeat' (first | (apply id_rw; first | (apply rx_load1;rfl;rfl;exact fW_row hA (by omega) (by omega);rfl) | (apply rx_move;rfl;rfl) | (apply rx_load1;rfl;rfl;rfl;rfl) | (first | (apply rx_and1;rfl;rfl;infer_instance;infer_instance;rfl) | (apply rx_shrN;rfl;rfl;infer_instance;infer_instance;omega;rfl) | (apply rx_bin;rfl;rfl;rfl;rfl)) | (apply rx_assign;rfl;rfl) | (first | (apply rx_indexArr;rfl;rfl;(omega);rfl;rfl) | (apply rx_indexW6;rfl;rfl;(omega);rfl)) | (apply rw_nil;kernel_rfl)) | (apply id_aw; first | apply aw_seq | apply aw_region | (apply aw_draw;kernel_rfl) | apply aw_ret) | with_reducible apply tq_normal)
  refine rq_ret rfl ⟨?_, rfl⟩
  exact congrArg bv (shr_bit _ _)
def idU (U : Int → Bool) (xs : List Int) : Int := match xs.findIdx? U with | some i => i | none => -1
def u1 (Af : List Nat) (i loan : Int) (v : Int) : Bool := (row6 Af i.toNat)[v.toNat]!.testBit loan.toNat
theorem idxU_c (xs : List Int) (n : Nat) (Af : List Nat) (i loan : Int) (hxl : xs.length ≤ 1000) (hx : ∀ v ∈ xs, 0 ≤ v ∧ v < 6) (hA : Af.length = n * 6) (hi : 0 ≤ i ∧ i < n) (hl : 0 ≤ loan ∧ loan < 62) (hs : ∀ z : Nat, Sm (row6 Af i.toNat)[z]!) :
    PC Tryz.prog 189 [sl cI xs, .clos (.func 160) [] [.iptr [.imm n (flat cW Af)], .iptr [iv i], .iptr [iv loan]]] (fun r => r = iv (idU (u1 Af i loan) xs)) := by
  (refine pc_of_aw Tryz.func189 rfl (by simp [Tryz.ntmps189]) ?_; rw [Tryz.ntmps189])
  repeat' (first | (apply id_rw; first | (apply rx_move;rfl;rfl) | (apply rx_assign;rfl;rfl) | (apply rx_len;rfl;rfl;rfl) | (apply rw_nil;kernel_rfl)) | (apply id_aw; first | apply aw_seq | apply aw_region | apply aw_block) | with_reducible apply tq_normal)
  refine aw_loopK (σ := Nat) [0, 1, 7] [(0, _), (1, _), (7, _)] [] [] (fun k => [(8, iv (k : Int))]) (fun k => []) (fun k => k ≤ xs.length ∧ ∀ j, j < k → u1 Af i loan xs[j]! = false) (fun k => xs.length - k) (0) ⟨by omega, by omega⟩ rfl rfl (by repeat' (first | exact trivial | refine And.intro rfl ?_)) (by repeat' (exact trivial)) ?_
  intro k ⟨hk, hall⟩
  by_cases hkn : k < xs.length
  · have hv := hx _ (getB_mem xs k hkn)
    have hcl := useAfter1_c xs[k]! n Af i loan hA hv hi hl hs
    have hu : (row6 Af i.toNat)[(xs[k]!).toNat]!.testBit loan.toNat = u1 Af i loan xs[k]! := rfl
    rw [hu] at hcl
    cases hb : u1 Af i loan xs[k]!
    · rw [hb] at hcl
      repeat' (first | (apply id_rw; first | (apply rx_move;rfl;rfl) | (apply rx_load1;rfl;rfl;rfl;rfl) | (first | (apply rx_add;rfl;rfl;omega;rfl) | (apply rx_bin;rfl;rfl;rfl;rfl)) | (apply rx_assign;rfl;rfl) | (apply rx_indexFN; (case hx | hi => rfl); (case hm => (assumption)); (case hml => (rfl)); (case hα | hf | hg => infer_instance); (case hN => rfl)) | ((with_reducible apply rx_callC); (case hx | hcl => rfl); (case hc => infer_instance); (case ha => rfl); (case h => (apply hcl <;> (fail))); (case hp => (exact Pur.pf)); (case hN => rfl)) | (apply rw_nil;kernel_rfl)) | (apply id_aw; first | apply aw_seq | apply aw_region | (apply aw_condF;rfl;(rfl)) | (apply aw_cond;rfl;all_goals intro hc;have hq:=hc;(try simp only [bqs] at hq);try exfalso;omega) | apply aw_block | apply aw_skip) | with_reducible apply tq_normal | with_reducible apply bq_normal)
      (apply ex3 (k + 1); focus (refine Le.ren [] rfl (by decide) ?_ ?_ <;> repeat' (first | exact trivial | refine And.intro ⟨_, rfl, ?_⟩ ?_ | refine Or.inl ⟨?_, (by first | rfl | exact pur_sl _ _ | exact Pur.pf)⟩ | rfl)))
      · refine ⟨by omega, fun j hj => ?_⟩
        by_cases e : j = k
        · subst e; exact hb
        · exact hall j (by omega)
      · omega
    · rw [hb] at hcl
      repeat' (first | (apply id_rw; first | (apply rx_move;rfl;rfl) | (apply rx_load1;rfl;rfl;rfl;rfl) | (apply rx_bin;rfl;rfl;rfl;rfl) | (apply rx_assign;rfl;rfl) | (apply rx_indexFN; (case hx | hi => rfl); (case hm => (assumption)); (case hml => (rfl)); (case hα | hf | hg => infer_instance); (case hN => rfl)) | ((with_reducible apply rx_callC); (case hx | hcl => rfl); (case hc => infer_instance); (case ha => rfl); (case h => (apply hcl <;> (fail))); (case hp => (exact Pur.pf)); (case hN => rfl)) | (apply rw_nil;kernel_rfl)) | (apply id_aw; first | apply aw_seq | apply aw_region | (apply aw_condT;rfl;(rfl)) | (apply aw_cond;rfl;all_goals intro hc;have hq:=hc;(try simp only [bqs] at hq);try exfalso;omega) | apply aw_block | apply aw_skip | apply aw_ret) | with_reducible apply tq_normal | with_reducible apply tq_ret | with_reducible apply bq_ret)
      refine rq_ret rfl ⟨?_, rfl⟩
      have : xs.findIdx? (u1 Af i loan) = some k := by
        rw [List.findIdx?_eq_some_iff_getElem]
        refine ⟨hkn, by rw [← getB xs k hkn]; exact hb, fun j hj => ?_⟩
        have := hall j hj; rw [getB xs j (by omega)] at this; rw [this]; decide
      simp only [idU, this]; rfl
  · repeat' (first | (apply id_rw; first | (apply rx_bin;rfl;rfl;rfl;rfl) | (apply rx_assign;rfl;rfl) | (apply rw_nil;kernel_rfl)) | (apply id_aw; first | apply aw_seq | apply aw_region | (apply aw_cond;rfl;all_goals intro hc;have hq:=hc;(try simp only [bqs] at hq);try exfalso;omega) | apply aw_exit | apply aw_ret) | with_reducible apply tq_normal | with_reducible apply tq_exit | with_reducible apply bq_here)
    refine rq_ret rfl ⟨?_, rfl⟩
    have : xs.findIdx? (u1 Af i loan) = none := by
      rw [List.findIdx?_eq_none_iff]
      intro x hx
      obtain ⟨j, hj, rfl⟩ := List.getElem_of_mem hx
      have := hall j (by omega); rw [getB xs j hj] at this; exact this
    simp only [idU, this]; rfl
theorem idU_ge (U : Int → Bool) (xs : List Int) : decide (0 ≤ idU U xs) = xs.any U := by
  unfold idU
  split
  · rename_i i h
    obtain ⟨h1, h2, _⟩ := List.findIdx?_eq_some_iff_getElem.1 h
    rw [List.any_eq_true.2 ⟨xs[i], List.getElem_mem h1, h2⟩]; simp
  · rename_i h
    rw [List.findIdx?_eq_none_iff] at h
    have : xs.any U = false := by rw [List.any_eq_false]; intro x hx; rw [h x hx]; decide
    rw [this]; rfl
theorem contU_c (xs : List Int) (n : Nat) (Af : List Nat) (i loan : Int) (hxl : xs.length ≤ 1000) (hx : ∀ v ∈ xs, 0 ≤ v ∧ v < 6) (hA : Af.length = n * 6) (hi : 0 ≤ i ∧ i < n) (hl : 0 ≤ loan ∧ loan < 62) (hs : ∀ z : Nat, Sm (row6 Af i.toNat)[z]!) :
    PC Tryz.prog 159 [sl cI xs, .clos (.func 160) [] [.iptr [.imm n (flat cW Af)], .iptr [iv i], .iptr [iv loan]]] (fun r => r = bv (xs.any (u1 Af i loan))) := by
  have hix := idxU_c xs n Af i loan hxl hx hA hi hl hs
  (refine pc_of_aw Tryz.func159 rfl (by simp [Tryz.ntmps159]) ?_; rw [Tryz.ntmps159])
  repeat' (first | (apply id_rw; first | ((with_reducible apply rx_callE (k := 189)); (case ha => rfl); (case h => exact hix); (case hp => (exact Pur.pf)); (case hN => rfl)) | (apply rx_move;rfl;rfl) | (apply rx_bin;rfl;rfl;rfl;rfl) | (apply rx_assign;rfl;rfl) | (apply rw_nil;kernel_rfl)) | (apply id_aw; first | apply aw_seq | apply aw_region | apply aw_ret) | with_reducible apply tq_normal)
  refine rq_ret rfl ⟨?_, rfl⟩
  exact congrArg bv (idU_ge _ _)
end Go.Proofs.YtejkbiijonnefaaGreat

namespace Go.Proofs.YtejkbiijonnefaaGreat
open Go.AL Go.RowKit

theorem repNI (n : Nat) : flat cN (List.replicate n 0) = flat cI (List.replicate n (0 : Int)) := by
  induction n with
  | zero => rfl
  | succ n ih => rw [List.replicate_succ, List.replicate_succ]; show cN 0 ++ flat cN _ = cI 0 ++ flat cI _; rw [ih]; rfl
theorem shortWay_c (ts : List Int) (bd : List AL.Stmt) (pts : List Pnt) (f t : Nat) (w : WG ts pts) (hf : f < pts.length) (ht : t < pts.length) :
    PC Tryz.prog 103 [aG ts bd pts, iv (f : Int), iv (t : Int)] (fun r => r = .tup [sl cI (cN' (wyW pts f t)), bv (decide (0 ≤ lkW (enW pts f) t))]) := by
  have hpl := w.pl
  have hbe : ∀ h, BI pts f (bfW pts f h) := bfW_I w.nx hf
  (refine pc_of_aw Tryz.func103 rfl (by simp [Tryz.ntmps103]) ?_; rw [Tryz.ntmps103])
  repeat' (first | (apply id_rw; first | (apply rx_move;rfl;rfl) | (apply rx_load1;rfl;rfl;rfl;rfl) | (apply rx_fieldAddr;rfl;rfl;rfl) | (apply rx_assign;rfl;rfl) | (apply rx_len;rfl;rfl;rfl) | (apply rw_nil;kernel_rfl) | (apply rx_nil;rfl;rfl;rfl) | (apply rx_makeSliceE;rfl;rfl;rfl;omega;omega;(exact mk_nat);rfl;rfl)) | (apply id_aw; first | apply aw_seq | apply aw_region | apply aw_block) | with_reducible apply tq_normal)
  rw [repNI]
  refine aw_loopK (σ := Nat × List Int) [0, 1, 2, 8, 23] [(0, _), (1, _), (2, _), (8, _), (23, _)] [] [] (fun k => [(24, iv (k.1 : Int))]) (fun k => [(0, some (flat cI k.2))]) (fun k => k.1 ≤ pts.length ∧ k.2.length = pts.length ∧ (∀ l, l < k.1 → k.2[l]! = -1)) (fun k => pts.length - k.1) (0, List.replicate pts.length 0) ⟨by omega, by simp, by omega⟩ rfl rfl (by repeat' (first | exact trivial | refine And.intro rfl ?_)) (by repeat' (first | exact trivial | refine And.intro (.inr rfl) ?_)) ?_
  rintro ⟨k, u⟩ ⟨hk, hul, hu⟩
  dsimp only at hk hul hu
  try dsimp only
  by_cases hkn : k < pts.length
  · repeat' (first | (apply id_rw; first | (apply rx_move;rfl;rfl) | (first | (apply rx_add;rfl;rfl;omega;rfl) | (apply rx_bin;rfl;rfl;rfl;rfl)) | (apply rx_assign;rfl;rfl) | (apply rx_indexON;rfl;rfl;(assumption);rfl) | (apply rw_nil;kernel_rfl) | (apply rx_store;rfl;rfl;rfl;rfl;rfl;(rw [flat_length]; simp only [lns] <;> omega);(exact st_int (by (omega))))) | (apply id_aw; first | apply aw_seq | apply aw_region | (apply aw_cond;rfl;all_goals intro hc;have hq:=hc;(try simp only [bqs] at hq);try exfalso;omega) | apply aw_block | apply aw_skip) | with_reducible apply tq_normal | with_reducible apply bq_normal)
    (apply ex3 (k + 1, _); focus (refine Le.ren [(0, 0)] rfl (by decide) ?_ ?_ <;> repeat' (first | exact trivial | refine And.intro ⟨_, rfl, ?_⟩ ?_ | refine And.intro ⟨_, _, rfl, rfl, ?_⟩ ?_ | exact Or.inr rfl | refine Or.inl ⟨?_, (by first | rfl | exact pur_sl _ _ | exact Pur.pf)⟩ | rfl)))
    · refine ⟨by omega, by dsimp only; rw [List.length_set]; exact hul, fun l hl => ?_⟩
      dsimp only at hl ⊢
      rw [set_get]
      by_cases e : k = l
      · rw [if_pos ⟨e, by omega⟩]
      · rw [if_neg (by omega)]; exact hu l (by omega)
    · dsimp only; omega
  · repeat' (first | (apply id_rw; first | (apply rx_move;rfl;rfl) | (apply rx_bin;rfl;rfl;rfl;rfl) | (apply rx_assign;rfl;rfl) | (apply rw_nil;kernel_rfl) | (apply rx_buildSlice;rfl;rfl;rfl;exact (rfl:_=some [_]);rfl;rfl)) | (apply id_aw; first | apply aw_seq | apply aw_region | (apply aw_cond;rfl;all_goals intro hc;have hq:=hc;(try simp only [bqs] at hq);try exfalso;omega) | apply aw_block | apply aw_exit) | with_reducible apply tq_normal | with_reducible apply tq_exit | with_reducible apply bq_here)
    have hbk0 : u = bkW pts.length [] := ext_get (by rw [bkW_len, hul]) fun l hl => by rw [hu l (by omega), bkW_get (by omega)]; rfl
    subst hbk0
    refine aw_loopK (σ := Nat × List (Nat × Nat) × List Int × Nat) [0, 1, 2, 8] [(0, _), (1, _), (2, _), (8, _)] [] [] (fun s => [(10, .own 1 0 s.2.2.2 1)]) (fun s => [(0, some (flat cI (bkW pts.length s.2.1))), (1, some (flat cI s.2.2.1))]) (fun s => s.2.1 = bfW pts f s.1 ∧ s.2.2.1 = todoW f s.2.1 s.1 ∧ s.2.2.2 = s.2.2.1.length ∧ s.1 ≤ s.2.1.length + 1 ∧ (0 ≤ lkW s.2.1 t → 0 < s.2.2.2)) (fun s => pts.length + 1 - s.1) (0, [], [(f : Int)], 1) ⟨rfl, rfl, rfl, by dsimp only; omega, fun h => by dsimp only; omega⟩ rfl rfl (by repeat' (first | exact trivial | refine And.intro rfl ?_)) (by repeat' (first | exact trivial | refine And.intro (.inr rfl) ?_)) ?_
    rintro ⟨h, E, T, m⟩ ⟨hE, hT, hm, hh, hmt⟩
    dsimp only at hE hT hm hh hmt
    try dsimp only
    have I := hbe h
    rw [← hE] at I
    have hle := I.le w.nx
    have hbt : (bkW pts.length E)[t]! = lkW E t := bkW_get ht
    have hbl := bkW_len pts.length E
    by_cases hlk : lkW E t < 0
    by_cases hgo : 0 < T.length
    · have hlt : h < (quW f E).length := by
        have := todoW_len f E h; rw [quW_len]; rw [← hT] at this; omega
      have hcons := todoW_cons hlt
      have hqo := quW_of hlt
      obtain ⟨a, ha⟩ : ∃ a, a = (quW f E)[h]! := ⟨_, rfl⟩
      rw [← ha] at hcons hqo
      have hal : a < pts.length := by
        rcases hqo with e | e
        · rw [e]; exact hf
        · obtain ⟨x, hx, e⟩ := List.mem_map.1 e; rw [← e]; exact (hle.2 x hx).1
      rw [hcons] at hT
      subst hT
      simp only [List.length_cons] at hm
      repeat' (first | (apply id_rw; first | (with_reducible apply rw_stop (d := 10)) | (apply rx_sliceOw;rfl;rfl;omega;rfl) | (apply rx_move;rfl;rfl) | (apply rx_loadF0; (case hx | hH => rfl); (case hf | hg | hα => infer_instance); (case hk => omega); (case hc | hN => rfl)) | (first | (apply rx_guardY;rfl;rfl;rfl;(assumption)) | (apply rx_guardS; (case hj | hb | hN => rfl); all_goals (intro hg; have hq := hg; (try simp only [bqs] at hq); (try (exfalso; omega))))) | (apply rx_bin;rfl;rfl;rfl;rfl) | (apply rx_assign;rfl;rfl) | (apply rx_pickT;rfl;(assumption);rfl;rfl) | (first | (apply rx_indexON;rfl;rfl;(assumption);rfl) | (apply rx_indexO;rfl;rfl;(omega);rfl)) | (apply rx_len;rfl;rfl;rfl) | (apply rw_nil;kernel_rfl)) | (apply id_aw; first | apply aw_seq | apply aw_region | (apply aw_cond;rfl;all_goals intro hc;have hq:=hc;(try simp only [bqs] at hq);try exfalso;omega) | apply aw_block | apply aw_skip) | with_reducible apply tq_normal)
      refine rw_go (rw_le ?_ (Le.mvO (d := 47) (i := 1) rfl rfl (by simp [flat_length]) (by decide)))
      have hnl := w.nl a hal
      have hpop : todoW f E (h + 1) = todoW f (adsW E a (pts[a]!.next.take 0)) (h + 1) := rfl
      have hnk := w.nx a hal
      have hek : ∀ k, BI pts f (adsW E a (pts[a]!.next.take k)) := fun k => adsW_I _ _ I hqo (fun z hz => ⟨hal, by have := hnk z (List.mem_of_mem_take hz); rw [Int.toNat_of_nonneg this.1]; exact List.mem_of_mem_take hz⟩)
      repeat' (first | (apply id_rw; first | (apply rx_move;rfl;rfl) | (apply rx_load1;rfl;rfl;rfl;rfl) | (apply rx_fieldAddr;rfl;rfl;rfl) | (apply rx_assign;rfl;rfl) | (apply rx_indexFN; (case hx | hi => rfl); (case hm => (assumption)); (case hml => (rfl)); (case hα | hf | hg => infer_instance); (case hN => rfl)) | (apply rx_len;rfl;rfl;rfl) | (apply rw_nil;kernel_rfl) | (apply rx_nil;rfl;rfl;rfl)) | (apply id_aw; first | apply aw_seq | apply aw_region | apply aw_block) | with_reducible apply tq_normal)
      refine aw_loopK (σ := Nat × List (Nat × Nat) × List Int × Nat) [0, 1, 2, 8, 55, 56] [(0, _), (1, _), (2, _), (8, _), (55, _), (56, _)] [] [] (fun s => [(57, iv (s.1 : Int)), (11, iv (a : Int)), (10, .own 2 0 s.2.2.2 1)]) (fun s => [(0, some (flat cI (bkW pts.length s.2.1))), (2, some (flat cI s.2.2.1))]) (fun s => s.1 ≤ pts[a]!.next.length ∧ s.2.1 = adsW E a (pts[a]!.next.take s.1) ∧ s.2.2.1 = todoW f s.2.1 (h + 1) ∧ s.2.2.2 = s.2.2.1.length) (fun s => pts[a]!.next.length - s.1) (0, E, todoW f E (h + 1), m - 1) ⟨by omega, rfl, hpop, by dsimp only; omega⟩ rfl rfl (by repeat' (first | exact trivial | refine And.intro rfl ?_)) (by repeat' (first | exact trivial | refine And.intro (.inr rfl) ?_)) ?_
      rintro ⟨k, E2, T2, m2⟩ ⟨hk, hE2, hT2, hm2⟩
      dsimp only at hk hE2 hT2 hm2
      try dsimp only
      have I2 := hek k
      rw [← hE2] at I2
      have hle2 := I2.le w.nx
      have hbl2 := bkW_len pts.length E2
      have htl2 := todoW_len f E2 (h + 1)
      rw [← hT2] at htl2
      by_cases hkn : k < pts[a]!.next.length
      · have hz := hnk _ (getB_mem _ _ hkn)
        have hbz : (bkW pts.length E2)[(pts[a]!.next[k]!).toNat]! = lkW E2 (pts[a]!.next[k]!).toNat := bkW_get (by omega)
        have hsu := adsW_succ E a pts[a]!.next k hkn
        rw [← hE2] at hsu
        have hql : h + 1 ≤ (quW f E2).length := by
          have h1 := adsW_pre a (pts[a]!.next.take k) E
          rw [← hE2] at h1
          have := h1.length_le
          rw [quW_len] at hlt ⊢; omega
        by_cases hlz : lkW E2 (pts[a]!.next[k]!).toNat < 0
        · repeat' (first | (apply id_rw; first | (apply rx_move;rfl;rfl) | (first | (apply rx_loadF0; (case hx | hH => rfl); (case hf | hg | hα => infer_instance); (case hk => omega); (case hc | hN => rfl)) | (apply rx_load1;rfl;rfl;rfl;rfl)) | (first | (apply rx_add;rfl;rfl;omega;rfl) | (apply rx_bin;rfl;rfl;rfl;rfl)) | (apply rx_assign;rfl;rfl) | (first | (apply rx_indexFN; (case hx | hi => rfl); (case hm => (assumption)); (case hml => (rfl)); (case hα | hf | hg => infer_instance); (case hN => rfl)) | (apply rx_indexO;rfl;rfl;(assumption);rfl)) | (apply rx_append;rfl;rfl;rfl;rfl;rfl;(rw [flat_length]; omega);(rfl);omega;omega;(exact app_int (by (assumption)));rfl;rfl) | (apply rw_nil;kernel_rfl) | ((apply rx_buildSliceI (t := _)); (case hze | hsm | hl => rfl); (case hfl => exact (rfl:_=some [_])); (case hM | hN => rfl)) | (apply rx_store;rfl;rfl;rfl;rfl;rfl;(rw [flat_length]; simp only [lns] <;> omega);(exact st_int (by (omega))))) | (apply id_aw; first | apply aw_seq | apply aw_region | (apply aw_cond;rfl;all_goals intro hc;have hq:=hc;(try simp only [bqs] at hq);try exfalso;omega) | apply aw_block | apply aw_skip) | with_reducible apply tq_normal | with_reducible apply bq_normal)
          rw [bkW_set hlz (by omega)]
          (apply ex3 (k + 1, _, _, _); focus (refine Le.ren [(0, 0), (2, 4)] rfl (by decide) ?_ ?_ <;> repeat' (first | exact trivial | refine And.intro ⟨_, rfl, ?_⟩ ?_ | refine And.intro ⟨_, _, rfl, rfl, ?_⟩ ?_ | exact Or.inr rfl | refine Or.inl ⟨?_, (by first | rfl | exact pur_sl _ _ | exact Pur.pf)⟩ | rfl)))
          · refine ⟨by dsimp only; omega, by dsimp only; rw [hsu, adW_new hlz], by dsimp only; rw [todoW_add hql, hT2, Int.toNat_of_nonneg hz.1], by dsimp only; rw [List.length_append]; simp; omega⟩
          · dsimp only; omega
        · repeat' (first | (apply id_rw; first | (apply rx_move;rfl;rfl) | (first | (apply rx_loadF0; (case hx | hH => rfl); (case hf | hg | hα => infer_instance); (case hk => omega); (case hc | hN => rfl)) | (apply rx_load1;rfl;rfl;rfl;rfl)) | (first | (apply rx_add;rfl;rfl;omega;rfl) | (apply rx_bin;rfl;rfl;rfl;rfl)) | (apply rx_assign;rfl;rfl) | (first | (apply rx_indexFN; (case hx | hi => rfl); (case hm => (assumption)); (case hml => (rfl)); (case hα | hf | hg => infer_instance); (case hN => rfl)) | (apply rx_indexO;rfl;rfl;(assumption);rfl)) | (apply rw_nil;kernel_rfl)) | (apply id_aw; first | apply aw_seq | apply aw_region | (apply aw_cond;rfl;all_goals intro hc;have hq:=hc;(try simp only [bqs] at hq);try exfalso;omega) | apply aw_block | apply aw_skip) | with_reducible apply tq_normal | with_reducible apply bq_normal)
          (apply ex3 (k + 1, E2, T2, m2); focus (refine Le.ren [(0, 0), (2, 2)] rfl (by decide) ?_ ?_ <;> repeat' (first | exact trivial | refine And.intro ⟨_, rfl, ?_⟩ ?_ | refine And.intro ⟨_, _, rfl, rfl, ?_⟩ ?_ | exact Or.inr rfl | refine Or.inl ⟨?_, (by first | rfl | exact pur_sl _ _ | exact Pur.pf)⟩ | rfl)))
          · refine ⟨by dsimp only; omega, by dsimp only; rw [hsu, adW_old (by omega)], hT2, hm2⟩
          · dsimp only; omega
      · repeat' (first | (apply id_rw; first | (apply rx_bin;rfl;rfl;rfl;rfl) | (apply rw_nil;kernel_rfl)) | (apply id_aw; first | apply aw_seq | apply aw_region | (apply aw_cond;rfl;all_goals intro hc;have hq:=hc;(try simp only [bqs] at hq);try exfalso;omega) | apply aw_exit) | with_reducible apply tq_normal | with_reducible apply tq_exit | with_reducible apply bq_normal | with_reducible apply bq_here)
        have hkl : k = pts[a]!.next.length := by omega
        rw [hkl, List.take_length] at hE2
        have hpre : E <+: E2 := by rw [hE2]; exact adsW_pre _ _ _
        have hple := hpre.length_le
        rw [quW_len] at hlt
        (apply ex3 (h + 1, E2, T2, m2); focus (refine Le.ren [(0, 0), (1, 2)] rfl (by decide) ?_ ?_ <;> repeat' (first | exact trivial | refine And.intro ⟨_, rfl, ?_⟩ ?_ | refine And.intro ⟨_, _, rfl, rfl, ?_⟩ ?_ | exact Or.inr rfl | refine Or.inl ⟨?_, (by first | rfl | exact pur_sl _ _ | exact Pur.pf)⟩ | rfl)))
        · refine ⟨?_, hT2, hm2, by dsimp only; omega, fun hl => ?_⟩
          · dsimp only; rw [hE2, bfW, ← hE, if_pos (by rw [quW_len]; exact hlt), ← ha]
          · dsimp only at hl ⊢
            have : E.length ≠ E2.length := fun e => by
              have := hpre.eq_of_length e
              rw [this] at hlk; omega
            omega
        · dsimp only; omega
    · have hT0 : T = [] := List.eq_nil_of_length_eq_zero (by omega)
      have hee : E = enW pts f := by
        rw [hE]; exact bfW_end w.nx hf (by rw [← hE]; rw [hT] at hT0; exact todoW_nil.1 hT0)
      have hm0 : m = 0 := by omega
      repeat' (first | (apply id_rw; first | (apply rx_move;rfl;rfl) | (apply rx_loadF0; (case hx | hH => rfl); (case hf | hg | hα => infer_instance); (case hk => omega); (case hc | hN => rfl)) | (first | (apply rx_guardNs;rfl;rfl;rfl;(assumption)) | (apply rx_guardS; (case hj | hb | hN => rfl); all_goals (intro hg; have hq := hg; (try simp only [bqs] at hq); (try (exfalso; omega))))) | (apply rx_bin;rfl;rfl;rfl;rfl) | (apply rx_assign;rfl;rfl) | (apply rx_pickF;rfl;(assumption);rfl;rfl) | (apply rx_indexON;rfl;rfl;(assumption);rfl) | (apply rx_len;rfl;rfl;rfl) | (apply rw_nil;kernel_rfl)) | (apply id_aw; first | apply aw_seq | apply aw_region | (apply aw_condF;rfl;(rfl)) | (apply aw_cond;rfl;all_goals intro hc;have hq:=hc;(try simp only [bqs] at hq);try exfalso;omega) | apply aw_exit | apply aw_ret) | with_reducible apply tq_normal | with_reducible apply tq_ret | with_reducible apply tq_exit | with_reducible apply bq_here)
      (refine rq_le (Le.nilImm (d := 6) rfl) ?_; refine rq_ret rfl ?_)
      refine ⟨?_, (by (rfl))⟩
      have e1 : wyW pts f t = [] := by unfold wyW; rw [← hee, if_neg (by omega)]
      rw [e1, ← hee, decide_eq_false (by omega)]
      rfl
    · have hm1 := hmt (by omega)
      repeat' (first | (apply id_rw; first | (apply rx_move;rfl;rfl) | (apply rx_loadF0; (case hx | hH => rfl); (case hf | hg | hα => infer_instance); (case hk => omega); (case hc | hN => rfl)) | (first | (apply rx_guardY;rfl;rfl;rfl;(assumption)) | (apply rx_guardS; (case hj | hb | hN => rfl); all_goals (intro hg; have hq := hg; (try simp only [bqs] at hq); (try (exfalso; omega))))) | (apply rx_bin;rfl;rfl;rfl;rfl) | (apply rx_assign;rfl;rfl) | (apply rx_pickT;rfl;(assumption);rfl;rfl) | (apply rx_indexON;rfl;rfl;(assumption);rfl) | (apply rx_len;rfl;rfl;rfl) | (apply rw_nil;kernel_rfl) | (apply rx_buildSlice;rfl;rfl;rfl;exact (rfl:_=some [_]);rfl;rfl)) | (apply id_aw; first | apply aw_seq | apply aw_region | (apply aw_condF;rfl;(assumption)) | (apply aw_cond;rfl;all_goals intro hc;have hq:=hc;(try simp only [bqs] at hq);try exfalso;omega) | apply aw_block | apply aw_skip | apply aw_exit) | with_reducible apply tq_normal | with_reducible apply tq_exit | with_reducible apply bq_here)
      have hwt : pts.length ≤ 61 := hpl
      have hlk0 : 0 ≤ lkW E t := by omega
      have hpre : E <+: enW pts f := by rw [hE]; exact bfW_enW (h := h) (by omega)
      obtain ⟨_, a0, R0, hx0, hcs0⟩ := CS.start w.nx hf hpre hlk0
      have hen : lkW (enW pts f) t = lkW E t := (chW_pre (f := f) hpre (hbe _).nd (lkW_some.1 hlk0)).2
      have hbt0 : (bkW pts.length E)[t]! = (a0 : Int) := by rw [hbt, hx0]
      rw [hbt0]
      refine aw_loopK (σ := Nat × List (Nat × Nat) × List Int × Nat) [1, 8] [(1, _), (8, _)] [0] [(0, some _)] (fun s => [(15, iv (s.1 : Int)), (14, .own 2 0 s.2.2.2 1)]) (fun s => [(2, some (flat cI s.2.2.1))]) (fun s => CS pts f t E s.1 s.2.1 s.2.2.1.reverse ∧ s.2.2.2 = s.2.2.1.length) (fun s => s.2.1.length) (a0, R0, [(t : Int)], 1) ⟨hcs0, rfl⟩ rfl rfl (by repeat' (first | exact trivial | refine And.intro rfl ?_)) (by repeat' (first | exact trivial | refine And.intro (.inr rfl) ?_)) ?_
      rintro ⟨x, R, u, m3⟩ ⟨hcs, hm3⟩
      dsimp only at hcs hm3
      try dsimp only
      have hcl := hcs.len
      rw [List.length_reverse] at hcl
      have hxl := hcs.xl
      have hbx : (bkW pts.length E)[x]! = lkW E x := bkW_get hxl
      by_cases hxf : x = f
      · have hcs2 := hcs
        rw [hxf] at hcs2
        have hfin := hcs2.fin
        repeat' (first | (apply id_rw; first | (apply rx_move;rfl;rfl) | (apply rx_bin;rfl;rfl;rfl;rfl) | (apply rx_assign;rfl;rfl) | (apply rx_rev;rfl;(rfl);(apply rev_c <;> (simp only [lns] <;> omega));rfl;rfl) | (apply rx_append;rfl;rfl;rfl;rfl;rfl;(rw [flat_length]; omega);(rfl);omega;omega;(exact app_int (by (assumption)));rfl;rfl) | (apply rw_nil;kernel_rfl) | ((apply rx_buildSliceI (t := _)); (case hze | hsm | hl => rfl); (case hfl => exact (rfl:_=some [_])); (case hM | hN => rfl))) | (apply id_aw; first | apply aw_seq | apply aw_region | (apply aw_cond;rfl;all_goals intro hc;have hq:=hc;(try simp only [bqs] at hq);try exfalso;omega) | apply aw_block | apply aw_exit | apply aw_ret) | with_reducible apply tq_normal | with_reducible apply tq_exit | with_reducible apply bq_here | ((with_reducible apply bq_out); (case hij => decide)))
        refine rq_le (Le.frzD (d := 6) (i := 4) rfl rfl) ?_
        refine rq_ret rfl ⟨?_, (by (exact Pur.pf))⟩
        rw [hfin, hen, decide_eq_true hlk0, List.reverse_append, hxf, hm3]
        simp [oneOf, sl]
      · obtain ⟨a, R', h1, h2, h3⟩ := hcs.step w.nx hf I hxf
        rw [h1] at hbx
        repeat' (first | (apply id_rw; first | (apply rx_move;rfl;rfl) | (apply rx_loadF0; (case hx | hH => rfl); (case hf | hg | hα => infer_instance); (case hk => omega); (case hc | hN => rfl)) | (apply rx_bin;rfl;rfl;rfl;rfl) | (apply rx_assign;rfl;rfl) | (apply rx_indexON;rfl;rfl;(assumption);rfl) | (apply rx_append;rfl;rfl;rfl;rfl;rfl;(rw [flat_length]; omega);(rfl);omega;omega;(exact app_int (by (assumption)));rfl;rfl) | (apply rw_nil;kernel_rfl) | ((apply rx_buildSliceI (t := _)); (case hze | hsm | hl => rfl); (case hfl => exact (rfl:_=some [_])); (case hM | hN => rfl))) | (apply id_aw; first | apply aw_seq | apply aw_region | (apply aw_cond;rfl;all_goals intro hc;have hq:=hc;(try simp only [bqs] at hq);try exfalso;omega) | apply aw_block | apply aw_skip) | with_reducible apply tq_normal | with_reducible apply bq_normal)
        rw [hbx]
        (apply ex3 (a, R', _, _); focus (refine Le.ren [(0, 0), (2, 4)] rfl (by decide) ?_ ?_ <;> repeat' (first | exact trivial | refine And.intro ⟨_, rfl, ?_⟩ ?_ | refine And.intro ⟨_, _, rfl, rfl, ?_⟩ ?_ | exact Or.inr rfl | refine Or.inl ⟨?_, (by first | rfl | exact pur_sl _ _)⟩ | rfl)))
        · exact ⟨by dsimp only; rw [List.reverse_append]; exact h2, by dsimp only; rw [List.length_append, hm3]; rfl⟩
        · dsimp only; omega
end Go.Proofs.YtejkbiijonnefaaGreat

namespace Go.Proofs.YtejkbiijonnefaaGreat
open Go.AL Go.RowKit

theorem useAfter_c (ts : List Int) (bd : List AL.Stmt) (pts : List Pnt) (f : Flows ts pts) (w : WG ts pts) (a l : Nat) (ha : a < pts.length) (hl : l < pts.length) :
    PC Tryz.prog 95 [aG ts bd pts, iv (a : Int), iv (l : Int)] (fun r => r = .tup [iv (bsW (wyW pts a) (useW ts pts f.Af l) pts.length).1, bv (decide (0 ≤ (bsW (wyW pts a) (useW ts pts f.Af l) pts.length).1))]) := by
  have hpl := w.pl
  have htl := w.tl
  have b := f.bnd w
  have hli := loansIn_c ts bd pts f.Af w f.gf
  (refine pc_of_aw Tryz.func95 rfl (by simp [Tryz.ntmps95]) ?_; rw [Tryz.ntmps95])
  repeat' (first | (apply id_rw; first | ((with_reducible apply rx_callE (k := 69)); (case ha => rfl); (case h => exact hli); (case hp => (exact Pur.pf)); (case hN => rfl)) | (apply rx_move;rfl;rfl) | (apply rx_load1;rfl;rfl;rfl;rfl) | (apply rx_fieldAddr;rfl;rfl;rfl) | (apply rx_assign;rfl;rfl) | (apply rx_len;rfl;rfl;rfl) | (apply rw_nil;kernel_rfl) | (apply rx_nil;rfl;rfl;rfl) | (apply rx_box;rfl;rfl;rfl;rfl) | (apply rx_alloc;rfl;rfl) | (apply rx_store;rfl;rfl;rfl;rfl;rfl;(case hl => (simp;done));(exact (rfl:_=[_])))) | (apply id_aw; first | apply aw_seq | apply aw_region | apply aw_block) | with_reducible apply tq_normal)
  refine AW.le ?_ (Le.frzP (d := 5) (i := 0) rfl rfl)
  refine AW.le ?_ (Le.frzP (d := 8) (i := 1) rfl rfl)
  refine aw_loopK (σ := Nat × Int × Nat) [0, 1, 5, 8, 21, 22] [(0, _), (1, _), (5, _), (8, _), (21, _), (22, _)] [] [] (fun s => [(23, iv (s.1 : Int)), (9, iv s.2.1), (10, iv (s.2.2 : Int))]) (fun s => []) (fun s => s.1 ≤ pts.length ∧ s.2.1 = (bsW (wyW pts a) (useW ts pts f.Af l) s.1).1 ∧ s.2.2 = (bsW (wyW pts a) (useW ts pts f.Af l) s.1).2.length) (fun s => pts.length - s.1) (0, -1, 0) ⟨by omega, rfl, rfl⟩ rfl rfl (by repeat' (first | exact trivial | refine And.intro rfl ?_)) (by repeat' (exact trivial)) ?_
  rintro ⟨i, bi, li⟩ ⟨hi, hbi, hli2⟩
  dsimp only at hi hbi hli2
  try dsimp only
  by_cases hin : i < pts.length
  · have hus := used_c ts bd pts pts[i]! htl
    have hsm : Sm (wS ts pts[i]! [1, 2, 3]) := mkBits_sm (by omega)
    have hmem : ∀ v ∈ bitsI (wS ts pts[i]! [1, 2, 3]), 0 ≤ v ∧ v < 6 := fun v hv => by
      obtain ⟨v', h3, h4, rfl⟩ := mem_bitsI.1 hv
      rw [testBit_wS, Bool.and_eq_true, decide_eq_true_eq] at h4
      omega
    have hco := contU_c (bitsI (wS ts pts[i]! [1, 2, 3])) pts.length f.Af (i : Int) (l : Int) (by unfold bitsI; rw [List.length_map]; exact Nat.le_trans (List.length_filter_le _ _) (by simp)) hmem f.gf.1 (by omega) (by omega) (b.rs i hin)
    have hU : (bitsI (wS ts pts[i]! [1, 2, 3])).any (u1 f.Af (i : Int) (l : Int)) = useW ts pts f.Af l i := useW_any ts pts f.Af l i htl
    rw [hU] at hco
    have hsw := shortWay_c ts bd pts a i w ha hin
    have hwl := wyW_len (x := i) w.nx ha
    rw [← cN'_len] at hwl
    repeat' (first | (apply id_rw; first | ((apply rx_makeFuncFrzN 11); (case hx | hH | hc | hN => rfl)) | ((with_reducible apply rx_callE (k := 159)); (case ha => rfl); (case h => exact hco); (case hp => (exact Pur.pf)); (case hN => rfl)) | ((with_reducible apply rx_callE (k := 103)); (case ha => rfl); (case h => exact hsw); (case hp => (exact Pur.pf)); (case hN => rfl)) | (apply rx_move;rfl;rfl) | (first | (apply rx_load1;rfl;rfl;rfl;rfl) | (apply rx_loadA;rfl;rfl;(exact (rfl:_=[_, _, _, _, _]));rfl;rfl;rfl)) | (first | (apply rx_guardU;rfl;rfl;rfl) | (apply rx_guardY;rfl;rfl;rfl;(assumption)) | (apply rx_guardNs;rfl;rfl;rfl;(assumption)) | (apply rx_guardS; (case hj | hb | hN => rfl); all_goals (intro hg; have hq := hg; (try simp only [bqs] at hq); (try (exfalso; omega))))) | (first | (apply rx_add;rfl;rfl;omega;rfl) | (apply rx_bin;rfl;rfl;rfl;rfl)) | (apply rx_assign;rfl;rfl) | (first | (apply rx_pickT;rfl;(assumption);rfl;rfl) | (apply rx_pickF;rfl;(assumption);rfl;rfl)) | (apply rx_indexFN; (case hx | hi => rfl); (case hm => (assumption)); (case hml => (rfl)); (case hα | hf | hg => infer_instance); (case hN => rfl)) | (first | ((with_reducible apply rx_callE (k := 88)); (case ha => rfl); (case h => (apply bits_c <;> (assumption))); (case hp => (rfl)); (case hN => rfl)) | ((with_reducible apply rx_callE (k := 138)); (case ha => rfl); (case h => (apply used_c <;> (assumption))); (case hp => (exact Pur.pf)); (case hN => rfl))) | (apply rx_len;rfl;rfl;rfl) | (apply rw_nil;kernel_rfl) | (apply rx_not;rfl;rfl) | (apply rx_alloc;rfl;rfl) | (apply rx_extract;rfl;rfl;rfl) | (apply rx_store;rfl;rfl;rfl;rfl;rfl;(case hl => (simp;done));(first | exact (rfl:_=[_]) | exact (rfl:_=[_, _, _, _, _])))) | (apply id_aw; first | apply aw_seq | apply aw_region | (apply aw_condT;rfl;(rfl)) | (apply aw_condF;rfl;(rfl)) | (apply aw_cond;rfl;all_goals intro hc;have hq:=hc;(try simp only [bqs] at hq);try exfalso;omega) | apply aw_block | apply aw_skip | apply aw_exit) | with_reducible apply tq_normal | with_reducible apply tq_exit | with_reducible apply bq_normal | with_reducible apply bq_here)
    · have hb := bsW_no (W := wyW pts a) (U := useW ts pts f.Af l) (i := i) (.inl (by assumption))
      (apply ex3 (i + 1, bi, li); focus (refine Le.ren [] rfl (by decide) ?_ ?_ <;> repeat' (first | exact trivial | refine And.intro ⟨_, rfl, ?_⟩ ?_ | refine Or.inl ⟨?_, (by first | rfl | exact pur_sl _ _ | exact Pur.pf)⟩ | rfl)))
      · exact ⟨by dsimp only; omega, by dsimp only; rw [hb, hbi], by dsimp only; rw [hb, hli2]⟩
      · dsimp only; omega
    · have hu : useW ts pts f.Af l i = true := by assumption
      have hW := wyW_pos w.nx ha (by assumption : 0 ≤ lkW (enW pts a) i)
      have hb := bsW_new (W := wyW pts a) (U := useW ts pts f.Af l) hu hW (by rw [cN'_len] at *; omega)
      (apply ex3 (i + 1, _, _); focus (refine Le.ren [] rfl (by decide) ?_ ?_ <;> repeat' (first | exact trivial | refine And.intro ⟨_, rfl, ?_⟩ ?_ | refine Or.inl ⟨?_, (by first | rfl | exact pur_sl _ _ | exact Pur.pf)⟩ | rfl)))
      · exact ⟨by dsimp only; omega, by dsimp only; rw [hb], by dsimp only; rw [hb, cN'_len]⟩
      · dsimp only; omega
    · have hb := bsW_old (W := wyW pts a) (U := useW ts pts f.Af l) (i := i) (by omega) (by rw [cN'_len] at *; omega)
      (apply ex3 (i + 1, bi, li); focus (refine Le.ren [] rfl (by decide) ?_ ?_ <;> repeat' (first | exact trivial | refine And.intro ⟨_, rfl, ?_⟩ ?_ | refine Or.inl ⟨?_, (by first | rfl | exact pur_sl _ _ | exact Pur.pf)⟩ | rfl)))
      · exact ⟨by dsimp only; omega, by dsimp only; rw [hb, hbi], by dsimp only; rw [hb, hli2]⟩
      · dsimp only; omega
    · have hu : useW ts pts f.Af l i = true := by assumption
      have hW := wyW_pos w.nx ha (by assumption : 0 ≤ lkW (enW pts a) i)
      have hb := bsW_new (W := wyW pts a) (U := useW ts pts f.Af l) hu hW (by rw [cN'_len] at *; omega)
      (apply ex3 (i + 1, _, _); focus (refine Le.ren [] rfl (by decide) ?_ ?_ <;> repeat' (first | exact trivial | refine And.intro ⟨_, rfl, ?_⟩ ?_ | refine Or.inl ⟨?_, (by first | rfl | exact pur_sl _ _ | exact Pur.pf)⟩ | rfl)))
      · exact ⟨by dsimp only; omega, by dsimp only; rw [hb], by dsimp only; rw [hb, cN'_len]⟩
      · dsimp only; omega
    · have hb := bsW_no (W := wyW pts a) (U := useW ts pts f.Af l) (i := i) (.inr (wyW_neg (by assumption)))
      (apply ex3 (i + 1, bi, li); focus (refine Le.ren [] rfl (by decide) ?_ ?_ <;> repeat' (first | exact trivial | refine And.intro ⟨_, rfl, ?_⟩ ?_ | refine Or.inl ⟨?_, (by first | rfl | exact pur_sl _ _ | exact Pur.pf)⟩ | rfl)))
      · exact ⟨by dsimp only; omega, by dsimp only; rw [hb, hbi], by dsimp only; rw [hb, hli2]⟩
      · dsimp only; omega
  · repeat' (first | (apply id_rw; first | (apply rx_move;rfl;rfl) | (apply rx_bin;rfl;rfl;rfl;rfl) | (apply rx_assign;rfl;rfl) | (apply rw_nil;kernel_rfl)) | (apply id_aw; first | apply aw_seq | apply aw_region | (apply aw_cond;rfl;all_goals intro hc;have hq:=hc;(try simp only [bqs] at hq);try exfalso;omega) | apply aw_exit | apply aw_ret) | with_reducible apply tq_normal | with_reducible apply tq_exit | with_reducible apply bq_here)
    refine rq_ret rfl ⟨?_, rfl⟩
    rw [show pts.length = i by omega, ← hbi]; rfl
theorem UseAfterY_c (p : Prg) (a l : Nat) (f : Flows p.types (ptsF p)) (hl : p.types.length ≤ 1000000) (hs : cntL p.body ≤ 1000000) (hv : validF p = true) (ha : a < (ptsF p).length) (hll : l < (ptsF p).length) :
    PC Tryz.prog 38 [aPrg p, iv (a : Int), iv (l : Int)] (fun r => r = if 0 ≤ (bsW (wyW (ptsF p) a) (useW p.types (ptsF p) f.Af l) (ptsF p).length).1 then .tup [iv (bsW (wyW (ptsF p) a) (useW p.types (ptsF p) f.Af l) (ptsF p).length).1, bv true] else .tup [iv 0, bv false]) := by
  have hg := graphOfL_c p [(a : Int), (l : Int)] hl hs (by simp)
  rw [if_pos ⟨hv, fun j hj => by
    obtain rfl | rfl : j = 0 ∨ j = 1 := by simp at hj; omega
    · exact ⟨by simp, by simpa using ha⟩
    · exact ⟨by simp, by simpa using hll⟩⟩] at hg
  have hu := useAfter_c p.types p.body (ptsF p) f (WG.of_valid hv) a l ha hll
  (refine pc_of_aw Tryz.func38 rfl (by simp [Tryz.ntmps38]) ?_; rw [Tryz.ntmps38])
  repeat' (first | (apply id_rw; first | ((with_reducible apply rx_callE (k := 62)); (case ha => rfl); (case h => exact hg); (case hp => (exact Pur.pf)); (case hN => rfl)) | ((with_reducible apply rx_callE (k := 95)); (case ha => rfl); (case h => exact hu); (case hp => (exact Pur.pf)); (case hN => rfl)) | (apply rx_move;rfl;rfl) | (apply rx_loadA;rfl;rfl;(exact (rfl:_=[_, _]));rfl;rfl;rfl) | (apply rx_assign;rfl;rfl) | (apply rw_nil;kernel_rfl) | (apply rx_not;rfl;rfl) | (apply rx_box;rfl;rfl;rfl;rfl) | (apply rx_extract;rfl;rfl;rfl) | ((apply rx_buildSliceI (t := _)); (case hze | hsm | hl => rfl); (case hfl => (exact (rfl:_=some [_, _]))); (case hM | hN => rfl))) | (apply id_aw; first | apply aw_seq | apply aw_region | (apply aw_condF;rfl;(rfl)) | (apply aw_cond;rfl;all_goals intro hc;have hq:=hc;(try simp only [bqs] at hq);try exfalso;omega) | apply aw_skip | apply aw_ret) | with_reducible apply tq_normal | with_reducible apply tq_ret)
  · exact rq_ret rfl ⟨by rw [if_neg (by omega)]; rfl, rfl⟩
  · exact rq_ret rfl ⟨by rw [if_pos (by omega)]; rfl, rfl⟩
end Go.Proofs.YtejkbiijonnefaaGreat

namespace Go.Proofs.YtejkbiijonnefaaGreat
open Go.AL Go.RowKit

end Go.Proofs.YtejkbiijonnefaaGreat

namespace Go.Proofs.YtejkbiijonnefaaGreat
open Go.AL Go.RowKit

theorem l13Back_c (ts : List Int) (pts : List Pnt) (f t : Nat) (E : List (Nat × Nat)) (w : WG ts pts) (hf : f < pts.length) (ht : t < pts.length) (hE : E <+: enW pts f) (hlk : 0 ≤ lkW E t) :
    PC Tryz.prog 161 [sl cI (bkW pts.length E), iv (f : Int), iv (t : Int)] (fun r => r = sl cI (cN' (wyW pts f t))) := by
  have hpl := w.pl
  have hbl := bkW_len pts.length E
  have hbt : (bkW pts.length E)[t]! = lkW E t := bkW_get ht
  obtain ⟨I, a0, R0, hx0, hcs0⟩ := CS.start w.nx hf hE hlk
  have hle := I.le w.nx
  rw [hx0] at hbt
  (refine pc_of_aw Tryz.func161 rfl (by simp [Tryz.ntmps161]) ?_; rw [Tryz.ntmps161])
  repeat' (first | (apply id_rw; first | (apply rx_move;rfl;rfl) | (apply rx_load1;rfl;rfl;rfl;rfl) | (apply rx_assign;rfl;rfl) | (apply rx_indexFN; (case hx | hi => rfl); (case hm => (omega)); (case hml => (rfl)); (case hα | hf | hg => infer_instance); (case hN => rfl)) | (apply rw_nil;kernel_rfl) | (apply rx_buildSlice;rfl;rfl;rfl;exact (rfl:_=some [_]);rfl;rfl)) | (apply id_aw; first | apply aw_seq | apply aw_region | apply aw_block) | with_reducible apply tq_normal)
  rw [hbt]
  refine aw_loopK (σ := Nat × List (Nat × Nat) × List Int × Nat) [0, 1] [(0, _), (1, _)] [] [] (fun s => [(8, iv (s.1 : Int)), (7, .own 0 0 s.2.2.2 1)]) (fun s => [(0, some (flat cI s.2.2.1))]) (fun s => CS pts f t E s.1 s.2.1 s.2.2.1 ∧ s.2.2.2 = s.2.2.1.length) (fun s => s.2.1.length) (a0, R0, [(t : Int)], 1) ⟨hcs0, rfl⟩ rfl rfl (by repeat' (first | exact trivial | refine And.intro rfl ?_)) (by repeat' (first | exact trivial | refine And.intro (.inr rfl) ?_)) ?_
  rintro ⟨x, R, u, m⟩ ⟨hcs, hm⟩
  dsimp only at hcs hm
  try dsimp only
  have hcl := hcs.len
  have hxl := hcs.xl
  have hbx : (bkW pts.length E)[x]! = lkW E x := bkW_get hxl
  by_cases hxf : x = f
  · have hcs2 := hcs
    rw [hxf] at hcs2
    have hfin := hcs2.fin
    repeat' (first | (apply id_rw; first | (apply rx_append;rfl;rfl;rfl;rfl;rfl;exact Nat.le_refl _;exact sC_own rfl hm;omega;omega;exact (rfl:_=flat cI (_ :: u));rfl;rfl) | (apply rx_move;rfl;rfl) | (apply rx_bin;rfl;rfl;rfl;rfl) | (apply rx_assign;rfl;rfl) | (apply rw_nil;kernel_rfl) | (apply rx_buildSlice;rfl;rfl;rfl;exact (rfl:_=some [_]);rfl;rfl)) | (apply id_aw; first | apply aw_seq | apply aw_region | (apply aw_cond;rfl;all_goals intro hc;have hq:=hc;(try simp only [bqs] at hq);try exfalso;omega) | apply aw_exit | apply aw_ret) | with_reducible apply tq_normal | with_reducible apply tq_exit | with_reducible apply bq_here)
    refine rq_le (Le.frzD (d := 6) (i := 2) rfl rfl) ?_
    refine rq_ret rfl ⟨?_, (by (exact pur_sl _ _))⟩
    rw [hfin, hm, Nat.add_comm]
    rfl
  · obtain ⟨a, R', h1, h2, h3⟩ := hcs.step w.nx hf I hxf
    rw [h1] at hbx
    repeat' (first | (apply id_rw; first | (apply rx_append;rfl;rfl;rfl;rfl;rfl;exact Nat.le_refl _;exact sC_own rfl hm;omega;omega;exact (rfl:_=flat cI (_ :: u));rfl;rfl) | (apply rx_move;rfl;rfl) | (apply rx_load1;rfl;rfl;rfl;rfl) | (apply rx_bin;rfl;rfl;rfl;rfl) | (apply rx_assign;rfl;rfl) | (apply rx_indexFN; (case hx | hi => rfl); (case hm => (omega)); (case hml => (rfl)); (case hα | hf | hg => infer_instance); (case hN => rfl)) | (apply rw_nil;kernel_rfl) | (apply rx_buildSlice;rfl;rfl;rfl;exact (rfl:_=some [_]);rfl;rfl)) | (apply id_aw; first | apply aw_seq | apply aw_region | (apply aw_cond;rfl;all_goals intro hc;have hq:=hc;(try simp only [bqs] at hq);try exfalso;omega) | apply aw_block | apply aw_skip) | with_reducible apply tq_normal | with_reducible apply bq_normal)
    rw [hbx]
    (apply ex3 (a, R', _, _); focus (refine Le.ren [(0, 2)] rfl (by decide) ?_ ?_ <;> repeat' (first | exact trivial | refine And.intro ⟨_, rfl, ?_⟩ ?_ | refine And.intro ⟨_, _, rfl, rfl, ?_⟩ ?_ | exact Or.inr rfl | refine Or.inl ⟨?_, (by first | rfl | exact pur_sl _ _)⟩ | rfl)))
    · exact ⟨h2, by dsimp only; rw [List.length_cons]; omega⟩
    · dsimp only; omega
end Go.Proofs.YtejkbiijonnefaaGreat

namespace Go.Proofs.YtejkbiijonnefaaGreat
open Go.AL Go.RowKit

theorem l13Way_c (ts : List Int) (pts : List Pnt) (f t : Nat) (w : WG ts pts) (hf : f < pts.length) (ht : t < pts.length) :
    PC Tryz.prog 98 [sl cPnt pts, iv (f : Int), iv (t : Int)] (fun r => r = .tup [sl cI (cN' (wyW pts f t)), bv (decide (0 ≤ lkW (enW pts f) t))]) := by
  have hpl := w.pl
  have hbe : ∀ h, BI pts f (bfW pts f h) := bfW_I w.nx hf
  (refine pc_of_aw Tryz.func98 rfl (by simp [Tryz.ntmps98]) ?_; rw [Tryz.ntmps98])
  repeat' (first | (apply id_rw; first | (apply rx_move;rfl;rfl) | (apply rx_assign;rfl;rfl) | (apply rx_len;rfl;rfl;rfl) | (apply rw_nil;kernel_rfl) | (apply rx_makeSliceE;rfl;rfl;rfl;omega;omega;(exact mk_nat);rfl;rfl)) | (apply id_aw; first | apply aw_seq | apply aw_region | apply aw_block) | with_reducible apply tq_normal)
  rw [repNI]
  refine aw_loopK (σ := Nat × List Int) [0, 1, 2, 8] [(0, _), (1, _), (2, _), (8, _)] [] [] (fun k => [(9, iv (k.1 : Int))]) (fun k => [(0, some (flat cI k.2))]) (fun k => k.1 ≤ pts.length ∧ k.2.length = pts.length ∧ (∀ l, l < k.1 → k.2[l]! = -1)) (fun k => pts.length - k.1) (0, List.replicate pts.length 0) ⟨by omega, by simp, by omega⟩ rfl rfl (by repeat' (first | exact trivial | refine And.intro rfl ?_)) (by repeat' (first | exact trivial | refine And.intro (.inr rfl) ?_)) ?_
  rintro ⟨k, u⟩ ⟨hk, hul, hu⟩
  dsimp only at hk hul hu
  try dsimp only
  by_cases hkn : k < pts.length
  · repeat' (first | (apply id_rw; first | (apply rx_move;rfl;rfl) | (first | (apply rx_add;rfl;rfl;omega;rfl) | (apply rx_bin;rfl;rfl;rfl;rfl)) | (apply rx_assign;rfl;rfl) | (apply rx_indexON;rfl;rfl;(assumption);rfl) | (apply rx_len;rfl;rfl;rfl) | (apply rw_nil;kernel_rfl) | (apply rx_store;rfl;rfl;rfl;rfl;rfl;(rw [flat_length]; simp only [lns] <;> omega);(exact st_int (by (omega))))) | (apply id_aw; first | apply aw_seq | apply aw_region | (apply aw_cond;rfl;all_goals intro hc;have hq:=hc;(try simp only [bqs] at hq);try exfalso;omega) | apply aw_block | apply aw_skip) | with_reducible apply tq_normal | with_reducible apply bq_normal)
    (apply ex3 (k + 1, _); focus (refine Le.ren [(0, 0)] rfl (by decide) ?_ ?_ <;> repeat' (first | exact trivial | refine And.intro ⟨_, rfl, ?_⟩ ?_ | refine And.intro ⟨_, _, rfl, rfl, ?_⟩ ?_ | exact Or.inr rfl | refine Or.inl ⟨?_, (by first | rfl | exact pur_sl _ _)⟩ | rfl)))
    · refine ⟨by omega, by dsimp only; rw [List.length_set]; exact hul, fun l hl => ?_⟩
      dsimp only at hl ⊢
      rw [set_get]
      by_cases e : k = l
      · rw [if_pos ⟨e, by omega⟩]
      · rw [if_neg (by omega)]; exact hu l (by omega)
    · dsimp only; omega
  · repeat' (first | (apply id_rw; first | (apply rx_move;rfl;rfl) | (apply rx_bin;rfl;rfl;rfl;rfl) | (apply rx_assign;rfl;rfl) | (apply rx_len;rfl;rfl;rfl) | (apply rw_nil;kernel_rfl) | (apply rx_buildSlice;rfl;rfl;rfl;exact (rfl:_=some [_]);rfl;rfl)) | (apply id_aw; first | apply aw_seq | apply aw_region | (apply aw_cond;rfl;all_goals intro hc;have hq:=hc;(try simp only [bqs] at hq);try exfalso;omega) | apply aw_block | apply aw_exit) | with_reducible apply tq_normal | with_reducible apply tq_exit | with_reducible apply bq_here)
    have hbk0 : u = bkW pts.length [] := ext_get (by rw [bkW_len, hul]) fun l hl => by rw [hu l (by omega), bkW_get (by omega)]; rfl
    subst hbk0
    refine aw_loopK (σ := Nat × List (Nat × Nat) × List Int × Nat) [0, 1, 2, 8] [(0, _), (1, _), (2, _), (8, _)] [] [] (fun s => [(10, .own 1 0 s.2.2.2 1)]) (fun s => [(0, some (flat cI (bkW pts.length s.2.1))), (1, some (flat cI s.2.2.1))]) (fun s => s.2.1 = bfW pts f s.1 ∧ s.2.2.1 = todoW f s.2.1 s.1 ∧ s.2.2.2 = s.2.2.1.length ∧ s.1 ≤ s.2.1.length + 1 ∧ lkW s.2.1 t < 0) (fun s => pts.length + 1 - s.1) (0, [], [(f : Int)], 1) ⟨rfl, rfl, rfl, by dsimp only; omega, (by show (-1 : Int) < 0; decide)⟩ rfl rfl (by repeat' (first | exact trivial | refine And.intro rfl ?_)) (by repeat' (first | exact trivial | refine And.intro (.inr rfl) ?_)) ?_
    rintro ⟨h, E, T, m⟩ ⟨hE, hT, hm, hh, hlk⟩
    dsimp only at hE hT hm hh hlk
    try dsimp only
    have I := hbe h
    rw [← hE] at I
    have hle := I.le w.nx
    have hbl := bkW_len pts.length E
    by_cases hgo : 0 < T.length
    · have hlt : h < (quW f E).length := by
        have := todoW_len f E h; rw [quW_len]; rw [← hT] at this; omega
      have hcons := todoW_cons hlt
      have hqo := quW_of hlt
      obtain ⟨a, ha⟩ : ∃ a, a = (quW f E)[h]! := ⟨_, rfl⟩
      rw [← ha] at hcons hqo
      have hal : a < pts.length := by
        rcases hqo with e | e
        · rw [e]; exact hf
        · obtain ⟨x, hx, e⟩ := List.mem_map.1 e; rw [← e]; exact (hle.2 x hx).1
      have hbs : bfW pts f (h + 1) = adsW E a pts[a]!.next := by rw [hE] at hlt ha ⊢; exact bfW_step hlt ha
      rw [hcons] at hT
      subst hT
      simp only [List.length_cons] at hm
      repeat' (first | (apply id_rw; first | (with_reducible apply rw_stop (d := 10)) | (apply rx_sliceOw;rfl;rfl;omega;rfl) | (apply rx_move;rfl;rfl) | (apply rx_loadF0; (case hx | hH => rfl); (case hf | hg | hα => infer_instance); (case hk => omega); (case hc | hN => rfl)) | (apply rx_bin;rfl;rfl;rfl;rfl) | (apply rx_assign;rfl;rfl) | (apply rx_indexO;rfl;rfl;(omega);rfl) | (apply rx_len;rfl;rfl;rfl) | (apply rw_nil;kernel_rfl)) | (apply id_aw; first | apply aw_seq | apply aw_region | (apply aw_cond;rfl;all_goals intro hc;have hq:=hc;(try simp only [bqs] at hq);try exfalso;omega) | apply aw_block | apply aw_skip) | with_reducible apply tq_normal)
      refine rw_go (rw_le ?_ (Le.mvO (d := 35) (i := 1) rfl rfl (by simp [flat_length]) (by decide)))
      have hnl := w.nl a hal
      have hpop : todoW f E (h + 1) = todoW f (adsW E a (pts[a]!.next.take 0)) (h + 1) := rfl
      have hnk := w.nx a hal
      have hek : ∀ k, BI pts f (adsW E a (pts[a]!.next.take k)) := fun k => adsW_I _ _ I hqo (fun z hz => ⟨hal, by have := hnk z (List.mem_of_mem_take hz); rw [Int.toNat_of_nonneg this.1]; exact List.mem_of_mem_take hz⟩)
      repeat' (first | (apply id_rw; first | (apply rx_assign;rfl;rfl) | (apply rw_nil;kernel_rfl)) | (apply id_aw; first | apply aw_seq | apply aw_region | apply aw_block) | with_reducible apply tq_normal)
      refine aw_loopK (σ := Nat × List (Nat × Nat) × List Int × Nat) [0, 1, 2, 8] [(0, _), (1, _), (2, _), (8, _)] [] [] (fun s => [(12, iv (s.1 : Int)), (11, iv (a : Int)), (10, .own 2 0 s.2.2.2 1)]) (fun s => [(0, some (flat cI (bkW pts.length s.2.1))), (2, some (flat cI s.2.2.1))]) (fun s => s.1 ≤ pts[a]!.next.length ∧ s.2.1 = adsW E a (pts[a]!.next.take s.1) ∧ s.2.2.1 = todoW f s.2.1 (h + 1) ∧ s.2.2.2 = s.2.2.1.length ∧ lkW s.2.1 t < 0) (fun s => pts[a]!.next.length - s.1) (0, E, todoW f E (h + 1), m - 1) ⟨by omega, rfl, hpop, by dsimp only; omega, hlk⟩ rfl rfl (by repeat' (first | exact trivial | refine And.intro rfl ?_)) (by repeat' (first | exact trivial | refine And.intro (.inr rfl) ?_)) ?_
      rintro ⟨k, E2, T2, m2⟩ ⟨hk, hE2, hT2, hm2, hlk2⟩
      dsimp only at hk hE2 hT2 hm2 hlk2
      try dsimp only
      have I2 := hek k
      rw [← hE2] at I2
      have hle2 := I2.le w.nx
      have hbl2 := bkW_len pts.length E2
      have htl2 := todoW_len f E2 (h + 1)
      rw [← hT2] at htl2
      by_cases hkn : k < pts[a]!.next.length
      · have hz := hnk _ (getB_mem _ _ hkn)
        have hbz : (bkW pts.length E2)[(pts[a]!.next[k]!).toNat]! = lkW E2 (pts[a]!.next[k]!).toNat := bkW_get (by omega)
        have hsu := adsW_succ E a pts[a]!.next k hkn
        rw [← hE2] at hsu
        have hql : h + 1 ≤ (quW f E2).length := by
          have h1 := adsW_pre a (pts[a]!.next.take k) E
          rw [← hE2] at h1
          have := h1.length_le
          rw [quW_len] at hlt ⊢; omega
        by_cases hlz : lkW E2 (pts[a]!.next[k]!).toNat < 0
        · have hnew := adW_new (a := a) hlz
          by_cases hzt : pts[a]!.next[k]! = (t : Int)
          · have hE3 : E2 ++ [((pts[a]!.next[k]!).toNat, a)] <+: enW pts f := by
              rw [← hnew, ← hsu]
              exact (adsW_take _ _ _ _).trans (by rw [← hbs]; exact bfW_enW (h := h + 1) (by have := quW_len f E; omega))
            have hl3 : 0 ≤ lkW (E2 ++ [((pts[a]!.next[k]!).toNat, a)]) t := by
              rw [lkW_app hlz, if_pos (by omega)]; omega
            have hbk := l13Back_c ts pts f t _ w hf ht hE3 hl3
            have hl4 : 0 ≤ lkW (enW pts f) t := by rw [(chW_pre (f := f) hE3 (hbe _).nd (lkW_some.1 hl3)).2]; exact hl3
            rw [← bkW_set hlz (by omega), show sl cI ((bkW pts.length E2).set (pts[a]!.next[k]!).toNat (a : Int)) = AV.imm pts.length (flat cI ((bkW pts.length E2).set (pts[a]!.next[k]!).toNat (a : Int))) from by unfold sl; rw [List.length_set, bkW_len]] at hbk
            repeat' (first | (apply id_rw; first | (with_reducible apply rw_stop (d := 66)) | (apply rx_move;rfl;rfl) | (first | (apply rx_loadF0; (case hx | hH => rfl); (case hf | hg | hα => infer_instance); (case hk => omega); (case hc | hN => rfl)) | (apply rx_load1;rfl;rfl;rfl;rfl)) | (apply rx_fieldAddr;rfl;rfl;rfl) | (apply rx_bin;rfl;rfl;rfl;rfl) | (apply rx_assign;rfl;rfl) | (first | (apply rx_indexFN; (case hx | hi => rfl); (case hm => (assumption)); (case hml => (rfl)); (case hα | hf | hg => infer_instance); (case hN => rfl)) | (apply rx_indexO;rfl;rfl;(assumption);rfl)) | (apply rx_len;rfl;rfl;rfl) | (apply rw_nil;kernel_rfl) | (apply rx_store;rfl;rfl;rfl;rfl;rfl;(rw [flat_length]; simp only [lns] <;> omega);(exact st_int (by (omega))))) | (apply id_aw; first | apply aw_seq | apply aw_region | (apply aw_cond;rfl;all_goals intro hc;have hq:=hc;(try simp only [bqs] at hq);try exfalso;omega) | apply aw_block | apply aw_skip) | with_reducible apply tq_normal)
            refine rw_go (rw_le ?_ (Le.frzD (d := 8) (i := 0) rfl rfl))
            repeat' (first | (apply id_rw; first | ((with_reducible apply rx_callE (k := 161)); (case ha => rfl); (case h => exact hbk); (case hp => (exact Pur.pf)); (case hN => rfl)) | (apply rx_move;rfl;rfl) | (apply rx_assign;rfl;rfl) | (apply rw_nil;kernel_rfl)) | (apply id_aw; (apply aw_ret)) | with_reducible apply tq_normal | with_reducible apply tq_ret | with_reducible apply bq_ret)
            refine rq_ret rfl ⟨?_, (by (exact Pur.pf))⟩
            rw [decide_eq_true hl4]
            rfl
          · repeat' (first | (apply id_rw; first | (apply rx_move;rfl;rfl) | (first | (apply rx_loadF0; (case hx | hH => rfl); (case hf | hg | hα => infer_instance); (case hk => omega); (case hc | hN => rfl)) | (apply rx_load1;rfl;rfl;rfl;rfl)) | (apply rx_fieldAddr;rfl;rfl;rfl) | (first | (apply rx_add;rfl;rfl;omega;rfl) | (apply rx_bin;rfl;rfl;rfl;rfl)) | (apply rx_assign;rfl;rfl) | (first | (apply rx_indexFN; (case hx | hi => rfl); (case hm => (assumption)); (case hml => (rfl)); (case hα | hf | hg => infer_instance); (case hN => rfl)) | (apply rx_indexO;rfl;rfl;(assumption);rfl)) | (first | (apply rx_len;rfl;rfl;rfl) | (apply rx_append;rfl;rfl;rfl;rfl;rfl;(rw [flat_length]; omega);(rfl);omega;omega;(exact app_int (by (assumption)));rfl;rfl)) | (apply rw_nil;kernel_rfl) | ((apply rx_buildSliceI (t := _)); (case hze | hsm | hl => rfl); (case hfl => exact (rfl:_=some [_])); (case hM | hN => rfl)) | (apply rx_store;rfl;rfl;rfl;rfl;rfl;(rw [flat_length]; simp only [lns] <;> omega);(exact st_int (by (omega))))) | (apply id_aw; first | apply aw_seq | apply aw_region | (apply aw_cond;rfl;all_goals intro hc;have hq:=hc;(try simp only [bqs] at hq);try exfalso;omega) | apply aw_block | apply aw_skip) | with_reducible apply tq_normal | with_reducible apply bq_normal)
            rw [bkW_set hlz (by omega)]
            (apply ex3 (k + 1, _, _, _); focus (refine Le.ren [(0, 0), (2, 4)] rfl (by decide) ?_ ?_ <;> repeat' (first | exact trivial | refine And.intro ⟨_, rfl, ?_⟩ ?_ | refine And.intro ⟨_, _, rfl, rfl, ?_⟩ ?_ | exact Or.inr rfl | refine Or.inl ⟨?_, (by first | rfl | exact pur_sl _ _)⟩ | rfl)))
            · refine ⟨by dsimp only; omega, by dsimp only; rw [hsu, adW_new hlz], by dsimp only; rw [todoW_add hql, hT2, Int.toNat_of_nonneg hz.1], by dsimp only; rw [List.length_append]; simp; omega, ?_⟩
              dsimp only; rw [lkW_app hlz, if_neg (by omega)]; exact hlk2
            · dsimp only; omega
        · repeat' (first | (apply id_rw; first | (apply rx_move;rfl;rfl) | (first | (apply rx_loadF0; (case hx | hH => rfl); (case hf | hg | hα => infer_instance); (case hk => omega); (case hc | hN => rfl)) | (apply rx_load1;rfl;rfl;rfl;rfl)) | (apply rx_fieldAddr;rfl;rfl;rfl) | (first | (apply rx_add;rfl;rfl;omega;rfl) | (apply rx_bin;rfl;rfl;rfl;rfl)) | (apply rx_assign;rfl;rfl) | (first | (apply rx_indexFN; (case hx | hi => rfl); (case hm => (assumption)); (case hml => (rfl)); (case hα | hf | hg => infer_instance); (case hN => rfl)) | (apply rx_indexO;rfl;rfl;(assumption);rfl)) | (apply rx_len;rfl;rfl;rfl) | (apply rw_nil;kernel_rfl)) | (apply id_aw; first | apply aw_seq | apply aw_region | (apply aw_cond;rfl;all_goals intro hc;have hq:=hc;(try simp only [bqs] at hq);try exfalso;omega) | apply aw_block | apply aw_skip | apply aw_exit) | with_reducible apply tq_normal | with_reducible apply tq_exit | with_reducible apply bq_here)
          (apply ex3 (k + 1, E2, T2, m2); focus (refine Le.ren [(0, 0), (2, 2)] rfl (by decide) ?_ ?_ <;> repeat' (first | exact trivial | refine And.intro ⟨_, rfl, ?_⟩ ?_ | refine And.intro ⟨_, _, rfl, rfl, ?_⟩ ?_ | exact Or.inr rfl | refine Or.inl ⟨?_, (by first | rfl | exact pur_sl _ _)⟩ | rfl)))
          · refine ⟨by dsimp only; omega, by dsimp only; rw [hsu, adW_old (by omega)], hT2, hm2, hlk2⟩
          · dsimp only; omega
      · repeat' (first | (apply id_rw; first | (apply rx_move;rfl;rfl) | (apply rx_load1;rfl;rfl;rfl;rfl) | (apply rx_fieldAddr;rfl;rfl;rfl) | (apply rx_bin;rfl;rfl;rfl;rfl) | (apply rx_indexFN; (case hx | hi => rfl); (case hm => (assumption)); (case hml => (rfl)); (case hα | hf | hg => infer_instance); (case hN => rfl)) | (apply rx_len;rfl;rfl;rfl) | (apply rw_nil;kernel_rfl)) | (apply id_aw; first | apply aw_seq | apply aw_region | (apply aw_cond;rfl;all_goals intro hc;have hq:=hc;(try simp only [bqs] at hq);try exfalso;omega) | apply aw_exit) | with_reducible apply tq_normal | with_reducible apply tq_exit | with_reducible apply bq_normal | with_reducible apply bq_here)
        have hkl : k = pts[a]!.next.length := by omega
        rw [hkl, List.take_length] at hE2
        have hpre : E <+: E2 := by rw [hE2]; exact adsW_pre _ _ _
        have hple := hpre.length_le
        rw [quW_len] at hlt
        (apply ex3 (h + 1, E2, T2, m2); focus (refine Le.ren [(0, 0), (1, 2)] rfl (by decide) ?_ ?_ <;> repeat' (first | exact trivial | refine And.intro ⟨_, rfl, ?_⟩ ?_ | refine And.intro ⟨_, _, rfl, rfl, ?_⟩ ?_ | exact Or.inr rfl | refine Or.inl ⟨?_, (by first | rfl | exact pur_sl _ _)⟩ | rfl)))
        · exact ⟨by dsimp only; rw [hbs, hE2], hT2, hm2, by dsimp only; omega, hlk2⟩
        · dsimp only; omega
    · have hT0 : T = [] := List.eq_nil_of_length_eq_zero (by omega)
      have hee : E = enW pts f := by
        rw [hE]; exact bfW_end w.nx hf (by rw [← hE]; rw [hT] at hT0; exact todoW_nil.1 hT0)
      have hm0 : m = 0 := by omega
      repeat' (first | (apply id_rw; first | (apply rx_move;rfl;rfl) | (apply rx_bin;rfl;rfl;rfl;rfl) | (apply rx_assign;rfl;rfl) | (apply rx_len;rfl;rfl;rfl) | (apply rw_nil;kernel_rfl) | ((apply rx_buildSliceI (t := _)); (case hze | hsm | hl => rfl); (case hfl => (rfl)); (case hM | hN => rfl))) | (apply id_aw; first | apply aw_seq | apply aw_region | (apply aw_cond;rfl;all_goals intro hc;have hq:=hc;(try simp only [bqs] at hq);try exfalso;omega) | apply aw_exit | apply aw_ret) | with_reducible apply tq_normal | with_reducible apply tq_exit | with_reducible apply bq_here)
      refine rq_ret rfl ⟨?_, (by (rfl))⟩
      rw [wyW_neg (by rw [← hee]; exact hlk), ← hee, decide_eq_false (by omega)]
      rfl
end Go.Proofs.YtejkbiijonnefaaGreat

namespace Go.Proofs.YtejkbiijonnefaaGreat
open Go.AL Go.RowKit

theorem l2From_c (ts : List Int) (pts : List Pnt) (a : Nat) (F0 : List Bool) (w : WG ts pts) (ha : a < pts.length) (hF0 : GoodR pts a F0) : PC Tryz.prog 96 [sl cPnt pts, iv (a : Int)] (fun r => r = sl cB F0) := by
  have hpl := w.pl
  have hnl := w.nl a ha
  have hst := RI.start w.nx ha
  have hmu := muR_start hpl hnl
  (refine pc_of_aw Tryz.func96 rfl (by simp [Tryz.ntmps96]) ?_; rw [Tryz.ntmps96])
  repeat' (first | (apply id_rw; first | (apply rx_move;rfl;rfl) | (apply rx_load1;rfl;rfl;rfl;rfl) | (apply rx_fieldAddr;rfl;rfl;rfl) | (apply rx_assign;rfl;rfl) | (apply rx_indexFN; (case hx | hi => rfl); (case hm => (assumption)); (case hml => (rfl)); (case hα | hf | hg => infer_instance); (case hN => rfl)) | (first | (apply rx_len;rfl;rfl;rfl) | (apply rx_append;rfl;rfl;rfl;rfl;rfl;(case hl => (simp [flat_length]; done));(exact sC_imm (by (rfl)));omega;omega;(exact app_nilF (by (omega)));rfl;rfl)) | (apply rw_nil;kernel_rfl) | (apply rx_buildSlice;rfl;rfl;rfl;(rfl);rfl;rfl) | (apply rx_makeSliceE;rfl;rfl;rfl;omega;omega;(exact mk_bool);rfl;rfl)) | (apply id_aw; first | apply aw_seq | apply aw_region | apply aw_block) | with_reducible apply tq_normal)
  refine aw_loopK (σ := List Bool × List Int × Nat) [0, 5] [(0, _), (5, _)] [] [] (fun s => [(6, .own 2 0 s.2.2 1)]) (fun s => [(0, some (flat cB s.1)), (2, some (flat cI s.2.1))]) (fun s => RI pts a s.1 s.2.1 ∧ muR s.1 s.2.1 ≤ 200 ∧ s.2.2 = s.2.1.length) (fun s => muR s.1 s.2.1) (List.replicate pts.length false, pts[a]!.next, 0 + pts[a]!.next.length) ⟨hst, hmu, Nat.zero_add _⟩ rfl rfl (by repeat' (first | exact trivial | refine And.intro rfl ?_)) (by repeat' (first | exact trivial | refine And.intro (.inr rfl) ?_)) ?_
  rintro ⟨F, T, m⟩ ⟨I, hm, hml⟩
  dsimp only at I hm hml
  try dsimp only
  have hFl := I.len
  have hTl := muR_len F T
  by_cases hT : 0 < m
  · repeat' (first | (apply id_rw; first | (with_reducible apply rw_stop (d := 6)) | ((apply rx_sliceHi (h := m - 1)); (case hx | hy => rfl); (case hz => omega); (case hb => omega); (case hN => rfl)) | (apply rx_move;rfl;rfl) | (apply rx_loadF0; (case hx | hH => rfl); (case hf | hg | hα => infer_instance); (case hk => omega); (case hc | hN => rfl)) | (first | (apply rx_sub;rfl;rfl;omega;rfl) | (apply rx_bin;rfl;rfl;rfl;rfl)) | (apply rx_assign;rfl;rfl) | (apply rx_indexO;rfl;rfl;(omega);rfl) | (apply rx_len;rfl;rfl;rfl) | (apply rw_nil;kernel_rfl)) | (apply id_aw; first | apply aw_seq | apply aw_region | (apply aw_cond;rfl;all_goals intro hc;have hq:=hc;(try simp only [bqs] at hq);try exfalso;omega) | apply aw_block | apply aw_skip) | with_reducible apply tq_normal)
    rw [show ((m : Int) - 1).toNat = m - 1 by omega]
    refine rw_go (rw_le ?_ (Le.cut (i := 2) (m - 1) rfl))
    rw [cut_ints]
    obtain ⟨hkm, hks⟩ := last_mem hml hT
    obtain ⟨k, hkk⟩ : ∃ k, k = T[m - 1]! := ⟨_, rfl⟩
    rw [← hkk] at hkm hks ⊢
    have hk := I.tw k hkm
    have hnk := w.nl k.toNat (by omega)
    have hk1 : 0 ≤ k ∧ k < pts.length := ⟨hk.1, hk.2.1⟩
    have htk : (T.take (m - 1)).length = m - 1 := by rw [List.length_take]; omega
    have htl : ∀ G, muR G (T.take (m - 1)) + 1 = muR G T := fun G => by unfold muR; rw [htk]; omega
    have htF := htl F
    by_cases hv : F[k.toNat]! = true
    · repeat' (first | (apply id_rw; first | (apply rx_move;rfl;rfl) | (first | (apply rx_loadF0; (case hx | hH => rfl); (case hf | hg | hα => infer_instance); (case hk => omega); (case hc | hN => rfl)) | (apply rx_load1;rfl;rfl;rfl;rfl)) | (apply rx_fieldAddr;rfl;rfl;rfl) | (apply rx_assign;rfl;rfl) | (first | (apply rx_indexF; (case hx | hi => rfl); (case hm => (assumption)); (case hml => (rfl)); (case hα | hf | hg => infer_instance); (case hN => rfl)) | (apply rx_indexO;rfl;rfl;(assumption);rfl)) | (apply rx_append;rfl;rfl;rfl;rfl;rfl;(rw [flat_length]; omega);(exact sC_imm (by (rfl)));omega;omega;(exact app_ints (by (omega)));rfl;rfl) | (apply rw_nil;kernel_rfl) | (apply rx_not;rfl;rfl) | (apply rx_store;rfl;rfl;rfl;rfl;rfl;(rw [flat_length]; simp only [lns] <;> omega);(exact st_bool (by (omega))))) | (apply id_aw; first | apply aw_seq | apply aw_region | (apply aw_cond;rfl;all_goals intro hc;have hq:=hc;(try simp only [bqs] at hq);try exfalso;omega) | apply aw_skip) | with_reducible apply tq_normal | with_reducible apply bq_normal)
      all_goals try exact absurd (hv.symm.trans (by assumption : F[k.toNat]! = false)) (by decide)
      (apply ex3 (F, _, _); focus (refine Le.ren [(0, 0), (2, 2)] rfl (by decide) ?_ ?_ <;> repeat' (first | exact trivial | refine And.intro ⟨_, rfl, ?_⟩ ?_ | refine And.intro ⟨_, _, rfl, rfl, ?_⟩ ?_ | exact Or.inr rfl | refine Or.inl ⟨?_, (by (exact pur_sl _ _))⟩ | rfl)))
      · exact ⟨I.vis hks (fun x hx => List.mem_of_mem_take hx) hv, by dsimp only; omega, by dsimp only; omega⟩
      · dsimp only; omega
    · rw [Bool.not_eq_true] at hv
      have hms := muR_set (F := F) (k := k.toNat) (by omega) hv (T.take (m - 1))
      have hma := muR_app (F.set k.toNat true) (T.take (m - 1)) pts[k.toNat]!.next
      repeat' (first | (apply id_rw; first | (apply rx_move;rfl;rfl) | (first | (apply rx_loadF0; (case hx | hH => rfl); (case hf | hg | hα => infer_instance); (case hk => omega); (case hc | hN => rfl)) | (apply rx_load1;rfl;rfl;rfl;rfl)) | (apply rx_fieldAddr;rfl;rfl;rfl) | (apply rx_assign;rfl;rfl) | (first | (apply rx_indexF; (case hx | hi => rfl); (case hm => (assumption)); (case hml => (rfl)); (case hα | hf | hg => infer_instance); (case hN => rfl)) | (apply rx_indexO;rfl;rfl;(assumption);rfl)) | (apply rx_append;rfl;rfl;rfl;rfl;rfl;(rw [flat_length]; omega);(exact sC_imm (by (rfl)));omega;omega;(exact app_ints (by (omega)));rfl;rfl) | (apply rw_nil;kernel_rfl) | (apply rx_not;rfl;rfl) | (apply rx_store;rfl;rfl;rfl;rfl;rfl;(rw [flat_length]; simp only [lns] <;> omega);(exact st_bool (by (omega))))) | (apply id_aw; first | apply aw_seq | apply aw_region | (apply aw_cond;rfl;all_goals intro hc;have hq:=hc;(try simp only [bqs] at hq);try exfalso;omega) | apply aw_skip) | with_reducible apply tq_normal | with_reducible apply bq_normal)
      all_goals try exact absurd (hv.symm.trans (by assumption : F[k.toNat]! = true)) (by decide)
      (apply ex3 (F.set k.toNat true, _, _); focus (refine Le.ren [(0, 0), (2, 3)] rfl (by decide) ?_ ?_ <;> repeat' (first | exact trivial | refine And.intro ⟨_, rfl, ?_⟩ ?_ | refine And.intro ⟨_, _, rfl, rfl, ?_⟩ ?_ | exact Or.inr rfl | refine Or.inl ⟨?_, (by (exact pur_sl _ _))⟩ | rfl)))
      · exact ⟨I.new w.nx hkm (fun x hx => by
          rcases hks x hx with h | h
          · exact .inl h
          · exact .inr (List.mem_append_left _ h)) (fun x hx => List.mem_append_right _ hx) (fun x hx => by
          rcases List.mem_append.1 hx with h | h
          · exact .inl (List.mem_of_mem_take h)
          · exact .inr h), by dsimp only; omega, by dsimp only; rw [List.length_append]; omega⟩
      · dsimp only; omega
  · have hT0 : T = [] := List.eq_nil_of_length_eq_zero (by omega)
    rw [hT0] at I
    repeat' (first | (apply id_rw; first | (apply rx_move;rfl;rfl) | (apply rx_bin;rfl;rfl;rfl;rfl) | (apply rx_assign;rfl;rfl) | (apply rx_len;rfl;rfl;rfl) | (apply rw_nil;kernel_rfl)) | (apply id_aw; first | apply aw_seq | apply aw_region | (apply aw_cond;rfl;all_goals intro hc;have hq:=hc;(try simp only [bqs] at hq);try exfalso;omega) | apply aw_exit | apply aw_ret) | with_reducible apply tq_normal | with_reducible apply tq_exit | with_reducible apply bq_here)
    refine rq_le (Le.frzD (d := 4) (i := 0) rfl rfl) ?_
    refine rq_ret rfl ⟨?_, (by (exact pur_sl _ _))⟩
    have e := I.fin hF0 w.nx
    rw [← e]
    simp only [oneOf, sl, hFl]
def usF (ts : List Int) (x : Pnt) (fr : List (List Bool)) (loan v : Nat) : Bool := fr[v]![loan]! && decide (useAt ts x v ≠ 0)
theorem l13Uses_c (ts : List Int) (x : Pnt) (fr : List (List Bool)) (pl : List Bool) (loan : Nat) (hn : ts.length ≤ 6) (h1 : fr.length = ts.length) (h2 : ∀ v, v < ts.length → loan < fr[v]!.length) :
    PC Tryz.prog 97 [sl cI ts, aPnt x, .agg [sl cBB fr, sl cB pl], iv (loan : Int)] (fun r => r = bv ((List.range ts.length).any (usF ts x fr loan))) := by
  (refine pc_of_aw Tryz.func97 rfl (by simp [Tryz.ntmps97]) ?_; rw [Tryz.ntmps97])
  repeat' (first | (apply id_rw; first | (apply rx_assign;rfl;rfl) | (apply rw_nil;kernel_rfl) | (apply rx_box;rfl;rfl;rfl;rfl)) | (apply id_aw; first | apply aw_seq | apply aw_region | apply aw_block) | with_reducible apply tq_normal)
  refine aw_loopK (σ := Nat) [0, 3, 5, 6] [(0, _), (3, _), (5, _), (6, _)] [0, 1] [(0, some _), (1, some _)] (fun k => [(9, iv (k : Int))]) (fun k => []) (fun k => k ≤ ts.length ∧ ∀ v, v < k → usF ts x fr loan v = false) (fun k => ts.length - k) (0) ⟨by omega, by omega⟩ rfl rfl (by repeat' (first | exact trivial | refine And.intro rfl ?_)) (by repeat' (exact trivial)) ?_
  rintro k ⟨hk, hall⟩
  try dsimp only
  by_cases hkn : k < ts.length
  · have hlo := h2 k hkn
    have hnx : usF ts x fr loan k = false → ∀ v, v < k + 1 → usF ts x fr loan v = false := fun h v hv => by
      by_cases e : v = k
      · rw [e]; exact h
      · exact hall v (by omega)
    have hyes : usF ts x fr loan k = true → (List.range ts.length).any (usF ts x fr loan) = true := fun h => List.any_eq_true.2 ⟨k, List.mem_range.2 hkn, h⟩
    have hus : usF ts x fr loan k = (fr[k]![loan]! && decide (useAt ts x k ≠ 0)) := rfl
    repeat' (first | (apply id_rw; first | (apply rx_move;rfl;rfl) | (first | (apply rx_load1;rfl;rfl;rfl;rfl) | (apply rx_loadA;rfl;rfl;(exact (rfl:_=[_, _, _, _, _]));rfl;rfl;rfl)) | (apply rx_fieldAddr;rfl;rfl;rfl) | (first | (apply rx_guardY;rfl;rfl;rfl;(assumption)) | (apply rx_guardNs;rfl;rfl;rfl;(assumption)) | (apply rx_guardS; (case hj | hb | hN => rfl); all_goals (intro hg; have hq := hg; (try simp only [bqs] at hq); (try (exfalso; omega))))) | (first | (apply rx_add;rfl;rfl;omega;rfl) | (apply rx_bin;rfl;rfl;rfl;rfl)) | (apply rx_assign;rfl;rfl) | (first | (apply rx_pickT;rfl;(assumption);rfl;rfl) | (apply rx_pickF;rfl;(assumption);rfl;rfl)) | (apply rx_indexFN; (case hx | hi => rfl); (case hm => (first | assumption | omega)); (case hml => (rfl)); (case hα | hf | hg => infer_instance); (case hN => rfl)) | ((with_reducible apply rx_callE (k := 132)); (case ha => rfl); (case h => (apply l3Use_c <;> (omega))); (case hp => (exact Pur.pf)); (case hN => rfl)) | (apply rx_len;rfl;rfl;rfl) | (apply rw_nil;kernel_rfl)) | (apply id_aw; first | apply aw_seq | apply aw_region | (apply aw_condF;rfl;(rfl)) | (apply aw_cond;rfl;all_goals intro hc;have hq:=hc;(try simp only [bqs] at hq);try exfalso;omega) | apply aw_block | apply aw_skip | apply aw_ret) | with_reducible apply tq_normal | with_reducible apply tq_ret | with_reducible apply bq_normal | with_reducible apply bq_ret)
    · refine rq_ret rfl ⟨?_, rfl⟩
      rw [hyes (by rw [hus, (by assumption : fr[k]![loan]! = true), decide_eq_true (by assumption)]; rfl)]; rfl
    · (apply ex3 (k + 1); focus (refine Le.ren [(0, 0), (1, 1)] rfl (by decide) ?_ ?_ <;> repeat' (first | exact trivial | refine And.intro ⟨_, rfl, ?_⟩ ?_ | refine And.intro ⟨_, _, rfl, rfl, ?_⟩ ?_ | exact Or.inr rfl | refine Or.inl ⟨?_, (by first | rfl | exact pur_sl _ _ | exact Pur.pf)⟩ | rfl)))
      · exact ⟨by omega, hnx (by rw [hus, decide_eq_false (fun h => h (by assumption)), Bool.and_false])⟩
      · omega
    · (apply ex3 (k + 1); focus (refine Le.ren [(0, 0), (1, 1)] rfl (by decide) ?_ ?_ <;> repeat' (first | exact trivial | refine And.intro ⟨_, rfl, ?_⟩ ?_ | refine And.intro ⟨_, _, rfl, rfl, ?_⟩ ?_ | exact Or.inr rfl | refine Or.inl ⟨?_, (by first | rfl | exact pur_sl _ _ | exact Pur.pf)⟩ | rfl)))
      · exact ⟨by omega, hnx (by rw [hus, (by assumption : fr[k]![loan]! = false), Bool.false_and])⟩
      · omega
  · repeat' (first | (apply id_rw; first | (apply rx_move;rfl;rfl) | (apply rx_bin;rfl;rfl;rfl;rfl) | (apply rx_assign;rfl;rfl) | (apply rx_len;rfl;rfl;rfl) | (apply rw_nil;kernel_rfl)) | (apply id_aw; first | apply aw_seq | apply aw_region | (apply aw_cond;rfl;all_goals intro hc;have hq:=hc;(try simp only [bqs] at hq);try exfalso;omega) | apply aw_exit | apply aw_ret) | with_reducible apply tq_normal | with_reducible apply tq_exit | with_reducible apply bq_here)
    refine rq_ret rfl ⟨?_, rfl⟩
    have : (List.range ts.length).any (usF ts x fr loan) = false := by
      rw [List.any_eq_false]; intro v hv; rw [hall v (by rw [List.mem_range] at hv; omega)]; decide
    rw [this]; rfl
theorem usF_any (ts : List Int) (pts : List Pnt) (Af Ap : List Nat) (loan i : Nat) (hA : Af.length = pts.length * 6) (hn : ts.length ≤ 6) (hi : i < pts.length) (hl : loan < pts.length) : (List.range ts.length).any (usF ts pts[i]! (flB ts.length pts.length Af Ap i).1 loan) = useW ts pts Af loan i := by
  unfold useW
  rw [Bool.eq_iff_iff, List.any_eq_true, List.any_eq_true]
  have key : ∀ v, v < ts.length → usF ts pts[i]! (flB ts.length pts.length Af Ap i).1 loan v = (decide (useAt ts pts[i]! v ≠ 0) && (row6 Af i)[v]!.testBit loan) := fun v hv => by
    unfold usF flB
    dsimp only
    rw [mapR_get _ _ _ hv, mapR_get _ _ _ hl, row6_at hA hi (by omega), Bool.and_comm]
  constructor
  · rintro ⟨v, hv, h⟩; exact ⟨v, hv, by rw [← key v (List.mem_range.1 hv)]; exact h⟩
  · rintro ⟨v, hv, h⟩; exact ⟨v, hv, by rw [key v (List.mem_range.1 hv)]; exact h⟩
theorem UseAfterSY_c (p : Prg) (a l : Nat) (f : Flows p.types (ptsF p)) (F0 : List Bool) (hl : p.types.length ≤ 1000000) (hs : cntL p.body ≤ 1000000) (hv : validF p = true) (ha : a < (ptsF p).length) (hll : l < (ptsF p).length) (hF0 : GoodR (ptsF p) a F0) :
    PC Tryz.prog 39 [aPrg p, iv (a : Int), iv (l : Int)] (fun r => r = if 0 ≤ (bsW (wyW (ptsF p) a) (useW p.types (ptsF p) f.Af l) (ptsF p).length).1 then .tup [iv (bsW (wyW (ptsF p) a) (useW p.types (ptsF p) f.Af l) (ptsF p).length).1, bv true] else .tup [iv 0, bv false]) := by
  have w := WG.of_valid hv
  have hpl := w.pl
  have htl := w.tl
  have hPP := PointsOfS_c p hl hs
  rw [if_pos hv] at hPP
  have hfl := l4Flow_c p f.Af f.Ap hs w f.gf f.gp
  have hfll : ((List.range (ptsF p).length).map (flB p.types.length (ptsF p).length f.Af f.Ap)).length = (ptsF p).length := by simp
  have hfi : ∀ i, i < (ptsF p).length → ((List.range (ptsF p).length).map (flB p.types.length (ptsF p).length f.Af f.Ap))[i]! = flB p.types.length (ptsF p).length f.Af f.Ap i := fun i hi => mapR_get _ _ _ hi
  have hf1 : ∀ i, (flB p.types.length (ptsF p).length f.Af f.Ap i).1.length = p.types.length := fun i => by simp [flB]
  have hf2 : ∀ i v, v < p.types.length → l < (flB p.types.length (ptsF p).length f.Af f.Ap i).1[v]!.length := fun i v hv => by
    unfold flB; dsimp only; rw [mapR_get _ _ _ hv]; simpa using hll
  have hus := fun (i : Nat) (hi : i < (ptsF p).length) => l13Uses_c p.types (ptsF p)[i]! ((List.range (ptsF p).length).map (flB p.types.length (ptsF p).length f.Af f.Ap))[i]!.1 ((List.range (ptsF p).length).map (flB p.types.length (ptsF p).length f.Af f.Ap))[i]!.2 l htl (by rw [hfi i hi]; exact hf1 i) (by rw [hfi i hi]; exact hf2 i)
  have hU : ∀ i, i < (ptsF p).length → (List.range p.types.length).any (usF p.types (ptsF p)[i]! ((List.range (ptsF p).length).map (flB p.types.length (ptsF p).length f.Af f.Ap))[i]!.1 l) = useW p.types (ptsF p) f.Af l i := fun i hi => by rw [hfi i hi]; exact usF_any _ _ _ _ _ _ f.gf.1 htl hi hll
  clear hfi hf1 hf2
  generalize (List.range (ptsF p).length).map (flB p.types.length (ptsF p).length f.Af f.Ap) = FL at hfl hfll hus hU
  have hfr := l2From_c p.types (ptsF p) a F0 w ha hF0
  have hF0l := hF0.l
  have hUt := p.types.length
  (refine pc_of_aw Tryz.func39 rfl (by simp [Tryz.ntmps39]) ?_; rw [Tryz.ntmps39])
  repeat' (first | (apply id_rw; first | ((with_reducible apply rx_callE (k := 74)); (case ha => rfl); (case h => exact hPP); (case hp => (exact Pur.pf)); (case hN => rfl)) | ((with_reducible apply rx_callE (k := 75)); (case ha => rfl); (case h => exact hfl); (case hp => (exact Pur.pf)); (case hN => rfl)) | ((with_reducible apply rx_callE (k := 96)); (case ha => rfl); (case h => exact hfr); (case hp => (exact Pur.pf)); (case hN => rfl)) | (apply rx_move;rfl;rfl) | (apply rx_loadA;rfl;rfl;(exact (rfl:_=[_, _]));rfl;rfl;rfl) | (first | (apply rx_guardY;rfl;rfl;rfl;(first | rfl | assumption)) | (apply rx_guardS; (case hj | hb | hN => rfl); all_goals (intro hg; have hq := hg; (try simp only [bqs] at hq); (try (exfalso; omega))))) | (apply rx_bin;rfl;rfl;rfl;rfl) | (apply rx_assign;rfl;rfl) | (apply rx_pickF;rfl;(first | rfl | assumption);rfl;rfl) | (apply rx_len;rfl;rfl;rfl) | (apply rw_nil;kernel_rfl) | (apply rx_box;rfl;rfl;rfl;rfl) | ((apply rx_buildSliceI (t := _)); (case hze | hsm | hl => rfl); (case hfl => (rfl)); (case hM | hN => rfl))) | (apply id_aw; first | apply aw_seq | apply aw_region | (apply aw_cond;rfl;all_goals intro hc;have hq:=hc;(try simp only [bqs] at hq);try exfalso;omega) | apply aw_block | apply aw_skip) | with_reducible apply tq_normal)
  refine aw_loopK (σ := Nat × List Int) [1, 2, 3, 8, 9, 10] [(1, _), (2, _), (3, _), (8, _), (9, _), (10, _)] [0] [(0, some _)] (fun s => [(12, iv (s.1 : Int)), (11, sl cI s.2)]) (fun s => []) (fun s => s.1 ≤ (ptsF p).length ∧ s.2 = cN' (bsW (wyW (ptsF p) a) (useW p.types (ptsF p) f.Af l) s.1).2) (fun s => (ptsF p).length - s.1) (0, []) ⟨by omega, rfl⟩ rfl rfl (by repeat' (first | exact trivial | refine And.intro rfl ?_)) (by repeat' (exact trivial)) ?_
  rintro ⟨i, bl⟩ ⟨hi, hbl⟩
  dsimp only at hi hbl
  try dsimp only
  have hbp := bsW_pos (W := wyW (ptsF p) a) (U := useW p.types (ptsF p) f.Af l) (i := i)
  have hbln := bsW_len (W := wyW (ptsF p) a) (U := useW p.types (ptsF p) f.Af l) (fun j => wyW_len (x := j) w.nx ha) i
  have hbll : bl.length = (bsW (wyW (ptsF p) a) (useW p.types (ptsF p) f.Af l) i).2.length := by rw [hbl, cN'_len]
  by_cases hin : i < (ptsF p).length
  · have hu := hus i hin
    rw [hU i hin] at hu
    have hw := l13Way_c p.types (ptsF p) a i w ha hin
    have hwl := wyW_len (x := i) w.nx ha
    rw [← cN'_len] at hwl
    repeat' (first | (apply id_rw; first | ((with_reducible apply rx_callE (k := 97)); (case ha => rfl); (case h => exact hu); (case hp => (exact Pur.pf)); (case hN => rfl)) | ((with_reducible apply rx_callE (k := 98)); (case ha => rfl); (case h => exact hw); (case hp => (exact Pur.pf)); (case hN => rfl)) | (apply rx_move;rfl;rfl) | (first | (apply rx_load1;rfl;rfl;rfl;rfl) | (apply rx_loadA;rfl;rfl;(first | exact (rfl:_=[_, _]) | exact (rfl:_=[_, _, _, _, _]));rfl;rfl;rfl)) | (apply rx_fieldAddr;rfl;rfl;rfl) | (first | (apply rx_guardY;rfl;rfl;rfl;(assumption)) | (apply rx_guardNs;rfl;rfl;rfl;(assumption)) | (apply rx_guardS; (case hj | hb | hN => rfl); all_goals (intro hg; have hq := hg; (try simp only [bqs] at hq); (try (exfalso; omega))))) | (first | (apply rx_add;rfl;rfl;omega;rfl) | (apply rx_bin;rfl;rfl;rfl;rfl)) | (apply rx_assign;rfl;rfl) | (first | (apply rx_pickT;rfl;(assumption);rfl;rfl) | (apply rx_pickF;rfl;(assumption);rfl;rfl)) | (apply rx_indexFN; (case hx | hi => rfl); (case hm => (first | assumption | omega)); (case hml => (rfl)); (case hα | hf | hg => infer_instance); (case hN => rfl)) | (apply rx_len;rfl;rfl;rfl) | (apply rw_nil;kernel_rfl) | (apply rx_not;rfl;rfl) | (apply rx_extract;rfl;rfl;rfl)) | (apply id_aw; first | apply aw_seq | apply aw_region | (apply aw_draw;kernel_rfl) | (apply aw_condT;rfl;(rfl)) | (apply aw_cond;rfl;all_goals intro hc;have hq:=hc;(try simp only [bqs] at hq);try exfalso;omega) | apply aw_block | apply aw_skip | apply aw_exit) | with_reducible apply tq_normal | with_reducible apply tq_exit | with_reducible apply bq_normal | with_reducible apply bq_here)
    · have hb := bsW_no (W := wyW (ptsF p) a) (U := useW p.types (ptsF p) f.Af l) (i := i) (.inl (by assumption))
      (apply ex3 (i + 1, bl); focus (refine Le.ren [(0, 0)] rfl (by decide) ?_ ?_ <;> repeat' (first | exact trivial | refine And.intro ⟨_, rfl, ?_⟩ ?_ | refine And.intro ⟨_, _, rfl, rfl, ?_⟩ ?_ | exact Or.inr rfl | refine Or.inl ⟨?_, (by first | rfl | exact pur_sl _ _ | exact Pur.pf)⟩ | rfl)))
      · exact ⟨by dsimp only; omega, by dsimp only; rw [hb, hbl]⟩
      · dsimp only; omega
    · have hu2 : useW p.types (ptsF p) f.Af l i = true := by assumption
      have hW := (wyW_ne w.nx ha).2 ((hF0.g i hin).1 (by assumption))
      have hb := bsW_new (W := wyW (ptsF p) a) (U := useW p.types (ptsF p) f.Af l) hu2 hW (by rw [cN'_len] at *; omega)
      (apply ex3 (i + 1, _); focus (refine Le.ren [(0, 0)] rfl (by decide) ?_ ?_ <;> repeat' (first | exact trivial | refine And.intro ⟨_, rfl, ?_⟩ ?_ | refine And.intro ⟨_, _, rfl, rfl, ?_⟩ ?_ | exact Or.inr rfl | refine Or.inl ⟨?_, (by first | rfl | exact pur_sl _ _ | exact Pur.pf)⟩ | rfl)))
      · exact ⟨by dsimp only; omega, by dsimp only; rw [hb]; rfl⟩
      · dsimp only; omega
    · have hb := bsW_old (W := wyW (ptsF p) a) (U := useW p.types (ptsF p) f.Af l) (i := i) (by omega) (by rw [cN'_len] at *; omega)
      (apply ex3 (i + 1, bl); focus (refine Le.ren [(0, 0)] rfl (by decide) ?_ ?_ <;> repeat' (first | exact trivial | refine And.intro ⟨_, rfl, ?_⟩ ?_ | refine And.intro ⟨_, _, rfl, rfl, ?_⟩ ?_ | exact Or.inr rfl | refine Or.inl ⟨?_, (by first | rfl | exact pur_sl _ _ | exact Pur.pf)⟩ | rfl)))
      · exact ⟨by dsimp only; omega, by dsimp only; rw [hb, hbl]⟩
      · dsimp only; omega
    · have hu2 : useW p.types (ptsF p) f.Af l i = true := by assumption
      have hW := (wyW_ne w.nx ha).2 ((hF0.g i hin).1 (by assumption))
      have hb := bsW_new (W := wyW (ptsF p) a) (U := useW p.types (ptsF p) f.Af l) hu2 hW (by rw [cN'_len] at *; omega)
      (apply ex3 (i + 1, _); focus (refine Le.ren [(0, 0)] rfl (by decide) ?_ ?_ <;> repeat' (first | exact trivial | refine And.intro ⟨_, rfl, ?_⟩ ?_ | refine And.intro ⟨_, _, rfl, rfl, ?_⟩ ?_ | exact Or.inr rfl | refine Or.inl ⟨?_, (by first | rfl | exact pur_sl _ _ | exact Pur.pf)⟩ | rfl)))
      · exact ⟨by dsimp only; omega, by dsimp only; rw [hb]; rfl⟩
      · dsimp only; omega
    · have hb := bsW_no (W := wyW (ptsF p) a) (U := useW p.types (ptsF p) f.Af l) (i := i) (.inr (Classical.byContradiction fun h => by have h2 := (hF0.g i hin).2 ((wyW_ne w.nx ha).1 h); rw [(by assumption : F0[i]! = false)] at h2; cases h2))
      (apply ex3 (i + 1, bl); focus (refine Le.ren [(0, 0)] rfl (by decide) ?_ ?_ <;> repeat' (first | exact trivial | refine And.intro ⟨_, rfl, ?_⟩ ?_ | refine And.intro ⟨_, _, rfl, rfl, ?_⟩ ?_ | exact Or.inr rfl | refine Or.inl ⟨?_, (by first | rfl | exact pur_sl _ _ | exact Pur.pf)⟩ | rfl)))
      · exact ⟨by dsimp only; omega, by dsimp only; rw [hb, hbl]⟩
      · dsimp only; omega
  · have hin2 : (ptsF p).length = i := by omega
    repeat' (first | (apply id_rw; first | (apply rx_move;rfl;rfl) | (apply rx_load1;rfl;rfl;rfl;rfl) | (first | (apply rx_sub;rfl;rfl;omega;rfl) | (apply rx_bin;rfl;rfl;rfl;rfl)) | (apply rx_assign;rfl;rfl) | (apply rx_indexF; (case hx | hi => rfl); (case hm => (omega)); (case hml => (rfl)); (case hα | hf | hg => infer_instance); (case hN => rfl)) | (apply rx_len;rfl;rfl;rfl) | (apply rw_nil;kernel_rfl)) | (apply id_aw; first | apply aw_seq | apply aw_region | (apply aw_cond;rfl;all_goals intro hc;have hq:=hc;(try simp only [bqs] at hq);try exfalso;omega) | apply aw_skip | apply aw_exit | apply aw_ret) | with_reducible apply tq_normal | with_reducible apply tq_ret | with_reducible apply tq_exit | with_reducible apply bq_here)
    · exact rq_ret rfl ⟨by rw [hin2, if_neg (by omega)]; rfl, rfl⟩
    · have hla := bsW_last w.nx ha hbl (by omega)
      refine rq_ret rfl ⟨?_, rfl⟩
      rw [hla.1, hin2, if_pos hla.2]; rfl
end Go.Proofs.YtejkbiijonnefaaGreat

namespace Go.Proofs.YtejkbiijonnefaaGreat
open Go.AL Go.RowKit

theorem drawFmt_c (bs : List UInt8) (hb : bs.length ≤ 1048576) : PC Tryz.prog 92 [sl cU bs] (fun r => ∃ (q : Prg) (x : Iss), r = .tup [aPrg q, aIss x] ∧ cntL q.body ≤ 20000 ∧ q.types.length ≤ 1000) := by
  have hb2 : (bs.take 2000).length ≤ 2000 := by rw [List.length_take]; omega
  (refine pc_of_aw Tryz.func92 rfl (by simp [Tryz.ntmps92]) ?_; rw [Tryz.ntmps92])
  repeat' (first | (apply id_rw; first | ((with_reducible apply rx_prgcall (k := 85)); (case h => exact draw_c (bs.take 2000) 0 hb2 (by decide)); (case ha | hpv | hH | hM | hN => rfl); (rintro ⟨q, p1⟩ ⟨hq1, hq2, hq3⟩); (dsimp only at hq1 hq2 hq3)) | ((with_reducible apply rx_prgcall (k := 84)); (case h => exact mutate_c (bs.take 2000) p1 q hb2 (by omega) (by omega) (by omega)); (case ha => rfl); (case hpv => exact Pur.pf); (case hH | hM | hN => rfl); (rintro ⟨q2, p2⟩ ⟨hr1, hr2, hr3⟩); (dsimp only at hr1 hr2 hr3)) | (with_reducible apply rw_stop (d := 14)) | (apply rx_move;rfl;rfl) | (apply rx_assign;rfl;rfl) | (apply rx_l17Open;rfl;(apply l17Open_c <;> (assumption));rfl;rfl) | (apply rw_nil;kernel_rfl) | (apply rx_alloc;rfl;rfl) | (apply rx_store;rfl;rfl;rfl;rfl;rfl;(case hl => (simp;done));(exact (rfl:_=[_, _])))) | (apply id_aw; first | apply aw_seq | apply aw_region) | with_reducible apply tq_normal)
  refine rw_go ?_
  obtain ⟨L, _, hC, _, _, _, hLl⟩ := check_both q2 (by omega) (by omega)
  have h1 := pickF_bd (bs.take 2000) (q2, p2).2 5
  have h2 := pickF_bd (bs.take 2000) ((q2, p2).2 + 1) 3
  have h3 := pickF_bd (bs.take 2000) ((q2, p2).2 + 1 + 1) 3
  have h4 := pickF_bd (bs.take 2000) ((q2, p2).2 + 1 + 1 + 1 + 1) L.length
  repeat' (first | (apply id_rw; first | (apply rx_store;rfl;rfl;rfl;rfl;rfl;(case hl => (simp; done));exact (rfl:_=[_, _, _])) | ((with_reducible apply rx_callE (k := 33)); (case ha => rfl); (case h => exact hC); (case hp => (exact Pur.pf)); (case hN => rfl)) | (apply rx_move;rfl;rfl) | (apply rx_loadA;rfl;rfl;(first | exact (rfl:_=[_, _]) | exact (rfl:_=[_, _, _]));rfl;rfl;rfl) | (first | (apply rx_guardY;rfl;rfl;rfl;(assumption)) | (apply rx_guardNs;rfl;rfl;rfl;(assumption)) | (apply rx_guardS; (case hj | hb | hN => rfl); all_goals (intro hg; have hq := hg; (try simp only [bqs] at hq); (try (exfalso; omega))))) | (first | (apply rx_add;rfl;rfl;omega;rfl) | (apply rx_bin;rfl;rfl;rfl;rfl)) | (apply rx_assign;rfl;rfl) | (first | (apply rx_pickT;rfl;(assumption);rfl;rfl) | (apply rx_pickF;rfl;(assumption);rfl;rfl)) | (apply rx_indexF; (case hx | hi => rfl); (case hm => (omega)); (case hml => (rfl)); (case hα | hf | hg => infer_instance); (case hN => rfl)) | (apply rx_pick;rfl;rfl;(rfl);(apply pick_c <;> (first | assumption | omega));rfl;rfl) | (apply rx_len;rfl;rfl;rfl) | (apply rw_nil;kernel_rfl) | (apply rx_buildK;rfl;(exact (rfl:_=some [_, _, _]));(exact (rfl:_=[_, _, _]));rfl) | (apply rx_alloc;rfl;rfl) | (apply rx_store;rfl;rfl;rfl;rfl;rfl;(case hl => (simp;done));(exact (rfl:_=[_, _])))) | (apply id_aw; first | apply aw_seq | apply aw_region | (apply aw_draw;kernel_rfl) | (apply aw_condF;rfl;(rfl)) | (apply aw_cond;rfl;all_goals intro hc;have hq:=hc;(try simp only [bqs] at hq);try exfalso;omega) | apply aw_skip | apply aw_ret) | with_reducible apply tq_normal)
  all_goals exact rq_ret (l := [aPrg q2, aIss ⟨_, _, _⟩]) rfl ⟨⟨q2, _, rfl, by omega, by omega⟩, Pur.pf⟩
end Go.Proofs.YtejkbiijonnefaaGreat
