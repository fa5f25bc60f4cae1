/-
  A part of the proofs over this program: rules and contracts of its functions (the contracts).
-/
import Derived.Test.YtejkbiijonnefaaGreatB04
import Derived.Test.YtejkbiijonnefaaGreatRows
import Derived.WalkKit
import Derived.ProofKit
import Derived.OpenShut
import Derived.Carry
import Derived.ChangeSlices
set_option linter.unusedVariables false
set_option linter.unusedSimpArgs false
set_option maxHeartbeats 8000000
set_option maxRecDepth 4000
attribute [local irreducible] Go.AL.RW Go.AL.AW Go.AL.Stop
namespace Go.Proofs.YtejkbiijonnefaaGreat
open Go.AL Go.RowKit

theorem cntS_uOp (s : AL.Stmt) (a : Int) : cntS (uOp s a) = cntS s := by simp [cntS_def, uOp, AL.Stmt.th, AL.Stmt.el]
theorem cntS_uX (s : AL.Stmt) (a : Int) : cntS (uX s a) = cntS s := by simp [cntS_def, uX, AL.Stmt.th, AL.Stmt.el]
theorem cntS_uY (s : AL.Stmt) (a : Int) : cntS (uY s a) = cntS s := by simp [cntS_def, uY, AL.Stmt.th, AL.Stmt.el]
theorem cntS_uN (s : AL.Stmt) (a : Int) : cntS (uN s a) = cntS s := by simp [cntS_def, uN, AL.Stmt.th, AL.Stmt.el]
theorem cntL_set : ∀ (xs : List AL.Stmt) (k : Nat) (y : AL.Stmt), k < xs.length → cntS y = cntS xs[k]! → cntL (xs.set k y) = cntL xs
  | [], k, y, h, _ => by simp at h
  | x :: xs, 0, y, _, h => by simp only [List.set_cons_zero, cntL]; simp only [List.getElem!_cons_zero] at h; omega
  | x :: xs, k + 1, y, h, h2 => by
    simp only [List.set_cons_succ, cntL]
    rw [cntL_set xs k y (by simpa using h) (by rw [h2]; simp only [List.getElem!_cons_succ])]
theorem cntL_rep (s : AL.Stmt) : ∀ k, cntL (List.replicate k s) = k * cntS s
  | 0 => by simp [cntL]
  | k + 1 => by simp only [List.replicate_succ, cntL, cntL_rep s k, Nat.succ_mul]; omega
theorem cntL_del : ∀ (xs : List AL.Stmt) (k : Nat), cntL (xs.take k ++ xs.drop (k + 1)) ≤ cntL xs
  | [], k => by simp [cntL]
  | x :: xs, 0 => by simp [cntL]
  | x :: xs, k + 1 => by have := cntL_del xs k; simp only [List.take_succ_cons, List.drop_succ_cons, List.cons_append, cntL]; omega
theorem bnd_pos {T : Nat → Option AV} {x : Operand} {dd : Nat} {k : IntKind} {m : Int} (hx : ev T x = some (.v (.int k m))) (h : 0 ≤ m) : bndA T (some x) dd = some m.toNat := by
  simp only [bndA, hx]; rw [if_pos h]
section
variable {P : Program} {N : Nat} {Q : Exit → AS → Prop} {all : Array Oper} {rest : List Oper} {ts : List (Nat × AV)} {hs : List (Nat × Option (List AV))} {n : Nat} {z0 : Lo} {md : Md}
variable {d : Nat} {ty : TypeId} {pos : String} {af : Array Edge}
theorem rx_sliceOh {t el : TypeId} {x : Operand} {hi : Option Operand} {i o m e h : Nat} [ht : SlT P t el] [he : SzT P el e] (hx : ev (lk ts) x = some (.own i o m e))
    (hh : bndA (lk ts) hi m = some h) (hb : h ≤ m) (hN : Nat.blt d N = true) {md' : Md} [hmd : MdA md (rO x ++ (rB none ++ rB hi)) [.inl d] md'] (kk : RW P N all Q md' rest ⟨(d, .own i o h e) :: ts, hs, n, z0⟩) :
    RW P N all Q md (⟨some d, .slice t x none hi none, ty, pos, af, none⟩ :: rest) ⟨ts, hs, n, z0⟩ :=
  rx_slice (m := m) (l := 0) (h := h) hx rfl rfl hh (by simp [sSl, hb]) hN (md' := md') (hmd := hmd) kk
end
theorem sC_ownD {hs : List (Nat × Option (List AV))} {xs : List AL.Stmt} {i k n : Nat} (hH : lkH hs i = some (flat cStmt xs)) (hn : n = xs.length - k) : sCells (lkH hs) 6 (kAV (.own i (0 + k * 6) n 6)) = some (n, flat cStmt (xs.drop k)) := by
  show ((lkH hs i).bind fun cs => if n * 6 ≤ (cs.drop (0 + k * 6)).length then some (n, (cs.drop (0 + k * 6)).take (n * 6)) else none) = _
  rw [hH, Option.bind_some, Nat.zero_add]
  have h1 : (flat cStmt xs).length = xs.length * 6 := flat_length cStmt xs
  have h3 : (flat cStmt xs).drop (k * 6) = flat cStmt (xs.drop k) := by
    have h4 : flat cStmt xs = flat cStmt (xs.take k) ++ flat cStmt (xs.drop k) := by rw [flat_append, List.take_append_drop]
    have h5 : (flat cStmt (xs.take k)).length = (xs.take k).length * 6 := flat_length cStmt _
    by_cases hk : k ≤ xs.length
    · rw [h4, ← show (flat cStmt (xs.take k)).length = k * 6 from by rw [h5, List.length_take]; congr 1; omega, List.drop_left]
    · rw [List.drop_of_length_le (by omega), List.drop_of_length_le (by omega)]; rfl
  rw [h3]
  have h2 : (flat cStmt (xs.drop k)).length = (xs.length - k) * 6 := by rw [flat_length cStmt (e := 6), List.length_drop]
  rw [if_pos (by omega), List.take_of_length_le (by omega)]
theorem app_del {xs ys : List AL.Stmt} {k : Nat} (hk : k ≤ xs.length) : ((flat cStmt xs).drop 0).take (k * 6) ++ flat cStmt ys = flat cStmt (xs.take k ++ ys) := by
  rw [List.drop_zero, flat_take cStmt (e := 6), flat_append]
theorem mutate_c (bs : List UInt8) (p : Nat) (q : Prg) (hb : bs.length ≤ 2000) (hp : p ≤ 900000) (hs : cntL q.body ≤ 10000) (ht : q.types.length ≤ 10000) : MC Tryz.prog 84 [.optr 0 0, aPrg q] [(0, some (cRd bs p))] 1 (fun x : Prg × Nat => cntL x.1.body ≤ 32 * cntL q.body ∧ x.1.types.length ≤ q.types.length + 1 ∧ x.2 ≤ p + 3) (fun x => aPrg x.1) (fun x => [(0, some (cRd bs x.2))]) := by
  have hlen := cntL_len q.body
  have h0 := pickF_bd bs p (q.body.length : Int)
  (refine mc_of_aw Tryz.func84 rfl (by simp [Tryz.ntmps84]) ?_; rw [Tryz.ntmps84])
  repeat' (first | (apply id_rw; first | (apply rx_move;rfl;rfl) | (first | (apply rx_load1;rfl;rfl;rfl;rfl) | (apply rx_loadA;rfl;rfl;(exact (rfl:_=[_, _]));rfl;rfl;rfl)) | (apply rx_fieldAddr;rfl;rfl;rfl) | (apply rx_bin;rfl;rfl;rfl;rfl) | (apply rx_assign;rfl;rfl) | (apply rx_indexO;rfl;rfl;(omega);rfl) | (first | (apply rx_pick;rfl;rfl;(rfl);(apply pick_c <;> (first | assumption | omega));rfl;rfl) | (apply rx_numO;rfl;rfl;rfl;rfl;infer_instance;rfl;(rfl);assumption;omega;(decide);(decide);rfl;rfl) | (apply rx_copyOf;rfl;(apply copyOf_c <;> (omega));rfl;rfl)) | (first | (apply rx_len;rfl;rfl;rfl) | (apply rx_append;rfl;rfl;rfl;rfl;rfl;(rw [flat_length]; omega);(rfl);omega;omega;(exact app_int (by (omega)));rfl;rfl)) | (apply rw_nil;kernel_rfl) | (apply rx_box;rfl;rfl;rfl;rfl) | (apply rx_alloc;rfl;rfl) | (apply rx_buildSlice;rfl;rfl;rfl;(first | exact (rfl:_=some [_]) | exact (rfl:_=some [_, _, _]) | exact (rfl:_=some [_, _, _, _]) | exact (rfl:_=some [_, _, _, _, _]));rfl;rfl) | (apply rx_store;rfl;rfl;rfl;rfl;rfl;(case hl => (first | (rw [flat_length]; simp only [lns] <;> omega) | (simp;done)));(first | exact st_sop (by (omega)) | exact st_sx (by (omega)) | exact st_sy (by (omega)) | exact st_sn (by (omega)) | exact (rfl:_=[_, _])))) | (apply id_aw; first | apply aw_seq | apply aw_region | (apply aw_draw;kernel_rfl) | (apply aw_cond;rfl;all_goals intro hc;have hq:=hc;(try simp only [bqs] at hq);try exfalso;omega) | apply aw_block | apply aw_skip | apply aw_ret) | with_reducible apply tq_normal | with_reducible apply tq_ret | with_reducible apply bq_normal)
  · refine rq_le (Le.frzC (j := 2) (i := 6) [] rfl rfl (by decide)) ?_
    refine rq_le (Le.frzC (j := 2) (i := 7) [.imm _ _] rfl rfl (by decide)) ?_
    refine rq_ret rfl ?_
    refine mc_ret ((⟨q.types, q.body⟩ : Prg), p) ?_ ?_ ⟨.inr (Eq.trans (b := some _) rfl ?_), trivial⟩
    · exact ⟨by dsimp only; omega, by dsimp only; omega, by dsimp only; omega⟩
    · rfl
    · rfl
  · refine rq_le (Le.frzC (j := 2) (i := 6) [] rfl rfl (by decide)) ?_
    refine rq_le (Le.frzC (j := 2) (i := 7) [.imm _ _] rfl rfl (by decide)) ?_
    refine rq_ret rfl ?_
    refine mc_ret ((⟨q.types, q.body.set (pickF bs p (q.body.length : Int)).toNat (uOp q.body[(pickF bs p (q.body.length : Int)).toNat]! (numF bs (p + 1 + 1) [0, 11, 1, 3, 8]))⟩ : Prg), p + 1 + 1 + 1) ?_ ?_ ⟨.inr (Eq.trans (b := some _) rfl ?_), trivial⟩
    · refine ⟨?_, by dsimp only; omega, by dsimp only; omega⟩; dsimp only; rw [cntL_set q.body (pickF bs p (q.body.length : Int)).toNat _ (by omega) (by rw [cntS_uOp])]; omega
    · show _ = AV.agg [_, AV.imm (List.length (q.body.set _ _)) _]; rw [List.length_set]; rfl
    · rfl
  · refine rq_le (Le.frzC (j := 2) (i := 6) [] rfl rfl (by decide)) ?_
    refine rq_le (Le.frzC (j := 2) (i := 7) [.imm _ _] rfl rfl (by decide)) ?_
    refine rq_ret rfl ?_
    refine mc_ret ((⟨q.types, q.body.set (pickF bs p (q.body.length : Int)).toNat (uX q.body[(pickF bs p (q.body.length : Int)).toNat]! (numF bs (p + 1 + 1) [6, -1, 0, 1]))⟩ : Prg), p + 1 + 1 + 1) ?_ ?_ ⟨.inr (Eq.trans (b := some _) rfl ?_), trivial⟩
    · refine ⟨?_, by dsimp only; omega, by dsimp only; omega⟩; dsimp only; rw [cntL_set q.body (pickF bs p (q.body.length : Int)).toNat _ (by omega) (by rw [cntS_uX])]; omega
    · show _ = AV.agg [_, AV.imm (List.length (q.body.set _ _)) _]; rw [List.length_set]; rfl
    · rfl
  · refine rq_le (Le.frzC (j := 2) (i := 6) [] rfl rfl (by decide)) ?_
    refine rq_le (Le.frzC (j := 2) (i := 7) [.imm _ _] rfl rfl (by decide)) ?_
    refine rq_ret rfl ?_
    refine mc_ret ((⟨q.types, q.body.set (pickF bs p (q.body.length : Int)).toNat (uY q.body[(pickF bs p (q.body.length : Int)).toNat]! (numF bs (p + 1 + 1) [6, -1, 0, 1]))⟩ : Prg), p + 1 + 1 + 1) ?_ ?_ ⟨.inr (Eq.trans (b := some _) rfl ?_), trivial⟩
    · refine ⟨?_, by dsimp only; omega, by dsimp only; omega⟩; dsimp only; rw [cntL_set q.body (pickF bs p (q.body.length : Int)).toNat _ (by omega) (by rw [cntS_uY])]; omega
    · show _ = AV.agg [_, AV.imm (List.length (q.body.set _ _)) _]; rw [List.length_set]; rfl
    · rfl
  · refine rq_le (Le.frzC (j := 2) (i := 6) [] rfl rfl (by decide)) ?_
    refine rq_le (Le.frzC (j := 2) (i := 7) [.imm _ _] rfl rfl (by decide)) ?_
    refine rq_ret rfl ?_
    refine mc_ret ((⟨q.types, q.body.set (pickF bs p (q.body.length : Int)).toNat (uN q.body[(pickF bs p (q.body.length : Int)).toNat]! (numF bs (p + 1 + 1) [10, -1, 5]))⟩ : Prg), p + 1 + 1 + 1) ?_ ?_ ⟨.inr (Eq.trans (b := some _) rfl ?_), trivial⟩
    · refine ⟨?_, by dsimp only; omega, by dsimp only; omega⟩; dsimp only; rw [cntL_set q.body (pickF bs p (q.body.length : Int)).toNat _ (by omega) (by rw [cntS_uN])]; omega
    · show _ = AV.agg [_, AV.imm (List.length (q.body.set _ _)) _]; rw [List.length_set]; rfl
    · rfl
  · refine rq_le (Le.frzC (j := 2) (i := 11) [] rfl rfl (by decide)) ?_
    refine rq_le (Le.frzC (j := 2) (i := 7) [.imm _ _] rfl rfl (by decide)) ?_
    refine rq_ret rfl ?_
    refine mc_ret ((⟨q.types ++ [numF bs (p + 1 + 1) [1, 5, 0, 4]], q.body⟩ : Prg), p + 1 + 1 + 1) ?_ ?_ ⟨.inr (Eq.trans (b := some _) rfl ?_), trivial⟩
    · exact ⟨by dsimp only; omega, by simp, by dsimp only; omega⟩
    · show _ = AV.agg [AV.imm (List.length (q.types ++ [_])) _, _]; rw [List.length_append]; rfl
    · rfl
  · refine aw_loopK (σ := Nat × List AL.Stmt × Nat) [4, 5] [(4, _), (5, _)] [6, 2, 0] [(6, some _), (2, some _), (0, some _)] (fun k => [(7, iv (k.1 : Int))]) (fun k => [(7, some (flat cStmt k.2.1)), (8, some [.own 6 0 q.types.length 1, .own 7 0 k.2.2 6])]) (fun k => k.1 ≤ 31 ∧ k.2.1 = q.body ++ List.replicate k.1 q.body[0]! ∧ k.2.2 = k.2.1.length) (fun k => 31 - k.1) (0, q.body, q.body.length) ⟨by omega, by simp, rfl⟩ rfl rfl (by repeat' (first | exact trivial | refine And.intro rfl ?_)) (by repeat' (first | exact trivial | refine And.intro (.inr rfl) ?_)) ?_
    rintro ⟨k, xs, m⟩ ⟨hk, hxs, hm⟩
    dsimp only at hk hxs hm ⊢
    have hln : 0 < xs.length := by rw [hxs, List.length_append]; omega
    have hl2 : xs.length = q.body.length + k := by rw [hxs, List.length_append, List.length_replicate]
    repeat' (first | (apply id_rw; first | (apply rx_move;rfl;rfl) | (first | (apply rx_loadFA; (case hx | hH => rfl); (case hf | hg | hα => infer_instance); (case hk => omega); (case h0 | hN => rfl)) | (apply rx_load1;rfl;rfl;rfl;rfl) | (apply rx_loadA;rfl;rfl;(exact (rfl:_=[_, _]));rfl;rfl;rfl)) | (apply rx_fieldAddr;rfl;rfl;rfl) | (first | (apply rx_add;rfl;rfl;omega;rfl) | (apply rx_bin;rfl;rfl;rfl;rfl)) | (apply rx_assign;rfl;rfl) | (apply rx_indexO;rfl;rfl;(omega);rfl) | (apply rx_append;rfl;rfl;rfl;rfl;rfl;(rw [flat_length]; omega);(rfl);omega;omega;(exact app_stmt (by (assumption)));rfl;rfl) | (apply rw_nil;kernel_rfl) | (apply rx_buildSlice;rfl;rfl;rfl;(exact (rfl:_=some [_, _, _, _, _, _]));rfl;rfl) | (apply rx_store;rfl;rfl;rfl;rfl;rfl;(case hl => (simp;done));(exact (rfl:_=[_, _])))) | (apply id_aw; first | apply aw_seq | apply aw_region | (apply aw_draw;kernel_rfl) | (apply aw_cond;rfl;all_goals intro hc;have hq:=hc;(try simp only [bqs] at hq);try exfalso;omega) | apply aw_block | apply aw_skip | apply aw_exit | apply aw_ret) | with_reducible apply tq_normal | with_reducible apply tq_exit | with_reducible apply bq_normal | with_reducible apply bq_here)
    · (apply ex3 (k + 1, _, _); focus (refine Le.ren [(7, 10), (8, 8), (6, 6), (2, 2)] rfl (by decide) ?_ ?_ <;> repeat' (first | exact trivial | refine And.intro ⟨_, rfl, ?_⟩ ?_ | refine And.intro ⟨_, _, rfl, rfl, ?_⟩ ?_ | exact Or.inr rfl | refine Or.inl ⟨?_, (by first | rfl | exact pur_sl _ _ | exact Pur.pf)⟩ | refine Or.inr (All2.cons ?_ ?_) | refine All2.cons ?_ ?_ | exact All2.nil | rfl)))
      · dsimp only
        refine ⟨by omega, ?_, by simp [hm]⟩
        have e0 : xs[Int.toNat 0]! = q.body[0]! := by
          show xs[0]! = _
          rw [hxs, getElem!_pos _ _ (by rw [List.length_append]; omega), List.getElem_append_left (by omega), getElem!_pos _ _ (by omega)]
        rw [e0, hxs, List.replicate_succ', List.append_assoc]
      · dsimp only; omega
    · have hc0 : cntS q.body[0]! ≤ cntL q.body := cntL_at q.body 0 (by omega)
      have hc1 : cntL xs = cntL q.body + k * cntS q.body[0]! := by rw [hxs, cntL_append, cntL_rep]
      have hc2 : k * cntS q.body[0]! ≤ 31 * cntL q.body := Nat.mul_le_mul hk hc0
      subst hm
      refine rq_le (Le.frzC (j := 2) (i := 6) [] rfl rfl (by decide)) ?_
      refine rq_le (Le.frzC (j := 2) (i := 7) [.imm _ _] rfl rfl (by decide)) ?_
      refine rq_ret rfl ?_
      refine mc_ret ((⟨q.types, xs⟩ : Prg), p + 1 + 1) ?_ ?_ ⟨.inr (Eq.trans (b := some _) rfl ?_), trivial⟩
      · exact ⟨by dsimp only; omega, by dsimp only; omega, by dsimp only; omega⟩
      · rfl
      · rfl
  · have hK : (pickF bs p (q.body.length : Int) + 1).toNat = (pickF bs p (q.body.length : Int)).toNat + 1 := by omega
    repeat' (first | (apply id_rw; first | (apply rx_sliceOh;rfl;exact bnd_pos rfl (by omega);omega;rfl) | (apply rx_sliceOw;rfl;exact bnd_pos rfl (by omega);omega;rfl) | (apply rx_append;rfl;rfl;rfl;rfl;rfl;(rw [flat_length]; omega);exact sC_ownD rfl (by omega);omega;omega;exact app_del (by omega);rfl;rfl) | (apply rx_move;rfl;rfl) | (first | (apply rx_load1;rfl;rfl;rfl;rfl) | (apply rx_loadA;rfl;rfl;(exact (rfl:_=[_, _]));rfl;rfl;rfl)) | (apply rx_fieldAddr;rfl;rfl;rfl) | (apply rx_add;rfl;rfl;omega;rfl) | (apply rw_nil;kernel_rfl) | (apply rx_store;rfl;rfl;rfl;rfl;rfl;(case hl => (simp;done));(exact (rfl:_=[_, _])))) | (apply id_aw; first | apply aw_seq | apply aw_region | apply aw_ret) | with_reducible apply tq_normal | with_reducible apply bq_normal)
    refine rq_le (Le.frzC (j := 2) (i := 6) [] rfl rfl (by decide)) ?_
    refine rq_le (Le.frzC (j := 2) (i := 9) [.imm _ _] rfl rfl (by decide)) ?_
    refine rq_ret rfl ?_
    refine mc_ret ((⟨q.types, q.body.take (pickF bs p (q.body.length : Int)).toNat ++ q.body.drop (pickF bs p (q.body.length : Int) + 1).toNat⟩ : Prg), p + 1 + 1) ?_ ?_ ⟨.inr (Eq.trans (b := some _) rfl ?_), trivial⟩
    · refine ⟨?_, by dsimp only; omega, by dsimp only; omega⟩
      dsimp only
      rw [hK]
      have := cntL_del q.body (pickF bs p (q.body.length : Int)).toNat
      omega
    · show AV.agg [_, AV.imm _ _] = AV.agg [_, AV.imm (List.length (_ ++ _)) _]
      rw [List.length_append, List.length_take, List.length_drop, Nat.min_eq_left (by omega)]
    · rfl
  · refine rq_le (Le.frzC (j := 2) (i := 6) [] rfl rfl (by decide)) ?_
    refine rq_le (Le.frzC (j := 2) (i := 7) [.imm _ _] rfl rfl (by decide)) ?_
    refine rq_ret rfl ?_
    refine mc_ret (q, p + 1 + 1) ⟨by dsimp only; omega, by dsimp only; omega, by dsimp only; omega⟩ rfl ⟨.inr (Eq.trans (b := some _) rfl ?_), trivial⟩
    · rfl
end Go.Proofs.YtejkbiijonnefaaGreat

namespace Go.Proofs.YtejkbiijonnefaaGreat
open Go.AL Go.RowKit

def atF (s : ByteArray) (i : Int) (w : ByteArray) : Bool := decide (0 ≤ i) && (decide (i + w.size ≤ s.size) && ((s.extract i.toNat (i + w.size).toNat).toList == w.toList))
def chrF (lo hi : Int) (s : ByteArray) (i : Int) : Int := if i < 0 then -1 else if (s.size : Int) ≤ i then -1 else if ((s[i.toNat]!).toNat : Int) < lo then -1 else if hi < ((s[i.toNat]!).toNat : Int) then -1 else ((s[i.toNat]!).toNat : Int) - lo
theorem l1At_c (s : ByteArray) (i : Int) (w : ByteArray) (hs : s.size ≤ 1000000) (hw : w.size ≤ 1000000) (hi : i ≤ 1000000) : PC Tryz.prog 194 [sv s, iv i, sv w] (fun r => r = bv (atF s i w)) := by
  (refine pc_of_aw Tryz.func194 rfl (by simp [Tryz.ntmps194]) ?_; rw [Tryz.ntmps194])
  repeat' (first | (apply id_rw; first | (apply rx_sbin;rfl;rfl;(rfl);rfl) | (apply rx_sliceS;rfl;exact bnd_pos rfl (by omega);exact bnd_pos rfl (by omega);omega;rfl) | (apply rx_move;rfl;rfl) | (first | (apply rx_guardY;rfl;rfl;rfl;(assumption)) | (apply rx_guardNs;rfl;rfl;rfl;(first | rfl | assumption)) | (apply rx_guardS; (case hj | hb | hN => rfl); all_goals (intro hg; have hq := hg; (try simp only [bqs] at hq); (try (exfalso; omega))))) | (first | (apply rx_add;rfl;rfl;omega;rfl) | (apply rx_bin;rfl;rfl;rfl;rfl)) | (apply rx_assign;rfl;rfl) | (first | (apply rx_pickT;rfl;(assumption);rfl;rfl) | (apply rx_pickF;rfl;(first | rfl | assumption);rfl;rfl)) | (apply rx_lenS;rfl;rfl) | (apply rw_nil;kernel_rfl)) | (apply id_aw; first | apply aw_seq | apply aw_region | apply aw_ret) | with_reducible apply tq_normal | ((with_reducible apply rq_ret); case hr => rfl))
  all_goals (refine ⟨?_, rfl⟩; simp only [oneOf, AV.v.injEq, Value.bool.injEq, Value.int.injEq, true_and])
  · unfold atF
    rw [decide_eq_true (by omega), decide_eq_true (by omega)]; rfl
  · unfold atF
    rw [decide_eq_true (p := 0 ≤ i) (by omega), decide_eq_false (by omega)]; rfl
  · unfold atF
    rw [decide_eq_false (by omega)]; rfl
theorem l1Var_c (s : ByteArray) (i : Int) (hs : s.size ≤ 1000000) : PC Tryz.prog 201 [sv s, iv i] (fun r => r = iv (chrF 97 122 s i)) := by
  have hb0 : ((s[i.toNat]!).toNat : Int) ≤ 255 := by have := (s[i.toNat]!).toNat_lt; omega
  (refine pc_of_aw Tryz.func201 rfl (by simp [Tryz.ntmps201]) ?_; rw [Tryz.ntmps201])
  repeat' (first | (apply id_rw; first | (apply rx_indexS;rfl;rfl;omega;rfl) | (apply rx_subU;rfl;rfl;omega;rfl) | (apply rx_move;rfl;rfl) | (first | (apply rx_guardY;rfl;rfl;rfl;(assumption)) | (apply rx_guardNs;rfl;rfl;rfl;(first | rfl | assumption)) | (apply rx_guardS; (case hj | hb | hN => rfl); all_goals (intro hg; have hq := hg; (try simp only [bqs] at hq); (try (exfalso; omega))))) | (apply rx_bin;rfl;rfl;rfl;rfl) | (apply rx_assign;rfl;rfl) | (first | (apply rx_pickT;rfl;(first | rfl | assumption);rfl;rfl) | (apply rx_pickF;rfl;(assumption);rfl;rfl)) | (apply rx_lenS;rfl;rfl) | (apply rw_nil;kernel_rfl) | (apply rx_conv64;rfl;(omega);rfl)) | (apply id_aw; first | apply aw_seq | apply aw_region | (apply aw_condT;rfl;(rfl)) | (apply aw_cond;rfl;all_goals intro hc;have hq:=hc;(try simp only [bqs] at hq);try exfalso;omega) | apply aw_skip | apply aw_ret) | with_reducible apply tq_normal | with_reducible apply tq_ret | ((with_reducible apply rq_ret); case hr => rfl))
  all_goals (refine ⟨?_, rfl⟩; simp only [oneOf, AV.v.injEq, Value.bool.injEq, Value.int.injEq, true_and])
  all_goals (unfold chrF; repeat' split)
  all_goals (first | rfl | omega)
theorem l1Digit_c (s : ByteArray) (i : Int) (hs : s.size ≤ 1000000) : PC Tryz.prog 203 [sv s, iv i] (fun r => r = iv (chrF 48 57 s i)) := by
  have hb0 : ((s[i.toNat]!).toNat : Int) ≤ 255 := by have := (s[i.toNat]!).toNat_lt; omega
  (refine pc_of_aw Tryz.func203 rfl (by simp [Tryz.ntmps203]) ?_; rw [Tryz.ntmps203])
  repeat' (first | (apply id_rw; first | (apply rx_indexS;rfl;rfl;omega;rfl) | (apply rx_subU;rfl;rfl;omega;rfl) | (apply rx_move;rfl;rfl) | (first | (apply rx_guardY;rfl;rfl;rfl;(assumption)) | (apply rx_guardNs;rfl;rfl;rfl;(first | rfl | assumption)) | (apply rx_guardS; (case hj | hb | hN => rfl); all_goals (intro hg; have hq := hg; (try simp only [bqs] at hq); (try (exfalso; omega))))) | (apply rx_bin;rfl;rfl;rfl;rfl) | (apply rx_assign;rfl;rfl) | (first | (apply rx_pickT;rfl;(first | rfl | assumption);rfl;rfl) | (apply rx_pickF;rfl;(assumption);rfl;rfl)) | (apply rx_lenS;rfl;rfl) | (apply rw_nil;kernel_rfl) | (apply rx_conv64;rfl;(omega);rfl)) | (apply id_aw; first | apply aw_seq | apply aw_region | (apply aw_condT;rfl;(rfl)) | (apply aw_cond;rfl;all_goals intro hc;have hq:=hc;(try simp only [bqs] at hq);try exfalso;omega) | apply aw_skip | apply aw_ret) | with_reducible apply tq_normal | with_reducible apply tq_ret | ((with_reducible apply rq_ret); case hr => rfl))
  all_goals (refine ⟨?_, rfl⟩; simp only [oneOf, AV.v.injEq, Value.bool.injEq, Value.int.injEq, true_and])
  all_goals (unfold chrF; repeat' split)
  all_goals (first | rfl | omega)
end Go.Proofs.YtejkbiijonnefaaGreat

namespace Go.Proofs.YtejkbiijonnefaaGreat
open Go.AL Go.RowKit

def QP (s : ByteArray) (i : Int) (r : AV) : Prop := ∃ (x : AL.Stmt) (nx : Int), r = .tup [aStmt x, iv nx] ∧ ((nx = -1 ∧ (cntS x : Int) ≤ s.size + 1) ∨ (i < nx ∧ nx ≤ s.size + 3 ∧ (cntS x : Int) ≤ nx - i))
def QB (s : ByteArray) (i : Int) (r : AV) : Prop := ∃ (l : List AL.Stmt) (nx : Int), r = .tup [sl cStmt l, iv nx] ∧ ((nx = -1 ∧ l = []) ∨ (0 ≤ i ∧ i + 2 ≤ nx ∧ nx ≤ s.size ∧ (cntL l : Int) ≤ nx - i))
def QL (s : ByteArray) (i : Int) (r : AV) : Prop := ∃ (l : List AL.Stmt) (nx : Int), r = .tup [sl cStmt l, iv nx] ∧ ((nx = -1 ∧ l = []) ∨ (i ≤ nx ∧ nx ≤ s.size ∧ (cntL l : Int) ≤ nx - i))
theorem atF_bd {s w : ByteArray} {i : Int} (h : atF s i w = true) : 0 ≤ i ∧ i + w.size ≤ s.size := by
  unfold atF at h; simp only [Bool.and_eq_true, decide_eq_true_eq] at h; exact ⟨h.1, h.2.1⟩
theorem qp0 {s : ByteArray} {i op x y n nx : Int} (h : nx = -1 ∨ (i < nx ∧ nx ≤ s.size + 3)) : QP s i (.tup [.agg [iv op, iv x, iv y, iv n, .imm 0 [], .imm 0 []], iv nx]) :=
  ⟨.mk op x y n [] [], nx, rfl, by simp only [cntS, cntL]; omega⟩
theorem qp1 {s : ByteArray} {i op x y n nx : Int} {th : List AL.Stmt} (h : (nx = -1 ∧ (cntL th : Int) ≤ s.size) ∨ (i < nx ∧ nx ≤ s.size + 3 ∧ (cntL th : Int) + 1 ≤ nx - i)) : QP s i (.tup [.agg [iv op, iv x, iv y, iv n, sl cStmt th, .imm 0 []], iv nx]) :=
  ⟨.mk op x y n th [], nx, rfl, by simp only [cntS, cntL]; omega⟩
theorem qp2 {s : ByteArray} {i op x y n nx : Int} {th el : List AL.Stmt} (h : (nx = -1 ∧ (cntL th : Int) + cntL el ≤ s.size) ∨ (i < nx ∧ nx ≤ s.size + 3 ∧ (cntL th : Int) + cntL el + 1 ≤ nx - i)) : QP s i (.tup [.agg [iv op, iv x, iv y, iv n, sl cStmt th, sl cStmt el], iv nx]) :=
  ⟨.mk op x y n th el, nx, rfl, by simp only [cntS]; omega⟩
theorem QP.pur {s : ByteArray} {i : Int} {r : AV} (h : QP s i r) : r.pur = true := by obtain ⟨x, nx, rfl, _⟩ := h; exact Pur.pf
theorem QB.pur {s : ByteArray} {i : Int} {r : AV} (h : QB s i r) : r.pur = true := by obtain ⟨x, nx, rfl, _⟩ := h; exact Pur.pf
theorem QL.pur {s : ByteArray} {i : Int} {r : AV} (h : QL s i r) : r.pur = true := by obtain ⟨x, nx, rfl, _⟩ := h; exact Pur.pf
theorem rq_q {P : Program} {s : AS} {res : Array ResultVar} {q : AV → Prop} {l : List AV} (hQ : ∀ r, q r → r.pur = true) (hr : resL P (lk s.ts) (lkH s.hs) res.toList = some l) (h : q (oneOf l)) : retQ P res (fun r _ => q r ∧ r.pur = true) .ret s := rq_ret hr ⟨h, hQ _ h⟩



theorem parse_c0 (s : ByteArray) (i dp : Int) (hs : s.size ≤ 100000) (hi0 : 0 ≤ i) (hi : i ≤ s.size) (hd0 : 0 ≤ dp) (hd : dp ≤ 10) (braces_ih : ∀ j dj : Int, dj = dp - 1 → -1 ≤ j → j ≤ s.size + 10 → PC Tryz.prog 202 [sv s, iv j, iv dj] (QB s j)) : PC Tryz.prog 195 [sv s, iv i, iv dp] (QP s i) := by
  have h1 : atF s i ⟨#[100, 114, 111, 112, 32]⟩ = true → i + 5 ≤ s.size := fun h => (atF_bd h).2
  have h2 : atF s i ⟨#[108, 111, 111, 112, 123]⟩ = true → i + 5 ≤ s.size := fun h => (atF_bd h).2
  have h3 : atF s i ⟨#[105, 102, 123]⟩ = true → i + 3 ≤ s.size := fun h => (atF_bd h).2
  have h4 : atF s i ⟨#[42]⟩ = true → i + 1 ≤ s.size := fun h => (atF_bd h).2
  have h5 : atF s (i + 1) ⟨#[61]⟩ = true → i + 1 + 1 ≤ s.size := fun h => (atF_bd h).2
  have h6 : atF s (i + 2) ⟨#[98, 111, 120, 32]⟩ = true → i + 2 + 4 ≤ s.size := fun h => (atF_bd h).2
  have h7 : atF s (i + 2) ⟨#[38, 109, 117, 116, 32]⟩ = true → i + 2 + 5 ≤ s.size := fun h => (atF_bd h).2
  (refine pc_of_aw Tryz.func195 rfl (by simp [Tryz.ntmps195]) ?_; rw [Tryz.ntmps195])
  repeat' (first | (apply id_rw; first | (apply rx_move;rfl;rfl) | (first | (apply rx_guardY;rfl;rfl;rfl;(assumption)) | (apply rx_guardNs;rfl;rfl;rfl;(assumption)) | (apply rx_guardS; (case hj | hb | hN => rfl); all_goals (intro hg; have hq := hg; (try simp only [bqs] at hq); (try (exfalso; omega))))) | (first | (apply rx_add;rfl;rfl;omega;rfl) | (apply rx_sub;rfl;rfl;omega;rfl) | (apply rx_bin;rfl;rfl;rfl;rfl)) | (apply rx_assign;rfl;rfl) | (first | (apply rx_pickT;rfl;(assumption);rfl;rfl) | (apply rx_pickF;rfl;(assumption);rfl;rfl)) | (first | ((with_reducible apply rx_callE (k := 194)); (case ha => rfl); (case h => (apply l1At_c <;> (first | omega | decide))); (case hp => (rfl)); (case hN => rfl)) | ((with_reducible apply rx_callE (k := 201)); (case ha => rfl); (case h => (apply l1Var_c <;> (omega))); (case hp => (rfl)); (case hN => rfl)) | ((with_reducible apply rx_call (k := 202)); (case ha => rfl); (case h => (apply braces_ih <;> (omega))); (case hp => (rfl)); (case hN => rfl); (rintro _ ⟨l, nx, rfl, hql⟩ _)) | ((with_reducible apply rx_callE (k := 203)); (case ha => rfl); (case h => (apply l1Digit_c <;> (omega))); (case hp => (rfl)); (case hN => rfl))) | (apply rw_nil;kernel_rfl) | (apply rx_buildK;rfl;(exact (rfl:_=some [_, _, _, _, _, _]));(exact (rfl:_=[_, _, _, _, _, _]));rfl) | (apply rx_not;rfl;rfl) | (apply rx_alloc;rfl;rfl) | (apply rx_extract;rfl;rfl;rfl) | (apply rx_store;rfl;rfl;rfl;rfl;rfl;(case hl => (first | decide | (simp;done)));(exact (rfl:_=[_, _, _, _, _, _])))) | (apply id_aw; first | apply aw_seq | apply aw_region | (apply aw_condT;rfl;(rfl)) | (apply aw_cond;rfl;all_goals intro hc;have hq:=hc;(try simp only [bqs] at hq);try exfalso;omega) | apply aw_block | apply aw_skip | apply aw_ret) | with_reducible apply tq_normal | with_reducible apply tq_ret | with_reducible apply bq_normal | with_reducible apply bq_ret)
  all_goals refine rq_q (fun _ => QP.pur) (l := [.agg [_, _, _, _, _, _], _]) rfl ?_
  all_goals (try have b1 := h1 (by assumption))
  all_goals (try have b2 := h2 (by assumption))
  all_goals (try have b3 := h3 (by assumption))
  all_goals (try have b4 := h4 (by assumption))
  all_goals (try have b5 := h5 (by assumption))
  all_goals (try have b6 := h6 (by assumption))
  all_goals (try have b7 := h7 (by assumption))
  all_goals clear h1 h2 h3 h4 h5 h6 h7
  all_goals first
    | (refine qp0 ?_; omega)
    | skip
  · refine qp1 (th := l) ?_
    rcases hql with ⟨h8, h9⟩ | hql
    · rw [h9]; simp only [cntL]; omega
    · omega
  · rename_i l1 nx1 hql1 hpu1 hpu2
    refine qp2 (th := l1) (el := l) ?_
    rcases hql1 with ⟨h8, h9⟩ | hql1 <;> rcases hql with ⟨h10, h11⟩ | hql
    · rw [h9, h11]; simp only [cntL]; omega
    · omega
    · rw [h11]; simp only [cntL]; omega
    · omega
theorem braces_c0 (s : ByteArray) (i dp : Int) (hs : s.size ≤ 100000) (hi0 : -1 ≤ i) (hi : i ≤ s.size + 10) (hd0 : -1 ≤ dp) (hd : dp ≤ 10) (list_ih : ∀ j dj : Int, 0 ≤ dp → dj = dp → 0 ≤ j → j ≤ s.size → PC Tryz.prog 186 [sv s, iv j, iv dj] (QL s j)) : PC Tryz.prog 202 [sv s, iv i, iv dp] (QB s i) := by
  have h1 : atF s i ⟨#[123]⟩ = true → 0 ≤ i ∧ i + 1 ≤ s.size := fun h => atF_bd h
  (refine pc_of_aw Tryz.func202 rfl (by simp [Tryz.ntmps202]) ?_; rw [Tryz.ntmps202])
  repeat' (first | (apply id_rw; first | (apply rx_move;rfl;rfl) | (first | (apply rx_guardY;rfl;rfl;rfl;(assumption)) | (apply rx_guardNs;rfl;rfl;rfl;(assumption)) | (apply rx_guardS; (case hj | hb | hN => rfl); all_goals (intro hg; have hq := hg; (try simp only [bqs] at hq); (try (exfalso; omega))))) | (first | (apply rx_add;rfl;rfl;omega;rfl) | (apply rx_bin;rfl;rfl;rfl;rfl)) | (apply rx_assign;rfl;rfl) | (first | (apply rx_pickT;rfl;(assumption);rfl;rfl) | (apply rx_pickF;rfl;(assumption);rfl;rfl)) | ((with_reducible apply rx_callE (k := 194)); (case ha => rfl); (case h => (apply l1At_c <;> (first | omega | decide))); (case hp => (rfl)); (case hN => rfl)) | (apply rw_nil;kernel_rfl) | (apply rx_not;rfl;rfl)) | (apply id_aw; first | apply aw_seq | apply aw_region | (apply aw_condT;rfl;(rfl)) | (apply aw_cond;rfl;all_goals intro hc;have hq:=hc;(try simp only [bqs] at hq);try exfalso;omega) | apply aw_skip | apply aw_ret) | with_reducible apply tq_normal | with_reducible apply tq_ret)
  · refine rq_le (Le.nilImm (d := 6) rfl) ?_
    exact rq_q (fun _ => QB.pur) (l := [.imm 0 [], iv (-1)]) rfl ⟨[], -1, rfl, .inl ⟨rfl, rfl⟩⟩
  · have b1 := h1 (by assumption)
    repeat' (first | (apply id_rw; first | (apply rx_move;rfl;rfl) | (apply rx_add;rfl;rfl;omega;rfl) | (apply rx_assign;rfl;rfl) | (first | ((with_reducible apply rx_call (k := 186)); (case ha => rfl); (case h => (apply list_ih <;> (first | assumption | omega))); (case hp => (rfl)); (case hN => rfl); (rintro _ ⟨l, nx, rfl, hql⟩ _)) | ((with_reducible apply rx_callE (k := 194)); (case ha => rfl); (case h => (apply l1At_c <;> (first | omega | decide))); (case hp => (rfl)); (case hN => rfl))) | (apply rw_nil;kernel_rfl) | (apply rx_not;rfl;rfl) | (apply rx_extract;rfl;rfl;rfl)) | (apply id_aw; first | apply aw_seq | apply aw_region | (apply aw_cond;rfl;all_goals intro hc;have hq:=hc;(try simp only [bqs] at hq);try exfalso;omega) | apply aw_skip | apply aw_ret) | with_reducible apply tq_normal | with_reducible apply tq_ret)
    · refine rq_le (Le.nilImm (d := 6) rfl) ?_
      exact rq_q (fun _ => QB.pur) (l := [.imm 0 [], iv (-1)]) rfl ⟨[], -1, rfl, .inl ⟨rfl, rfl⟩⟩
    · have b2 : 0 ≤ nx ∧ nx + 1 ≤ s.size := atF_bd (w := ⟨#[125]⟩) (by assumption)
      exact rq_q (fun _ => QB.pur) (l := [sl cStmt l, iv (nx + 1)]) rfl ⟨l, nx + 1, rfl, by omega⟩
  · refine rq_le (Le.nilImm (d := 6) rfl) ?_
    exact rq_q (fun _ => QB.pur) (l := [.imm 0 [], iv (-1)]) rfl ⟨[], -1, rfl, .inl ⟨rfl, rfl⟩⟩
theorem list_c0 (s : ByteArray) (i dp : Int) (hs : s.size ≤ 100000) (hi0 : 0 ≤ i) (hi : i ≤ s.size) (hd0 : 0 ≤ dp) (hd : dp ≤ 10) (parse_ih : ∀ j dj : Int, dj = dp → 0 ≤ j → j ≤ s.size → PC Tryz.prog 195 [sv s, iv j, iv dj] (QP s j)) : PC Tryz.prog 186 [sv s, iv i, iv dp] (QL s i) := by
  (refine pc_of_aw Tryz.func186 rfl (by simp [Tryz.ntmps186]) ?_; rw [Tryz.ntmps186])
  repeat' (first | (apply id_rw; first | (apply rx_move;rfl;rfl) | (first | (apply rx_guardY;rfl;rfl;rfl;(assumption)) | (apply rx_guardNs;rfl;rfl;rfl;(assumption)) | (apply rx_guardS; (case hj | hb | hN => rfl); all_goals (intro hg; have hq := hg; (try simp only [bqs] at hq); (try (exfalso; omega))))) | (apply rx_bin;rfl;rfl;rfl;rfl) | (apply rx_assign;rfl;rfl) | (first | (apply rx_pickT;rfl;(assumption);rfl;rfl) | (apply rx_pickF;rfl;(assumption);rfl;rfl)) | ((with_reducible apply rx_callE (k := 194)); (case ha => rfl); (case h => (apply l1At_c <;> (first | omega | decide))); (case hp => (rfl)); (case hN => rfl)) | (apply rx_lenS;rfl;rfl) | (apply rw_nil;kernel_rfl) | (apply rx_buildSlice;rfl;rfl;rfl;(rfl);rfl;rfl)) | (apply id_aw; first | apply aw_seq | apply aw_region | (apply aw_condT;rfl;(rfl)) | (apply aw_cond;rfl;all_goals intro hc;have hq:=hc;(try simp only [bqs] at hq);try exfalso;omega) | apply aw_block | apply aw_skip | apply aw_ret) | with_reducible apply tq_normal | with_reducible apply tq_ret)
  rotate_left 1
  · refine aw_loopK (σ := Int × List AL.Stmt × Nat) [0, 2] [(0, _), (2, _)] [] [] (fun k => [(1, iv k.1), (8, .own 0 0 k.2.2 6)]) (fun k => [(0, some (flat cStmt k.2.1))]) (fun k => i ≤ k.1 ∧ k.1 ≤ s.size ∧ k.2.2 = k.2.1.length ∧ (cntL k.2.1 : Int) ≤ k.1 - i) (fun k => (s.size - k.1).toNat) (i, [], 0) ⟨by omega, by omega, rfl, by simp [cntL]⟩ rfl rfl (by repeat' (first | exact trivial | refine And.intro rfl ?_)) (by repeat' (first | exact trivial | refine And.intro (.inr rfl) ?_)) ?_
    rintro ⟨k, xs, m⟩ ⟨hk0, hk, hm, hc⟩
    dsimp only at hk0 hk hm hc ⊢
    have hln := cntL_len xs
    repeat' (first | (apply id_rw; first | (apply rx_move;rfl;rfl) | (apply rx_loadA;rfl;rfl;(exact (rfl:_=[_, _, _, _, _, _]));rfl;rfl;rfl) | (first | (apply rx_guardY;rfl;rfl;rfl;(assumption)) | (apply rx_guardNs;rfl;rfl;rfl;(assumption)) | (apply rx_guardS; (case hj | hb | hN => rfl); all_goals (intro hg; have hq := hg; (try simp only [bqs] at hq); (try (exfalso; omega))))) | (first | (apply rx_add;rfl;rfl;omega;rfl) | (apply rx_bin;rfl;rfl;rfl;rfl)) | (apply rx_assign;rfl;rfl) | (first | (apply rx_pickT;rfl;(assumption);rfl;rfl) | (apply rx_pickF;rfl;(assumption);rfl;rfl)) | (first | ((with_reducible apply rx_callE (k := 194)); (case ha => rfl); (case h => (apply l1At_c <;> (first | omega | decide))); (case hp => (rfl)); (case hN => rfl)) | ((with_reducible apply rx_call (k := 195)); (case ha => rfl); (case h => (apply parse_ih <;> (first | assumption | omega))); (case hp => (rfl)); (case hN => rfl); (rintro _ ⟨x, nx, rfl, hqx⟩ _))) | (first | (apply rx_lenS;rfl;rfl) | (apply rx_append;rfl;rfl;rfl;rfl;rfl;(rw [flat_length]; omega);(rfl);omega;omega;(exact app_stmt (by (assumption)));rfl;rfl)) | (apply rw_nil;kernel_rfl) | (apply rx_not;rfl;rfl) | (apply rx_alloc;rfl;rfl) | (apply rx_extract;rfl;rfl;rfl) | ((apply rx_buildSliceI (t := _)); (case hze | hsm | hl => rfl); (case hfl => (exact (rfl:_=some [_, _, _, _, _, _]))); (case hM | hN => rfl)) | (apply rx_store;rfl;rfl;rfl;rfl;rfl;(case hl => (simp;done));(exact (rfl:_=[_, _, _, _, _, _])))) | (apply id_aw; first | apply aw_seq | apply aw_region | (apply aw_condT;rfl;(rfl)) | (apply aw_cond;rfl;all_goals intro hc;have hq:=hc;(try simp only [bqs] at hq);try exfalso;omega) | apply aw_block | apply aw_skip | apply aw_ret) | with_reducible apply tq_normal | with_reducible apply tq_ret | with_reducible apply bq_normal | with_reducible apply bq_ret)
    · refine rq_le (Le.nilImm (d := 6) rfl) ?_
      exact rq_q (fun _ => QL.pur) (l := [.imm 0 [], iv (-1)]) rfl ⟨[], -1, rfl, .inl ⟨rfl, rfl⟩⟩
    · refine rq_le (Le.frzD (d := 6) (i := 3) rfl rfl) ?_
      refine rq_q (fun _ => QL.pur) (l := [.imm (m + 1) (flat cStmt (xs ++ [x])), iv nx]) rfl ⟨xs ++ [x], nx, ?_, ?_⟩
      · show AV.tup [AV.imm (m + 1) _, _] = AV.tup [AV.imm (List.length (xs ++ [x])) _, _]
        rw [List.length_append, hm]; rfl
      · rw [cntL_append]; simp only [cntL]; omega
    · have b2 : 0 ≤ nx ∧ nx + 1 ≤ s.size := atF_bd (w := ⟨#[59]⟩) (by assumption)
      (apply ex3 (nx + 1, xs ++ [x], m + 1); focus (refine Le.ren [(0, 3)] rfl (by decide) ?_ ?_ <;> repeat' (first | exact trivial | refine And.intro ⟨_, rfl, ?_⟩ ?_ | refine And.intro ⟨_, _, rfl, rfl, ?_⟩ ?_ | exact Or.inr rfl | refine Or.inl ⟨?_, (by first | rfl | exact pur_sl _ _)⟩ | rfl)))
      · dsimp only
        refine ⟨by omega, by omega, by simp [hm], ?_⟩
        rw [cntL_append]; simp only [cntL]; omega
      · dsimp only; omega
    · refine rq_le (Le.nilImm (d := 6) rfl) ?_
      exact rq_q (fun _ => QL.pur) (l := [.imm 0 [], iv (-1)]) rfl ⟨[], -1, rfl, .inl ⟨rfl, rfl⟩⟩
  · refine rq_le (Le.frzD (d := 6) (i := 0) rfl rfl) ?_
    exact rq_q (fun _ => QL.pur) (l := [.imm 0 [], iv i]) rfl ⟨[], i, rfl, by simp only [cntL]; omega⟩
  · refine rq_le (Le.frzD (d := 6) (i := 0) rfl rfl) ?_
    exact rq_q (fun _ => QL.pur) (l := [.imm 0 [], iv i]) rfl ⟨[], i, rfl, by simp only [cntL]; omega⟩
theorem list_all (s : ByteArray) (hs : s.size ≤ 100000) : ∀ n : Nat, n ≤ 10 → (∀ j : Int, -1 ≤ j → j ≤ s.size + 10 → PC Tryz.prog 202 [sv s, iv j, iv ((n : Int) - 1)] (QB s j)) ∧ (∀ j : Int, 0 ≤ j → j ≤ s.size → PC Tryz.prog 186 [sv s, iv j, iv (n : Int)] (QL s j))
  | 0, hn => by
    have hB : ∀ j : Int, -1 ≤ j → j ≤ s.size + 10 → PC Tryz.prog 202 [sv s, iv j, iv (((0 : Nat) : Int) - 1)] (QB s j) :=
      fun j h0 h1 => braces_c0 s j (((0 : Nat) : Int) - 1) hs h0 h1 (by omega) (by omega) (fun _ _ h => by omega)
    have hP : ∀ j : Int, 0 ≤ j → j ≤ s.size → PC Tryz.prog 195 [sv s, iv j, iv ((0 : Nat) : Int)] (QP s j) :=
      fun j h0 h1 => parse_c0 s j _ hs h0 h1 (by omega) (by omega) (fun k dj h2 h3 h4 => by subst h2; exact hB k h3 h4)
    exact ⟨hB, fun j h0 h1 => list_c0 s j _ hs h0 h1 (by omega) (by omega) (fun k dj h2 h3 h4 => by subst h2; exact hP k h3 h4)⟩
  | n + 1, hn => by
    have ih := list_all s hs n (by omega)
    have e : (((n + 1 : Nat) : Int) - 1) = (n : Int) := by omega
    have hB : ∀ j : Int, -1 ≤ j → j ≤ s.size + 10 → PC Tryz.prog 202 [sv s, iv j, iv (((n + 1 : Nat) : Int) - 1)] (QB s j) :=
      fun j h0 h1 => braces_c0 s j _ hs h0 h1 (by omega) (by omega) (fun k dj h2 h3 h4 h5 => by rw [e] at h3; subst h3; exact ih.2 k h4 h5)
    have hP : ∀ j : Int, 0 ≤ j → j ≤ s.size → PC Tryz.prog 195 [sv s, iv j, iv ((n + 1 : Nat) : Int)] (QP s j) :=
      fun j h0 h1 => parse_c0 s j _ hs h0 h1 (by omega) (by omega) (fun k dj h2 h3 h4 => by subst h2; exact hB k h3 h4)
    exact ⟨hB, fun j h0 h1 => list_c0 s j _ hs h0 h1 (by omega) (by omega) (fun k dj h2 h3 h4 => by subst h2; exact hP k h3 h4)⟩
theorem list4_c (s : ByteArray) (i : Int) (hs : s.size ≤ 100000) (hi0 : 0 ≤ i) (hi : i ≤ s.size) : PC Tryz.prog 186 [sv s, iv i, iv 4] (QL s i) := (list_all s hs 4 (by omega)).2 i hi0 hi
end Go.Proofs.YtejkbiijonnefaaGreat

namespace Go.Proofs.YtejkbiijonnefaaGreat
open Go.AL Go.RowKit

theorem l1Letter_c (v : Int) (h0 : 0 ≤ v) (h1 : v ≤ 25) : PC Tryz.prog 205 [iv v] (fun r => r = sv (letF v)) := by
  (refine pc_of_aw Tryz.func205 rfl (by simp [Tryz.ntmps205]) ?_; rw [Tryz.ntmps205])
  repeat' (first | (apply id_rw; first | (apply rx_addU;rfl;rfl;omega;rfl) | ((apply rx_b2s (ns := [_])); (case hx | hs' | hN => rfl)) | (apply rx_convU;rfl;omega;rfl) | (apply rx_move;rfl;rfl) | (apply rx_assign;rfl;rfl) | (apply rw_nil;kernel_rfl) | (apply rx_buildSlice;rfl;rfl;rfl;exact (rfl:_=some [_]);rfl;rfl)) | (apply id_aw; first | apply aw_seq | apply aw_region | apply aw_ret) | with_reducible apply tq_normal | ((with_reducible apply rq_ret); case hr => rfl))
  exact ⟨rfl, rfl⟩
theorem l17Dec_c (n : Int) (h0 : 0 ≤ n) (h1 : n ≤ 9) : PC Tryz.prog 206 [iv n] (fun r => r = sv (decF n)) := by
  (refine pc_of_aw Tryz.func206 rfl (by simp [Tryz.ntmps206]) ?_; rw [Tryz.ntmps206])
  repeat' (first | (apply id_rw; first | (apply rx_move;rfl;rfl) | (apply rx_bin;rfl;rfl;rfl;rfl) | (apply rx_assign;rfl;rfl) | (apply rw_nil;kernel_rfl)) | (apply id_aw; first | apply aw_seq | apply aw_region | (apply aw_cond;rfl;all_goals intro hc;have hq:=hc;(try simp only [bqs] at hq);try exfalso;omega) | apply aw_block | apply aw_skip) | with_reducible apply tq_normal)
  refine aw_loopK (σ := Unit) [0, 3] [(0, _), (3, _)] [] [] (fun u => []) (fun u => []) (fun u => True) (fun u => 0) () trivial rfl rfl (by repeat' (exact trivial)) (by repeat' (exact trivial)) ?_
  rintro u _
  repeat' (first | (apply id_rw; first | (apply rx_sbin;rfl;rfl;(rfl);rfl) | ((apply rx_b2s (ns := [_])); (case hx | hs' | hN => rfl)) | (apply rx_convU;rfl;omega;rfl) | (apply rx_move;rfl;rfl) | (first | (apply rx_add;rfl;rfl;omega;rfl) | (apply rx_bin;rfl;rfl;rfl;rfl)) | (apply rx_assign;rfl;rfl) | (apply rw_nil;kernel_rfl) | (apply rx_buildSlice;rfl;rfl;rfl;exact (rfl:_=some [_]);rfl;rfl)) | (apply id_aw; first | apply aw_seq | apply aw_region | (apply aw_cond;rfl;all_goals intro hc;have hq:=hc;(try simp only [bqs] at hq);try exfalso;omega) | apply aw_exit | apply aw_ret) | with_reducible apply tq_normal | with_reducible apply tq_exit | with_reducible apply bq_here | ((with_reducible apply rq_ret); case hr => rfl))
  exact ⟨rfl, rfl⟩


theorem text_c0 (s : AL.Stmt) (hc : cntS s ≤ 10000) (hop : (s.op = 9 ∨ s.op = 10) ∨ (1 ≤ s.op ∧ s.op ≤ 8 ∧ 0 ≤ s.x ∧ s.x ≤ 5 ∧ 0 ≤ s.y ∧ s.y ≤ 5 ∧ (s.op = 1 ∨ s.op = 2 → 0 ≤ s.n ∧ s.n ≤ 9)))
    (hth : s.op = 9 ∨ s.op = 10 → PC Tryz.prog 196 [sl cStmt s.th] (fun r => r = sv (textL s.th))) (hel : s.op = 9 → PC Tryz.prog 196 [sl cStmt s.el] (fun r => r = sv (textL s.el))) : PC Tryz.prog 204 [aStmt s] (fun r => r = sv (textS s)) := by
  have k1 := textL_size s.th
  have k2 := textL_size s.el
  have k3 := cntS_def s
  (refine pc_of_aw Tryz.func204 rfl (by simp [Tryz.ntmps204]) ?_; rw [Tryz.ntmps204])
  repeat' (first | (apply id_rw; first | (apply rx_sbin;rfl;rfl;(first | rfl | exact sadd_ok (by (simp only [ByteArray.size_append, bsz_lit, List.length_cons, List.length_nil, letF_size, decF_size, bytF_size] <;> omega)));rfl) | (apply rx_move;rfl;rfl) | (apply rx_load1;rfl;rfl;rfl;rfl) | (apply rx_fieldAddr;rfl;rfl;rfl) | (apply rx_bin;rfl;rfl;rfl;rfl) | (apply rx_assign;rfl;rfl) | (first | ((with_reducible apply rx_callE (k := 196)); (case ha => rfl); (case h => (first | (apply hth; omega) | (apply hel; omega))); (case hp => (exact Pur.pf)); (case hN => rfl)) | ((with_reducible apply rx_callE (k := 205)); (case ha => rfl); (case h => (apply l1Letter_c <;> (omega))); (case hp => (rfl)); (case hN => rfl)) | ((with_reducible apply rx_callE (k := 206)); (case ha => rfl); (case h => (apply l17Dec_c <;> (omega))); (case hp => (rfl)); (case hN => rfl))) | (apply rw_nil;kernel_rfl) | (apply rx_box;rfl;rfl;rfl;rfl)) | (apply id_aw; first | apply aw_seq | apply aw_region | (apply aw_draw;kernel_rfl) | (apply aw_cond;rfl;all_goals intro hc;have hq:=hc;(try simp only [bqs] at hq);try exfalso;omega) | apply aw_block | apply aw_skip | apply aw_ret) | with_reducible apply tq_normal | with_reducible apply tq_ret | with_reducible apply bq_normal | with_reducible apply bq_ret | ((with_reducible apply rq_ret); case hr => rfl))
  all_goals (refine ⟨?_, rfl⟩; rw [textS_def]; repeat' split)
  all_goals (first | rfl | omega)
theorem textL_c0 (l : List AL.Stmt) (hc : cntL l ≤ 10000) (text_ih : ∀ k, k < l.length → PC Tryz.prog 204 [aStmt l[k]!] (fun r => r = sv (textS l[k]!))) : PC Tryz.prog 196 [sl cStmt l] (fun r => r = sv (textL l)) := by
  have hlen := cntL_len l
  (refine pc_of_aw Tryz.func196 rfl (by simp [Tryz.ntmps196]) ?_; rw [Tryz.ntmps196])
  repeat' (first | (apply id_rw; first | (apply rx_assign;rfl;rfl) | (apply rw_nil;kernel_rfl)) | (apply id_aw; first | apply aw_seq | apply aw_region | apply aw_block) | with_reducible apply tq_normal)
  refine aw_loopK (σ := Nat × ByteArray) [0] [(0, _)] [] [] (fun k => [(4, iv (k.1 : Int)), (3, sv k.2)]) (fun k => []) (fun k => k.1 ≤ l.length ∧ k.2 = textL (l.take k.1)) (fun k => l.length - k.1) (0, ⟨#[]⟩) ⟨by omega, rfl⟩ rfl rfl (by repeat' (first | exact trivial | refine And.intro rfl ?_)) (by repeat' (exact trivial)) ?_
  rintro ⟨k, t⟩ ⟨hk, ht⟩
  dsimp only at hk ht ⊢
  have k1 := textL_size (l.take k)
  have k2 := textS_size l[k]!
  have hck := cntL_at l k
  have hct : cntL (l.take k) ≤ cntL l := by have := cntL_append (l.take k) (l.drop k); rw [List.take_append_drop] at this; omega
  have k3 : t.size = (textL (l.take k)).size := by rw [ht]
  repeat' (first | (apply id_rw; first | (apply rx_sbin;rfl;rfl;(exact sadd_ok (by (first | omega | (simp only [ByteArray.size_append, bsz_lit, List.length_cons, List.length_nil, letF_size, decF_size, bytF_size] <;> omega))));rfl) | (apply rx_move;rfl;rfl) | (apply rx_loadA;rfl;rfl;(exact (rfl:_=[_, _, _, _, _, _]));rfl;rfl;rfl) | (first | (apply rx_add;rfl;rfl;omega;rfl) | (apply rx_bin;rfl;rfl;rfl;rfl)) | (apply rx_assign;rfl;rfl) | (apply rx_indexFN; (case hx | hi => rfl); (case hm => (omega)); (case hml => (rfl)); (case hα | hf | hg => infer_instance); (case hN => rfl)) | ((with_reducible apply rx_callE (k := 204)); (case ha => rfl); (case h => (apply text_ih <;> (omega))); (case hp => (exact Pur.pf)); (case hN => rfl)) | (apply rx_len;rfl;rfl;rfl) | (apply rw_nil;kernel_rfl)) | (apply id_aw; first | apply aw_seq | apply aw_region | (apply aw_cond;rfl;all_goals intro hc;have hq:=hc;(try simp only [bqs] at hq);try exfalso;omega) | apply aw_block | apply aw_skip | apply aw_exit | apply aw_ret) | with_reducible apply tq_normal | with_reducible apply tq_exit | with_reducible apply bq_normal | with_reducible apply bq_here | ((with_reducible apply rq_ret); case hr => rfl))
  · (apply ex3 (k + 1, _); focus (refine Le.ren [] rfl (by decide) ?_ ?_ <;> repeat' (first | exact trivial | refine And.intro ⟨_, rfl, ?_⟩ ?_ | refine Or.inl ⟨?_, (by first | rfl | exact pur_sl _ _)⟩ | rfl)))
    · exact ⟨by dsimp only; omega, by dsimp only; rw [textL_succ l k (by omega), joinF, if_pos (by omega), ht]⟩
    · dsimp only; omega
  · (apply ex3 (k + 1, _); focus (refine Le.ren [] rfl (by decide) ?_ ?_ <;> repeat' (first | exact trivial | refine And.intro ⟨_, rfl, ?_⟩ ?_ | refine Or.inl ⟨?_, (by first | rfl | exact pur_sl _ _)⟩ | rfl)))
    · exact ⟨by dsimp only; omega, by dsimp only; rw [textL_succ l k (by omega), joinF, if_neg (by omega), ht]⟩
    · dsimp only; omega
  · have hke : k = l.length := by omega
    refine ⟨?_, rfl⟩
    rw [ht, hke, List.take_length]; rfl
theorem text_all (ts : List Int) (hts : typesOk ts = true) : ∀ m : Nat, m ≤ 10000 → ∀ l d, cntL l ≤ m → okL ts d l = true → PC Tryz.prog 196 [sl cStmt l] (fun r => r = sv (textL l)) := by
  intro m
  induction m with
  | zero =>
    intro hm l d hc ho
    have := cntL_len l
    exact textL_c0 l (by omega) (fun k hk => by omega)
  | succ m ih =>
    intro hm l d hc ho
    refine textL_c0 l (by omega) (fun k hk => ?_)
    have hck := cntL_at l k hk
    have hct := cnt_th l[k]!
    have hs : okS ts d l[k]! = true := by rw [okL_eq, all_iff] at ho; exact ho k hk
    rw [okS_def] at hs
    by_cases h9 : l[k]!.op ≠ 9 ∧ l[k]!.op ≠ 10
    · rw [if_pos h9] at hs
      simp only [Bool.and_eq_true] at hs
      exact text_c0 _ (by omega) (.inr (simple_bd hts hs.2)) (fun h => by omega) (fun h => by omega)
    · rw [if_neg h9] at hs
      cases d with
      | zero => cases hs
      | succ d =>
        simp only [Bool.and_eq_true] at hs
        exact text_c0 _ (by omega) (.inl (by omega)) (fun h => ih (by omega) _ d (by omega) hs.1.2) (fun h => ih (by omega) _ d (by omega) hs.2)
theorem l1List_c (ts : List Int) (d : Nat) (l : List AL.Stmt) (hts : typesOk ts = true) (hc : cntL l ≤ 10000) (ho : okL ts d l = true) : PC Tryz.prog 196 [sl cStmt l] (fun r => r = sv (textL l)) := text_all ts hts _ hc l d (Nat.le_refl _) ho
end Go.Proofs.YtejkbiijonnefaaGreat

namespace Go.Proofs.YtejkbiijonnefaaGreat
open Go.AL Go.RowKit

def cStr (s : ByteArray) : List AV := [.v (.string s)]
instance : FlT cStr 1 := ⟨fun _ => rfl⟩
instance : FE cStr (fun s => [.v (.string s)]) := ⟨fun _ => rfl⟩
instance (s : ByteArray) : Pur (cStr s) := ⟨rfl⟩
theorem Le.slotEq {ts : List (Nat × AV)} {hs : List (Nat × Option (List AV))} {n : Nat} {z0 : Lo} {d : Nat} (v v' : AV) (hd : lk ts d = some v) (h : v = v') : Le ⟨ts, hs, n, z0⟩ ⟨(d, v') :: ts, hs, n, z0⟩ :=
  Le.slot hd fun w bad ι y hr => h ▸ hr
def kinds : List ByteArray := [⟨#[]⟩, ⟨#[105]⟩, ⟨#[98]⟩, ⟨#[114]⟩, ⟨#[109]⟩]
theorem kinds_size (k : Nat) : (kinds[k]!).size ≤ 1 := by
  match k with
  | 0 => decide
  | 1 => decide
  | 2 => decide
  | 3 => decide
  | 4 => decide
  | k + 5 => exact (show (default : ByteArray).size ≤ 1 from by decide)
theorem l1Program_c (p : Prg) (hv : validF p = true) : PC Tryz.prog 187 [aPrg p] (fun r => ∃ t, r = sv t) := by
  have hv2 := hv
  simp only [validF, Bool.and_eq_true, decide_eq_true_eq] at hv2
  obtain ⟨⟨hts, hol⟩, hcn⟩ := hv2
  have hl6 := typesOk_len hts
  have htx := textL_size p.body
  (refine pc_of_aw Tryz.func187 rfl (by simp [Tryz.ntmps187]) ?_; rw [Tryz.ntmps187])
  repeat' (first | (apply id_rw; first | (apply rx_assign;rfl;rfl) | (apply rw_nil;kernel_rfl) | (apply rx_box;rfl;rfl;rfl;rfl)) | (apply id_aw; first | apply aw_seq | apply aw_region | apply aw_block) | with_reducible apply tq_normal)
  refine aw_loopK (σ := Nat × ByteArray) [1] [(1, _)] [0] [(0, some _)] (fun k => [(4, iv (k.1 : Int)), (3, sv k.2)]) (fun k => []) (fun k => k.1 ≤ p.types.length ∧ k.2.size ≤ k.1) (fun k => p.types.length - k.1) (0, ⟨#[]⟩) ⟨by omega, by show 0 ≤ 0; omega⟩ rfl rfl (by repeat' (first | exact trivial | refine And.intro rfl ?_)) (by repeat' (exact trivial)) ?_
  rintro ⟨k, t⟩ ⟨hk, ht⟩
  dsimp only at hk ht ⊢
  have htk := typesOk_at hts k
  have hkz : (kinds[(p.types[k]!).toNat]!).size ≤ 1 := kinds_size _
  have hkl : kinds.length = 5 := rfl
  repeat' (first | (apply id_rw; first | (with_reducible apply rw_stop (d := 14)) | ((with_reducible apply rx_callE (k := 196)); (case ha => rfl); (case h => exact l1List_c p.types 4 p.body hts (by omega) hol); (case hp => (exact Pur.pf)); (case hN => rfl)) | (apply rx_sbin;rfl;rfl;(exact sadd_ok (by (simp only [ByteArray.size_append, bsz_lit, List.length_cons, List.length_nil, letF_size, decF_size, bytF_size] <;> omega)));rfl) | (apply rx_move;rfl;rfl) | (apply rx_load1;rfl;rfl;rfl;rfl) | (apply rx_fieldAddr;rfl;rfl;rfl) | (apply rx_bin;rfl;rfl;rfl;rfl) | (apply rx_assign;rfl;rfl) | (apply rx_len;rfl;rfl;rfl) | (apply rw_nil;kernel_rfl) | ((apply rx_buildSliceI (t := _)); (case hze | hsm | hl => rfl); (case hfl => (exact (rfl:_=some [_, _, _, _, _]))); (case hM | hN => rfl))) | (apply id_aw; first | apply aw_seq | apply aw_region | (apply aw_cond;rfl;all_goals intro hc;have hq:=hc;(try simp only [bqs] at hq);try exfalso;omega) | apply aw_block | apply aw_skip | apply aw_exit | apply aw_ret) | with_reducible apply tq_normal | with_reducible apply tq_exit | with_reducible apply bq_here)
  · refine rw_go (rw_le ?_ (Le.slotEq (d := 13) _ (.imm 5 (flat cStr kinds)) rfl rfl))
    repeat' (first | (apply id_rw; first | (apply rx_sbin;rfl;rfl;(exact sadd_ok (by (omega)));rfl) | (apply rx_move;rfl;rfl) | (apply rx_load1;rfl;rfl;rfl;rfl) | (apply rx_fieldAddr;rfl;rfl;rfl) | (apply rx_add;rfl;rfl;omega;rfl) | (apply rx_assign;rfl;rfl) | (first | (apply rx_indexFN; (case hx | hi => rfl); (case hm => (omega)); (case hml => (rfl)); (case hα | hf | hg => infer_instance); (case hN => rfl)) | (apply rx_indexF; (case hx | hi => rfl); (case hm => (omega)); (case hml => (rfl)); (case hα | hf | hg => infer_instance); (case hN => rfl))) | (apply rw_nil;kernel_rfl)) | (apply id_aw; (apply aw_region)) | with_reducible apply tq_normal | with_reducible apply bq_normal)
    (apply ex3 (k + 1, _); focus (refine Le.ren [(0, 0)] rfl (by decide) ?_ ?_ <;> repeat' (first | exact trivial | refine And.intro ⟨_, rfl, ?_⟩ ?_ | refine And.intro ⟨_, _, rfl, rfl, ?_⟩ ?_ | exact Or.inr rfl | refine Or.inl ⟨?_, (by first | rfl | exact Pur.pf)⟩ | rfl)))
    · exact ⟨by dsimp only; omega, by dsimp only; rw [ByteArray.size_append]; omega⟩
    · dsimp only; omega
  · refine rq_ret rfl ⟨⟨_, rfl⟩, rfl⟩
theorem qprog0 {s : ByteArray} (b : Bool) : (∃ (q : Prg) (b' : Bool), AV.tup [AV.agg [.imm 0 [], .imm 0 []], bv b] = .tup [aPrg q, bv b'] ∧ cntL q.body ≤ s.size + 10 ∧ q.types.length ≤ s.size + 10) :=
  ⟨⟨[], []⟩, b, rfl, by simp [cntL], by simp⟩
theorem parseProgram_c (s : ByteArray) (hs : s.size ≤ 10000) : PC Tryz.prog 156 [sv s] (fun r => ∃ (q : Prg) (b : Bool), r = .tup [aPrg q, bv b] ∧ cntL q.body ≤ s.size + 10 ∧ q.types.length ≤ s.size + 10) := by
  (refine pc_of_aw Tryz.func156 rfl (by simp [Tryz.ntmps156]) ?_; rw [Tryz.ntmps156])
  repeat' (first | (apply id_rw; first | (with_reducible apply rw_stop (d := 13)) | (apply rx_move;rfl;rfl) | (apply rx_bin;rfl;rfl;rfl;rfl) | (apply rx_assign;rfl;rfl) | (apply rx_lenS;rfl;rfl) | (apply rw_nil;kernel_rfl) | (apply rx_buildK;rfl;(exact (rfl:_=some [_, _]));(exact (rfl:_=[_, _]));rfl) | (apply rx_alloc;rfl;rfl) | (apply rx_store;rfl;rfl;rfl;rfl;rfl;(decide);(exact (rfl:_=[_, _])))) | (apply id_aw; first | apply aw_seq | apply aw_region | (apply aw_cond;rfl;all_goals intro hc;have hq:=hc;(try simp only [bqs] at hq);try exfalso;omega) | apply aw_skip | apply aw_ret) | with_reducible apply tq_normal | with_reducible apply tq_ret)
  · exact rq_ret (l := [.agg [.imm 0 [], .imm 0 []], bv false]) rfl ⟨qprog0 false, rfl⟩
  refine rw_go ?_
  apply rx_build
  case hl => rfl
  case hf => exact (rfl:_=some [AV.v (.slice none 0 0), AV.v (.slice none 0 0)])
  case hN => rfl
  repeat' (first | (apply id_rw; first | (apply rx_assign;rfl;rfl) | (apply rw_nil;kernel_rfl) | (apply rx_alloc;rfl;rfl) | (apply rx_store;rfl;rfl;rfl;rfl;rfl;(decide);(exact (rfl:_=[_, _])))) | (apply id_aw; first | apply aw_seq | apply aw_region | apply aw_block) | with_reducible apply tq_normal)
  apply AW.le
  case k => exact Le.nilCell (i := 1) 1 [] rfl (by decide) (by decide)
  refine aw_loopK (σ := Nat × List Int × Nat) [0, 2, 4] [(0, _), (2, _), (4, _)] [0] [(0, some _)] (fun k => [(5, iv (k.1 : Int))]) (fun k => [(1, some [.own 2 0 k.2.2 1, .v (.slice none 0 0)]), (2, some (flat cI k.2.1))]) (fun k => k.1 ≤ s.size ∧ k.2.1.length = k.1 ∧ k.2.2 = k.2.1.length) (fun k => s.size - k.1) (0, [], 0) ⟨by omega, rfl, rfl⟩ rfl rfl (by repeat' (first | exact trivial | refine And.intro rfl ?_)) (by repeat' (first | exact trivial | refine And.intro (.inr rfl) ?_)) ?_
  rintro ⟨k, xs, m⟩ ⟨hk, hxl, hm⟩
  dsimp only at hk hxl hm ⊢
  repeat' (first | (apply id_rw; first | (with_reducible apply rw_stop (d := 43)) | (apply rx_indexS;rfl;rfl;omega;rfl) | (apply rx_move;rfl;rfl) | (apply rx_load1;rfl;rfl;rfl;rfl) | (apply rx_fieldAddr;rfl;rfl;rfl) | (first | (apply rx_guardY;rfl;rfl;rfl;(assumption)) | (apply rx_guardNs;rfl;rfl;rfl;(assumption)) | (apply rx_guardS; (case hj | hb | hN => rfl); all_goals (intro hg; have hq := hg; (try simp only [bqs] at hq); (try (exfalso; omega))))) | (first | (apply rx_add;rfl;rfl;omega;rfl) | (apply rx_bin;rfl;rfl;rfl;rfl)) | (apply rx_assign;rfl;rfl) | (first | (apply rx_pickT;rfl;(assumption);rfl;rfl) | (apply rx_pickF;rfl;(assumption);rfl;rfl)) | (first | (apply rx_lenS;rfl;rfl) | (apply rx_append;rfl;rfl;rfl;rfl;rfl;(rw [flat_length]; omega);(rfl);omega;omega;(exact app_int (by (assumption)));rfl;rfl)) | (apply rw_nil;kernel_rfl) | ((apply rx_buildSliceI (t := _)); (case hze | hsm | hl => rfl); (case hfl => exact (rfl:_=some [_])); (case hM | hN => rfl)) | (apply rx_store;rfl;rfl;rfl;rfl;rfl;(case hl => (simp;done));(exact (rfl:_=[_, _])))) | (apply id_aw; first | apply aw_seq | apply aw_region | (apply aw_condF;rfl;(rfl)) | (apply aw_cond;rfl;all_goals intro hc;have hq:=hc;(try simp only [bqs] at hq);try exfalso;omega) | apply aw_block | apply aw_skip | apply aw_exit) | with_reducible apply tq_normal | with_reducible apply tq_exit | with_reducible apply bq_normal | with_reducible apply bq_here)
  · (apply ex3 (k + 1, xs ++ [1], m + 1); focus (refine Le.ren [(0, 0), (1, 1), (2, 4)] rfl (by decide) ?_ ?_ <;> repeat' (first | exact trivial | refine And.intro ⟨_, rfl, ?_⟩ ?_ | refine And.intro ⟨_, _, rfl, rfl, ?_⟩ ?_ | exact Or.inr rfl | refine Or.inl ⟨?_, (by first | rfl | exact pur_sl _ _)⟩ | refine Or.inr (All2.cons ?_ ?_) | refine All2.cons ?_ ?_ | exact All2.nil | rfl)))
    · exact ⟨by dsimp only; omega, by simp [hxl], by simp [hm]⟩
    · dsimp only; omega
  · (apply ex3 (k + 1, xs ++ [2], m + 1); focus (refine Le.ren [(0, 0), (1, 1), (2, 4)] rfl (by decide) ?_ ?_ <;> repeat' (first | exact trivial | refine And.intro ⟨_, rfl, ?_⟩ ?_ | refine And.intro ⟨_, _, rfl, rfl, ?_⟩ ?_ | exact Or.inr rfl | refine Or.inl ⟨?_, (by first | rfl | exact pur_sl _ _)⟩ | refine Or.inr (All2.cons ?_ ?_) | refine All2.cons ?_ ?_ | exact All2.nil | rfl)))
    · exact ⟨by dsimp only; omega, by simp [hxl], by simp [hm]⟩
    · dsimp only; omega
  · (apply ex3 (k + 1, xs ++ [3], m + 1); focus (refine Le.ren [(0, 0), (1, 1), (2, 4)] rfl (by decide) ?_ ?_ <;> repeat' (first | exact trivial | refine And.intro ⟨_, rfl, ?_⟩ ?_ | refine And.intro ⟨_, _, rfl, rfl, ?_⟩ ?_ | exact Or.inr rfl | refine Or.inl ⟨?_, (by first | rfl | exact pur_sl _ _)⟩ | refine Or.inr (All2.cons ?_ ?_) | refine All2.cons ?_ ?_ | exact All2.nil | rfl)))
    · exact ⟨by dsimp only; omega, by simp [hxl], by simp [hm]⟩
    · dsimp only; omega
  · (apply ex3 (k + 1, xs ++ [4], m + 1); focus (refine Le.ren [(0, 0), (1, 1), (2, 4)] rfl (by decide) ?_ ?_ <;> repeat' (first | exact trivial | refine And.intro ⟨_, rfl, ?_⟩ ?_ | refine And.intro ⟨_, _, rfl, rfl, ?_⟩ ?_ | exact Or.inr rfl | refine Or.inl ⟨?_, (by first | rfl | exact pur_sl _ _)⟩ | refine Or.inr (All2.cons ?_ ?_) | refine All2.cons ?_ ?_ | exact All2.nil | rfl)))
    · exact ⟨by dsimp only; omega, by simp [hxl], by simp [hm]⟩
    · dsimp only; omega
  · (apply ex3 (k + 1, xs ++ [0], m + 1); focus (refine Le.ren [(0, 0), (1, 1), (2, 4)] rfl (by decide) ?_ ?_ <;> repeat' (first | exact trivial | refine And.intro ⟨_, rfl, ?_⟩ ?_ | refine And.intro ⟨_, _, rfl, rfl, ?_⟩ ?_ | exact Or.inr rfl | refine Or.inl ⟨?_, (by first | rfl | exact pur_sl _ _)⟩ | refine Or.inr (All2.cons ?_ ?_) | refine All2.cons ?_ ?_ | exact All2.nil | rfl)))
    · exact ⟨by dsimp only; omega, by simp [hxl], by simp [hm]⟩
    · dsimp only; omega
  all_goals subst hm
  all_goals (refine rw_go (rw_le ?_ (Le.frzC (j := 1) (i := 2) [] rfl rfl (by decide))))
  all_goals repeat' (first | (apply id_rw; first | ((with_reducible apply rx_call (k := 186)); (case ha => rfl); (case h => (apply list4_c <;> omega)); (case hp => (rfl)); (case hN => rfl); (rintro _ ⟨l, nx, rfl, hql⟩ _)) | ((with_reducible apply rx_callE (k := 61)); (case ha => rfl); (case h => exact validS_c ⟨xs, l⟩ (by show xs.length ≤ _; omega) (by show cntL l ≤ 100000000; rcases hql with ⟨_, h9⟩ | h9; (rw [h9]; decide); omega)); (case hp => (exact Pur.pf)); (case hN => rfl)) | ((with_reducible apply rx_call (k := 187)); (case ha => rfl); (case h => exact l1Program_c ⟨xs, l⟩ (by assumption)); (case hp => (exact Pur.pf)); (case hN => rfl); (rintro _ ⟨t, rfl⟩ _)) | (apply rx_sbin;rfl;rfl;(rfl);rfl) | (apply rx_move;rfl;rfl) | (apply rx_loadA;rfl;rfl;(exact (rfl:_=[_, _]));rfl;rfl;rfl) | (apply rx_fieldAddr;rfl;rfl;rfl) | (first | (apply rx_guardY;rfl;rfl;rfl;(assumption)) | (apply rx_guardNs;rfl;rfl;rfl;(first | rfl | assumption)) | (apply rx_guardS; (case hj | hb | hN => rfl); all_goals (intro hg; have hq := hg; (try simp only [bqs] at hq); (try (exfalso; omega))))) | (first | (apply rx_add;rfl;rfl;omega;rfl) | (apply rx_bin;rfl;rfl;rfl;rfl)) | (apply rx_assign;rfl;rfl) | (first | (apply rx_pickT;rfl;(first | rfl | assumption);rfl;rfl) | (apply rx_pickF;rfl;(assumption);rfl;rfl)) | (apply rx_lenS;rfl;rfl) | (apply rw_nil;kernel_rfl) | (apply rx_buildK;rfl;(exact (rfl:_=some [_, _]));(exact (rfl:_=[_, _]));rfl) | (apply rx_not;rfl;rfl) | (apply rx_extract;rfl;rfl;rfl) | (apply rx_store;rfl;rfl;rfl;rfl;rfl;(case hl => (first | decide | (simp;done)));(exact (rfl:_=[_, _])))) | (apply id_aw; first | apply aw_seq | apply aw_region | (apply aw_condT;rfl;(rfl)) | (apply aw_cond;rfl;all_goals intro hc;have hq:=hc;(try simp only [bqs] at hq);try exfalso;omega) | apply aw_skip | apply aw_ret) | with_reducible apply tq_normal | with_reducible apply tq_ret)
  all_goals first
    | exact rq_ret (l := [.agg [.imm 0 [], .imm 0 []], bv false]) rfl ⟨qprog0 false, rfl⟩
    | (refine rq_ret (l := [.agg [.imm xs.length (flat cI xs), sl cStmt l], bv true]) rfl ⟨⟨⟨xs, l⟩, true, rfl, ?_, by show xs.length ≤ _; omega⟩, Pur.pf⟩
       show cntL l ≤ _
       rcases hql with ⟨_, h9⟩ | h9
       · rw [h9]; simp [cntL]
       · omega)
end Go.Proofs.YtejkbiijonnefaaGreat

namespace Go.Proofs.YtejkbiijonnefaaGreat
open Go.AL Go.RowKit

class NumS (cs : List AV) (xs : outParam (List ByteArray)) : Prop where h : cs = flat cStr xs
instance NumS.nil : NumS [] [] := ⟨rfl⟩
instance NumS.cons {n : ByteArray} {cs : List AV} {xs : List ByteArray} [h : NumS cs xs] : NumS (.v (.string n) :: cs) (n :: xs) := ⟨by rw [h.h]; rfl⟩
theorem texts_of {cs : List AV} {xs : List ByteArray} {m : Nat} (h : NumS cs xs) (hm : m = xs.length) (hs : xs.all (fun s => decide (s.size ≤ 600)) = true) : ∃ ys : List ByteArray, AV.imm m cs = sl cStr ys ∧ ys.length = m ∧ ∀ i : Nat, (ys[i]!).size ≤ 600 := by
  refine ⟨xs, by rw [h.h, hm], hm.symm, fun i => ?_⟩
  by_cases hi : i < xs.length
  · rw [List.all_eq_true] at hs
    rw [getB _ _ hi]
    simpa using hs _ (List.getElem_mem hi)
  · rw [getElem!_neg xs i hi]; decide
theorem l1Texts_c : PC Tryz.prog 155 [] (fun r => ∃ ys : List ByteArray, r = sl cStr ys ∧ ys.length = 25 ∧ ∀ i : Nat, (ys[i]!).size ≤ 600) := by
  (refine pc_of_aw Tryz.func155 rfl (by simp [Tryz.ntmps155]) ?_; rw [Tryz.ntmps155])
  repeat' (first | (apply id_rw; first | ((apply rx_buildSliceI (t := _)); (case hze | hsm | hl => rfl); (case hfl => exact (rfl:_=some [_, _, _, _, _, _, _, _, _, _, _, _, _, _, _, _, _, _, _, _, _, _, _, _, _])); (case hM | hN => rfl)) | (apply rx_assign;rfl;rfl) | (apply rw_nil;kernel_rfl)) | (apply id_aw; first | apply aw_seq | apply aw_region | apply aw_ret) | with_reducible apply tq_normal)
  refine rq_q (l := [.imm 25 [_, _, _, _, _, _, _, _, _, _, _, _, _, _, _, _, _, _, _, _, _, _, _, _, _]]) ?_ rfl ?_
  · rintro _ ⟨ys, rfl, _⟩; exact pur_sl _ _
  · exact texts_of inferInstance rfl (by decide)
theorem rx_prgcall {P : Program} {N : Nat} {Q : Exit → AS → Prop} {all : Array Oper} {rest : List Oper} {ts : List (Nat × AV)} {hs : List (Nat × Option (List AV))} {n : Nat} {z0 : Lo} {ty : TypeId} {pos : String} {af : Array Edge} {d : Nat} {args : Array Operand} {tys : Array TypeId}
    {k : FuncId} {pv : List AV} {p0 : Prg × Nat → Prop} {i p : Nat} {bs : List UInt8} (h : MC P k (.optr 0 0 :: pv) [(0, some (cRd bs p))] 1 p0 (fun x => aPrg x.1) (fun x => [(0, some (cRd bs x.2))])) [hc : CaT P k] (ha : evL (lk ts) args.toList = some (.optr i 0 :: pv)) (hpv : pursB pv = true)
    (hH : lkH hs i = some (cRd bs p)) (hM : Nat.ble (n + 0) big = true) (hN : Nat.blt d N = true) (kk : ∀ x, p0 x → RW P N all Q .txt rest ⟨(d, aPrg x.1) :: ts, (i, some (cRd bs x.2)) :: hs, n + 0, z0⟩) :
    RW P N all Q .txt (⟨some d, .call ⟨.value (.func k), args, tys⟩, ty, pos, af, none⟩ :: rest) ⟨ts, hs, n, z0⟩ :=
  rx_mcall (σ := Prg × Nat) [i] 1 (fun x : Prg × Nat => [(i, some (cRd bs x.2))]) h ha rfl ⟨⟨_, _, rfl, hH, RnL.purI inferInstance⟩, trivial⟩ rfl (RnL.cons (RnV.optr rfl) (RnL.pur hpv)) (by simpa using hM)
    (fun x _ => RnV.purI inferInstance) (fun x _ => by simp [wsAll]) (fun x _ => ⟨⟨0, _, rfl, rfl, RnL.purI inferInstance⟩, trivial⟩) hN kk
theorem num_bd (bs : List UInt8) (p : Nat) (xs : List Int) (lo hi : Int) (h0 : 0 < xs.length) (h : xs.all (fun x => decide (lo ≤ x) && decide (x ≤ hi)) = true) : lo ≤ numF bs p xs ∧ numF bs p xs ≤ hi := by
  have h1 := pickF_bd bs p (xs.length : Int)
  rw [all_iff] at h
  have := h (pickF bs p (xs.length : Int)).toNat (by omega)
  simp only [Bool.and_eq_true, decide_eq_true_eq] at this
  exact this
theorem draw_c (bs : List UInt8) (p : Nat) (hb : bs.length ≤ 2000) (hp : p ≤ 1000) : MC Tryz.prog 85 [.optr 0 0] [(0, some (cRd bs p))] 1 (fun x : Prg × Nat => cntL x.1.body ≤ 620 ∧ x.1.types.length ≤ 620 ∧ x.2 ≤ 2000) (fun x => aPrg x.1) (fun x => [(0, some (cRd bs x.2))]) := by
  have h0 := pickF_bd bs p 25
  have hn := num_bd bs (p + 1 + 1) [5, 4, 7, 3, 8] 0 8 (by decide) (by decide)
  (refine mc_of_aw Tryz.func85 rfl (by simp [Tryz.ntmps85]) ?_; rw [Tryz.ntmps85])
  repeat' (first | (apply id_rw; first | ((with_reducible apply rx_call (k := 155)); (case ha => rfl); (case h => exact l1Texts_c); (case hp => (rfl)); (case hN => rfl); (rintro _ ⟨ys, rfl, hyl, hsz⟩ _); (have hpk := pickF_bd bs p (ys.length : Int))) | ((with_reducible apply rx_call (k := 156)); (case ha => rfl); (case h => exact parseProgram_c _ (Nat.le_trans (hsz _) (by decide))); (case hp => (rfl)); (case hN => rfl); (rintro _ ⟨q, b, rfl, hqc, hqt⟩ _)) | ((apply rx_l1Some (ts := [1, 2, 2, 3, 4, 4])); (case ha0 | ha1 | ha2 | ha3 | hH0 => rfl); (case hmc => (apply l1Some_c <;> (first | assumption | omega))); (case hM | hN => rfl)) | (apply rx_move;rfl;rfl) | (first | (apply rx_load1;rfl;rfl;rfl;rfl) | (apply rx_loadA;rfl;rfl;(exact (rfl:_=[_, _]));rfl;rfl;rfl)) | (apply rx_fieldAddr;rfl;rfl;rfl) | (first | (apply rx_guardY;rfl;rfl;rfl;(assumption)) | (apply rx_guardNs;rfl;rfl;rfl;(assumption)) | (apply rx_guardS; (case hj | hb | hN => rfl); all_goals (intro hg; have hq := hg; (try simp only [bqs] at hq); (try (exfalso; omega))))) | (apply rx_bin;rfl;rfl;rfl;rfl) | (apply rx_assign;rfl;rfl) | (first | (apply rx_pickT;rfl;(assumption);rfl;rfl) | (apply rx_pickF;rfl;(assumption);rfl;rfl)) | (apply rx_indexF; (case hx | hi => rfl); (case hm => (omega)); (case hml => (rfl)); (case hα | hf | hg => infer_instance); (case hN => rfl)) | (first | (apply rx_pick;rfl;rfl;(rfl);(apply pick_c <;> (first | assumption | omega));rfl;rfl) | (apply rx_numO;rfl;rfl;rfl;rfl;infer_instance;rfl;(rfl);assumption;omega;(decide);(decide);rfl;rfl)) | (apply rx_len;rfl;rfl;rfl) | (apply rw_nil;kernel_rfl) | (apply rx_buildK;rfl;(exact (rfl:_=some [_, _]));(exact (rfl:_=[_, _]));rfl) | (apply rx_alloc;rfl;rfl) | (apply rx_extract;rfl;rfl;rfl) | ((apply rx_buildSliceI (t := _)); (case hze | hsm | hl => rfl); (case hfl => (exact (rfl:_=some [_, _, _, _, _, _]))); (case hM | hN => rfl)) | (apply rx_buildSlice;rfl;rfl;rfl;(exact (rfl:_=some [_, _, _, _, _]));rfl;rfl) | (apply rx_store;rfl;rfl;rfl;rfl;rfl;(case hl => (first | decide | (simp;done)));(exact (rfl:_=[_, _])))) | (apply id_aw; first | apply aw_seq | apply aw_region | (apply aw_draw;kernel_rfl) | (apply aw_condT;rfl;(rfl)) | (apply aw_cond;rfl;all_goals intro hc;have hq:=hc;(try simp only [bqs] at hq);try exfalso;omega) | apply aw_skip | apply aw_ret) | with_reducible apply tq_normal | with_reducible apply tq_ret)
  · have h9 := hsz (pickF bs p (ys.length : Int)).toNat
    refine rq_ret rfl ?_
    exact mc_ret (q, p + 1 + 1) ⟨by dsimp only; omega, by dsimp only; omega, by dsimp only; omega⟩ rfl ⟨.inr rfl, trivial⟩
  · have h9 := someF_n bs (d := 2) (by omega) (numF bs (p + 1 + 1) [5, 4, 7, 3, 8]) (p + 1 + 1 + 1)
    have h10 := someF_p bs (d := 2) (by omega) (numF bs (p + 1 + 1) [5, 4, 7, 3, 8]) (p + 1 + 1 + 1)
    refine rq_ret rfl ?_
    exact mc_ret ((⟨[1, 2, 2, 3, 4, 4], (someF bs 2 (numF bs (p + 1 + 1) [5, 4, 7, 3, 8]) (p + 1 + 1 + 1)).1⟩ : Prg), (someF bs 2 (numF bs (p + 1 + 1) [5, 4, 7, 3, 8]) (p + 1 + 1 + 1)).2) ⟨by dsimp only; omega, by show 6 ≤ 620; decide, by dsimp only; omega⟩ rfl ⟨.inr rfl, trivial⟩
  · have h9 := hsz (pickF bs p (ys.length : Int)).toNat
    refine rq_ret rfl ?_
    exact mc_ret (q, p + 1 + 1) ⟨by dsimp only; omega, by dsimp only; omega, by dsimp only; omega⟩ rfl ⟨.inr rfl, trivial⟩
theorem rx_l17Open {bs : List UInt8} {N : Nat} {Q : Exit → AS → Prop} {all : Array Oper} {rest : List Oper} {tsl : List (Nat × AV)} {hsl : List (Nat × Option (List AV))} {nidl : Nat} {z0 : Lo} {md : Md} {d : Nat} {ty : TypeId} {pos : String} {af : Array Edge} {tys : Array TypeId} {x0 : Operand} (ha0 : ev (lk tsl) x0 = some (sl cU bs)) (hmc : MC Tryz.prog 83 [sl cU bs] [] 0 (fun _ : Unit => True) (fun _ => .optr 0 0) (fun _ => [(0, some (cRd (bs.take 2000) 0))])) (hM : Nat.ble (nidl + 1) big = true) (hN : Nat.blt d N = true) {md' : Md} [hmd : MdA md (rOs [x0] ++ []) (List.map Sum.inr (List.map Prod.fst ([(nidl, some (cRd (bs.take 2000) 0))] : List (Nat × Option (List AV)))) ++ [.inl d]) md'] (kk : RW Tryz.prog N all Q md' rest ⟨(d, .optr nidl 0) :: tsl, wrH hsl [(nidl, some (cRd (bs.take 2000) 0))], nidl + 1, z0⟩) : RW Tryz.prog N all Q md (⟨some d, .call ⟨.value (.func 83), #[x0], tys⟩, ty, pos, af, none⟩ :: rest) ⟨tsl, hsl, nidl, z0⟩ := by
  refine rx_mcallE [] 1 [(nidl, some (cRd (bs.take 2000) 0))] hmc (avs := [sl cU bs]) ?_ rfl ?_ rfl ?_ (by simpa using hM) ?_ ?_ ?_ hN (md' := md') (hmd := hmd) kk
  · show evL (lk tsl) [x0] = _
    simp only [evL, ha0]
  · exact trivial
  · (repeat' (exact RnL.purI inferInstance))
  · (repeat' (exact RnV.optr rfl))
  · simp [wsAll]
  · (repeat' (first | exact trivial | (refine And.intro ⟨0, _, rfl, rfl, ?_⟩ ?_) | exact RnL.purI inferInstance))

theorem l17Open_c (bs : List UInt8) (hb : bs.length ≤ 1048576) : MC Tryz.prog 83 [sl cU bs] [] 0 (fun _ : Unit => True) (fun _ => .optr 0 0) (fun _ => [(0, some (cRd (bs.take 2000) 0))]) := open_c bs hb
theorem drawCheck_c (bs : List UInt8) (hb : bs.length ≤ 1048576) : PC Tryz.prog 31 [sl cU bs] (fun r => ∃ q : Prg, r = aPrg q ∧ cntL q.body ≤ 20000 ∧ q.types.length ≤ 1000) := by
  have hb2 : (bs.take 2000).length ≤ 2000 := by rw [List.length_take]; omega
  (refine pc_of_aw Tryz.func31 rfl (by simp [Tryz.ntmps31]) ?_; rw [Tryz.ntmps31])
  repeat' (first | (apply id_rw; first | ((with_reducible apply rx_prgcall (k := 85)); (case h => exact draw_c (bs.take 2000) 0 hb2 (by decide)); (case ha | hpv | hH | hM | hN => rfl); (rintro ⟨q, p1⟩ ⟨hq1, hq2, hq3⟩); (dsimp only at hq1 hq2 hq3)) | ((with_reducible apply rx_prgcall (k := 84)); (case h => exact mutate_c (bs.take 2000) p1 q hb2 (by omega) (by omega) (by omega)); (case ha => rfl); (case hpv => exact Pur.pf); (case hH | hM | hN => rfl); (rintro ⟨q2, p2⟩ ⟨hr1, hr2, hr3⟩); (dsimp only at hr1 hr2 hr3)) | (apply rx_move;rfl;rfl) | (apply rx_assign;rfl;rfl) | (apply rx_l17Open;rfl;(apply l17Open_c <;> (assumption));rfl;rfl) | (apply rw_nil;kernel_rfl) | (apply rx_alloc;rfl;rfl) | (apply rx_store;rfl;rfl;rfl;rfl;rfl;(case hl => (simp;done));(exact (rfl:_=[_, _])))) | (apply id_aw; first | apply aw_seq | apply aw_region | apply aw_ret) | with_reducible apply tq_normal)
  exact rq_ret (l := [aPrg q2]) rfl ⟨⟨q2, rfl, by omega, by omega⟩, Pur.pf⟩
end Go.Proofs.YtejkbiijonnefaaGreat

namespace Go.Proofs.YtejkbiijonnefaaGreat
open Go.AL Go.RowKit

theorem CheckI0_c (p : Prg) (hv : validF p = false) (hl : p.types.length ≤ 1000000) (hs : cntL p.body ≤ 1000000) : PC Tryz.prog 21 [aPrg p] (fun r => r = sl cIss []) := by
  (refine pc_of_aw Tryz.func21 rfl (by simp [Tryz.ntmps21]) ?_; rw [Tryz.ntmps21])
  repeat' (first | (apply id_rw; first | ((with_reducible apply rx_callE (k := 62)); (case ha => rfl); (case h => exact (by have := graphOf_c p hl hs; rw [if_neg (by simp [hv])] at this; exact this)); (case hp => (exact Pur.pf)); (case hN => rfl)) | (apply rx_move;rfl;rfl) | (apply rx_loadA;rfl;rfl;(exact (rfl:_=[_, _]));rfl;rfl;rfl) | (apply rx_assign;rfl;rfl) | (apply rw_nil;kernel_rfl) | (apply rx_not;rfl;rfl) | (apply rx_box;rfl;rfl;rfl;rfl) | (apply rx_extract;rfl;rfl;rfl)) | (apply id_aw; first | apply aw_seq | apply aw_region | (apply aw_condT;rfl;(rfl)) | apply aw_ret) | with_reducible apply tq_normal | with_reducible apply tq_ret)
  (refine rq_le (Le.nilImm (d := 2) rfl) ?_; refine rq_ret rfl ?_)
  exact ⟨rfl, rfl⟩
theorem AcceptsI2_c (p : Prg) (L : List Iss) (hl : p.types.length ≤ 1000000) (hs : cntL p.body ≤ 1000000) (hC : PC Tryz.prog 21 [aPrg p] (fun r => r = sl cIss L)) : PC Tryz.prog 19 [aPrg p] (fun r => r = bv (validF p && L.isEmpty)) := by
  (refine pc_of_aw Tryz.func19 rfl (by simp [Tryz.ntmps19]) ?_; rw [Tryz.ntmps19])
  repeat' (first | (apply id_rw; first | ((with_reducible apply rx_callE (k := 21)); (case ha => rfl); (case h => exact hC); (case hp => (exact Pur.pf)); (case hN => rfl)) | (apply rx_move;rfl;rfl) | (apply rx_loadA;rfl;rfl;(exact (rfl:_=[_, _]));rfl;rfl;rfl) | (first | (apply rx_guardY;rfl;rfl;rfl;(assumption)) | (apply rx_guardNs;rfl;rfl;rfl;(assumption)) | (apply rx_guardS; (case hj | hb | hN => rfl); all_goals (intro hg; have hq := hg; (try simp only [bqs] at hq); (try (exfalso; omega))))) | (apply rx_bin;rfl;rfl;rfl;rfl) | (apply rx_assign;rfl;rfl) | (first | (apply rx_pickT;rfl;(assumption);rfl;rfl) | (apply rx_pickF;rfl;(assumption);rfl;rfl)) | ((with_reducible apply rx_callE (k := 56)); (case ha => rfl); (case h => (apply validI_c <;> (first | assumption | omega))); (case hp => (exact Pur.pf)); (case hN => rfl)) | (apply rx_len;rfl;rfl;rfl) | (apply rw_nil;kernel_rfl) | (apply rx_box;rfl;rfl;rfl;rfl)) | (apply id_aw; first | apply aw_seq | apply aw_region | apply aw_ret) | with_reducible apply tq_normal)
  all_goals refine rq_ret rfl ⟨?_, rfl⟩
  all_goals simp only [oneOf]
  · rw [show validF p = true by assumption]
    cases L with
    | nil => rfl
    | cons a b => simp; omega
  · rw [show validF p = false by assumption]; rfl
instance : Eq3 Tryz.prog 29 where
  g := Tryz.eqGuardType29
  e := fun a b c a' b' c' w => by
    have u3 := Tryz.underlying3
    have a3 := Tryz.isAgg3
    have z3 := Tryz.sizeOf3
    have hS : Tryz.prog.underlying 29 = some (.struct (Tryz.prog.fieldsOf 29)) := by kernel_rfl
    have hp : Tryz.prog.stoodInHeld 29 = false := by kernel_rfl
    rw [show (10000 : Nat) = 9999 + 1 from rfl, run_equalIn_agg w 9999 29 _ _ hS hp]
    simp only [Program.fieldsOf, Tryz.underlying29]
    go_simp
    by_cases h1 : a = a' <;> by_cases h2 : b = b' <;> by_cases h3 : c = c' <;> simp [h1, h2, h3]
theorem bcIssues_c (L : List Iss) (hl : L.length ≤ 1000000) : PC Tryz.prog 32 [sl cIss L, sl cIss L] (fun r => r = bv true) := by
  (refine pc_of_aw Tryz.func32 rfl (by simp [Tryz.ntmps32]) ?_; rw [Tryz.ntmps32])
  repeat' (first | (apply id_rw; first | (apply rx_move;rfl;rfl) | (apply rx_bin;rfl;rfl;rfl;rfl) | (apply rx_assign;rfl;rfl) | (apply rx_len;rfl;rfl;rfl) | (apply rw_nil;kernel_rfl)) | (apply id_aw; first | apply aw_seq | apply aw_region | (apply aw_cond;rfl;all_goals intro hc;have hq:=hc;(try simp only [bqs] at hq);try exfalso;omega) | apply aw_block | apply aw_skip | apply aw_ret) | with_reducible apply tq_normal | with_reducible apply tq_ret)
  · exact (hq trivial).elim
  refine aw_loopK (σ := Nat) [0, 1] [(0, _), (1, _)] [] [] (fun k => [(5, iv (k : Int))]) (fun k => []) (fun k => k ≤ L.length) (fun k => L.length - k) (0) (by omega) rfl rfl (by repeat' (first | exact trivial | refine And.intro rfl ?_)) (by repeat' (exact trivial)) ?_
  rintro k hk
  repeat' (first | (apply id_rw; first | (apply rx_eq3;rfl;rfl;rfl;rfl) | (apply rx_move;rfl;rfl) | (apply rx_loadA;rfl;rfl;(exact (rfl:_=[_, _, _]));rfl;rfl;rfl) | (first | (apply rx_add;rfl;rfl;omega;rfl) | (apply rx_bin;rfl;rfl;rfl;rfl)) | (apply rx_assign;rfl;rfl) | (apply rx_indexFN; (case hx | hi => rfl); (case hm => (omega)); (case hml => (rfl)); (case hα | hf | hg => infer_instance); (case hN => rfl)) | (apply rx_len;rfl;rfl;rfl) | (apply rw_nil;kernel_rfl)) | (apply id_aw; first | apply aw_seq | apply aw_region | (apply aw_draw;kernel_rfl) | (apply aw_cond;rfl;all_goals intro hc;have hq:=hc;(try simp only [bqs] at hq);try exfalso;omega) | apply aw_block | apply aw_skip | apply aw_exit | apply aw_ret) | with_reducible apply tq_normal | with_reducible apply tq_ret | with_reducible apply tq_exit | with_reducible apply bq_normal | with_reducible apply bq_ret | with_reducible apply bq_here)
  · exfalso
    simp at hq
  · (apply ex3 (k + 1); focus (refine Le.ren [] rfl (by decide) ?_ ?_ <;> repeat' (first | exact trivial | refine And.intro ⟨_, rfl, ?_⟩ ?_ | refine Or.inl ⟨?_, (by first | rfl | exact pur_sl _ _)⟩ | rfl)))
    · omega
    · omega
  · exact rq_ret rfl ⟨rfl, rfl⟩
end Go.Proofs.YtejkbiijonnefaaGreat

namespace Go.Proofs.YtejkbiijonnefaaGreat
open Go.AL Go.ChangeShapes Go.WideShapes Go.ChangeAt Go.RowKit
theorem RdC_bytes {w : World} {bad : Nat → Prop} {ι : Pl} {b : Nat} : ∀ (bs : List UInt8) (o : Nat), ¬ bad b → (∀ j, j < bs.length → w.cell? ⟨b, o + j, none⟩ = some (.int .u8 ((bs[j]!).toNat : Int))) → RdC w bad ι (flat cU bs) b o
  | [], _, _, _ => by simp only [flat, List.flatMap_nil, RdC]
  | x :: bs, o, hb, h => by
    have h0 := h 0 (by simp)
    have e : flat cU (x :: bs) = .v (.int .u8 (x.toNat : Int)) :: flat cU bs := rfl
    rw [e]
    simp only [RdC]
    refine ⟨⟨.int .u8 (x.toNat : Int), by simpa using h0, rfl, by simp only [Rd]⟩, RdC_bytes bs (o + 1) hb fun j hj => ?_⟩
    have := h (j + 1) (by simpa using hj)
    rw [show o + 1 + j = o + (j + 1) from by omega]
    simpa using this
theorem calls_of_pc {P : Program} {k : FuncId} {bs : List UInt8} (h : PC P k [sl cU bs] (fun r => r = bv true)) {W : World} {v : Value} (hv : Rd W (fun _ => False) (fun _ => none) (sl cU bs) v) :
    Calls P k #[v] W fun e W' => e = .returned (.bool true) ∧ Below W.heap.size W W' := by
  let C : Ctx := { N := 0, w0 := W, W0 := fun _ => False, X := fun _ => False, ι0 := fun _ => none, xlt := fun _ h => h.elim }
  have hbad : ∀ b, ¬ badOf C.X (fun _ => none) (lkH []) b := by
    rintro b (h | ⟨id, cs, β, h1, h2⟩)
    · exact h
    · cases h2
  have g : HG C (fun _ => none) (fun j => 0 ≤ j) (lkH []) W :=
    ⟨fun id cs h => by simp [lkH] at h, fun id id' cs cs' b β β' h => by simp [lkH] at h, Fr.refl _ _, fun _ _ h => h, fun _ _ => rfl⟩
  have hcar : Carry W (fun _ => False) (fun _ => none) W (badOf C.X (fun _ => none) (lkH [])) (fun _ => none) := ⟨fun b o x _ h2 => ⟨hbad b, h2⟩, fun _ _ h => h, fun _ => Nat.le_refl _⟩
  have ha : RdV W (badOf C.X (fun _ => none) (lkH [])) (fun _ => none) [sl cU bs] [v] := by
    simp only [RdV]
    exact ⟨v, [], rfl, Rd.carry hcar _ _ hv, rfl⟩
  refine (h C _ W [v] rfl rfl g ha).mono ?_
  rintro e W' ⟨v', r, H', ι', rfl, ⟨rfl, _⟩, h4, h5⟩
  simp only [Rd] at h4
  subst h4
  have f := h5.fr
  exact ⟨rfl, f.os, f.tape, f.output, f.size, fun b hb => f.block b hb (fun h => h)⟩
theorem laid : laidOutB Tryz.prog = true := by kernel_rfl
theorem cells5 : Tryz.prog.cellsOf 5 = 1 := by kernel_rfl
theorem bytes_in {H : Type} {enc : TypeId × Value → H} {W : World} {base : Nat} {v0 : Value} {d0 : DataW H} {p : List MemPlace} (hval : Value.okWide Tryz.prog W .any base 22 v0) (h0 : DataW.Trod enc Tryz.prog W 0 (fun _ => true) true 22 v0 d0 p) :
    ∃ bs : List UInt8, Rd W (fun _ => False) (fun _ => none) (sl cU bs) v0 := by
  obtain ⟨a0, len, cap, rfl⟩ := okWide_slice Tryz.underlying22 hval
  obtain ⟨fuel, hf⟩ := h0
  rcases open_ints Tryz.underlying22 Tryz.underlying5 cells5 hf with ⟨hcs, hx⟩ | ⟨a, len', cap', zs, hcs, _, hl, hm, hz, hx, hcell, hwz⟩
  · simp [Value.cells] at hcs
    obtain ⟨rfl, rfl, rfl⟩ := hcs
    refine ⟨[], ?_⟩
    simp only [Rd]
    exact ⟨none, 0, rfl, .inl rfl⟩
  · simp [Value.cells] at hcs
    obtain ⟨rfl, rfl, rfl⟩ := hcs
    simp only [if_true] at hz
    refine ⟨(zs.take len).map fun n => UInt8.ofNat n.toNat, ?_⟩
    have hlen : ((zs.take len).map fun n => UInt8.ofNat n.toNat).length = len := by simp; omega
    simp only [Rd]
    refine ⟨some a, cap, by rw [hlen], ?_⟩
    by_cases h00 : len = 0
    · exact .inl (by rw [hlen]; exact h00)
    · obtain ⟨b, off, spot⟩ := a
      have hspot : spot = none := by simpa [Addr.add] using World.cell?_spot (hcell 0 (by omega))
      subst hspot
      refine .inr ⟨b, off, by rw [hlen]; exact hl, rfl, .inr ⟨fun h => h, RdC_bytes _ _ (fun h => h) fun j hj => ?_⟩⟩
      rw [hlen] at hj
      have hcj := hcell j (by omega)
      rw [Addr.add_lit] at hcj
      rw [hcj]
      have e : zs.getD j 0 = zs[j]'(by omega) := by simp [List.getD, List.getElem?_eq_getElem (show j < zs.length by omega)]
      have hw := hwz (zs[j]'(by omega)) (List.getElem_mem _)
      have hr : 0 ≤ zs[j]'(by omega) ∧ zs[j]'(by omega) ≤ 255 := by simpa [Lit.wf, IntKind.min, IntKind.max, IntKind.signed, IntKind.bits] using hw
      rw [e, getB _ _ (by rw [hlen]; exact hj)]
      simp only [List.getElem_map, List.getElem_take]
      congr 2
      simp only [UInt8.toNat_ofNat']
      omega
end Go.Proofs.YtejkbiijonnefaaGreat

namespace Go.Proofs.YtejkbiijonnefaaGreat
open Go.AL Go.RowKit

theorem unset_c (ts : List Int) (bd : List AL.Stmt) (pts : List Pnt) (w : WG ts pts) (f : Flows ts pts) : PC Tryz.prog 64 [aG ts bd pts, iv 0] (fun r => r = sl cI (unL ts pts f.Aa pts.length)) := by
  have hpl := w.pl
  have htl := w.tl
  have b := f.bnd w
  have hsA := b.sA
  have hla := b.la
  (refine pc_of_aw Tryz.func64 rfl (by simp [Tryz.ntmps64]) ?_; rw [Tryz.ntmps64])
  repeat' (first | (apply id_rw; first | ((with_reducible apply rx_callE (k := 89)); (case ha => rfl); (case h => exact always_c ts bd pts f.Aa w f.ga); (case hp => (exact Pur.pf)); (case hN => rfl)) | (apply rx_move;rfl;rfl) | (apply rx_assign;rfl;rfl) | (apply rx_len;rfl;rfl;rfl) | (apply rw_nil;kernel_rfl)) | (apply id_aw; first | apply aw_seq | apply aw_region | apply aw_block) | with_reducible apply tq_normal)
  refine AW.le ?_ (Le.nilOwn (d := 5) 1 rfl (by decide))
  refine aw_loopK (σ := Nat × List Int × Nat) [0, 10, 11] [(0, _), (10, _), (11, _)] [] [] (fun k => [(12, iv (k.1 : Int)), (5, .own 0 0 k.2.2 1)]) (fun k => [(0, some (flat cI k.2.1))]) (fun k => k.1 ≤ pts.length ∧ k.2.1 = unL ts pts f.Aa k.1 ∧ k.2.2 = k.2.1.length ∧ k.2.2 ≤ k.1) (fun k => pts.length - k.1) (0, [], 0) ⟨by omega, rfl, rfl, Nat.le_refl _⟩ rfl rfl (by repeat' (first | exact trivial | refine And.intro rfl ?_)) (by repeat' (first | exact trivial | refine And.intro (.inr rfl) ?_)) ?_
  rintro ⟨k, u, m⟩ ⟨hk, hu, hm, hmk⟩
  dsimp only at hk hu hm hmk ⊢
  have hs1 : Sm (wS ts pts[k]! [1, 2, 3]) := mkBits_sm (by omega)
  repeat' (first | (apply id_rw; first | (apply rx_move;rfl;rfl) | (first | (apply rx_load1;rfl;rfl;rfl;rfl) | (apply rx_loadA;rfl;rfl;(exact (rfl:_=[_, _, _, _, _]));rfl;rfl;rfl)) | (apply rx_fieldAddr;rfl;rfl;rfl) | (first | (apply rx_anlN;rfl;rfl;infer_instance;infer_instance;infer_instance;rfl) | (apply rx_add;rfl;rfl;omega;rfl) | (apply rx_bin;rfl;rfl;rfl;rfl)) | (apply rx_assign;rfl;rfl) | (apply rx_indexFN; (case hx | hi => rfl); (case hm => (omega)); (case hml => (first | rfl | omega)); (case hα | hf | hg => infer_instance); (case hN => rfl)) | ((with_reducible apply rx_callE (k := 138)); (case ha => rfl); (case h => (apply used_c <;> (assumption))); (case hp => (exact Pur.pf)); (case hN => rfl)) | (apply rx_append;rfl;rfl;rfl;rfl;rfl;(rw [flat_length]; omega);(rfl);omega;omega;(exact app_int (by (assumption)));rfl;rfl) | (apply rw_nil;kernel_rfl) | (apply rx_nil;rfl;rfl;rfl) | ((apply rx_buildSliceI (t := _)); (case hze | hsm | hl => rfl); (case hfl => exact (rfl:_=some [_])); (case hM | hN => rfl))) | (apply id_aw; first | apply aw_seq | apply aw_region | (apply aw_cond;rfl;all_goals intro hc;have hq:=hc;(try simp only [bqs] at hq);try exfalso;omega) | apply aw_block | apply aw_skip | apply aw_exit | apply aw_ret) | with_reducible apply tq_normal | with_reducible apply tq_exit | with_reducible apply bq_normal | with_reducible apply bq_here)
  · (apply ex3 (k + 1, u ++ [(k : Int)], m + 1); focus (refine Le.ren [(0, 2)] rfl (by decide) ?_ ?_ <;> repeat' (first | exact trivial | refine And.intro ⟨_, rfl, ?_⟩ ?_ | refine And.intro ⟨_, _, rfl, rfl, ?_⟩ ?_ | exact Or.inr rfl | refine Or.inl ⟨?_, (by first | rfl | exact pur_sl _ _ | exact Pur.pf)⟩ | rfl)))
    · exact ⟨by dsimp only; omega, by dsimp only; rw [hu]; exact (unL_hit (by unfold unB; rw [decide_eq_true_eq]; omega)).symm, by simp; omega, by dsimp only; omega⟩
    · dsimp only; omega
  · (apply ex3 (k + 1, u, m); focus (refine Le.ren [(0, 0)] rfl (by decide) ?_ ?_ <;> repeat' (first | exact trivial | refine And.intro ⟨_, rfl, ?_⟩ ?_ | refine And.intro ⟨_, _, rfl, rfl, ?_⟩ ?_ | exact Or.inr rfl | refine Or.inl ⟨?_, (by first | rfl | exact pur_sl _ _ | exact Pur.pf)⟩ | rfl)))
    · exact ⟨by dsimp only; omega, by dsimp only; rw [hu]; exact (unL_skip (by unfold unB; rw [decide_eq_false_iff_not]; omega)).symm, hm, by dsimp only; omega⟩
    · dsimp only; omega
  · (refine rq_le (Le.frzD (d := 4) (i := 0) rfl rfl) ?_; refine rq_ret rfl ?_)
    refine ⟨?_, (by (exact pur_sl _ _))⟩
    simp only [oneOf, sl]
    rw [hm, hu, show k = pts.length by omega]
theorem UnsetNo_c (p : Prg) (hv : validF p = false) (hl : p.types.length ≤ 1000000) (hs : cntL p.body ≤ 1000000) : PC Tryz.prog 22 [aPrg p] (fun r => r = sl cI []) := by
  have hg := graphOf_c p hl hs
  rw [if_neg (by simp [hv])] at hg
  (refine pc_of_aw Tryz.func22 rfl (by simp [Tryz.ntmps22]) ?_; rw [Tryz.ntmps22])
  repeat' (first | (apply id_rw; first | ((with_reducible apply rx_callE (k := 62)); (case ha => rfl); (case h => exact hg); (case hp => (exact Pur.pf)); (case hN => rfl)) | (apply rx_move;rfl;rfl) | (apply rx_loadA;rfl;rfl;(exact (rfl:_=[_, _]));rfl;rfl;rfl) | (apply rx_assign;rfl;rfl) | (apply rw_nil;kernel_rfl) | (apply rx_not;rfl;rfl) | (apply rx_box;rfl;rfl;rfl;rfl) | (apply rx_extract;rfl;rfl;rfl)) | (apply id_aw; first | apply aw_seq | apply aw_region | (apply aw_condT;rfl;(rfl)) | apply aw_ret) | with_reducible apply tq_normal | with_reducible apply tq_ret)
  (refine rq_le (Le.nilImm (d := 2) rfl) ?_; refine rq_ret rfl ?_)
  exact ⟨rfl, rfl⟩
theorem UnsetY_c (p : Prg) (f : Flows p.types (ptsF p)) (hv : validF p = true) (hl : p.types.length ≤ 1000000) (hs : cntL p.body ≤ 1000000) : PC Tryz.prog 22 [aPrg p] (fun r => r = sl cI (unL p.types (ptsF p) f.Aa (ptsF p).length)) := by
  have hg := graphOf_c p hl hs
  rw [if_pos hv] at hg
  (refine pc_of_aw Tryz.func22 rfl (by simp [Tryz.ntmps22]) ?_; rw [Tryz.ntmps22])
  repeat' (first | (apply id_rw; first | ((with_reducible apply rx_callE (k := 62)); (case ha => rfl); (case h => exact hg); (case hp => (exact Pur.pf)); (case hN => rfl)) | ((with_reducible apply rx_callE (k := 64)); (case ha => rfl); (case h => exact unset_c p.types p.body (ptsF p) (WG.of_valid hv) f); (case hp => (exact Pur.pf)); (case hN => rfl)) | (apply rx_move;rfl;rfl) | (apply rx_loadA;rfl;rfl;(exact (rfl:_=[_, _]));rfl;rfl;rfl) | (apply rx_assign;rfl;rfl) | (apply rw_nil;kernel_rfl) | (apply rx_not;rfl;rfl) | (apply rx_box;rfl;rfl;rfl;rfl) | (apply rx_extract;rfl;rfl;rfl)) | (apply id_aw; first | apply aw_seq | apply aw_region | (apply aw_condF;rfl;(rfl)) | apply aw_skip | apply aw_ret) | with_reducible apply tq_normal)
  exact rq_ret rfl ⟨rfl, (by (exact pur_sl _ _))⟩
end Go.Proofs.YtejkbiijonnefaaGreat

namespace Go.Proofs.YtejkbiijonnefaaGreat
open Go.AL Go.RowKit

theorem bcIn_c (L : List Int) (n : Int) (hl : L.length ≤ 1000000) : PC Tryz.prog 30 [sl cI L, iv n] (fun r => r = bv (decide (n ∈ L))) := by
  (refine pc_of_aw Tryz.func30 rfl (by simp [Tryz.ntmps30]) ?_; rw [Tryz.ntmps30])
  repeat' (first | (apply id_rw; first | (apply rx_assign;rfl;rfl) | (apply rw_nil;kernel_rfl)) | (apply id_aw; first | apply aw_seq | apply aw_region | apply aw_block) | with_reducible apply tq_normal)
  refine aw_loopK (σ := Nat) [0, 1] [(0, _), (1, _)] [] [] (fun k => [(5, iv (k : Int))]) (fun k => []) (fun k => k ≤ L.length ∧ ∀ j, j < k → L[j]! ≠ n) (fun k => L.length - k) (0) ⟨by omega, by omega⟩ rfl rfl (by repeat' (first | exact trivial | refine And.intro rfl ?_)) (by repeat' (exact trivial)) ?_
  rintro k ⟨hk, hall⟩
  repeat' (first | (apply id_rw; first | (apply rx_move;rfl;rfl) | (apply rx_load1;rfl;rfl;rfl;rfl) | (first | (apply rx_add;rfl;rfl;omega;rfl) | (apply rx_bin;rfl;rfl;rfl;rfl)) | (apply rx_assign;rfl;rfl) | (apply rx_indexFN; (case hx | hi => rfl); (case hm => (omega)); (case hml => (rfl)); (case hα | hf | hg => infer_instance); (case hN => rfl)) | (apply rx_len;rfl;rfl;rfl) | (apply rw_nil;kernel_rfl)) | (apply id_aw; first | apply aw_seq | apply aw_region | (apply aw_cond;rfl;all_goals intro hc;have hq:=hc;(try simp only [bqs] at hq);try exfalso;omega) | apply aw_block | apply aw_skip | apply aw_exit | apply aw_ret) | with_reducible apply tq_normal | with_reducible apply tq_ret | with_reducible apply tq_exit | with_reducible apply bq_normal | with_reducible apply bq_ret | with_reducible apply bq_here)
  · refine rq_ret rfl ⟨?_, rfl⟩
    simp only [oneOf]
    rw [decide_eq_true (by have h := getB_mem L k (by omega); rw [hq] at h; exact h)]
  · (apply ex3 (k + 1); focus (refine Le.ren [] rfl (by decide) ?_ ?_ <;> repeat' (first | exact trivial | refine And.intro ⟨_, rfl, ?_⟩ ?_ | refine Or.inl ⟨?_, (by first | rfl | exact pur_sl _ _)⟩ | rfl)))
    · exact ⟨by omega, fun j hj => by
        by_cases e : j = k
        · subst e; exact hq
        · exact hall j (by omega)⟩
    · omega
  · refine rq_ret rfl ⟨?_, rfl⟩
    simp only [oneOf]
    rw [decide_eq_false (fun h => by
      obtain ⟨j, hj, e⟩ := List.getElem_of_mem h
      exact hall j (by omega) (by rw [getB _ _ hj]; exact e))]
end Go.Proofs.YtejkbiijonnefaaGreat

namespace Go.Proofs.YtejkbiijonnefaaGreat
open Go.AL Go.RowKit

end Go.Proofs.YtejkbiijonnefaaGreat

namespace Go.Proofs.YtejkbiijonnefaaGreat
open Go.AL Go.RowKit

end Go.Proofs.YtejkbiijonnefaaGreat

namespace Go.Proofs.YtejkbiijonnefaaGreat
open Go.AL Go.RowKit

end Go.Proofs.YtejkbiijonnefaaGreat

namespace Go.Proofs.YtejkbiijonnefaaGreat
open Go.AL Go.RowKit

theorem boundsI_c (ts : List Int) (bd : List AL.Stmt) (pts : List Pnt) (w : WG ts pts) : PC Tryz.prog 177 [aG ts bd pts] (fun r => r = sl cBnd (bnF ts pts pts.length)) := by
  have hpl := w.pl
  have htl := w.tl
  (refine pc_of_aw Tryz.func177 rfl (by simp [Tryz.ntmps177]) ?_; rw [Tryz.ntmps177])
  repeat' (first | (apply id_rw; first | ((apply rx_assignNil (d := 3) (e := 3)); (case hM | hN => rfl)) | (apply rx_move;rfl;rfl) | (apply rx_load1;rfl;rfl;rfl;rfl) | (apply rx_fieldAddr;rfl;rfl;rfl) | (apply rx_assign;rfl;rfl) | (apply rx_len;rfl;rfl;rfl) | (apply rw_nil;kernel_rfl) | (apply rx_nil;rfl;rfl;rfl)) | (apply id_aw; first | apply aw_seq | apply aw_region | apply aw_block) | with_reducible apply tq_normal)
  refine aw_loopK (σ := Nat × List Bnd × Nat) [0, 9, 10] [(0, _), (9, _), (10, _)] [] [] (fun s => [(11, iv (s.1 : Int)), (3, .own 0 0 s.2.2 3)]) (fun s => [(0, some (flat cBnd s.2.1))]) (fun s => s.1 ≤ pts.length ∧ s.2.1 = bnF ts pts s.1 ∧ s.2.2 = s.2.1.length ∧ s.2.2 ≤ 2 * s.1) (fun s => pts.length - s.1) (0, [], 0) ⟨by omega, rfl, rfl, Nat.le_refl _⟩ rfl rfl (by repeat' (first | exact trivial | refine And.intro rfl ?_)) (by repeat' (first | exact trivial | refine And.intro (.inr rfl) ?_)) ?_
  rintro ⟨k, u, m⟩ ⟨hk, hu, hm, hmk⟩
  dsimp only at hk hu hm hmk
  try dsimp only
  by_cases hkn : k < pts.length
  · have hy := w.y k hkn
    have hsu := bnF_succ ts pts k
    rw [← hu] at hsu
    unfold bnP at hsu
    by_cases hln : isLn pts[k]! = true
    · have hop := isLn_op hln
      repeat' (first | (apply id_rw; first | (apply rx_move;rfl;rfl) | (first | (apply rx_load1;rfl;rfl;rfl;rfl) | (apply rx_loadA;rfl;rfl;(exact (rfl:_=[_, _, _, _, _]));rfl;rfl;rfl)) | (apply rx_fieldAddr;rfl;rfl;rfl) | (first | (apply rx_guardY;rfl;rfl;rfl;(rfl)) | (apply rx_guardNs;rfl;rfl;rfl;(assumption))) | (first | (apply rx_add;rfl;rfl;omega;rfl) | (apply rx_bin;rfl;rfl;rfl;rfl)) | (apply rx_assign;rfl;rfl) | (apply rx_pickT;rfl;(first | rfl | assumption);rfl;rfl) | (first | (apply rx_indexFN; (case hx | hi => rfl); (case hm => (assumption)); (case hml => (rfl)); (case hα | hf | hg => infer_instance); (case hN => rfl)) | (apply rx_indexF; (case hx | hi => rfl); (case hm => (omega)); (case hml => (rfl)); (case hα | hf | hg => infer_instance); (case hN => rfl))) | (first | ((with_reducible apply rx_callE (k := 60)); (case ha => rfl); (case h => (apply isLoan_c <;> (fail))); (case hp => (exact Pur.pf)); (case hN => rfl)) | ((with_reducible apply rx_callE (k := 181)); (case ha => rfl); (case h => (apply isRefI_c <;> (fail))); (case hp => (rfl)); (case hN => rfl))) | (apply rx_append;rfl;rfl;rfl;rfl;rfl;(first | (rw [flat_length]; omega) | (rw [flat_length]; simp only [lns] <;> omega));(rfl);omega;omega;(exact app_bnd (by (first | assumption | (simp only [lns] <;> omega))));rfl;rfl) | (apply rw_nil;kernel_rfl) | (apply rx_buildK;rfl;(exact (rfl:_=some [_, _, _]));(exact (rfl:_=[_, _, _]));rfl) | (apply rx_nil;rfl;rfl;rfl) | (apply rx_alloc;rfl;rfl) | ((apply rx_buildSliceI (t := _)); (case hze | hsm | hl => rfl); (case hfl => (exact (rfl:_=some [_, _, _]))); (case hM | hN => rfl)) | (apply rx_store;rfl;rfl;rfl;rfl;rfl;(case hl => (simp;done));(exact (rfl:_=[_, _, _, _, _])))) | (apply id_aw; first | apply aw_seq | apply aw_region | (apply aw_draw;kernel_rfl) | (apply aw_condT;rfl;(assumption)) | (apply aw_cond;rfl;all_goals intro hc;have hq:=hc;(try simp only [bqs] at hq);try exfalso;omega) | apply aw_block | apply aw_skip) | with_reducible apply tq_normal | with_reducible apply bq_normal)
      all_goals try exact absurd (hln.symm.trans (by assumption : isLn pts[k]! = false)) (by decide)
      · (apply ex3 (k + 1, _, _); focus (refine Le.ren [(0, 5)] rfl (by decide) ?_ ?_ <;> repeat' (first | exact trivial | refine And.intro ⟨_, rfl, ?_⟩ ?_ | refine And.intro ⟨_, _, rfl, rfl, ?_⟩ ?_ | exact Or.inr rfl | refine Or.inl ⟨?_, (by first | rfl | exact pur_sl _ _ | exact Pur.pf)⟩ | rfl)))
        · exact ⟨by dsimp only; omega, by dsimp only; rw [hsu, if_pos hln, if_pos ⟨.inl hln, by assumption⟩]; simp, by dsimp only; simp; omega, by dsimp only; omega⟩
        · dsimp only; omega
      · (apply ex3 (k + 1, _, _); focus (refine Le.ren [(0, 3)] rfl (by decide) ?_ ?_ <;> repeat' (first | exact trivial | refine And.intro ⟨_, rfl, ?_⟩ ?_ | refine And.intro ⟨_, _, rfl, rfl, ?_⟩ ?_ | exact Or.inr rfl | refine Or.inl ⟨?_, (by first | rfl | exact pur_sl _ _ | exact Pur.pf)⟩ | rfl)))
        · exact ⟨by dsimp only; omega, by dsimp only; rw [hsu, if_pos hln, if_neg (fun h => by rw [(by assumption : isRef ts[pts[k]!.y.toNat]! = false)] at h; cases h.2)]; simp, by dsimp only; simp; omega, by dsimp only; omega⟩
        · dsimp only; omega
    · rw [Bool.not_eq_true] at hln
      have hln2 : ¬ isLn pts[k]! = true := by rw [hln]; decide
      repeat' (first | (apply id_rw; first | (apply rx_move;rfl;rfl) | (first | (apply rx_load1;rfl;rfl;rfl;rfl) | (apply rx_loadA;rfl;rfl;(exact (rfl:_=[_, _, _, _, _]));rfl;rfl;rfl)) | (apply rx_fieldAddr;rfl;rfl;rfl) | (first | (apply rx_guardY;rfl;rfl;rfl;(assumption)) | (apply rx_guardNs;rfl;rfl;rfl;(assumption)) | (apply rx_guardS; (case hj | hb | hN => rfl); all_goals (intro hg; have hq := hg; (try simp only [bqs] at hq); (try (exfalso; omega))))) | (first | (apply rx_add;rfl;rfl;omega;rfl) | (apply rx_bin;rfl;rfl;rfl;rfl)) | (apply rx_assign;rfl;rfl) | (first | (apply rx_pickT;rfl;(assumption);rfl;rfl) | (apply rx_pickF;rfl;(assumption);rfl;rfl)) | (first | (apply rx_indexFN; (case hx | hi => rfl); (case hm => (assumption)); (case hml => (rfl)); (case hα | hf | hg => infer_instance); (case hN => rfl)) | (apply rx_indexF; (case hx | hi => rfl); (case hm => (omega)); (case hml => (rfl)); (case hα | hf | hg => infer_instance); (case hN => rfl))) | (first | ((with_reducible apply rx_callE (k := 60)); (case ha => rfl); (case h => (apply isLoan_c <;> (fail))); (case hp => (exact Pur.pf)); (case hN => rfl)) | ((with_reducible apply rx_callE (k := 181)); (case ha => rfl); (case h => (apply isRefI_c <;> (fail))); (case hp => (rfl)); (case hN => rfl))) | (apply rx_append;rfl;rfl;rfl;rfl;rfl;(rw [flat_length]; omega);(rfl);omega;omega;(exact app_bnd (by (assumption)));rfl;rfl) | (apply rw_nil;kernel_rfl) | (apply rx_buildK;rfl;(exact (rfl:_=some [_, _, _]));(exact (rfl:_=[_, _, _]));rfl) | (apply rx_nil;rfl;rfl;rfl) | (apply rx_alloc;rfl;rfl) | ((apply rx_buildSliceI (t := _)); (case hze | hsm | hl => rfl); (case hfl => (exact (rfl:_=some [_, _, _]))); (case hM | hN => rfl)) | (apply rx_store;rfl;rfl;rfl;rfl;rfl;(case hl => (simp;done));(exact (rfl:_=[_, _, _, _, _])))) | (apply id_aw; first | apply aw_seq | apply aw_region | (apply aw_draw;kernel_rfl) | (apply aw_condF;rfl;(first | rfl | assumption)) | (apply aw_cond;rfl;all_goals intro hc;have hq:=hc;(try simp only [bqs] at hq);try exfalso;omega) | apply aw_block | apply aw_skip) | with_reducible apply tq_normal | with_reducible apply bq_normal)
      all_goals try exact absurd (hln.symm.trans (by assumption : isLn pts[k]! = true)) (by decide)
      · (apply ex3 (k + 1, _, _); focus (refine Le.ren [(0, 3)] rfl (by decide) ?_ ?_ <;> repeat' (first | exact trivial | refine And.intro ⟨_, rfl, ?_⟩ ?_ | refine And.intro ⟨_, _, rfl, rfl, ?_⟩ ?_ | exact Or.inr rfl | refine Or.inl ⟨?_, (by first | rfl | exact pur_sl _ _ | exact Pur.pf)⟩ | rfl)))
        · exact ⟨by dsimp only; omega, by dsimp only; rw [hsu, if_neg hln2, if_pos ⟨.inr (by assumption), by assumption⟩]; simp, by dsimp only; simp; omega, by dsimp only; omega⟩
        · dsimp only; omega
      · (apply ex3 (k + 1, u, m); focus (refine Le.ren [(0, 0)] rfl (by decide) ?_ ?_ <;> repeat' (first | exact trivial | refine And.intro ⟨_, rfl, ?_⟩ ?_ | refine And.intro ⟨_, _, rfl, rfl, ?_⟩ ?_ | exact Or.inr rfl | refine Or.inl ⟨?_, (by first | rfl | exact pur_sl _ _ | exact Pur.pf)⟩ | rfl)))
        · exact ⟨by dsimp only; omega, by dsimp only; rw [hsu, if_neg hln2, if_neg (fun h => by rw [(by assumption : isRef ts[pts[k]!.y.toNat]! = false)] at h; cases h.2)]; simp, hm, by dsimp only; omega⟩
        · dsimp only; omega
      · (apply ex3 (k + 1, u, m); focus (refine Le.ren [(0, 0)] rfl (by decide) ?_ ?_ <;> repeat' (first | exact trivial | refine And.intro ⟨_, rfl, ?_⟩ ?_ | refine And.intro ⟨_, _, rfl, rfl, ?_⟩ ?_ | exact Or.inr rfl | refine Or.inl ⟨?_, (by first | rfl | exact pur_sl _ _ | exact Pur.pf)⟩ | rfl)))
        · exact ⟨by dsimp only; omega, by dsimp only; rw [hsu, if_neg hln2, if_neg (fun h => h.1.elim hln2 (by assumption))]; simp, hm, by dsimp only; omega⟩
        · dsimp only; omega
  · repeat' (first | (apply id_rw; first | (apply rx_move;rfl;rfl) | (apply rx_bin;rfl;rfl;rfl;rfl) | (apply rx_assign;rfl;rfl) | (apply rw_nil;kernel_rfl)) | (apply id_aw; first | apply aw_seq | apply aw_region | (apply aw_cond;rfl;all_goals intro hc;have hq:=hc;(try simp only [bqs] at hq);try exfalso;omega) | apply aw_exit | apply aw_ret) | with_reducible apply tq_normal | with_reducible apply tq_exit | with_reducible apply bq_here)
    refine rq_le (Le.frzD (d := 2) (i := 0) rfl rfl) ?_
    refine rq_ret rfl ⟨?_, (by (exact pur_sl _ _))⟩
    rw [show pts.length = k by omega, ← hu]
    simp only [oneOf, sl, hm]
theorem regionsI_c (ts : List Int) (bd : List AL.Stmt) (pts : List Pnt) (A : List Nat) (w : WG ts pts) (t : WT ts pts) (hA : GoodG ts pts A) : PC Tryz.prog 127 [aG ts bd pts] (fun r => r = .agg (flat cW A)) := by
  have hpl := w.pl
  have htl := w.tl
  have hbl := bnF_len ts pts pts.length
  have hbo := boundsI_c ts bd pts w
  have hbok : ∀ b, b ∈ bnF ts pts pts.length → BOk ts.length pts.length b := fun b hb => bn_ok w t hb
  have hlawT := fun A c b hb S => rgT_law w t A c b hb S
  have hlawF := fun A c S => rgF_law w t A c S
  generalize hL : bnF ts pts pts.length = L at hbl hbo hbok hlawT hlawF
  (refine pc_of_aw Tryz.func127 rfl (by simp [Tryz.ntmps127]) ?_; rw [Tryz.ntmps127])
  repeat' (first | (apply id_rw; first | (apply rx_assign;rfl;rfl) | (apply rw_nil;kernel_rfl) | (apply rx_alloc;rfl;rfl)) | (apply id_aw; first | apply aw_seq | apply aw_region | apply aw_block) | with_reducible apply tq_normal)
  refine aw_loopK (σ := List Nat × Bool) [0, 2, 3] [(0, _), (2, _), (3, _)] [0] [(0, some _)] (fun s => [(4, bv s.2)]) (fun s => [(1, some (flat cW s.1))]) (fun s => SRg ts pts s.1 ∧ (s.2 = false → ClG ts pts s.1)) (fun s => 2 * sumL (s.1.map (fun x => 2 ^ pts.length - x)) + s.2.toNat) (List.replicate 6 0, true) ⟨SRg.rep ts pts, fun h => by cases h⟩ rfl rfl (by repeat' (first | exact trivial | refine And.intro rfl ?_)) (by repeat' (first | exact trivial | refine And.intro (.inr rfl) ?_)) ?_
  rintro ⟨s, b⟩ ⟨hS, hC⟩
  dsimp only at hS hC
  try dsimp only
  have hsl := hS.l
  repeat' (first | (apply id_rw; first | ((with_reducible apply rx_callE (k := 177)); (case ha => rfl); (case h => exact hbo); (case hp => (exact Pur.pf)); (case hN => rfl)) | (apply rx_move;rfl;rfl) | (apply rx_loadArr0;rfl;rfl;(assumption);rfl;rfl) | (apply rx_assign;rfl;rfl) | (apply rx_len;rfl;rfl;rfl) | (apply rw_nil;kernel_rfl) | (apply rx_storeArr;rfl;rfl;rfl;(assumption);(rfl))) | (apply id_aw; first | apply aw_seq | apply aw_region | (apply aw_cond;rfl;all_goals intro hc;have hq:=hc;(try simp only [bqs] at hq);try exfalso;omega) | apply aw_block | apply aw_skip | apply aw_exit | apply aw_ret) | with_reducible apply tq_normal | with_reducible apply tq_exit | with_reducible apply bq_here)
  · refine aw_loopK (σ := Nat × (List Nat × Bool)) [0, 2, 3, 10, 11] [(0, _), (2, _), (3, _), (10, _), (11, _)] [0] [(0, some _)] (fun k => [(12, iv (k.1 : Int)), (4, bv k.2.2)]) (fun k => [(1, some (flat cW k.2.1))]) (fun k => k.1 ≤ L.length ∧ k.2 = (L.take k.1).foldl rgT (s, false) ∧ SRg ts pts k.2.1) (fun k => L.length - k.1) (0, (s, false)) ⟨by omega, rfl, hS⟩ rfl rfl (by repeat' (first | exact trivial | refine And.intro rfl ?_)) (by repeat' (first | exact trivial | refine And.intro (.inr rfl) ?_)) ?_
    rintro ⟨k, u, c⟩ ⟨hk, hf, hS2⟩
    dsimp only at hk hf hS2
    try dsimp only
    have hul := hS2.l
    have hsm : ∀ z : Nat, Sm u[z]! := fun z => ⟨Nat.lt_of_lt_of_le (hS2.b z) (Nat.pow_le_pow_right (by decide) (by omega))⟩
    by_cases hkn : k < L.length
    · have hmb := getB_mem _ k hkn
      have ok := hbok _ hmb
      have hft := foldl_take rgT L (s, false) k hkn
      rw [← hf] at hft
      have hlaw := hlawT u c _ hmb hS2
      have hst : rgT (u, c) L[k]! = if rgS u L[k]! ≠ u[L[k]!.var.toNat]! then (u.set L[k]!.var.toNat (rgS u L[k]!), true) else (u, c) := rfl
      have hs1 : rgS u L[k]! = if L[k]!.src < 0 then u[L[k]!.var.toNat]! ||| 2 ^ L[k]!.loan.toNat else u[L[k]!.var.toNat]! ||| u[L[k]!.src.toNat]! := rfl
      have hv := ok.v
      rcases ok.k with ⟨h1, h2, h3⟩ | ⟨h1, h2, h3, h4⟩
      · rw [if_pos (by omega : L[k]!.src < 0)] at hs1
        rw [hs1] at hst
        repeat' (first | (apply id_rw; first | (apply rx_store;rfl;rfl;rfl;rfl;rfl;(case hl => (simp; done));exact (rfl:_=[_, _, _])) | (apply rx_move;rfl;rfl) | (first | (apply rx_loadF0; (case hx | hH => rfl); (case hf | hg | hα => infer_instance); (case hk => omega); (case hc | hN => rfl)) | (apply rx_load1;rfl;rfl;rfl;rfl) | (apply rx_loadA;rfl;rfl;(exact (rfl:_=[_, _, _]));rfl;rfl;rfl)) | (apply rx_fieldAddr;rfl;rfl;rfl) | (first | (apply rx_orN;rfl;rfl;infer_instance;infer_instance;infer_instance;rfl) | (apply rx_shl1;rfl;rfl;infer_instance;omega;rfl; (case' kk => intro hsm)) | (apply rx_add;rfl;rfl;omega;rfl) | (apply rx_bin;rfl;rfl;rfl;rfl)) | (apply rx_assign;rfl;rfl) | (first | (apply rx_indexFN; (case hx | hi => rfl); (case hm => (assumption)); (case hml => (rfl)); (case hα | hf | hg => infer_instance); (case hN => rfl)) | (apply rx_indexArr;rfl;rfl;(omega);rfl;rfl)) | (apply rw_nil;kernel_rfl) | (apply rx_alloc;rfl;rfl) | (apply rx_store;rfl;rfl;rfl;rfl;rfl;(rw [flat_length]; simp only [lns] <;> omega);(exact st_natW (by (omega))))) | (apply id_aw; first | apply aw_seq | apply aw_region | (apply aw_cond;rfl;all_goals intro hc;have hq:=hc;(try simp only [bqs] at hq);try exfalso;omega) | apply aw_block | apply aw_skip) | with_reducible apply tq_normal | with_reducible apply bq_normal)
        · rw [if_pos (fun h => (by assumption : ¬ (_ : Int) = _) (by rw [h]))] at hst
          (apply ex3 (k + 1, (_, true)); focus (refine Le.ren [(0, 0), (1, 1)] rfl (by decide) ?_ ?_ <;> repeat' (first | exact trivial | refine And.intro ⟨_, rfl, ?_⟩ ?_ | refine And.intro ⟨_, _, rfl, rfl, ?_⟩ ?_ | exact Or.inr rfl | refine Or.inl ⟨?_, (by first | rfl | exact pur_sl _ _ | exact Pur.pf)⟩ | rfl)))
          · exact ⟨by dsimp only; omega, (hft.trans hst).symm, by have h9 := hlaw.1; rw [hst] at h9; exact h9⟩
          · dsimp only; omega
        · rw [if_neg (fun h => h (by have := (by assumption : ((_ : Nat) : Int) = ((_ : Nat) : Int)); omega))] at hst
          (apply ex3 (k + 1, (u, c)); focus (refine Le.ren [(0, 0), (1, 1)] rfl (by decide) ?_ ?_ <;> repeat' (first | exact trivial | refine And.intro ⟨_, rfl, ?_⟩ ?_ | refine And.intro ⟨_, _, rfl, rfl, ?_⟩ ?_ | exact Or.inr rfl | refine Or.inl ⟨?_, (by first | rfl | exact pur_sl _ _ | exact Pur.pf)⟩ | rfl)))
          · exact ⟨by dsimp only; omega, (hft.trans hst).symm, hS2⟩
          · dsimp only; omega
      · rw [if_neg (by omega : ¬ L[k]!.src < 0)] at hs1
        rw [hs1] at hst
        repeat' (first | (apply id_rw; first | (apply rx_store;rfl;rfl;rfl;rfl;rfl;(case hl => (simp; done));exact (rfl:_=[_, _, _])) | (apply rx_move;rfl;rfl) | (first | (apply rx_loadF0; (case hx | hH => rfl); (case hf | hg | hα => infer_instance); (case hk => omega); (case hc | hN => rfl)) | (apply rx_load1;rfl;rfl;rfl;rfl) | (apply rx_loadA;rfl;rfl;(exact (rfl:_=[_, _, _]));rfl;rfl;rfl)) | (apply rx_fieldAddr;rfl;rfl;rfl) | (first | (apply rx_orN;rfl;rfl;infer_instance;infer_instance;infer_instance;rfl) | (apply rx_add;rfl;rfl;omega;rfl) | (apply rx_bin;rfl;rfl;rfl;rfl)) | (apply rx_assign;rfl;rfl) | (first | (apply rx_indexFN; (case hx | hi => rfl); (case hm => (assumption)); (case hml => (rfl)); (case hα | hf | hg => infer_instance); (case hN => rfl)) | (apply rx_indexArr;rfl;rfl;(omega);rfl;rfl)) | (apply rw_nil;kernel_rfl) | (apply rx_alloc;rfl;rfl) | (apply rx_store;rfl;rfl;rfl;rfl;rfl;(rw [flat_length]; simp only [lns] <;> omega);(exact st_natW (by (omega))))) | (apply id_aw; first | apply aw_seq | apply aw_region | (apply aw_cond;rfl;all_goals intro hc;have hq:=hc;(try simp only [bqs] at hq);try exfalso;omega) | apply aw_block | apply aw_skip) | with_reducible apply tq_normal | with_reducible apply bq_normal)
        · rw [if_pos (fun h => (by assumption : ¬ (_ : Int) = _) (by rw [h]))] at hst
          (apply ex3 (k + 1, (_, true)); focus (refine Le.ren [(0, 0), (1, 1)] rfl (by decide) ?_ ?_ <;> repeat' (first | exact trivial | refine And.intro ⟨_, rfl, ?_⟩ ?_ | refine And.intro ⟨_, _, rfl, rfl, ?_⟩ ?_ | exact Or.inr rfl | refine Or.inl ⟨?_, (by first | rfl | exact pur_sl _ _ | exact Pur.pf)⟩ | rfl)))
          · exact ⟨by dsimp only; omega, (hft.trans hst).symm, by have h9 := hlaw.1; rw [hst] at h9; exact h9⟩
          · dsimp only; omega
        · rw [if_neg (fun h => h (by have := (by assumption : ((_ : Nat) : Int) = ((_ : Nat) : Int)); omega))] at hst
          (apply ex3 (k + 1, (u, c)); focus (refine Le.ren [(0, 0), (1, 1)] rfl (by decide) ?_ ?_ <;> repeat' (first | exact trivial | refine And.intro ⟨_, rfl, ?_⟩ ?_ | refine And.intro ⟨_, _, rfl, rfl, ?_⟩ ?_ | exact Or.inr rfl | refine Or.inl ⟨?_, (by first | rfl | exact pur_sl _ _ | exact Pur.pf)⟩ | rfl)))
          · exact ⟨by dsimp only; omega, (hft.trans hst).symm, hS2⟩
          · dsimp only; omega
    · repeat' (first | (apply id_rw; first | (apply rx_bin;rfl;rfl;rfl;rfl) | (apply rw_nil;kernel_rfl)) | (apply id_aw; first | apply aw_seq | apply aw_region | (apply aw_cond;rfl;all_goals intro hc;have hq:=hc;(try simp only [bqs] at hq);try exfalso;omega) | apply aw_exit) | with_reducible apply tq_normal | with_reducible apply tq_exit | with_reducible apply bq_normal | with_reducible apply bq_here)
      have hfu : L.foldl rgT (s, false) = (u, c) := by rw [hf, List.take_of_length_le (by omega)]
      have hlaw := hlawF s false hS
      rw [hfu] at hlaw
      (apply ex3 (u, c); focus (refine Le.ren [(0, 0), (1, 1)] rfl (by decide) ?_ ?_ <;> repeat' (first | exact trivial | refine And.intro ⟨_, rfl, ?_⟩ ?_ | refine And.intro ⟨_, _, rfl, rfl, ?_⟩ ?_ | exact Or.inr rfl | refine Or.inl ⟨?_, (by first | rfl | exact pur_sl _ _ | exact Pur.pf)⟩ | rfl)))
      · refine ⟨hS2, fun hc0 => ?_⟩
        dsimp only at hc0
        rcases hlaw.2 with ⟨e1, e2⟩ | ⟨e1, _⟩
        · cases e1; exact e2
        · dsimp only at e1; rw [e1] at hc0; cases hc0
      · dsimp only
        rcases hlaw.2 with ⟨e1, e2⟩ | ⟨e1, e2⟩
        · cases e1; rw [(by assumption : b = true)]; simp
        · dsimp only at e1 e2; rw [e1, (by assumption : b = true)]; simp; omega
  · have e := goodG_ext (goodG_of w t hS (hC (by assumption))) hA
    subst e
    refine rq_ret (resL_cellW (z := 6) rfl rfl hsl (by decide)) ⟨rfl, (by (exact pur_sl _ _))⟩
end Go.Proofs.YtejkbiijonnefaaGreat
