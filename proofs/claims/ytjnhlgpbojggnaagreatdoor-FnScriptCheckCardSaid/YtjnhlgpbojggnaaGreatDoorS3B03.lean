/-
 A part of the proofs over this program: rules and contracts of its functions (the contracts).
-/
import Derived.Test.YtjnhlgpbojggnaaGreatDoorS3B02
set_option linter.unusedVariables false
set_option linter.unusedSimpArgs false
set_option maxHeartbeats 8000000
set_option maxRecDepth 4000
attribute [local irreducible] Go.AL.RW Go.AL.AW Go.AL.Stop
namespace Go.Proofs.YtjnhlgpbojggnaaGreatDoor
open Go.AL Go.RowKit
variable {N : Nat} {Q : Exit → AS → Prop} {all : Array Oper} {rest : List Oper} {tsl : List (Nat × AV)} {hsl : List (Nat × Option (List AV))} {nidl : Nat} {z0 : Lo} {md : Md} {d : Nat} {ty : TypeId} {pos : String} {af : Array Edge} {tys : Array TypeId}
theorem rn_push {m:List (Nat × Nat)}{l0 k K b w:Nat}(h0:l0 ≤ big) (hK:K = k):RnL (rhoF m ⟨l0,big + K⟩ (some b)) (flat (cRw 0 w) (List.range (k + 1))) (((flat (cRw 0 w) (List.range k)).drop 0).take (k * 1) ++ [.own b 0 w 1]):=by
 rw [hK]
 have e : ((flat (cRw 0 w) (List.range k)).drop 0).take (k * 1) = flat (cRw 0 w) (List.range k) := List.take_of_length_le (by rw [List.drop_zero,flat_length (cRw 0 w) (e := 1)]; simp)
 rw [e,List.range_succ,← flat_append,flat_one]
 refine (rn_rowsF (by show big + (0 + k) ≤ big + k;omega)).app (.cons (.own ?_) .nil)
 unfold rhoF
 rw [if_neg (by show ¬ 0 + k + big < l0;omega),if_pos (by omega),if_neg (by show ¬ 0 + k + big < big + k;omega),if_pos (by show 0 + k + big = big + k;omega)]
theorem l3Live_c (p:Prg) (A:List Nat) (hs:cntL p.body ≤ 1048576) (w:WG p.types (ptsF p)) (hA:GoodL p.types (ptsF p) A):PC Tryz.prog 113 [aPrg p] (fun r => r = sl cBB (rowsB p.types.length (ptsF p).length A)):=by
 have hpl := w.pl
 have hp0 := w.p0
 have htl := w.tl
 refine pc_start Tryz.func113 Tryz.ntmps113 ?_
 repeat' (first|(apply id_rw;(apply rx_callE (k := 62);rfl;exact l2Points_c p hs;exact Pur.pf;rfl))|refine stpb ?_|fail)
 refine aw_loopB (σ := Nat) (fun k => List.replicate k (List.replicate p.types.length false)) [1,3] [0] (fun k => [(5,iv (k : Int)),(4,.own 1 0 k 1)]) (fun k => [(1,some (flat (cRw 0 p.types.length) (List.range k)))]) (fun k => k ≤ (ptsF p).length) (fun k => (ptsF p).length - k) (0) (Nat.zero_le _) ?_
 intro k hk
 try dsimp only
 repeat' (first|(apply id_rw;first|(with_reducible apply rw_stop (d := 6))|(apply rx_append;rfl;rfl;rfl;rfl;rfl;(case hl => (simp [flat_length]; done));(rfl);omega;omega;(rfl);rfl;rfl))|refine stpb ?_|(refine stp2 ?_ ?_ <;> intro hc hq <;> try (exfalso;omega))|fail)
 ·(apply ex3 (k + 1); focus (refine Le.renF1 [(0, 0), (1, 4)] 2 (R := ?qA1) (r := ?qB1) (hF := ?qF1) (hz := ?qz1) (hm := ?qm1) (hn := ?qn1) (hlb := ?qlb1) (hb := ?qb1) (hr := ?qr1) (hR := ?qR1) (h1 := ?q11) (h2 := ?q21); (case qF1 => (repeat' (first | exact FamR.here | (apply FamR.cons; focus rfl)))); (case qz1 => (rfl)); (case qm1 => rfl); (case qn1 => decide); (case qlb1 => decide); (case qb1 => decide); (case qr1 => rfl); (case qR1 => (exact List.replicate_succ')); all_goals (repeat' (first | exact trivial | refine And.intro ⟨_, rfl, ?_⟩ ?_ | refine And.intro ⟨_, _, rfl, rfl, ?_⟩ ?_ | exact RnL.purI inferInstance | exact RnV.purI inferInstance | exact RnV.own rfl | exact RnV.optr rfl | exact rn_push (by decide) (by simp)))))
  ·show k + 1 ≤ (ptsF p).length;omega
  ·show (ptsF p).length - (k + 1) < (ptsF p).length - k;omega
 ·have hkN : k = (ptsF p).length := by omega
  subst hkN
  refine rw_go (rw_le ?_ (Le.frzD (d := 4) (i := 1) rfl rfl))
  repeat' (first|refine stpb ?_|fail)
  refine aw_loopB (σ := List (List Bool) × Bool) (fun s => s.1) [1,3,4] [0] (fun s => [(6,bv s.2)]) (fun s => []) (fun s => LH p.types (ptsF p) s.1 s.2) (fun s => muL p.types.length (ptsF p).length s.1 s.2) (List.replicate (ptsF p).length (List.replicate p.types.length false),true) (LH.init _ _) ?_
  rintro ⟨R,c⟩ hLH
  try dsimp only at hLH
  try dsimp only
  have hRl := hLH.lo
  have hRr := hLH.ro
  cases c with
  | false =>
   repeat' (first|refine stpb ?_|fail)
   have hfin := hLH.final w hA
   refine rq_le (Le.frzAll (d := 2) (D := (List.range R.length).map fun k => 0 + k + big) rfl (.imm (LdL.rows (b := 0) (R := R) (by (repeat' (first|exact FamR.here|(apply FamR.cons;focus rfl)))) (fun k hk => List.mem_map.2 ⟨k,by rw [List.mem_range]; omega,rfl⟩) (by omega) (fun k hk => by rw [Nat.zero_add]; exact hRr k hk)))) ?_
   refine rq_ret rfl ⟨?_,(by (exact pur_sl _ _))⟩
   simp only [oneOf]
   rw [List.drop_zero,List.take_of_length_le (by omega),hfin]
   simp only [sl,rowsB_len]
  | true =>
   have hst := hLH.start
   repeat' (first|refine stpb ?_|fail)
   refine aw_loopB (σ := Int × List (List Bool) × Bool) (fun s => s.2.1) [1,3,4] [0] (fun s => [(6,bv s.2.2),(7,iv s.1)]) (fun s => []) (fun s => -1 ≤ s.1 ∧ s.1 < (ptsF p).length ∧ LS p.types (ptsF p) R s.2.1 s.2.2 (DL s.1 0 0)) (fun s => (s.1 + 1).toNat) (((ptsF p).length : Int) - 1,R,false) ⟨(by show -1 ≤ ((ptsF p).length : Int) - 1;omega),(by show ((ptsF p).length : Int) - 1 < _; omega),hst⟩ ?_
   rintro ⟨z,R1,c1⟩ ⟨hz1,hz2,hL1⟩
   dsimp only at hz1 hz2 hL1
   have hl1 := hL1.lo
   try dsimp only
   repeat' (first|refine stpb ?_|(refine stp2 ?_ ?_ <;> intro hc hq <;> try (exfalso;omega))|fail)
   ·have hnl := w.nl z.toNat (by omega)
    refine aw_loopB (σ := Nat × List (List Bool) × Bool) (fun s => s.2.1) [1,3,4,7] [0] (fun s => [(6,bv s.2.2),(8,iv (s.1 : Int))]) (fun s => []) (fun s => s.1 ≤ (ptsF p)[z.toNat]!.next.length ∧ LS p.types (ptsF p) R s.2.1 s.2.2 (DL z s.1 0)) (fun s => (ptsF p)[z.toNat]!.next.length - s.1) (0,R1,c1) ⟨Nat.zero_le _,hL1⟩ ?_
    rintro ⟨kk,R2,c2⟩ ⟨hk,hL2⟩
    dsimp only at hk hL2
    have hl2 := hL2.lo
    try dsimp only
    by_cases hkn : kk < (ptsF p)[z.toNat]!.next.length
    ·have hnx := w.nx z.toNat (by omega) _ (getB_mem _ _ hkn)
     repeat' (first|refine stpb ?_|(refine stp2 ?_ ?_ <;> intro hc hq <;> try (exfalso;omega))|fail)
     refine aw_loopB (σ := Nat × List (List Bool) × Bool) (fun s => s.2.1) [1,3,4,7,8,9] [0] (fun s => [(6,bv s.2.2),(10,iv (s.1 : Int))]) (fun s => []) (fun s => s.1 ≤ p.types.length ∧ LS p.types (ptsF p) R s.2.1 s.2.2 (DL z kk s.1)) (fun s => p.types.length - s.1) (0,R2,c2) ⟨Nat.zero_le _,hL2⟩ ?_
     rintro ⟨v,R3,c3⟩ ⟨hv,hL3⟩
     dsimp only at hv hL3
     try dsimp only
     have hl3 := hL3.lo
     have hr3 := hL3.ro z.toNat (by omega)
     have hr3n := hL3.ro ((ptsF p)[z.toNat]!.next[kk]!).toNat (by omega)
     by_cases hvn : v < p.types.length
     ·repeat' (first | (apply id_rw; first | (apply rx_loadB;rfl;(case hF => (repeat' (first | exact FamR.here | (apply FamR.cons; focus rfl))));(omega);(simp only [lns] <;> omega);rfl) | (apply rx_indexRgI;rfl;rfl;(first | assumption | omega);rfl;infer_instance;infer_instance;rfl) | (apply rx_storeB;rfl;rfl;(case hF => (repeat' (first | exact FamR.here | (apply FamR.cons; focus rfl))));(omega);(simp only [lns] <;> omega)) | (first | (apply rx_callE (k := 174);rfl;(apply l3Use_c <;> (omega));exact Pur.pf;rfl) | (apply rx_callE (k := 178);rfl;(apply l3Set_c);exact Pur.pf;rfl))) | refine stpb ?_ | (refine stp2 ?_ ?_ <;> intro hc hq <;> try (exfalso; omega)) | (refine stp3 ?_ ?_ <;> intro hg hq <;> try (exfalso; omega)) | refine stpd ?_|fail)
      ·(apply ex3 (v + 1, _, _); focus (refine Le.renF0 [(0, 0)] (R := ?qA2) (hF := ?qF2) (hz := ?qz2) (hm := ?qm2) (hn := ?qn2) (h1 := ?q12) (h2 := ?q22); (case qF2 => (repeat' (first | exact FamR.here | (apply FamR.cons; focus rfl)))); (case qz2 => (simp only [List.length_set])); (case qm2 => rfl); (case qn2 => decide); all_goals (repeat' (first | exact trivial | refine And.intro ⟨_, rfl, ?_⟩ ?_ | refine And.intro ⟨_, _, rfl, rfl, ?_⟩ ?_ | exact RnL.purI inferInstance | exact RnV.purI inferInstance | exact RnV.optr rfl | exact RnV.imm (rn_rowsF (by (simp only [List.length_replicate, List.length_set, List.length_append, List.length_singleton] at * <;> omega)))))))
       ·refine ⟨(by show v + 1 ≤ p.types.length; omega), ?_⟩
        have hf : R3[z.toNat]![v]! = false := by simp only [Nat.zero_add] at *; assumption
        have hn : needL p.types (ptsF p) R3 ((ptsF p)[z.toNat]!.next[kk]!).toNat v = true := by simp only [Nat.zero_add] at *; clear hL1 hL2 hL3 hLH hst;grind [needL]
        have hh := hL3.hit w (DL z kk (v + 1)) (by omega) hkn hvn hn hf
        simpa only [Nat.zero_add] using hh
       ·show p.types.length - (v + 1) < p.types.length - v;omega
      ·(apply ex3 (v + 1, R3, c3); focus (refine Le.renF0 [(0, 0)] (R := ?qA3) (hF := ?qF3) (hz := ?qz3) (hm := ?qm3) (hn := ?qn3) (h1 := ?q13) (h2 := ?q23); (case qF3 => (repeat' (first | exact FamR.here | (apply FamR.cons; focus rfl)))); (case qz3 => (rfl)); (case qm3 => rfl); (case qn3 => decide); all_goals (repeat' (first | exact trivial | refine And.intro ⟨_, rfl, ?_⟩ ?_ | refine And.intro ⟨_, _, rfl, rfl, ?_⟩ ?_ | exact RnL.purI inferInstance | exact RnV.purI inferInstance | exact RnV.optr rfl | exact RnV.imm (rn_rowsF (by (simp only [List.length_replicate, List.length_set, List.length_append, List.length_singleton] at * <;> omega)))))))
       ·refine ⟨(by show v + 1 ≤ p.types.length; omega), ?_⟩
        refine hL3.skip (i := z.toNat) (k := kk) (v := v) (fun hn => ?_) (fun i' k' v' _ _ _ hd => by unfold DL at hd ⊢; omega)
        simp only [Nat.zero_add] at *
        first
        | assumption
        | (exfalso;clear hL1 hL2 hL3 hLH hst;grind [needL])
       ·show p.types.length - (v + 1) < p.types.length - v;omega
      ·(apply ex3 (v + 1, R3, c3); focus (refine Le.renF0 [(0, 0)] (R := ?qA4) (hF := ?qF4) (hz := ?qz4) (hm := ?qm4) (hn := ?qn4) (h1 := ?q14) (h2 := ?q24); (case qF4 => (repeat' (first | exact FamR.here | (apply FamR.cons; focus rfl)))); (case qz4 => (rfl)); (case qm4 => rfl); (case qn4 => decide); all_goals (repeat' (first | exact trivial | refine And.intro ⟨_, rfl, ?_⟩ ?_ | refine And.intro ⟨_, _, rfl, rfl, ?_⟩ ?_ | exact RnL.purI inferInstance | exact RnV.purI inferInstance | exact RnV.optr rfl | exact RnV.imm (rn_rowsF (by (simp only [List.length_replicate, List.length_set, List.length_append, List.length_singleton] at * <;> omega)))))))
       ·refine ⟨(by show v + 1 ≤ p.types.length; omega), ?_⟩
        refine hL3.skip (i := z.toNat) (k := kk) (v := v) (fun hn => ?_) (fun i' k' v' _ _ _ hd => by unfold DL at hd ⊢; omega)
        simp only [Nat.zero_add] at *
        first
        | assumption
        | (exfalso;clear hL1 hL2 hL3 hLH hst;grind [needL])
       ·show p.types.length - (v + 1) < p.types.length - v;omega
      ·(apply ex3 (v + 1, R3, c3); focus (refine Le.renF0 [(0, 0)] (R := ?qA5) (hF := ?qF5) (hz := ?qz5) (hm := ?qm5) (hn := ?qn5) (h1 := ?q15) (h2 := ?q25); (case qF5 => (repeat' (first | exact FamR.here | (apply FamR.cons; focus rfl)))); (case qz5 => (rfl)); (case qm5 => rfl); (case qn5 => decide); all_goals (repeat' (first | exact trivial | refine And.intro ⟨_, rfl, ?_⟩ ?_ | refine And.intro ⟨_, _, rfl, rfl, ?_⟩ ?_ | exact RnL.purI inferInstance | exact RnV.purI inferInstance | exact RnV.optr rfl | exact RnV.imm (rn_rowsF (by (simp only [List.length_replicate, List.length_set, List.length_append, List.length_singleton] at * <;> omega)))))))
       ·refine ⟨(by show v + 1 ≤ p.types.length; omega), ?_⟩
        refine hL3.skip (i := z.toNat) (k := kk) (v := v) (fun hn => ?_) (fun i' k' v' _ _ _ hd => by unfold DL at hd ⊢; omega)
        simp only [Nat.zero_add] at *
        first
        | assumption
        | (exfalso;clear hL1 hL2 hL3 hLH hst;grind [needL])
       ·show p.types.length - (v + 1) < p.types.length - v;omega
      ·(apply ex3 (v + 1, _, _); focus (refine Le.renF0 [(0, 0)] (R := ?qA6) (hF := ?qF6) (hz := ?qz6) (hm := ?qm6) (hn := ?qn6) (h1 := ?q16) (h2 := ?q26); (case qF6 => (repeat' (first | exact FamR.here | (apply FamR.cons; focus rfl)))); (case qz6 => (simp only [List.length_set])); (case qm6 => rfl); (case qn6 => decide); all_goals (repeat' (first | exact trivial | refine And.intro ⟨_, rfl, ?_⟩ ?_ | refine And.intro ⟨_, _, rfl, rfl, ?_⟩ ?_ | exact RnL.purI inferInstance | exact RnV.purI inferInstance | exact RnV.optr rfl | exact RnV.imm (rn_rowsF (by (simp only [List.length_replicate, List.length_set, List.length_append, List.length_singleton] at * <;> omega)))))))
       ·refine ⟨(by show v + 1 ≤ p.types.length; omega), ?_⟩
        have hf : R3[z.toNat]![v]! = false := by simp only [Nat.zero_add] at *; assumption
        have hn : needL p.types (ptsF p) R3 ((ptsF p)[z.toNat]!.next[kk]!).toNat v = true := by simp only [Nat.zero_add] at *; clear hL1 hL2 hL3 hLH hst;grind [needL]
        have hh := hL3.hit w (DL z kk (v + 1)) (by omega) hkn hvn hn hf
        simpa only [Nat.zero_add] using hh
       ·show p.types.length - (v + 1) < p.types.length - v;omega
      ·(apply ex3 (v + 1, R3, c3); focus (refine Le.renF0 [(0, 0)] (R := ?qA7) (hF := ?qF7) (hz := ?qz7) (hm := ?qm7) (hn := ?qn7) (h1 := ?q17) (h2 := ?q27); (case qF7 => (repeat' (first | exact FamR.here | (apply FamR.cons; focus rfl)))); (case qz7 => (rfl)); (case qm7 => rfl); (case qn7 => decide); all_goals (repeat' (first | exact trivial | refine And.intro ⟨_, rfl, ?_⟩ ?_ | refine And.intro ⟨_, _, rfl, rfl, ?_⟩ ?_ | exact RnL.purI inferInstance | exact RnV.purI inferInstance | exact RnV.optr rfl | exact RnV.imm (rn_rowsF (by (simp only [List.length_replicate, List.length_set, List.length_append, List.length_singleton] at * <;> omega)))))))
       ·refine ⟨(by show v + 1 ≤ p.types.length; omega), ?_⟩
        refine hL3.skip (i := z.toNat) (k := kk) (v := v) (fun hn => ?_) (fun i' k' v' _ _ _ hd => by unfold DL at hd ⊢; omega)
        simp only [Nat.zero_add] at *
        first
        | assumption
        | (exfalso;clear hL1 hL2 hL3 hLH hst;grind [needL])
       ·show p.types.length - (v + 1) < p.types.length - v;omega
     ·repeat' (first | refine stpb ?_ | (refine stp2 ?_ ?_ <;> intro hc hq <;> try (exfalso; omega))|fail)
      ·(apply ex3 (kk + 1, R3, c3); focus (refine Le.renF0 [(0, 0)] (R := ?qA8) (hF := ?qF8) (hz := ?qz8) (hm := ?qm8) (hn := ?qn8) (h1 := ?q18) (h2 := ?q28); (case qF8 => (repeat' (first | exact FamR.here | (apply FamR.cons; focus rfl)))); (case qz8 => (rfl)); (case qm8 => rfl); (case qn8 => decide); all_goals (repeat' (first | exact trivial | refine And.intro ⟨_, rfl, ?_⟩ ?_ | refine And.intro ⟨_, _, rfl, rfl, ?_⟩ ?_ | exact RnL.purI inferInstance | exact RnV.purI inferInstance | exact RnV.optr rfl | exact RnV.imm (rn_rowsF (by (simp only [List.length_replicate, List.length_set, List.length_append, List.length_singleton] at * <;> omega)))))))
       ·refine ⟨(by show kk + 1 ≤ (ptsF p)[z.toNat]!.next.length; omega), ?_⟩
        exact hL3.mono fun i' k' v' _ _ _ hd => by unfold DL at hd ⊢; omega
       ·show (ptsF p)[z.toNat]!.next.length - (kk + 1) < (ptsF p)[z.toNat]!.next.length - kk;omega
    ·repeat' (first | refine stpb ?_ | (refine stp2 ?_ ?_ <;> intro hc hq <;> try (exfalso; omega))|fail)
     ·(apply ex3 (z - 1, R2, c2); focus (refine Le.renF0 [(0, 0)] (R := ?qA9) (hF := ?qF9) (hz := ?qz9) (hm := ?qm9) (hn := ?qn9) (h1 := ?q19) (h2 := ?q29); (case qF9 => (repeat' (first | exact FamR.here | (apply FamR.cons; focus rfl)))); (case qz9 => (rfl)); (case qm9 => rfl); (case qn9 => decide); all_goals (repeat' (first | exact trivial | refine And.intro ⟨_, rfl, ?_⟩ ?_ | refine And.intro ⟨_, _, rfl, rfl, ?_⟩ ?_ | exact RnL.purI inferInstance | exact RnV.purI inferInstance | exact RnV.optr rfl | exact RnV.imm (rn_rowsF (by (simp only [List.length_replicate, List.length_set, List.length_append, List.length_singleton] at * <;> omega)))))))
      ·refine ⟨(by show -1 ≤ z - 1; omega), (by show z - 1 < ((ptsF p).length : Int); omega), ?_⟩
       refine hL2.mono fun i' k' v' _ hk' _ hd => ?_
       unfold DL at hd ⊢
       by_cases e : (i' : Int) = z
       ·have e2 : i' = z.toNat := by omega
        rw [e2] at hk'; omega
       ·omega
      ·show (z - 1 + 1).toNat < (z + 1).toNat;omega
   ·(apply ex3 (R1, c1); focus (refine Le.renF0 [(0, 0)] (R := ?qA10) (hF := ?qF10) (hz := ?qz10) (hm := ?qm10) (hn := ?qn10) (h1 := ?q110) (h2 := ?q210); (case qF10 => (repeat' (first | exact FamR.here | (apply FamR.cons; focus rfl)))); (case qz10 => (rfl)); (case qm10 => rfl); (case qn10 => decide); all_goals (repeat' (first | exact trivial | refine And.intro ⟨_, rfl, ?_⟩ ?_ | refine And.intro ⟨_, _, rfl, rfl, ?_⟩ ?_ | exact RnL.purI inferInstance | exact RnV.purI inferInstance | exact RnV.optr rfl | exact RnV.imm (rn_rowsF (by (simp only [List.length_replicate, List.length_set, List.length_append, List.length_singleton] at * <;> omega)))))))
    ·exact (hL1.fin (by omega)).1
    ·exact (hL1.fin (by omega)).2
abbrev aSt (b nv N : Nat) : AV := .agg [.imm nv (flat (cRw b N) (List.range nv)),.own (b + nv + big) 0 N 1]
theorem rhoF_new {m:List (Nat × Nat)}{l0 K b j:Nat}(h0:l0 ≤ big) (hj:j = K):rhoF m ⟨l0,big + K⟩ (some b) (j + big) = some b:=by
 subst hj
 unfold rhoF
 rw [if_neg (by show ¬ j + big < l0;omega),if_pos (by omega),if_neg (by show ¬ j + big < big + j;omega),if_pos (by show j + big = big + j;omega)]
theorem l4Start_c (nv N:Nat) (hnv:nv ≤ 6) (hN:N ≤ 61):GCt Tryz.prog 235 [iv (nv:Int),iv (N:Int)] (aSt 0 nv N) (List.replicate (nv + 1) (List.replicate N false)):=by
 refine gc_start Tryz.func235 Tryz.ntmps235 ?_
 repeat' (first|(apply id_rw;first|(apply rx_build (d := 9);rfl;exact (rfl:_=some [_,_]);rfl)|(with_reducible apply rw_stop (d := 6)))|refine stpb ?_|fail)
 refine rw_go (rw_le ?_ (Le.nilCell (i := 2) 1 [] rfl (by decide) (by decide)))
 repeat' (first|refine stpb ?_|fail)
 refine aw_loopB (σ := Nat) (fun k => List.replicate k (List.replicate N false)) [0,1,4,5] [1,0] (fun k => [(6,iv (k : Int))]) (fun k => [(2,some [.own 3 0 k 1,.own 1 0 N 1]),(3,some (flat (cRw 0 N) (List.range k)))]) (fun k => k ≤ nv) (fun k => nv - k) (0) (Nat.zero_le _) ?_
 intro k hk
 try dsimp only
 repeat' (first|(apply id_rw;first|(apply rx_append;rfl;rfl;rfl;rfl;rfl;(case hl => (simp [flat_length]; done));(rfl);omega;omega;(rfl);rfl;rfl)|(apply rx_store;rfl;rfl;rfl;rfl;rfl;(case hl => (simp;done));(exact (rfl:_=[_,_]))))|refine stpb ?_|(refine stp2 ?_ ?_ <;> intro hc hq <;> try (exfalso;omega))|refine stpd ?_|fail)
 ·(apply ex3 (k + 1); focus (refine Le.renF1 [(0, 0), (1, 1), (2, 2), (3, 6)] 4 (R := ?qA1) (r := ?qB1) (hF := ?qF1) (hz := ?qz1) (hm := ?qm1) (hn := ?qn1) (hlb := ?qlb1) (hb := ?qb1) (hr := ?qr1) (hR := ?qR1) (h1 := ?q11) (h2 := ?q21); (case qF1 => (repeat' (first | exact FamR.here | (apply FamR.cons; focus rfl)))); (case qz1 => (rfl)); (case qm1 => rfl); (case qn1 => decide); (case qlb1 => decide); (case qb1 => decide); (case qr1 => rfl); (case qR1 => (exact List.replicate_succ')); all_goals (repeat' (first | exact trivial | refine And.intro ⟨_, rfl, ?_⟩ ?_ | refine And.intro ⟨_, _, rfl, rfl, ?_⟩ ?_ | exact RnL.purI inferInstance | exact RnV.purI inferInstance | exact RnV.own rfl | exact RnV.optr rfl | exact RnL.nil | refine RnL.cons ?_ ?_ | exact rn_push (by decide) (by simp)))))
  ·show k + 1 ≤ nv;omega
  ·show nv - (k + 1) < nv - k;omega
 ·have e : k = nv := by omega
  subst e
  refine rq_le (Le.renF1 [(0, 0), (3, 3)] 1 (ts' := [(4, .optr 0 0)]) (lits := [(0, some [.own 3 0 k 1, .own (0 + k + big) 0 N 1]), (3, some (flat (cRw 0 N) (List.range k)))]) (n' := 4) (R := List.replicate k (List.replicate N false)) (r := List.replicate N false) (R' := List.replicate (k + 1) (List.replicate N false)) (by (repeat' (first | exact FamR.here | (apply FamR.cons; focus rfl)))) rfl rfl (by decide) (by decide) (by decide) rfl List.replicate_succ' ⟨⟨_, rfl, .optr rfl⟩, trivial⟩
   ⟨⟨0,_,rfl,rfl,.cons (.own rfl) (.cons (.own (rhoF_new (by decide) (by simp))) .nil)⟩,⟨3,_,rfl,rfl,rn_rowsF (by simp)⟩,trivial⟩) ?_
  refine rq_le (Le.frzC (j := 0) (i := 3) [] rfl rfl (by decide)) ?_
  refine rq_ret (l := [.agg [_,_]]) rfl ?_
  exact gc_ret rfl (by (repeat' (first|exact FamR.here|(apply FamR.cons;focus rfl))))
theorem cpy_eq {R0:List (List Bool)}{k N:Nat}(hk:k < R0.length) (hN:R0[k]!.length = N):flat cBB (R0.take (k + 1)) = ((flat cBB (R0.take k)).drop 0).take (k * 1) ++ [.imm (0 + N) (flat cB R0[0 + k]!)]:=by
 have e : ((flat cBB (R0.take k)).drop 0).take (k * 1) = flat cBB (R0.take k) := List.take_of_length_le (by rw [List.drop_zero,flat_length cBB (e := 1)]; simp;omega)
 rw [e,take_succB _ _ hk,← flat_append,flat_one,Nat.zero_add,Nat.zero_add,← hN]; rfl
theorem rn_eq {ρ:Nat → Option Nat}{a b:List AV}[h:Pur a] (e:a = b):RnL ρ a b := by subst e;exact .pur h.pf
theorem l4Copy_c (nv N:Nat) (R0:List (List Bool)) (hnv:nv ≤ 6) (hN:N ≤ 61) (hl:R0.length = nv + 1) (hr:∀ k,k < nv + 1 → R0[k]!.length = N):FCt Tryz.prog 283 [aSt 0 nv N] R0 (.agg [.own 0 0 nv 1,.own 1 0 N 1]) [(0,some (flat cBB (R0.take nv))),(1,some (flat cB R0[nv]!))]:=by
 have hrn := hr nv (by omega)
 refine fc_start Tryz.func283 Tryz.ntmps283 ?_
 repeat' (first|(apply id_rw;first|(apply rx_build (d := 9);rfl;exact (rfl:_=some [_,_]);rfl)|(with_reducible apply rw_stop (d := 4))|(apply rx_append;rfl;rfl;rfl;rfl;rfl;(case hl => (simp [flat_length]; done));(case hs' => (apply sC_fam;(focus (repeat' (first|exact FamR.here|(apply FamR.cons;focus rfl))));(focus (omega));(simp only [lns] <;> omega)));omega;omega;(exact app_nilF (by (omega)));rfl;rfl)|(apply rx_store;rfl;rfl;rfl;rfl;rfl;(case hl => (simp;done));(exact (rfl:_=[_,_]))))|refine stpb ?_|fail)
 refine rw_go (rw_le ?_ (Le.nilCell (i := 4) 1 [] rfl (by decide) (by decide)))
 repeat' (first|refine stpb ?_|fail)
 refine aw_loopB (σ := Nat) (fun k => R0) [1,2,3] [3,1,0] (fun k => [(4,iv (k : Int))]) (fun k => [(4,some [.own 5 0 k 1,.own 3 0 (0 + N) 1]),(5,some (flat cBB (R0.take k)))]) (fun k => k ≤ nv) (fun k => nv - k) (0) (Nat.zero_le _) ?_
 intro k hk
 try dsimp only
 have hrk : k < nv → R0[k]!.length = N := fun h => hr k (by omega)
 repeat' (first|(apply id_rw;first|(apply rx_indexRg;rfl;rfl;(omega);rfl;infer_instance;infer_instance;rfl)|(apply rx_append;rfl;rfl;rfl;rfl;rfl;(case hl => first|(rw [flat_length]; simp only [lns] <;> omega)|(simp [flat_length]; done));(case hs' => first|(apply sC_fam;(focus (repeat' (first|exact FamR.here|(apply FamR.cons;focus rfl))));(focus (omega));(simp only [lns] <;> omega))|rfl);omega;omega;(first|exact app_nilF (by (omega))|rfl);rfl;rfl)|(apply rx_store;rfl;rfl;rfl;rfl;rfl;(case hl => (simp;done));(exact (rfl:_=[_,_]))))|refine stpb ?_|(refine stp2 ?_ ?_ <;> intro hc hq <;> try (exfalso;omega))|refine stpd ?_|fail)
 ·(apply ex3 (k + 1); focus (refine Le.trans (Le.frzC (j := 9) (i := 7) (((flat cBB (R0.take k)).drop 0).take (k * 1)) rfl rfl (by decide)) ?_; refine Le.renF0 [(0, 0), (1, 1), (3, 3), (4, 4), (5, 9)] (R := ?qA1) (hF := ?qF1) (hz := ?qz1) (hm := ?qm1) (hn := ?qn1) (h1 := ?q11) (h2 := ?q21); (case qF1 => (repeat' (first | exact FamR.here | (apply FamR.cons; focus rfl)))); (case qz1 => (rfl)); (case qm1 => rfl); (case qn1 => decide); all_goals (repeat' (first | exact trivial | refine And.intro ⟨_, rfl, ?_⟩ ?_ | refine And.intro ⟨_, _, rfl, rfl, ?_⟩ ?_ | exact RnL.purI inferInstance | exact RnV.purI inferInstance | exact RnV.own rfl | exact RnV.optr rfl | exact RnL.nil | refine RnL.cons ?_ ?_ | exact RnV.imm (rn_rowsF (by (simp only [List.length_replicate, List.length_set, List.length_append, List.length_singleton] at * <;> omega))) | exact RnV.own (rhoF_big (by omega) (by show _ < big + _; (omega))) | exact rn_eq (cpy_eq (by omega) (hrk (by omega)))))))
  ·show k + 1 ≤ nv;omega
  ·show nv - (k + 1) < nv - k;omega
 ·have e : k = nv := by omega
  subst e
  refine rq_le (Le.renF0 [(0, 5), (1, 3), (2, 1)] (ts' := [(2, .optr 2 0)]) (lits := [(2, some [.own 0 0 k 1, .own 1 0 (0 + N) 1]), (0, some (flat cBB (R0.take k))), (1, some (flat cB R0[0 + k]!))]) (n' := 3) (R := R0) (by (repeat' (first | exact FamR.here | (apply FamR.cons; focus rfl)))) rfl rfl (by decide) ⟨⟨_, rfl, .optr rfl⟩, trivial⟩
   ⟨⟨1,_,rfl,rfl,.cons (.own rfl) (.cons (.own rfl) .nil)⟩,⟨5,_,rfl,rfl,RnL.purI inferInstance⟩,⟨3,_,rfl,rfl,RnL.purI inferInstance⟩,trivial⟩) ?_
  refine rq_ret (l := [.agg [_,_]]) rfl ?_
  simp only [Nat.zero_add]
  exact fc_ret rfl ⟨.inr rfl,.inr rfl,trivial⟩ (by (repeat' (first|exact FamR.here|(apply FamR.cons;focus rfl))))
theorem rx_l4Lose {fr:List (List Bool)}{pl:List Bool}{pts:List Pnt}{v:Int}{nv M:Nat}{x0 x1 x2:Operand}{i0 i1:Nat}(ha0:ev (lk tsl) x0 = some (.agg [.own i0 0 nv 1,.own i1 0 M 1])) (ha1:ev (lk tsl) x1 = some (sl cPnt pts)) (ha2:ev (lk tsl) x2 = some (iv v)) (hH0:lkH hsl i0 = some (flat cBB fr)) (hH1:lkH hsl i1 = some (flat cB pl)) (hdd:Go.AL.distinct [i0,i1] = true) (hmc:MC Tryz.prog 285 [.agg [.own 0 0 nv 1,.own 1 0 M 1],sl cPnt pts,iv v] [(0,some (flat cBB fr)),(1,some (flat cB pl))] 2 (fun _:Unit => True) (fun _ => .tup []) (fun _ => [(0,some (flat cBB fr)),(1,some (flat cB (loB pts v pl)))])) (hM:Nat.ble (nidl + 0) big = true) (hN:Nat.blt d N = true){md':Md}[hmd:MdA md (rOs [x0,x1,x2] ++ [.inr i0,.inr i1]) (List.map Sum.inr (List.map Prod.fst ([(i0,some (flat cBB fr)),(i1,some (flat cB (loB pts v pl)))]:List (Nat × Option (List AV)))) ++ [.inl d]) md'] (kk:RW Tryz.prog N all Q md' rest ⟨(d,.tup []) :: tsl,wrH hsl [(i0,some (flat cBB fr)),(i1,some (flat cB (loB pts v pl)))],nidl + 0,z0⟩):RW Tryz.prog N all Q md (⟨some d,.call ⟨.value (.func 285),#[x0,x1,x2],tys⟩,ty,pos,af,none⟩ :: rest) ⟨tsl,hsl,nidl,z0⟩:=by
 exact rx_mcallA (l := [x0,x1,x2]) [i0,i1] 2 [(i0,some (flat cBB fr)),(i1,some (flat cB (loB pts v pl)))] hmc (avs := [.agg [.own i0 0 nv 1,.own i1 0 M 1],sl cPnt pts,iv v]) (by simp only [evL,ha0,ha1,ha2]) hdd hM hN (md' := md') (hmd := hmd) kk
theorem l4Lose_c (fr:List (List Bool)) (pl:List Bool) (pts:List Pnt) (v:Int) (nv M:Nat) (hN:M = pl.length) (hl:pts.length = pl.length) (hpl:pts.length ≤ 61):MC Tryz.prog 285 [.agg [.own 0 0 nv 1,.own 1 0 M 1],sl cPnt pts,iv v] [(0,some (flat cBB fr)),(1,some (flat cB pl))] 2 (fun _:Unit => True) (fun _ => .tup []) (fun _ => [(0,some (flat cBB fr)),(1,some (flat cB (loB pts v pl)))]):=by
 refine mc_start Tryz.func285 Tryz.ntmps285 ?_
 repeat' (first|refine stpb ?_|fail)
 refine aw_loopA (σ := Nat × List Bool) [1,2,3] [0,2] (fun k => [(6,iv (k.1 : Int))]) (fun k => [(1,some (flat cB k.2))]) (fun k => k.1 ≤ pts.length ∧ k.2.length = pl.length ∧ (∀ l,l < pl.length → k.2[l]! = if l < k.1 then (loB pts v pl)[l]! else pl[l]!)) (fun k => pts.length - k.1) (0,pl) ⟨by omega,rfl,fun l hl => by rw [if_neg (by omega)]⟩ ?_
 rintro ⟨k,u⟩ ⟨hk,hul,hu⟩
 dsimp only at hk hul hu
 try dsimp only
 have hstep : ∀ l,l < pl.length → (loB pts v pl)[l]! = (pl[l]! && !((decide (pts[l]!.op = 4) || decide (pts[l]!.op = 5)) && decide (pts[l]!.y = v))) := fun l hl => loB_get pts v pl l hl
 repeat' (first|refine stpb ?_|(refine stp2 ?_ ?_ <;> intro hc hq <;> try (exfalso;omega))|(refine stp3 ?_ ?_ <;> intro hg hq <;> try (exfalso;omega))|fail)
 ·(refine ex3 (k + 1, _) (Le.renA [(2, 2)]) ?_ ?_)
  ·refine ⟨(by show k + 1 ≤ pts.length; omega), (by show (u.set k false).length = pl.length; rw [List.length_set]; exact hul), fun l hl => ?_⟩
   show (u.set k false)[l]! = if l < k + 1 then (loB pts v pl)[l]! else pl[l]!
   have hs := hstep l hl
   rw [set_get,hu l hl]
   clear hu hstep
   grind
  ·show pts.length - (k + 1) < pts.length - k;omega
 ·(refine ex3 (k + 1, u) (Le.renA [(2, 2)]) ?_ ?_)
  ·refine ⟨(by show k + 1 ≤ pts.length; omega), hul, fun l hl => ?_⟩
   show u[l]! = if l < k + 1 then (loB pts v pl)[l]! else pl[l]!
   have hs := hstep l hl
   rw [hu l hl]
   clear hu hstep
   grind
  ·show pts.length - (k + 1) < pts.length - k;omega
 ·(refine ex3 (k + 1, u) (Le.renA [(2, 2)]) ?_ ?_)
  ·refine ⟨(by show k + 1 ≤ pts.length; omega), hul, fun l hl => ?_⟩
   show u[l]! = if l < k + 1 then (loB pts v pl)[l]! else pl[l]!
   have hs := hstep l hl
   rw [hu l hl]
   clear hu hstep
   grind
  ·show pts.length - (k + 1) < pts.length - k;omega
 ·(refine ex3 (k + 1, _) (Le.renA [(2, 2)]) ?_ ?_)
  ·refine ⟨(by show k + 1 ≤ pts.length; omega), (by show (u.set k false).length = pl.length; rw [List.length_set]; exact hul), fun l hl => ?_⟩
   show (u.set k false)[l]! = if l < k + 1 then (loB pts v pl)[l]! else pl[l]!
   have hs := hstep l hl
   rw [set_get,hu l hl]
   clear hu hstep
   grind
  ·show pts.length - (k + 1) < pts.length - k;omega
 ·(refine ex3 (k + 1, u) (Le.renA [(2, 2)]) ?_ ?_)
  ·refine ⟨(by show k + 1 ≤ pts.length; omega), hul, fun l hl => ?_⟩
   show u[l]! = if l < k + 1 then (loB pts v pl)[l]! else pl[l]!
   have hs := hstep l hl
   rw [hu l hl]
   clear hu hstep
   grind
  ·show pts.length - (k + 1) < pts.length - k;omega
 ·refine rq_end (l := []) rfl ?_
  refine mc_ret () trivial rfl ⟨.inr rfl,sE ?_,trivial⟩
  have e : u = loB pts v pl := ext_get (by rw [loB_len, hul]) fun l hl => by
   rw [hu l (by omega),if_pos (by omega)]
  rw [e]
theorem rx_l4Add2 {a b:List Bool}{m m2:Nat}{x0 x1:Operand}{i0 i1:Nat}(ha0:ev (lk tsl) x0 = some (.own i0 0 m 1)) (ha1:ev (lk tsl) x1 = some (.own i1 0 m2 1)) (hH0:lkH hsl i0 = some (flat cB a)) (hH1:lkH hsl i1 = some (flat cB b)) (hdd:Go.AL.distinct [i0,i1] = true) (hmc:MC Tryz.prog 238 [.own 0 0 m 1,.own 1 0 m2 1] [(0,some (flat cB a)),(1,some (flat cB b))] 2 (fun _:Unit => True) (fun _ => .tup []) (fun _ => [(0,some (flat cB (addB a b))),(1,some (flat cB b))])) (hM:Nat.ble (nidl + 0) big = true) (hN:Nat.blt d N = true){md':Md}[hmd:MdA md (rOs [x0,x1] ++ [.inr i0,.inr i1]) (List.map Sum.inr (List.map Prod.fst ([(i0,some (flat cB (addB a b))),(i1,some (flat cB b))]:List (Nat × Option (List AV)))) ++ [.inl d]) md'] (kk:RW Tryz.prog N all Q md' rest ⟨(d,.tup []) :: tsl,wrH hsl [(i0,some (flat cB (addB a b))),(i1,some (flat cB b))],nidl + 0,z0⟩):RW Tryz.prog N all Q md (⟨some d,.call ⟨.value (.func 238),#[x0,x1],tys⟩,ty,pos,af,none⟩ :: rest) ⟨tsl,hsl,nidl,z0⟩:=by
 exact rx_mcallA (l := [x0,x1]) [i0,i1] 2 [(i0,some (flat cB (addB a b))),(i1,some (flat cB b))] hmc (avs := [.own i0 0 m 1,.own i1 0 m2 1]) (by simp only [evL,ha0,ha1]) hdd hM hN (md' := md') (hmd := hmd) kk
theorem l4Add2_c (a b:List Bool) (m m2:Nat) (hm:m = a.length) (hm':m2 = b.length) (hab:b.length ≤ a.length) (hl:a.length ≤ 1048576):MC Tryz.prog 238 [.own 0 0 m 1,.own 1 0 m2 1] [(0,some (flat cB a)),(1,some (flat cB b))] 2 (fun _:Unit => True) (fun _ => .tup []) (fun _ => [(0,some (flat cB (addB a b))),(1,some (flat cB b))]):=by
 subst hm hm'
 refine mc_start Tryz.func238 Tryz.ntmps238 ?_
 repeat' (first|refine stpb ?_|fail)
 refine aw_loopA (σ := Nat × List Bool) [0,1] [1] (fun k => [(4,iv (k.1 : Int))]) (fun k => [(0,some (flat cB k.2))]) (fun k => k.1 ≤ b.length ∧ k.2.length = a.length ∧ (∀ l,l < a.length → k.2[l]! = (a[l]! || (decide (l < k.1) && b[l]!)))) (fun k => b.length - k.1) (0,a) ⟨by omega,rfl,fun l hl => by simp⟩ ?_
 rintro ⟨k,u⟩ ⟨hk,hul,hu⟩
 dsimp only at hk hul hu
 try dsimp only
 repeat' (first|refine stpb ?_|(refine stp2 ?_ ?_ <;> intro hc hq <;> try (exfalso;omega))|(refine stp3 ?_ ?_ <;> intro hg hq <;> try (exfalso;omega))|fail)
 ·(refine ex3 (k + 1, _) (Le.renA []) ?_ ?_)
  ·refine ⟨(by show k + 1 ≤ b.length; omega), (by show (u.set k _).length = a.length; rw [List.length_set]; exact hul), fun l hl => ?_⟩
   show (u.set k _)[l]! = (a[l]! || (decide (l < k + 1) && b[l]!))
   have h1 := hu l hl
   have h2 := hu k (by omega)
   rw [set_get]
   clear hu
   grind
  ·show b.length - (k + 1) < b.length - k;omega
 ·(refine ex3 (k + 1, _) (Le.renA []) ?_ ?_)
  ·refine ⟨(by show k + 1 ≤ b.length; omega), (by show (u.set k _).length = a.length; rw [List.length_set]; exact hul), fun l hl => ?_⟩
   show (u.set k _)[l]! = (a[l]! || (decide (l < k + 1) && b[l]!))
   have h1 := hu l hl
   have h2 := hu k (by omega)
   rw [set_get]
   clear hu
   grind
  ·show b.length - (k + 1) < b.length - k;omega
 ·refine rq_end (l := []) rfl ?_
  refine mc_ret () trivial rfl ⟨sE ?_,.inr rfl,trivial⟩
  have e : u = addB a b := ext_get (by rw [addB_len, hul]) fun l hl => by
   rw [addB_get _ _ _ (by omega),hu l (by omega)]
   clear hu
   grind
  rw [e]
theorem rx_l4AddF1 {a:List Bool}{R:List (List Bool)}{k m m2:Nat}{x0 x1:Operand}{i0:Nat}(ha0:ev (lk tsl) x0 = some (.own i0 0 m 1)) (ha1:ev (lk tsl) x1 = some (.own (k + big) 0 m2 1))
  (hH0 : lkH hsl i0 = some (flat cB a)) (hF : FamR R R hsl hsl) (hk : k < R.length) (hi : Nat.blt i0 big = true) (hm : m = a.length) (hm2 : m2 = R[k]!.length) (hab : R[k]!.length ≤ a.length) (hl : a.length ≤ 1048576) (hM : Nat.ble (nidl + 0) big = true) (hN : Nat.blt d N = true)
  (kk : RW Tryz.prog N all Q .txt rest ⟨(d,.tup []) :: tsl,(i0,some (flat cB (addB a R[k]!))) :: hsl,nidl + 0,z0⟩) : RW Tryz.prog N all Q .txt (⟨some d,.call ⟨.value (.func 238),#[x0,x1],tys⟩,ty,pos,af,none⟩ :: rest) ⟨tsl,hsl,nidl,z0⟩ :=
 rx_l4Add2 (a := a) (b := R[k]!) (i0 := i0) (i1 := k + big) ha0 ha1 hH0 (hF.get hk) (dist2 hi) (l4Add2_c a R[k]! m m2 hm hm2 hab hl) hM hN (md' := .txt) (rw_le kk (Le.fdrop (FamR.cons hi hF) hk))
theorem l4After_c (ts:List Int) (pts:List Pnt) (w:WG ts pts) (i:Nat) (hi:i < pts.length) (R0:List (List Bool)) (hl:R0.length = ts.length + 1) (hr:∀ k,k < ts.length + 1 → R0[k]!.length = pts.length):FCt Tryz.prog 236 [sl cI ts,sl cPnt pts,iv (i:Int),aSt 0 ts.length pts.length] R0 (.agg [sl cBB (afR ts pts i (R0.take ts.length)),sl cB (afQ ts pts i R0[ts.length]!)]) []:=by
 have hrn := hr ts.length (by omega)
 have htl := w.tl
 have hpl := w.pl
 have hy := w.y i hi
 have hset := w.set i hi
 refine fc_start Tryz.func236 Tryz.ntmps236 ?_
 repeat' (first|(apply id_rw;first|(with_reducible apply rw_stop (d := 19))|(apply rx_store;rfl;rfl;rfl;rfl;rfl;(case hl => (simp;done));(exact (rfl:_=[_,_,_,_,_]))))|refine stpb ?_|fail)
 refine rw_go ?_
 refine rx_fcall (R := R0) (R0 := R0) (avs := [aSt 0 ts.length pts.length]) (b := 0) (n1 := 2) (D := (List.range R0.length).map fun k => 0 + k + big) (ws := [(3,some (flat cBB (R0.take ts.length))),(4,some (flat cB R0[ts.length]!))]) (rr' := .agg [.own 3 0 ts.length 1,.own 4 0 pts.length 1]) (md' := .txt) rfl (l4Copy_c ts.length pts.length R0 htl hpl hl hr) (by (repeat' (first|exact FamR.here|(apply FamR.cons;focus rfl)))) (by omega) (fun k hk => by rw [Nat.zero_add]) (fun k hk => List.mem_map.2 ⟨k,by rw [List.mem_range]; exact hk,rfl⟩) ?_ rfl ?_ ?_ rfl rfl ?_
 ·refine .cons (.agg (.cons (.imm (rn_rows fun k hk => ?_)) (.cons (.own ?_) .nil))) .nil
  ·rw [Nat.zero_add,mpC_big (by omega),Nat.zero_add]
  ·rw [Nat.zero_add,mpC_big (by omega),Nat.zero_add]
 ·exact .agg (.cons (.own (rhC_lit (j := 0) (by decide) (by decide))) (.cons (.own (rhC_lit (j := 1) (by decide) (by decide))) .nil))
 ·exact ⟨⟨0,_,rhC_lit (j := 0) (by decide) (by decide),rfl,RnL.purI inferInstance⟩,⟨1,_,rhC_lit (j := 1) (by decide) (by decide),rfl,RnL.purI inferInstance⟩,trivial⟩
 have hfr : ∀ v,v < ts.length → (R0.take ts.length)[v]! = R0[v]! := fun v hv => by rw [getB _ _ (by rw [List.length_take]; omega),getB _ _ (by omega),List.getElem_take]
 have hY : ∀ l, l < pts.length → pts[i]!.op = 3 ∨ pts[i]!.op = 4 ∨ pts[i]!.op = 5 → (R0.take ts.length)[pts[i]!.y.toNat]![l]! = R0[0 + pts[i]!.y.toNat]![l]! ∧ R0[0 + pts[i]!.y.toNat]!.length = pts.length := fun l hl h => by
  rw [Nat.zero_add]; exact ⟨by rw [hfr _ (by omega)],hr _ (by omega)⟩
 have eA : pts[i]!.op = 3 → addB (List.replicate pts.length false) R0[0 + pts[i]!.y.toNat]! = valB ts pts i (R0.take ts.length) := fun h => ext_get (by rw [addB_len, valB_len]; simp) fun l hl => by
  rw [addB_len,List.length_replicate] at hl
  have h1 := hY l hl (.inl h)
  rw [addB_get _ _ _ (by simpa using hl),valB_get _ _ _ _ _ hl,if_pos h,rep_get _ _ _ hl,h1.1,decide_eq_true (by omega)]; rfl
 have eB : pts[i]!.op = 4 ∨ pts[i]!.op = 5 → isRef ts[pts[i]!.y.toNat]! = true → addB ((List.replicate pts.length false).set i true) R0[0 + pts[i]!.y.toNat]! = valB ts pts i (R0.take ts.length) := fun h h' => ext_get (by rw [addB_len, valB_len]; simp) fun l hl => by
  rw [addB_len,List.length_set,List.length_replicate] at hl
  have h1 := hY l hl (.inr h)
  have h2 : isLn pts[i]! = true := by unfold isLn;rcases h with h|h <;> rw [h] <;> rfl
  rw [addB_get _ _ _ (by simpa using hl),valB_get _ _ _ _ _ hl,if_neg (by omega),h1.1,h2,h',set_get,rep_get _ _ _ hl,decide_eq_true (by omega)]
  by_cases e : l = i
  ·subst e;simp [hl]
  ·rw [if_neg (fun q => e q.1.symm),decide_eq_false e]; simp
 have eC : pts[i]!.op = 4 ∨ pts[i]!.op = 5 → isRef ts[pts[i]!.y.toNat]! = false → (List.replicate pts.length false).set i true = valB ts pts i (R0.take ts.length) := fun h h' => ext_get (by rw [valB_len]; simp) fun l hl => by
  rw [List.length_set,List.length_replicate] at hl
  have h2 : isLn pts[i]! = true := by unfold isLn;rcases h with h|h <;> rw [h] <;> rfl
  rw [valB_get _ _ _ _ _ hl,if_neg (by omega),h2,h',set_get,rep_get _ _ _ hl]
  by_cases e : l = i
  ·subst e;simp [hl]
  ·rw [if_neg (fun q => e q.1.symm),decide_eq_false e]; simp
 have eD : ¬ pts[i]!.op = 3 → ¬ pts[i]!.op = 4 → ¬ pts[i]!.op = 5 → List.replicate pts.length false = valB ts pts i (R0.take ts.length) := fun h3 h4 h5 => ext_get (by rw [valB_len]; simp) fun l hl => by
  rw [List.length_replicate] at hl
  have h2 : isLn pts[i]! = false := by unfold isLn;rw [decide_eq_false h4,decide_eq_false h5]; rfl
  rw [valB_get _ _ _ _ _ hl,if_neg h3,h2,rep_get _ _ _ hl]; rfl
 have hvl := valB_len ts pts i (R0.take ts.length)
 have hneg : setAt pts[i]! < 0 → ¬ pts[i]!.op = 4 ∧ ¬ pts[i]!.op = 5 := fun h => by
  have h1 := w.x i hi
  unfold setAt at h
  split at h
  ·omega
  ·omega
 have hQ0 : ∀ (v : Nat) (q : List Bool), ts.length ≤ v → (∀ l, l < pts.length → q[l]! = (R0[ts.length]![l]! && !(isLn pts[l]! && (decide (pts[l]!.y < v) && decide (useAt ts pts[i]! pts[l]!.y = 2))))) → ∀ l, l < pts.length → q[l]! = (R0[ts.length]![l]! && !(isLn pts[l]! && decide (useAt ts pts[i]! pts[l]!.y = 2))) := fun v q hv h l hl => by
  rw [h l hl]
  cases hln : isLn pts[l]! with
  | false => rfl
  | true => have := isLn_y w hl hln;rw [decide_eq_true (by omega : pts[l]!.y < (v : Int))]; rfl
 apply cut
 case' main =>
  intro key
  repeat' (first|(apply id_rw;first|(apply rx_l4AddF1;rfl;rfl;rfl;(case hF => (repeat' (first|exact FamR.here|(apply FamR.cons;focus rfl))));(simp only [Nat.zero_add] <;> omega);rfl;(case hm => (simp;done));(simp only [Nat.zero_add]; symm;exact hr _ (by omega));(simp only [Nat.zero_add]; rw [hr _ (by omega)]; simp);(simp;omega);rfl;rfl)|(apply rx_indexRgI;rfl;rfl;(omega);rfl;infer_instance;infer_instance;rfl)|(apply rx_store;rfl;rfl;rfl;rfl;rfl;(case hl => (first|(rw [flat_length]; simp only [lns] <;> omega)|(simp;done)));(first|exact st_bool (by (simp only [lns] <;> omega))|exact (rfl:_=[_,_])))|(apply rx_callE (k := 284);rfl;(apply isRefS_c);(rfl);rfl))|refine stpb ?_|(refine stp2 ?_ ?_ <;> intro hc hq <;> try (exfalso;omega))|fail)
  all_goals first
   | rw [eA (by assumption)]
   | rw [eB (.inl (by assumption)) (by assumption)]
   | rw [eB (.inr (by assumption)) (by assumption)]
   | rw [eC (.inl (by assumption)) (by assumption)]
   | rw [eC (.inr (by assumption)) (by assumption)]
   | rw [eD (by assumption) (by assumption) (by assumption)]
  all_goals refine aw_loopF (σ := Nat × List (List Bool) × List Bool) 0 (fun s => R0) [0, 1, 2, 8, 9, 10, 11] [(0, _), (1, _), (2, _), (8, _), (9, _), (10, _), (11, _)] [6, 5, 2, 1, 0] [(6, some _), (5, some _), (2, some _), (1, some _), (0, some _)] (fun s => [(12, iv (s.1 : Int))]) (fun s => [(3, some (flat cBB s.2.1)), (4, some (flat cB s.2.2))]) (fun s => s.1 ≤ ts.length ∧ s.2.1.length = ts.length ∧ (∀ v, v < ts.length → s.2.1[v]! = if v < s.1 ∧ useAt ts pts[i]! v = 2 then List.replicate pts.length false else R0[v]!) ∧ s.2.2.length = pts.length ∧ (∀ l, l < pts.length → s.2.2[l]! = (R0[ts.length]![l]! && !(isLn pts[l]! && (decide (pts[l]!.y < s.1) && decide (useAt ts pts[i]! pts[l]!.y = 2)))))) (fun s => ts.length - s.1) (0, R0.take ts.length, R0[ts.length]!) ⟨by omega, (by show (R0.take ts.length).length = _; rw [List.length_take]; omega), fun v hv => (by show (R0.take ts.length)[v]! = _; rw [hfr v hv, if_neg (by omega)]), hrn, fun l hl => (by
    show R0[ts.length]![l]! = _
    cases hln : isLn pts[l]! with
    | false => simp
    | true => have := isLn_y w hl hln;rw [decide_eq_false (by omega : ¬ pts[l]!.y < ((0 : Nat) : Int))]; simp)⟩ rfl rfl (by repeat' (first|exact trivial|refine And.intro rfl ?_)) (by repeat' (first|exact trivial|refine And.intro (.inr rfl) ?_)) (by (repeat' (first|exact FamR.here|(apply FamR.cons;focus rfl)))) (by (rfl)) key.pf
 rintro ⟨v,u,q⟩ ⟨hv,hul,hu,hql,hq'⟩
 dsimp only at hv hul hu hql hq'
 try dsimp only
 repeat' (first|(apply id_rw;first|(with_reducible apply rw_stop (d := 73))|(with_reducible apply rw_stop (d := 86))|(apply rx_store;rfl;rfl;rfl;rfl;rfl;(case hl => (first|(rw [flat_length]; simp only [lns] <;> omega)|(simp;done)));(first|exact (rfl:_=[_,_])|rfl))|(first|(apply rx_callE (k := 174);rfl;(apply l3Use_c <;> (omega));exact Pur.pf;rfl)|(apply rx_callE (k := 178);rfl;(apply l3Set_c);exact Pur.pf;rfl)))|refine stpb ?_|(refine stp2 ?_ ?_ <;> intro hc hq <;> try (exfalso;omega))|(refine stp3 ?_ ?_ <;> intro hg hq <;> try (exfalso;omega))|refine stpd ?_|fail)
 ·refine rw_go (rw_le ?_ (Le.frzRow (j := 3) (q := 7) (v := v) (u := u) (r := List.replicate pts.length false) rfl rfl (by simp) (by omega) (by decide)))
  repeat' (first|(apply id_rw;(apply rx_l4Lose;rfl;rfl;rfl;(rfl);(rfl);rfl;(apply l4Lose_c <;> (first|assumption|omega));rfl;rfl))|refine stpb ?_|fail)
  (apply ex3 (v + 1,u.set v (List.replicate pts.length false),loB pts v q);focus (refine Le.renF0 [(0,0),(1,1),(2,2),(3,3),(4,4),(5,5),(6,6)] (R := ?qA3) (hF := ?qF3) (hz := ?qz3) (hm := ?qm3) (hn := ?qn3) (h1 := ?q13) (h2 := ?q23);(case qF3 => (repeat' (first|exact FamR.here|(apply FamR.cons;focus rfl))));(case qz3 => (rfl));(case qm3 => rfl);(case qn3 => decide);all_goals (repeat' (first|exact trivial|refine And.intro ⟨_,rfl,?_⟩ ?_|refine And.intro ⟨_,_,rfl,rfl,?_⟩ ?_|exact RnL.purI inferInstance|exact RnV.purI inferInstance|exact RnV.own rfl|exact RnV.optr rfl|exact RnL.nil|refine RnL.cons ?_ ?_|exact RnV.imm (rn_rowsF (by (simp only [List.length_replicate,List.length_set,List.length_append,List.length_singleton] at * <;> omega)))|exact RnV.own (rhoF_big (by omega) (by show _ < big + _; (omega)))))))
  ·refine ⟨(by show v + 1 ≤ ts.length; omega), (by show (u.set v _).length = ts.length; rw [List.length_set]; exact hul), fun v' hv' => ?_, (by show (loB pts v q).length = pts.length; rw [loB_len]; exact hql), fun l hl => ?_⟩
   ·show (u.set v (List.replicate pts.length false))[v']! = if v' < v + 1 ∧ useAt ts pts[i]! v' = 2 then _ else _
    rw [set_get,hu v' hv']
    by_cases e : v = v'
    ·subst e;rw [if_pos ⟨rfl,by omega⟩,if_pos ⟨by omega,by assumption⟩]
    ·rw [if_neg (fun h => e h.1)]
     by_cases e2 : v' < v ∧ useAt ts pts[i]! v' = 2
     ·rw [if_pos e2,if_pos ⟨by omega,e2.2⟩]
     ·rw [if_neg e2,if_neg (fun h => e2 ⟨by omega,h.2⟩)]
   ·show (loB pts v q)[l]! = _
    have hu2 : useAt ts pts[i]! v = 2 := by assumption
    rw [loB_get _ _ _ _ (by omega),hq' l hl]
    clear hu hq'
    by_cases hln : isLn pts[l]! = true
    ·rw [hln]
     by_cases e : pts[l]!.y = v
     ·rw [e,hu2,decide_eq_true (by omega : (v : Int) < ((v + 1 : Nat) : Int))]; simp
     ·rw [decide_eq_false e]
      have e3 : decide (pts[l]!.y < ((v + 1 : Nat) : Int)) = decide (pts[l]!.y < (v : Int)) := by
       have : (pts[l]!.y < ((v + 1 : Nat) : Int)) ↔ (pts[l]!.y < (v : Int)) := by omega
       simp only [this]
      rw [e3]; simp
    ·rw [Bool.not_eq_true] at hln;rw [hln]; simp
  ·show ts.length - (v + 1) < ts.length - v;omega
 ·(apply ex3 (v + 1, u, q); focus (refine Le.renF0 [(0, 0), (1, 1), (2, 2), (3, 3), (4, 4), (5, 5), (6, 6)] (R := ?qA4) (hF := ?qF4) (hz := ?qz4) (hm := ?qm4) (hn := ?qn4) (h1 := ?q14) (h2 := ?q24); (case qF4 => (repeat' (first | exact FamR.here | (apply FamR.cons; focus rfl)))); (case qz4 => (rfl)); (case qm4 => rfl); (case qn4 => decide); all_goals (repeat' (first | exact trivial | refine And.intro ⟨_, rfl, ?_⟩ ?_ | refine And.intro ⟨_, _, rfl, rfl, ?_⟩ ?_ | exact RnL.purI inferInstance | exact RnV.purI inferInstance | exact RnV.own rfl | exact RnV.optr rfl | exact RnL.nil | refine RnL.cons ?_ ?_ | exact RnV.imm (rn_rowsF (by (simp only [List.length_replicate, List.length_set, List.length_append, List.length_singleton] at * <;> omega))) | exact RnV.own (rhoF_big (by omega) (by show _ < big + _; (omega)))))))
  ·refine ⟨(by show v + 1 ≤ ts.length; omega), hul, fun v' hv' => ?_, hql, fun l hl => ?_⟩
   ·show u[v']! = if v' < v + 1 ∧ useAt ts pts[i]! v' = 2 then _ else _
    rw [hu v' hv']
    have hu2 : ¬ useAt ts pts[i]! v = 2 := by assumption
    by_cases e2 : v' < v ∧ useAt ts pts[i]! v' = 2
    ·rw [if_pos e2,if_pos ⟨by omega,e2.2⟩]
    ·rw [if_neg e2, if_neg (fun h => (by
      by_cases e : v = v'
      ·subst e;exact hu2 h.2
      ·exact e2 ⟨by omega,h.2⟩))]
   ·show q[l]! = _
    have hu2 : ¬ useAt ts pts[i]! v = 2 := by assumption
    rw [hq' l hl]
    clear hu hq'
    by_cases e : pts[l]!.y = v
    ·rw [e,decide_eq_false hu2]; simp
    ·have e3 : decide (pts[l]!.y < ((v + 1 : Nat) : Int)) = decide (pts[l]!.y < (v : Int)) := by
      have : (pts[l]!.y < ((v + 1 : Nat) : Int)) ↔ (pts[l]!.y < (v : Int)) := by omega
      simp only [this]
     rw [e3]
  ·show ts.length - (v + 1) < ts.length - v;omega
 ·refine rw_go (rw_le ?_ (Le.frzRow (j := 3) (q := 6) (v := (setAt pts[i]!).toNat) (u := u) (r := valB ts pts i (R0.take ts.length)) rfl rfl (by omega) (by omega) (by decide)))
  have hlo : (loB pts (setAt pts[i]!) q).length = pts.length := by rw [loB_len]; exact hql
  have hQ := fun l hl => hQ0 v q (by omega) hq' l hl
  have eU : u.set (setAt pts[i]!).toNat (valB ts pts i (R0.take ts.length)) = afR ts pts i (R0.take ts.length) := ext_get (by rw [afR_len]; simp; omega) fun v' hv' => by
   rw [List.length_set] at hv'
   rw [set_get,afR_get _ _ _ _ _ (by omega),hu v' (by omega),hfr v' (by omega)]
   by_cases e : setAt pts[i]! = v'
   ·rw [if_pos ⟨by omega,hv'⟩,if_pos e]
   ·rw [if_neg (fun h => e (by omega)), if_neg e]
    by_cases e2 : useAt ts pts[i]! v' = 2
    ·rw [if_pos ⟨by omega,e2⟩,if_pos e2]
    ·rw [if_neg (fun h => e2 h.2),if_neg e2]
  have eL : ∀ l, l < pts.length → (loB pts (setAt pts[i]!) q)[l]! = (R0[ts.length]![l]! && !(isLn pts[l]! && (decide (useAt ts pts[i]! pts[l]!.y = 2) || decide (setAt pts[i]! = pts[l]!.y)))) := fun l hl => by
   rw [loB_get _ _ _ _ (by omega),hQ l hl]
   have : decide (pts[l]!.y = setAt pts[i]!) = decide (setAt pts[i]! = pts[l]!.y) := by simp only [eq_comm]
   rw [this]
   cases R0[ts.length]![l]! <;> cases isLn pts[l]! <;> cases decide (useAt ts pts[i]! pts[l]!.y = 2) <;> cases decide (setAt pts[i]! = pts[l]!.y) <;> rfl
  have eQ1 : isLn pts[i]! = true → (loB pts (setAt pts[i]!) q).set i true = afQ ts pts i R0[ts.length]! := fun h => ext_get (by rw [afQ_len, List.length_set, hlo]) fun l hl => by
   rw [List.length_set,hlo] at hl
   rw [set_get,afQ_get _ _ _ _ _ hl,eL l hl,h,hlo]
   by_cases e : l = i
   ·subst e;rw [if_pos ⟨rfl,hl⟩,decide_eq_true rfl]; rfl
   ·rw [if_neg (fun q => e q.1.symm),decide_eq_false e]; rfl
  have eQ0 : isLn pts[i]! = false → loB pts (setAt pts[i]!) q = afQ ts pts i R0[ts.length]! := fun h => ext_get (by rw [afQ_len, hlo]) fun l hl => by
   rw [hlo] at hl
   rw [afQ_get _ _ _ _ _ hl,eL l hl,h]; rfl
  repeat' (first|(apply id_rw;first|(apply rx_store;rfl;rfl;rfl;rfl;rfl;(case hl => (first|(rw [flat_length]; simp only [lns] <;> omega)|(simp;done)));(first|exact st_bool (by (omega))|exact (rfl:_=[_,_])))|(apply rx_l4Lose;rfl;rfl;rfl;(rfl);(rfl);rfl;(apply l4Lose_c <;> (first|assumption|omega));rfl;rfl))|refine stpb ?_|(refine stp2 ?_ ?_ <;> intro hc hq <;> try (exfalso;omega))|(refine stp3 ?_ ?_ <;> intro hg hq <;> try (exfalso;omega))|fail)
  ·refine rq_le ((Le.frzC (j := 1) (i := 3) [] rfl rfl (by decide)).trans (Le.frzC (j := 1) (i := 4) [_] rfl rfl (by decide))) ?_
   refine rq_ret (l := [.agg [_,_]]) rfl ?_
   refine fc_ret ?_ trivial (by (repeat' (first|exact FamR.here|(apply FamR.cons;focus rfl))))
   simp only [oneOf]
   rw [eU,eQ1 (by unfold isLn;rw [decide_eq_true ‹pts[i]!.op = 5›]; simp)]
   simp only [sl,afR_len,afQ_len]
  ·refine rq_le ((Le.frzC (j := 1) (i := 3) [] rfl rfl (by decide)).trans (Le.frzC (j := 1) (i := 4) [_] rfl rfl (by decide))) ?_
   refine rq_ret (l := [.agg [_,_]]) rfl ?_
   refine fc_ret ?_ trivial (by (repeat' (first|exact FamR.here|(apply FamR.cons;focus rfl))))
   simp only [oneOf]
   rw [eU,eQ0 (by unfold isLn;rw [decide_eq_false ‹¬ pts[i]!.op = 4›,decide_eq_false ‹¬ pts[i]!.op = 5›]; rfl)]
   simp only [sl,afR_len,afQ_len]
  ·refine rq_le ((Le.frzC (j := 1) (i := 3) [] rfl rfl (by decide)).trans (Le.frzC (j := 1) (i := 4) [_] rfl rfl (by decide))) ?_
   refine rq_ret (l := [.agg [_,_]]) rfl ?_
   refine fc_ret ?_ trivial (by (repeat' (first|exact FamR.here|(apply FamR.cons;focus rfl))))
   simp only [oneOf]
   rw [eU,eQ1 (by unfold isLn;rw [decide_eq_true ‹pts[i]!.op = 4›]; rfl)]
   simp only [sl,afR_len,afQ_len]
 ·have hQ := fun l hl => hQ0 v q (by omega) hq' l hl
  have eU : u = afR ts pts i (R0.take ts.length) := ext_get (by rw [afR_len]; omega) fun v' hv' => by
   rw [afR_get _ _ _ _ _ (by omega),hu v' (by omega),hfr v' (by omega),if_neg (by omega : ¬ setAt pts[i]! = (v' : Int))]
   by_cases e2 : useAt ts pts[i]! v' = 2
   ·rw [if_pos ⟨by omega,e2⟩,if_pos e2]
   ·rw [if_neg (fun h => e2 h.2),if_neg e2]
  have eQ0 : isLn pts[i]! = false → q = afQ ts pts i R0[ts.length]! := fun h => ext_get (by rw [afQ_len, hql]) fun l hl => by
   rw [hql] at hl
   rw [afQ_get _ _ _ _ _ hl,hQ l hl,h]
   cases hln : isLn pts[l]! with
   | false => simp
   | true => have := isLn_y w hl hln;rw [decide_eq_false (by omega : ¬ setAt pts[i]! = pts[l]!.y)]; simp
  refine rq_le ((Le.frzC (j := 1) (i := 3) [] rfl rfl (by decide)).trans (Le.frzC (j := 1) (i := 4) [_] rfl rfl (by decide))) ?_
  refine rq_ret (l := [.agg [_,_]]) rfl ?_
  refine fc_ret ?_ trivial (by (repeat' (first|exact FamR.here|(apply FamR.cons;focus rfl))))
  simp only [oneOf]
  rw [eU,eQ0 (by unfold isLn;rw [decide_eq_false ‹¬ pts[i]!.op = 4›,decide_eq_false ‹¬ pts[i]!.op = 5›]; rfl)]
  simp only [sl,afR_len,afQ_len]
def cSt (nv N : Nat) (i : Nat) : List AV := [.imm nv (flat (cRw (i * (nv + 1)) N) (List.range nv)),.own (i * (nv + 1) + nv + big) 0 N 1]
instance (nv N : Nat) : FlT (cSt nv N) 2:=⟨fun _ => rfl⟩
instance (nv N : Nat) : FE (cSt nv N) (fun i => [.imm nv (flat (cRw (i * (nv + 1)) N) (List.range nv)),.own (i * (nv + 1) + nv + big) 0 N 1]):=⟨fun _ => rfl⟩
theorem rn_cSt {m:List (Nat × Nat)}{lo:Lo}{pn:Option Nat}{nv N k M:Nat}(hk:k ≤ M) (h:lo.fb = big + M * (nv + 1)):RnL (rhoF m lo pn) (flat (cSt nv N) (List.range k)) (flat (cSt nv N) (List.range k)) :=
 RnL.flt fun i hi => by
  rw [List.mem_range] at hi
  have h1 : i * (nv + 1) + nv < M * (nv + 1) := ix_lt (by omega) (by omega)
  exact .cons (.imm (rn_rowsF (by rw [h]; omega))) (.cons (.own (rhoF_big (by omega) (by rw [h]; omega))) .nil)
theorem rn_pushS {m:List (Nat × Nat)}{lo:Lo}{pn:Option Nat}{nv N k:Nat}(h:lo.fb = big + (k + 1) * (nv + 1)):RnL (rhoF m lo pn) (flat (cSt nv N) (List.range (k + 1))) (((flat (cSt nv N) (List.range k)).drop 0).take (k * 2) ++ cSt nv N k):=by
 have e : ((flat (cSt nv N) (List.range k)).drop 0).take (k * 2) = flat (cSt nv N) (List.range k) := List.take_of_length_le (by rw [List.drop_zero,flat_length (cSt nv N) (e := 2)]; simp)
 have := rn_cSt (m := m) (pn := pn) (N := N) (Nat.le_refl (k + 1)) h
 rw [e]
 rw [List.range_succ,← flat_append,flat_one] at this ⊢
 exact this
def cFl (s : List (List Bool) × List Bool) : List AV := [sl cBB s.1,sl cB s.2]
instance : FlT cFl 2:=⟨fun _ => rfl⟩
instance : FE cFl (fun s => [sl cBB s.1,sl cB s.2]):=⟨fun _ => rfl⟩
theorem ld_st {D:List Nat}{hs:List (Nat × Option (List AV))}{R:List (List Bool)}{nv N M n:Nat}(hF:FamR R R hs hs) (hD:∀ k,k < nv + 1 → n * (nv + 1) + k + big ∈ D) (hlo:R.length = M * (nv + 1)) (hn:n < M) (hro:∀ q,q < R.length → R[q]!.length = N) :
  LdL D (lkH hs) (cSt nv N n) [sl cBB (rwF nv R n),sl cB (rwP nv R n)] := by
 have h1 : n * (nv + 1) + nv < M * (nv + 1) := ix_lt hn (by omega)
 have h2 : (rwF nv R n).length = nv := rwF_len hlo hn
 have h3 : (rwP nv R n).length = N := hro _ (by omega)
 have e1 : sl cBB (rwF nv R n) = .imm nv (flat cBB ((R.drop (n * (nv + 1))).take nv)) := by unfold sl;rw [h2]; rfl
 have e2 : sl cB (rwP nv R n) = .imm N (flat cB (rwP nv R n)) := by unfold sl;rw [h3]
 rw [e1,e2]
 exact .cons (.imm (LdL.rows hF (fun k hk => hD k (by omega)) (by omega) (fun k hk => hro _ (by omega)))) (.cons (.own (hD nv (by omega)) (hF.get (by omega)) (.pur (inferInstance : Pur (flat cB _)).pf)) .nil)
def ids7 (b : Nat) : List Nat := [b + 0 + big,b + 1 + big,b + 2 + big,b + 3 + big,b + 4 + big,b + 5 + big,b + 6 + big]
theorem mem_ids7 {b k:Nat}(h:k < 7):b + k + big ∈ ids7 b:=by
 unfold ids7
 match k,h with
 | 0,_ => simp
 | 1,_ => simp
 | 2,_ => simp
 | 3,_ => simp
 | 4,_ => simp
 | 5,_ => simp
 | 6,_ => simp
theorem subR_get {nv N n k:Nat}{R:List (List Bool)}(hlo:R.length = N * (nv + 1)) (hn:n < N) (hk:k < nv + 1):((R.drop (n * (nv + 1))).take (nv + 1))[k]! = R[n * (nv + 1) + k]!:=by
 have h1 := ix_lt hn hk
 have h2 : n * (nv + 1) + nv < N * (nv + 1) := ix_lt hn (by omega)
 rw [getB _ _ (by rw [List.length_take,List.length_drop]; omega),getB _ _ (by omega),List.getElem_take,List.getElem_drop]
theorem subR_len {nv N n:Nat}{R:List (List Bool)}(hlo:R.length = N * (nv + 1)) (hn:n < N):((R.drop (n * (nv + 1))).take (nv + 1)).length = nv + 1:=by
 have h2 : n * (nv + 1) + nv < N * (nv + 1) := ix_lt hn (by omega)
 rw [List.length_take,List.length_drop]; omega
theorem l4After_r (ts:List Int) (pts:List Pnt) (w:WG ts pts) (i:Nat) (hi:i < pts.length) (R:List (List Bool)) (h:FSd ts pts R) :
  FCt Tryz.prog 236 [sl cI ts,sl cPnt pts,iv (i : Int),aSt 0 ts.length pts.length] ((R.drop (i * (ts.length + 1))).take (ts.length + 1)) (.agg [sl cBB (afR ts pts i (rwF ts.length R i)),sl cB (afQ ts pts i (rwP ts.length R i))]) [] := by
 have h1 := l4After_c ts pts w i hi ((R.drop (i * (ts.length + 1))).take (ts.length + 1)) (subR_len h.lo hi) (fun k hk => by rw [subR_get h.lo hi hk]; exact h.ro _ (by rw [h.lo]; exact ix_lt hi hk))
 rw [subR_get h.lo hi (by omega),List.take_take,show min ts.length (ts.length + 1) = ts.length from by omega] at h1
 exact h1
theorem afR_row {ts:List Int}{pts:List Pnt}(w:WG ts pts){R:List (List Bool)}(h:FSd ts pts R){i v:Nat}(hi:i < pts.length) (hv:v < ts.length):(afR ts pts i (rwF ts.length R i))[v]!.length = pts.length:=by
 rw [afR_get _ _ _ _ _ hv]
 split
 ·exact valB_len _ _ _ _
 ·split
  ·simp
  ·rw [rwF_get h.lo hi hv]; exact h.ro _ (by rw [h.lo]; exact ix_lt hi (by omega))
theorem rx_l4AddF2 {b:List Bool}{R:List (List Bool)}{k m:Nat}{x0 x1:Operand}(ha0:ev (lk tsl) x0 = some (.own (k + big) 0 m 1)) (ha1:ev (lk tsl) x1 = some (sl cB b))
  (hF : FamR R R hsl hsl) (hk : k < R.length) (hm : m = R[k]!.length) (hab : b.length ≤ R[k]!.length) (hl : R[k]!.length ≤ 1048576) (hM : Nat.ble (nidl + 0) big = true) (hN : Nat.blt d N = true) {md' : Md} [hmd : MdA md (rOs [x0,x1] ++ [.inr (k + big)]) [.inr (k + big),.inl d] md']
  (kk : RW Tryz.prog N all Q md' rest ⟨(d,.tup []) :: tsl,(k + big,some (flat cB (addB R[k]! b))) :: hsl,nidl + 0,z0⟩) : RW Tryz.prog N all Q md (⟨some d,.call ⟨.value (.func 238),#[x0,x1],tys⟩,ty,pos,af,none⟩ :: rest) ⟨tsl,hsl,nidl,z0⟩ :=
 rx_l4Add (a := R[k]!) (b := b) (i0 := k + big) ha0 ha1 (hF.get hk) (l4Add_c R[k]! b m hm hab hl) hM hN (md' := md') (hmd := hmd) kk
theorem l4Flow_c (p:Prg) (Af Ap:List Nat) (hs:cntL p.body ≤ 1048576) (w:WG p.types (ptsF p)) (hAf:GoodF p.types (ptsF p) Af) (hAp:GoodP p.types (ptsF p) Ap):PC Tryz.prog 173 [aPrg p] (fun r => r = sl cFl ((List.range (ptsF p).length).map (flB p.types.length (ptsF p).length Af Ap))):=by
 have hpl := w.pl
 have hp0 := w.p0
 have htl := w.tl
 refine pc_start Tryz.func173 Tryz.ntmps173 ?_
 repeat' (first|(apply id_rw;(apply rx_callE (k := 62);rfl;exact l2Points_c p hs;exact Pur.pf;rfl))|refine stpb ?_|fail)
 refine aw_loopB (σ := Nat) (fun k => List.replicate ((p.types.length + 1) * k) (List.replicate (ptsF p).length false)) [1,3] [0] (fun k => [(5,iv (k : Int)),(4,.own 1 0 k 2)]) (fun k => [(1,some (flat (cSt p.types.length (ptsF p).length) (List.range k)))]) (fun k => k ≤ (ptsF p).length) (fun k => (ptsF p).length - k) (0) (Nat.zero_le _) ?_
 intro k hk
 try dsimp only
 repeat' (first|(apply id_rw;first|(with_reducible apply rw_stop (d := 27))|(with_reducible apply rw_stop (d := 6)))|refine stpb ?_|(refine stp2 ?_ ?_ <;> intro hc hq <;> try (exfalso;omega))|fail)
 ·have hrep : List.replicate ((p.types.length + 1) * k) (List.replicate (ptsF p).length false) ++ List.replicate (p.types.length + 1) (List.replicate (ptsF p).length false) = List.replicate ((p.types.length + 1) * (k + 1)) (List.replicate (ptsF p).length false) := by
   rw [List.replicate_append_replicate,Nat.mul_succ]
  refine rw_go ?_
  have hst := l4Start_c p.types.length (ptsF p).length htl hpl
  apply rx_gcall (R := List.replicate ((p.types.length + 1) * k) (List.replicate (ptsF p).length false)) (avs := [iv (p.types.length : Int),iv ((ptsF p).length : Int)]) (rr' := aSt (k * (p.types.length + 1)) p.types.length (ptsF p).length) (h := hst)
  case ha => rfl
  case hp => rfl
  case hF => (repeat' (first|exact FamR.here|(apply FamR.cons;focus rfl)))
  case hz => rfl
  case hM => rfl
  case hN => rfl
  case hr =>
   refine .agg (.cons (.imm (rn_rows fun j hj => ?_)) (.cons (.own ?_) .nil))
   ·rw [if_pos (by rw [List.length_replicate]; omega)]; congr 1;rw [List.length_replicate,Nat.mul_comm]; omega
   ·rw [if_pos (by rw [List.length_replicate]; omega)]; congr 1;rw [List.length_replicate,Nat.mul_comm]; omega
  rw [hrep]
  repeat' (first|(apply id_rw;(apply rx_append;rfl;rfl;rfl;rfl;rfl;(case hl => (simp [flat_length]; done));(rfl);omega;omega;(rfl);rfl;rfl))|refine stpb ?_|fail)
  (apply ex3 (k + 1);focus (refine Le.renF0 [(0,0),(1,3)] (R := ?qA1) (hF := ?qF1) (hz := ?qz1) (hm := ?qm1) (hn := ?qn1) (h1 := ?q11) (h2 := ?q21);(case qF1 => (repeat' (first|exact FamR.here|(apply FamR.cons;focus rfl))));(case qz1 => (rfl));(case qm1 => rfl);(case qn1 => decide);all_goals (repeat' (first|exact trivial|refine And.intro ⟨_,rfl,?_⟩ ?_|refine And.intro ⟨_,_,rfl,rfl,?_⟩ ?_|exact RnL.purI inferInstance|exact RnV.purI inferInstance|exact RnV.own rfl|exact RnV.optr rfl|exact rn_pushS (by show big + (List.replicate ((p.types.length + 1) * (k + 1)) (List.replicate (ptsF p).length false)).length = _; rw [List.length_replicate,Nat.mul_comm])))))
  ·show k + 1 ≤ (ptsF p).length;omega
  ·show (ptsF p).length - (k + 1) < (ptsF p).length - k;omega
 ·have hkN : k = (ptsF p).length := by omega
  subst hkN
  refine rw_go (rw_le ?_ (Le.frzD (d := 4) (i := 1) rfl rfl))
  rw [Nat.mul_comm]
  repeat' (first|refine stpb ?_|fail)
  refine aw_loopB (σ := List (List Bool) × Bool) (fun s => s.1) [1,3,4] [0] (fun s => [(6,bv s.2)]) (fun s => []) (fun s => FH p.types (ptsF p) s.1 s.2) (fun s => muF p.types (ptsF p) s.1 s.2) (List.replicate ((ptsF p).length * (p.types.length + 1)) (List.replicate (ptsF p).length false),true) (FH.init _ _) ?_
  rintro ⟨R,c⟩ hFH
  try dsimp only at hFH
  try dsimp only
  have hRl := hFH.d.lo
  have hRr := hFH.d.ro
  cases c with
  | false =>
   repeat' (first|refine stpb ?_|fail)
   have hfin := hFH.final w hAf hAp
   refine rq_le (Le.frzAll (d := 2) (D := (List.range R.length).map fun k => k + big) rfl (.imm (LdL.flt fun n hn => ld_st (R := R) (M := (ptsF p).length) (by (repeat' (first|exact FamR.here|(apply FamR.cons;focus rfl)))) (fun k hk => List.mem_map.2 ⟨n * (p.types.length + 1) + k,by rw [List.mem_range,hRl]; exact ix_lt (List.mem_range.1 hn) hk,rfl⟩) hRl (List.mem_range.1 hn) hRr))) ?_
   refine rq_ret rfl ⟨?_,(by (exact pur_sl _ _))⟩
   simp only [oneOf]
   have e1 : (List.range (ptsF p).length).map (fun n => (rwF p.types.length R n, rwP p.types.length R n)) = (List.range (ptsF p).length).map (flB p.types.length (ptsF p).length Af Ap) := List.map_congr_left fun n hn => by
    have := hfin n (List.mem_range.1 hn)
    rw [this.1,this.2]
   have e2 : flat (fun n => [sl cBB (rwF p.types.length R n), sl cB (rwP p.types.length R n)]) (List.range (ptsF p).length) = flat cFl ((List.range (ptsF p).length).map (flB p.types.length (ptsF p).length Af Ap)) := by
    rw [← e1,flat,flat,List.flatMap_map]; rfl
   rw [e2]
   simp only [sl,List.length_map,List.length_range]
  | true =>
   have hst := hFH.start
   repeat' (first|refine stpb ?_|fail)
   refine aw_loopB (σ := Nat × List (List Bool) × Bool) (fun s => s.2.1) [1,3,4] [0] (fun s => [(6,bv s.2.2),(7,iv (s.1 : Int))]) (fun s => []) (fun s => s.1 ≤ (ptsF p).length ∧ FS p.types (ptsF p) R s.2.1 s.2.2 (DF s.1 0)) (fun s => (ptsF p).length - s.1) (0,R,false) ⟨Nat.zero_le _,hst⟩ ?_
   rintro ⟨j,R1,c1⟩ ⟨hj,hS1⟩
   dsimp only at hj hS1
   have hl1 := hS1.d.lo
   try dsimp only
   by_cases hjn : j < (ptsF p).length
   ·have hnl := w.nl j hjn
    repeat' (first|(apply id_rw;first|(apply rx_fcall (k := 236) (R := R1) (avs0 := [sl cI p.types,sl cPnt (ptsF p),iv (j : Int),aSt 0 p.types.length (ptsF p).length]) (b := j * (p.types.length + 1)) (n1 := 0) (D := ids7 (j * (p.types.length + 1))) (ws := []) (h := l4After_r p.types (ptsF p) w j hjn R1 hS1.d) (rr' := .agg [sl cBB (afR p.types (ptsF p) j (rwF p.types.length R1 j)),sl cB (afQ p.types (ptsF p) j (rwP p.types.length R1 j))]);(case ha => rfl);(case hF => (repeat' (first|exact FamR.here|(apply FamR.cons;focus rfl))));(case hb => (rw [subR_len hl1 hjn]; have := ix_lt (v := p.types.length) hjn (Nat.lt_succ_self _);omega));(case hR => exact fun k hk => subR_get hl1 hjn (by rwa [subR_len hl1 hjn] at hk));(case hD => exact fun k hk => mem_ids7 (by rw [subR_len hl1 hjn] at hk;omega));(case har => exact .cons (RnV.purI inferInstance) (.cons (RnV.purI inferInstance) (.cons (RnV.purI inferInstance) (.cons (.agg (.cons (.imm (rn_rows fun k hk => (by rw [Nat.zero_add,mpC_big (by rw [subR_len hl1 hjn]; omega)]))) (.cons (.own (by rw [Nat.zero_add,mpC_big (by rw [subR_len hl1 hjn]; omega)])) .nil))) .nil))));(case hk => rfl);(case hr => exact RnV.purI inferInstance);(case hw => exact trivial);(case hM|hN => rfl))|(apply rx_indexRg;rfl;rfl;(assumption);rfl;infer_instance;infer_instance;rfl)|(apply rx_store;rfl;rfl;rfl;rfl;rfl;(case hl => (simp;done));(exact (rfl:_=[_,_]))))|refine stpb ?_|(refine stp2 ?_ ?_ <;> intro hc hq <;> try (exfalso;omega))|refine stpd ?_|fail)
    refine aw_loopB (σ := Nat × List (List Bool) × Bool) (fun s => s.2.1) [1,3,4,7,8] [0,2] (fun s => [(6,bv s.2.2),(9,iv (s.1 : Int))]) (fun s => []) (fun s => s.1 ≤ (ptsF p)[j]!.next.length ∧ FS p.types (ptsF p) R s.2.1 s.2.2 (DF j s.1) ∧ (s.2.2 = false → s.2.1 = R1)) (fun s => (ptsF p)[j]!.next.length - s.1) (0,R1,c1) ⟨Nat.zero_le _,hS1,fun _ => rfl⟩ ?_
    rintro ⟨kk,R2,c2⟩ ⟨hk,hS2,hc2⟩
    dsimp only at hk hS2 hc2
    have hl2 := hS2.d.lo
    have hr2 := hS2.d.ro
    try dsimp only
    by_cases hkn : kk < (ptsF p)[j]!.next.length
    ·have hnx := w.nx j hjn _ (getB_mem _ _ hkn)
     have hnn : ((ptsF p)[j]!.next[kk]!).toNat < (ptsF p).length := by omega
     have hix : ((ptsF p)[j]!.next[kk]!).toNat * (p.types.length + 1) + p.types.length < R2.length := by rw [hl2]; exact ix_lt hnn (by omega)
     have hrix := hr2 _ hix
     have hqa := afQ_len p.types (ptsF p) j (rwP p.types.length R1 j)
     have hw1 := l4Within_c (afR p.types (ptsF p) j (rwF p.types.length R1 j)) (rwF p.types.length R2 ((ptsF p)[j]!.next[kk]!).toNat) (afQ p.types (ptsF p) j (rwP p.types.length R1 j)) (rwP p.types.length R2 ((ptsF p)[j]!.next[kk]!).toNat) (by rw [afQ_len]; exact hpl) (by rw [afR_len]; exact htl)
      (by rw [afQ_len]; exact hr2 _ (by rw [hl2]; exact ix_lt hnn (by omega))) (by rw [afR_len]; exact rwF_len hl2 hnn) (fun v hv => by rw [afR_len] at hv;rw [afQ_len]; exact afR_row w hS1.d hjn hv) (fun v hv => by rw [afR_len] at hv;rw [afQ_len,rwF_get hl2 hnn hv]; exact hr2 _ (by rw [hl2]; exact ix_lt hnn (by omega)))
     repeat' (first|(apply id_rw;first|((with_reducible apply rx_lendG (k := 237) (D := ids7 (((ptsF p)[j]!.next[kk]!).toNat * (p.types.length + 1))) (h := hw1));(case ha => rfl);(case hl => exact .cons (.pur (PurV.pf)) (.cons (.agg (ld_st (R := R2) (M := (ptsF p).length) (by (repeat' (first|exact FamR.here|(apply FamR.cons;focus rfl)))) (fun k hk => mem_ids7 (by omega)) hl2 hnn hr2)) .nil));(case hfr|hN => rfl))|(apply rx_l4AddF2;rfl;rfl;(case hF => (repeat' (first|exact FamR.here|(apply FamR.cons;focus rfl))));omega;omega;omega;omega;rfl;rfl)|(with_reducible apply rw_stop (d := 11))|(apply rx_indexRgI;rfl;rfl;(assumption);rfl;infer_instance;infer_instance;rfl))|refine stpb ?_|(refine stp2 ?_ ?_ <;> intro hc hq <;> try (exfalso;omega))|refine stpd ?_|fail)
     ·refine rw_go ?_
      apply rw_le
      case k =>
       apply Le.fset (R := R2) (hk := hix)
       (repeat' (first|exact FamR.here|(apply FamR.cons;focus rfl)))
      rw [jnR_zero hix]
      repeat' (first|refine stpb ?_|fail)
      refine aw_loopB (σ := Nat) (fun v => jnR R2 (((ptsF p)[j]!.next[kk]!).toNat * (p.types.length + 1)) p.types.length (afR p.types (ptsF p) j (rwF p.types.length R1 j)) (afQ p.types (ptsF p) j (rwP p.types.length R1 j)) v) [1,3,4,7,8,9,10] [0,2] (fun v => [(11,iv (v : Int))]) (fun v => []) (fun v => v ≤ p.types.length) (fun v => p.types.length - v) (0) (Nat.zero_le _) ?_
      intro v hv
      try dsimp only
      have hjl := jnR_len R2 (((ptsF p)[j]!.next[kk]!).toNat * (p.types.length + 1)) p.types.length (afR p.types (ptsF p) j (rwF p.types.length R1 j)) (afQ p.types (ptsF p) j (rwP p.types.length R1 j)) v
      have hal := afR_len p.types (ptsF p) j (rwF p.types.length R1 j)
      by_cases hvn : v < p.types.length
      ·have hav := afR_row w hS1.d hjn hvn
       have hjr : (jnR R2 (((ptsF p)[j]!.next[kk]!).toNat * (p.types.length + 1)) p.types.length (afR p.types (ptsF p) j (rwF p.types.length R1 j)) (afQ p.types (ptsF p) j (rwP p.types.length R1 j)) v)[((ptsF p)[j]!.next[kk]!).toNat * (p.types.length + 1) + v]!.length = (ptsF p).length := by
        rw [jnR_get _ _ _ _ _ _ _ (by omega),if_neg (by omega),if_neg (by omega)]; exact hr2 _ (by omega)
       repeat' (first|(apply id_rw;first|(apply rx_l4AddF2;rfl;rfl;(case hF => (repeat' (first|exact FamR.here|(apply FamR.cons;focus rfl))));omega;omega;omega;omega;rfl;rfl)|(with_reducible apply rw_stop (d := 84))|(apply rx_indexRg;rfl;rfl;(assumption);rfl;infer_instance;infer_instance;rfl)|(apply rx_indexRgI;rfl;rfl;(assumption);rfl;infer_instance;infer_instance;rfl))|refine stpb ?_|(refine stp2 ?_ ?_ <;> intro hc hq <;> try (exfalso;omega))|refine stpd ?_|fail)
       refine rw_go ?_
       apply rw_le
       case k =>
        apply Le.fset (R := jnR R2 (((ptsF p)[j]!.next[kk]!).toNat * (p.types.length + 1)) p.types.length (afR p.types (ptsF p) j (rwF p.types.length R1 j)) (afQ p.types (ptsF p) j (rwP p.types.length R1 j)) v) (hk := (by omega))
        (repeat' (first|exact FamR.here|(apply FamR.cons;focus rfl)))
       rw [jnR_succ hix hvn]
       repeat' (first|refine stpb ?_|fail)
       (apply ex3 (v + 1);focus (refine Le.renF0 [(0,0),(2,2)] (R := ?qA2) (hF := ?qF2) (hz := ?qz2) (hm := ?qm2) (hn := ?qn2) (h1 := ?q12) (h2 := ?q22);(case qF2 => (repeat' (first|exact FamR.here|(apply FamR.cons;focus rfl))));(case qz2 => (simp only [jnR_len]));(case qm2 => rfl);(case qn2 => decide);all_goals (repeat' (first|exact trivial|refine And.intro ⟨_,rfl,?_⟩ ?_|refine And.intro ⟨_,_,rfl,rfl,?_⟩ ?_|exact RnL.purI inferInstance|exact RnV.purI inferInstance|exact RnV.optr rfl|exact RnV.imm (rn_cSt (M := (ptsF p).length) (Nat.le_refl _) (by show big + (jnR _ _ _ _ _ _).length = _; rw [jnR_len,hl2]))))))
       ·show v + 1 ≤ p.types.length;omega
       ·show p.types.length - (v + 1) < p.types.length - v;omega
      ·repeat' (first | refine stpb ?_ | (refine stp2 ?_ ?_ <;> intro hc hq <;> try (exfalso; omega))|fail)
       have hvN : v = p.types.length := by omega
       subst hvN
       have hw3 : wiB (afR p.types (ptsF p) j (rwF p.types.length R1 j)) (rwF p.types.length R2 ((ptsF p)[j]!.next[kk]!).toNat) (afQ p.types (ptsF p) j (rwP p.types.length R1 j)) (rwP p.types.length R2 ((ptsF p)[j]!.next[kk]!).toNat) = false := by assumption
       (apply ex3 (kk + 1,_,true);focus (refine Le.renF0 [(0,0),(2,2)] (R := ?qA3) (hF := ?qF3) (hz := ?qz3) (hm := ?qm3) (hn := ?qn3) (h1 := ?q13) (h2 := ?q23);(case qF3 => (repeat' (first|exact FamR.here|(apply FamR.cons;focus rfl))));(case qz3 => (rfl));(case qm3 => rfl);(case qn3 => decide);all_goals (repeat' (first|exact trivial|refine And.intro ⟨_,rfl,?_⟩ ?_|refine And.intro ⟨_,_,rfl,rfl,?_⟩ ?_|exact RnL.purI inferInstance|exact RnV.purI inferInstance|exact RnV.optr rfl|exact RnV.imm (rn_cSt (M := (ptsF p).length) (Nat.le_refl _) (by show big + (jnR _ _ _ _ _ _).length = _; rw [jnR_len,hl2]))))))
       ·exact ⟨(by show kk + 1 ≤ (ptsF p)[j]!.next.length;omega),hS2.hit w (DF j (kk + 1)) hS1.d hjn hkn hw3,fun h => (by cases h)⟩
       ·show (ptsF p)[j]!.next.length - (kk + 1) < (ptsF p)[j]!.next.length - kk;omega
     ·(apply ex3 (kk + 1, R2, c2); focus (refine Le.renF0 [(0, 0), (2, 2)] (R := ?qA4) (hF := ?qF4) (hz := ?qz4) (hm := ?qm4) (hn := ?qn4) (h1 := ?q14) (h2 := ?q24); (case qF4 => (repeat' (first | exact FamR.here | (apply FamR.cons; focus rfl)))); (case qz4 => (rfl)); (case qm4 => rfl); (case qn4 => decide); all_goals (repeat' (first | exact trivial | refine And.intro ⟨_, rfl, ?_⟩ ?_ | refine And.intro ⟨_, _, rfl, rfl, ?_⟩ ?_ | exact RnL.purI inferInstance | exact RnV.purI inferInstance | exact RnV.optr rfl | exact RnV.imm (rn_cSt (M := (ptsF p).length) (Nat.le_refl _) (by show big + R2.length = _; rw [hl2]))))))
      ·refine ⟨(by show kk + 1 ≤ (ptsF p)[j]!.next.length;omega),hS2.skip (i := j) (k := kk) hc2 (by assumption) (fun i' k' _ _ hd => by unfold DF at hd ⊢; omega),hc2⟩
      ·show (ptsF p)[j]!.next.length - (kk + 1) < (ptsF p)[j]!.next.length - kk;omega
    ·repeat' (first | refine stpb ?_ | (refine stp2 ?_ ?_ <;> intro hc hq <;> try (exfalso; omega))|fail)
     (apply ex3 (j + 1,R2,c2);focus (refine Le.renF0 [(0,0)] (R := ?qA5) (hF := ?qF5) (hz := ?qz5) (hm := ?qm5) (hn := ?qn5) (h1 := ?q15) (h2 := ?q25);(case qF5 => (repeat' (first|exact FamR.here|(apply FamR.cons;focus rfl))));(case qz5 => (rfl));(case qm5 => rfl);(case qn5 => decide);all_goals (repeat' (first|exact trivial|refine And.intro ⟨_,rfl,?_⟩ ?_|refine And.intro ⟨_,_,rfl,rfl,?_⟩ ?_|exact RnL.purI inferInstance|exact RnV.purI inferInstance|exact RnV.optr rfl|exact RnV.imm (rn_cSt (M := (ptsF p).length) (Nat.le_refl _) (by show big + R2.length = _; rw [hl2]))))))
     ·refine ⟨(by show j + 1 ≤ (ptsF p).length; omega), hS2.mono fun i' k' _ hk' hd => ?_⟩
      unfold DF at hd ⊢
      by_cases e : i' = j
      ·subst e;omega
      ·omega
     ·show (ptsF p).length - (j + 1) < (ptsF p).length - j;omega
   ·repeat' (first | refine stpb ?_ | (refine stp2 ?_ ?_ <;> intro hc hq <;> try (exfalso; omega))|fail)
    (apply ex3 (R1,c1);focus (refine Le.renF0 [(0,0)] (R := ?qA6) (hF := ?qF6) (hz := ?qz6) (hm := ?qm6) (hn := ?qn6) (h1 := ?q16) (h2 := ?q26);(case qF6 => (repeat' (first|exact FamR.here|(apply FamR.cons;focus rfl))));(case qz6 => (rfl));(case qm6 => rfl);(case qn6 => decide);all_goals (repeat' (first|exact trivial|refine And.intro ⟨_,rfl,?_⟩ ?_|refine And.intro ⟨_,_,rfl,rfl,?_⟩ ?_|exact RnL.purI inferInstance|exact RnV.purI inferInstance|exact RnV.optr rfl|exact RnV.imm (rn_cSt (M := (ptsF p).length) (Nat.le_refl _) (by show big + R1.length = _; rw [hl1]))))))
    ·exact (hS1.fin (by omega)).1
    ·exact (hS1.fin (by omega)).2
end Go.Proofs.YtjnhlgpbojggnaaGreatDoor
