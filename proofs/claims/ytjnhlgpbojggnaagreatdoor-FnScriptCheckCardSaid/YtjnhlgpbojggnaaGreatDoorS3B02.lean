/-
 A part of the proofs over this program: rules and contracts of its functions (the contracts).
-/
import Derived.Test.YtjnhlgpbojggnaaGreatDoorS3B01
set_option linter.unusedVariables false
set_option linter.unusedSimpArgs false
set_option maxHeartbeats 8000000
set_option maxRecDepth 4000
attribute [local irreducible] Go.AL.RW Go.AL.AW Go.AL.Stop
namespace Go.Proofs.YtjnhlgpbojggnaaGreatDoor
open Go.AL Go.RowKit
theorem placed_c (ts:List Int) (bd:List AL.Stmt) (pts:List Pnt) (A:List Nat) (w:WG ts pts) (hA:GoodP ts pts A):PC Tryz.prog 226 [aG ts bd pts] (fun r => r = .imm pts.length (flat cW A)):=by
 have hpl := w.pl
 have hp0 := w.p0
 have htl := w.tl
 have fl := flowP w
 refine pc_start Tryz.func226 Tryz.ntmps226 ?_
 repeat' (first|refine stpb ?_|fail)
 refine aw_loopA (σ := List Nat × Bool) [0,3] [] (fun s => [(4,bv s.2)]) (fun s => [(0,some (flat cW s.1))]) (fun s => SG pts (PpP ts pts) s.1 ∧ (s.2 = false → ClosedG opU (plF ts pts) pts s.1)) (fun s => 2 * sumL (s.1.map (fun a => 2 ^ pts.length - a)) + s.2.toNat) (List.replicate pts.length 0,true) ⟨SG_rep fun i hi => ⟨Nat.pow_pos (by decide),fun v h => by simp at h⟩,fun h => by cases h⟩ ?_
 rintro ⟨s,b⟩ ⟨hS,hC⟩
 dsimp only at hS hC ⊢
 repeat' (first|refine stpb ?_|(refine stp2 ?_ ?_ <;> intro hc hq <;> try (exfalso;omega))|fail)
 ·refine aw_loopA (σ := Nat × (List Nat × Bool)) [0, 3, 20, 21] [] (fun k => [(22, iv (k.1 : Int)), (4, bv k.2.2)]) (fun k => [(0, some (flat cW k.2.1))]) (fun k => k.1 ≤ pts.length ∧ k.2 = (List.range k.1).foldl (innG opU (plF ts pts) pts) (s, false) ∧ SG pts (PpP ts pts) k.2.1) (fun k => pts.length - k.1) (0, (s, false)) ⟨by omega, rfl, hS⟩ ?_
  rintro ⟨k,u,c⟩ ⟨hk,hf,hS2⟩
  dsimp only at hk hf hS2 ⊢
  have hul := hS2.1
  by_cases hkn : k < pts.length
  ·have hst := (w.set k hkn).1
   have hsm : ∀ z : Nat, Sm u[z]! := by
    intro z
    by_cases hz : z < pts.length
    ·exact ⟨Nat.lt_of_lt_of_le (hS2.2 z hz).1 (Nat.pow_le_pow_right (by decide) (by omega))⟩
    ·rw [getElem!_neg u z (by rw [hul]; exact hz)]; exact ⟨by decide⟩
   have hs1 : Sm (wS ts pts[k]! [2]) := mkBits_sm (by omega)
   have hs2 : Sm (sbit pts[k]!) := sbit_sm (by omega)
   have hs3 : ∀ V,Sm (ofV pts V) := fun V => ofV_sm w V
   have hnl := w.nl k hkn
   have e1 : isLn pts[k]! = true → anl u[k]! (ofV pts (wS ts pts[k]! [2] ||| sbit pts[k]!)) ||| 2 ^ (k : Int).toNat = plF ts pts k u[k]! := fun h => by unfold plF lnB;rw [if_pos h]; rfl
   have e0 : isLn pts[k]! = false → anl u[k]! (ofV pts (wS ts pts[k]! [2] ||| sbit pts[k]!)) = plF ts pts k u[k]! := fun h => by unfold plF lnB;rw [if_neg (by rw [h]; simp),Nat.or_zero]
   have hps : Sm (plF ts pts k u[k]!) := ⟨Nat.lt_of_lt_of_le (plF_lt w hkn (hS2.2 k hkn).1) (Nat.pow_le_pow_right (by decide) (by omega))⟩
   repeat' (first|(apply id_rw;first|(apply rx_shl1;rfl;rfl;infer_instance;omega;rfl;(case' kk => intro hsm))|(first|(apply rx_callE (k := 244);rfl;(apply taken_c <;> (assumption));exact Pur.pf;rfl)|(apply rx_callE (k := 245);rfl;(apply setBit_c <;> (omega));exact Pur.pf;rfl)|(apply rx_callE (k := 280);rfl;(apply isLoan_c);exact Pur.pf;rfl)|(apply rx_callE (k := 281);rfl;(apply ofVars_c <;> (first|assumption|infer_instance));exact Pur.pf;rfl)))|refine stpb ?_|(refine stp2 ?_ ?_ <;> intro hc hq <;> try (exfalso;omega))|refine stpd ?_|fail)
   all_goals first|rw [e1 (by assumption)]|rw [e0 (by assumption)]
   all_goals
    refine aw_loopA (σ := Nat × (List Nat × Bool)) [0,3,7,20,21,22,47,48] [] (fun j => [(49,iv (j.1 : Int)),(4,bv j.2.2)]) (fun j => [(0,some (flat cW j.2.1))]) (fun j => j.1 ≤ pts[k]!.next.length ∧ j.2 = ((nxN pts k).take j.1).foldl (bstp opU (plF ts pts k u[k]!)) (u,c) ∧ SG pts (PpP ts pts) j.2.1) (fun j => pts[k]!.next.length - j.1) (0,(u,c)) ⟨by omega,rfl,hS2⟩ ?_
    rintro ⟨j,u2,c2⟩ ⟨hj,hf2,hS3⟩
    dsimp only at hj hf2 hS3 ⊢
    have hul2 := hS3.1
    have hsm2 : ∀ z : Nat, Sm u2[z]! := by
     intro z
     by_cases hz : z < pts.length
     ·exact ⟨Nat.lt_of_lt_of_le (hS3.2 z hz).1 (Nat.pow_le_pow_right (by decide) (by omega))⟩
     ·rw [getElem!_neg u2 z (by rw [hul2]; exact hz)]; exact ⟨by decide⟩
    have hz : j < pts[k]!.next.length → 0 ≤ pts[k]!.next[j]! ∧ pts[k]!.next[j]! < pts.length := fun h => w.nx k hkn _ (getB_mem _ _ h)
    repeat' (first|refine stpb ?_|(refine stp2 ?_ ?_ <;> intro hc hq <;> try (exfalso;omega))|refine stpd ?_|fail)
    ·have hzz := hz (by omega)
     have hed : edge pts k (pts[k]!.next[j]!).toNat := ⟨hkn,by rw [Int.toNat_of_nonneg hzz.1]; exact getB_mem _ _ (by omega)⟩
     have hne : opU u2[(pts[k]!.next[j]!).toNat]! (plF ts pts k u[k]!) ≠ u2[(pts[k]!.next[j]!).toNat]! := fun h => hq (congrArg Int.ofNat h)
     (refine ex3 (j + 1,(_,true)) (Le.renA [(0,0)]) ?_ ?_)
     ·dsimp only
      refine ⟨by omega,?_,SG_step fl w (hS2.2 k hkn) hed hS3⟩
      rw [bstp_take (by omega),← hf2,bstp_1 hne]
     ·dsimp only;omega
    ·have hzz := hz (by omega)
     have hne : opU u2[(pts[k]!.next[j]!).toNat]! (plF ts pts k u[k]!) = u2[(pts[k]!.next[j]!).toNat]! := Int.ofNat.inj hq
     (refine ex3 (j + 1,(u2,c2)) (Le.renA [(0,0)]) ?_ ?_)
     ·dsimp only
      refine ⟨by omega,?_,hS3⟩
      rw [bstp_take (by omega),← hf2,bstp_0 hne]
     ·dsimp only;omega
    ·(refine ex3 (k + 1, (u2, c2)) (Le.renA [(0, 0)]) ?_ ?_)
     ·dsimp only
      refine ⟨by omega,?_,hS3⟩
      rw [range_succ_foldl,← hf,hf2,List.take_of_length_le (by rw [nxN_len]; omega)]; rfl
     ·dsimp only;omega
  ·repeat' (first | refine stpb ?_ | (refine stp2 ?_ ?_ <;> intro hc hq <;> try (exfalso; omega))|fail)
   have law := swpG_law w fl s false hS
   have hfull : (u, c) = swpG opU (plF ts pts) pts (s, false) := by
    rw [hf,show k = pts.length by omega]; rfl
   rw [← hfull] at law
   (refine ex3 (u,c) (Le.renA [(0,0)]) ?_ ?_)
   ·dsimp only
    refine ⟨hS2,fun h => ?_⟩
    rcases law.2 with ⟨e1,e2⟩ | ⟨e1,_⟩
    ·cases e1;exact e2
    ·dsimp only at e1;rw [h] at e1;cases e1
   ·dsimp only
    have hb : b = true := by assumption
    subst hb
    rcases law.2 with ⟨e1,e2⟩ | ⟨e1,e2⟩
    ·cases e1;simp
    ·dsimp only at e1 e2;subst e1;omega
 ·have hb : b = false := by assumption
  refine rq_le (Le.frzD (d := 2) (i := 0) rfl rfl) ?_
  refine rq_ret rfl ⟨?_,(by (exact pur_sl _ _))⟩
  simp only [oneOf]
  rw [goodP_ext hA (goodP_of w hS (hC hb))]
theorem cameFrom_c (ts:List Int) (bd:List AL.Stmt) (pts:List Pnt) (i:Int) (f:List Nat) (w:WG ts pts) (hi:0 ≤ i ∧ i < pts.length) (hf:f.length = 6) (hs:∀ z:Nat,Sm f[z]!):PC Tryz.prog 224 [aG ts bd pts,iv i,.agg (flat cW f)] (fun r => r = .agg (flat cW (cfF ts pts i.toNat f))):=by
 have hpl := w.pl
 have htl := w.tl
 have hin : i.toNat < pts.length := by omega
 have hst := (w.set i.toNat hin)
 have hy := w.y i.toNat hin
 have hbl := bitsI_len (wS ts pts[i.toNat]! [2])
 have hT : Sm (wS ts pts[i.toNat]! [2]) := mkBits_sm (by omega)
 refine pc_start Tryz.func224 Tryz.ntmps224 ?_
 repeat' (first|(apply id_rw;(first|(apply rx_callE (k := 148);rfl;(apply bits_c <;> (assumption));(rfl);rfl)|(apply rx_callE (k := 244);rfl;(apply taken_c <;> (assumption));exact Pur.pf;rfl)))|refine stpb ?_|fail)
 refine aw_loopA (σ := Nat × List Nat) [0,1,5,6,7,8,23,24] [0,1,2] (fun k => [(25,iv (k.1 : Int))]) (fun k => [(3,some (flat cW k.2))]) (fun k => k.1 ≤ (bitsI (wS ts pts[i.toNat]! [2])).length ∧ k.2 = clrF ((bitsI (wS ts pts[i.toNat]! [2])).take k.1) f ∧ k.2.length = 6) (fun k => (bitsI (wS ts pts[i.toNat]! [2])).length - k.1) (0,f) ⟨by omega,rfl,hf⟩ ?_
 rintro ⟨k,u⟩ ⟨hk,hu,hul⟩
 dsimp only at hk hu hul ⊢
 have hbb : k < (bitsI (wS ts pts[i.toNat]! [2])).length → 0 ≤ (bitsI (wS ts pts[i.toNat]! [2]))[k]! ∧ (bitsI (wS ts pts[i.toNat]! [2]))[k]! < ts.length := fun h => bitsI_bd (mkBits_lt (fun v => decide (useAt ts pts[i.toNat]! v ∈ [2])) ts.length) h
 have husm : ∀ z : Nat,Sm u[z]! := by intro z;rw [hu]; exact clr_sm hs z
 have hset : ∀ (k a : Nat) [Sm a] (z : Nat),Sm (u.set k a)[z]! := fun k a h z => set_sm husm h z
 have hset2 : ∀ (k a k2 a2 : Nat) [Sm a] [Sm a2] (z : Nat),Sm ((u.set k a).set k2 a2)[z]! := fun k a k2 a2 h h2 z => set_sm (set_sm husm h) h2 z
 by_cases hkn : k < (bitsI (wS ts pts[i.toNat]! [2])).length
 ·have hbk := hbb hkn
  repeat' (first|refine stpb ?_|(refine stp2 ?_ ?_ <;> intro hc hq <;> try (exfalso;omega))|fail)
  (refine ex3 (k + 1,u.set ((bitsI (wS ts pts[i.toNat]! [2]))[k]!).toNat 0) (Le.renA [(0,0),(1,1),(2,2),(3,3)]) ?_ ?_)
  ·dsimp only
   exact ⟨by omega,by rw [clrF_take hkn,← hu],by simpa using hul⟩
  ·dsimp only;omega
 ·have hu' : u = clrF (bitsI (wS ts pts[i.toNat]! [2])) f := by rw [hu, List.take_of_length_le (by omega)]
  cases hln : isLn pts[i.toNat]!
  ·repeat' (first | (apply id_rw; (first | (apply rx_callE (k := 279);rfl;(apply sets_c);exact Pur.pf;rfl) | (apply rx_callE (k := 280);rfl;(apply isLoan_c);exact Pur.pf;rfl))) | refine stpb ?_ | (refine stp2 ?_ ?_ <;> intro hc hq <;> try (exfalso; omega)) | refine stpd ?_|fail)
   all_goals (refine rq_ret (resL_cellW (z := 6) rfl rfl (by first|exact hul|(simp only [List.length_set]; exact hul)) (by decide)) ⟨?_,(by (exact pur_sl _ _))⟩)
   all_goals simp only [oneOf,cfF,← hu',hln,Bool.false_eq_true,false_and,false_or,if_false]
   all_goals congr 2
   all_goals grind
  ·have hop := isLn_op hln
   repeat' (first|(apply id_rw;first|(apply rx_shl1;rfl;rfl;infer_instance;omega;rfl;(case' kk => intro hsm))|(first|(apply rx_callE (k := 279);rfl;(apply sets_c);exact Pur.pf;rfl)|(apply rx_callE (k := 280);rfl;(apply isLoan_c);exact Pur.pf;rfl)|(apply rx_callE (k := 265);rfl;(apply isRefI_c);(rfl);rfl)))|refine stpb ?_|(refine stp2 ?_ ?_ <;> intro hc hq <;> try (exfalso;omega))|(refine stp3 ?_ ?_ <;> intro hg hq <;> try (exfalso;omega))|refine stpd ?_|fail)
   all_goals (refine rq_ret (resL_cellW (z := 6) rfl rfl (by first|exact hul|(simp only [List.length_set]; exact hul)) (by decide)) ⟨?_,(by (exact pur_sl _ _))⟩)
   all_goals simp only [oneOf,cfF,← hu',hln,true_and,if_true]
   all_goals congr 2
   all_goals grind
theorem loansIn_c (ts:List Int) (bd:List AL.Stmt) (pts:List Pnt) (A:List Nat) (w:WG ts pts) (hA:GoodF ts pts A):PC Tryz.prog 168 [aG ts bd pts] (fun r => r = .imm pts.length (flat cW A)):=by
 have hpl := w.pl
 have hp0 := w.p0
 have htl := w.tl
 refine pc_start Tryz.func168 Tryz.ntmps168 ?_
 repeat' (first|refine stpb ?_|fail)
 refine aw_loopA (σ := List Nat × Bool) [0,3] [] (fun s => [(4,bv s.2)]) (fun s => [(0,some (flat cW s.1))]) (fun s => SF ts pts s.1 ∧ (s.2 = false → Closed6 ts pts s.1)) (fun s => 2 * sumL (s.1.map (fun x => 2 ^ pts.length - x)) + s.2.toNat) (List.replicate (pts.length * 6) 0,true) ⟨SF_rep,fun h => by cases h⟩ ?_
 rintro ⟨s,b⟩ ⟨hS,hC⟩
 dsimp only at hS hC ⊢
 repeat' (first|refine stpb ?_|(refine stp2 ?_ ?_ <;> intro hc hq <;> try (exfalso;omega))|fail)
 ·refine aw_loopA (σ := Nat × (List Nat × Bool)) [0, 3, 22, 23] [] (fun k => [(24, iv (k.1 : Int)), (4, bv k.2.2)]) (fun k => [(0, some (flat cW k.2.1))]) (fun k => k.1 ≤ pts.length ∧ k.2 = (List.range k.1).foldl (inn6 ts pts) (s, false) ∧ SF ts pts k.2.1) (fun k => pts.length - k.1) (0, (s, false)) ⟨by omega, rfl, hS⟩ ?_
  rintro ⟨i,u,c⟩ ⟨hk,hf,hS2⟩
  dsimp only at hk hf hS2 ⊢
  have hul := hS2.1
  have hsm : ∀ z : Nat,Sm u[z]! := SF_sm w hS2
  by_cases hin : i < pts.length
  ·have hnl := w.nl i hin
   have hrl : ((u.drop (i * 6)).take 6).length = 6 := row6_len hul hin
   have hrs : ∀ z : Nat, Sm ((u.drop (i * 6)).take 6)[z]! := by
    intro z
    by_cases hz : z < 6
    ·have := row6_at hul hin hz;unfold row6 at this;rw [this]; exact hsm _
    ·rw [getElem!_neg _ z (by rw [hrl]; exact hz)]; exact ⟨by decide⟩
   have hcl : (cfF ts pts (i : Int).toNat ((u.drop (i * 6)).take 6)).length = 6 := (cfF_len ts pts i ((u.drop (i * 6)).take 6)).trans hrl
   repeat' (first|(apply id_rw;(apply rx_callE (k := 224);rfl;(apply cameFrom_c <;> (first|assumption|omega));exact Pur.pf;rfl))|refine stpb ?_|(refine stp2 ?_ ?_ <;> intro hc hq <;> try (exfalso;omega))|fail)
   generalize hcf : cfF ts pts (i : Int).toNat ((u.drop (i * 6)).take 6) = a at hcl
   have hcf' : cfF ts pts i (row6 u i) = a := hcf
   have hasnd : ∀ k,edge pts i k → ∀ v,v < 6 → PpF ts pts k v a[v]! := fun k e v hv => by rw [← hcf']; exact cfF_snd w hS2 e hv
   refine aw_loopA (σ := Nat × (List Nat × Bool)) [0,3,7,22,23,24,37,38] [2] (fun j => [(39,iv (j.1 : Int)),(4,bv j.2.2)]) (fun j => [(0,some (flat cW j.2.1))]) (fun j => j.1 ≤ pts[i]!.next.length ∧ j.2 = ((nxN pts i).take j.1).foldl (mid6 a) (u,c) ∧ SF ts pts j.2.1) (fun j => pts[i]!.next.length - j.1) (0,(u,c)) ⟨by omega,rfl,hS2⟩ ?_
   rintro ⟨j,u2,c2⟩ ⟨hj,hf2,hS3⟩
   dsimp only at hj hf2 hS3 ⊢
   have hul2 := hS3.1
   by_cases hjn : j < pts[i]!.next.length
   ·have hzz : 0 ≤ pts[i]!.next[j]! ∧ pts[i]!.next[j]! < pts.length := w.nx i hin _ (getB_mem _ _ hjn)
    have hed : edge pts i (pts[i]!.next[j]!).toNat := ⟨hin,by rw [Int.toNat_of_nonneg hzz.1]; exact getB_mem _ _ hjn⟩
    have hap := hasnd _ hed
    have hasm : ∀ z : Nat, Sm a[z]! := by
     intro z
     by_cases hz : z < 6
     ·exact ⟨Nat.lt_of_lt_of_le (hap z hz).1 (Nat.pow_le_pow_right (by decide) (by omega))⟩
     ·rw [getElem!_neg a z (by rw [hcl]; exact hz)]; exact ⟨by decide⟩
    repeat' (first|refine stpb ?_|(refine stp2 ?_ ?_ <;> intro hc hq <;> try (exfalso;omega))|fail)
    refine aw_loopA (σ := Nat × (List Nat × Bool)) [0,3,7,9,22,23,24,37,38,39,43] [2] (fun v => [(44,iv (v.1 : Int)),(4,bv v.2.2)]) (fun v => [(0,some (flat cW v.2.1))]) (fun v => v.1 ≤ 6 ∧ v.2 = (List.range v.1).foldl (stp6 a (pts[i]!.next[j]!).toNat) (u2,c2) ∧ SF ts pts v.2.1) (fun v => 6 - v.1) (0,(u2,c2)) ⟨by omega,rfl,hS3⟩ ?_
    rintro ⟨v,u3,c3⟩ ⟨hv,hf3,hS4⟩
    dsimp only at hv hf3 hS4 ⊢
    have hul3 := hS4.1
    have hsm3 : ∀ z : Nat,Sm u3[z]! := SF_sm w hS4
    by_cases hvn : v < 6
    ·have hlaw := stp6_law (edge_lt w hed) hap u3 c3 v hvn hS4
     repeat' (first|refine stpb ?_|(refine stp2 ?_ ?_ <;> intro hc hq <;> try (exfalso;omega))|refine stpd ?_|fail)
     ·have hne : opU u3[(pts[i]!.next[j]!).toNat * 6 + v]! a[v]! ≠ u3[(pts[i]!.next[j]!).toNat * 6 + v]! := fun h => hq (congrArg Int.ofNat h)
      have e1 : stp6 a (pts[i]!.next[j]!).toNat (u3,c3) v = (u3.set ((pts[i]!.next[j]!).toNat * 6 + v) (opU u3[(pts[i]!.next[j]!).toNat * 6 + v]! a[v]!),true) := bstp_1 hne
      rw [e1] at hlaw
      (refine ex3 (v + 1,(_,true)) (Le.renA [(0,0),(2,2)]) ?_ ?_)
      ·dsimp only
       refine ⟨by omega,?_,hlaw.1⟩
       rw [stp6_take,← hf3,e1]; rfl
      ·dsimp only;omega
     ·have hne : opU u3[(pts[i]!.next[j]!).toNat * 6 + v]! a[v]! = u3[(pts[i]!.next[j]!).toNat * 6 + v]! := Int.ofNat.inj hq
      have e1 : stp6 a (pts[i]!.next[j]!).toNat (u3,c3) v = (u3,c3) := bstp_0 hne
      (refine ex3 (v + 1,(u3,c3)) (Le.renA [(0,0),(2,2)]) ?_ ?_)
      ·dsimp only
       refine ⟨by omega,?_,hS4⟩
       rw [stp6_take,← hf3,e1]
      ·dsimp only;omega
    ·have hv6 : v = 6 := by omega
     subst hv6
     repeat' (first|refine stpb ?_|fail)
     (refine ex3 (j + 1,(u3,c3)) (Le.renA [(0,0),(2,2)]) ?_ ?_)
     ·dsimp only
      refine ⟨by omega,?_,hS4⟩
      rw [mid6_take hjn,← hf2,hf3]; rfl
     ·dsimp only;omega
   ·repeat' (first | refine stpb ?_ | (refine stp2 ?_ ?_ <;> intro hc hq <;> try (exfalso; omega))|fail)
    (refine ex3 (i + 1,(u2,c2)) (Le.renA [(0,0)]) ?_ ?_)
    ·dsimp only
     refine ⟨by omega,?_,hS3⟩
     rw [range_succ_foldl,← hf,hf2,List.take_of_length_le (by rw [nxN_len]; omega),← hcf']; rfl
    ·dsimp only;omega
  ·repeat' (first | refine stpb ?_ | (refine stp2 ?_ ?_ <;> intro hc hq <;> try (exfalso; omega))|fail)
   have law := swp6_law w s false hS
   have hfull : (u, c) = swp6 ts pts (s, false) := by
    rw [hf,show i = pts.length by omega]; rfl
   rw [← hfull] at law
   (refine ex3 (u,c) (Le.renA [(0,0)]) ?_ ?_)
   ·dsimp only
    refine ⟨hS2,fun h => ?_⟩
    rcases law.2 with ⟨e1,e2⟩ | ⟨e1,_⟩
    ·cases e1;exact e2
    ·dsimp only at e1;rw [h] at e1;cases e1
   ·dsimp only
    have hb : b = true := by assumption
    subst hb
    rcases law.2 with ⟨e1,e2⟩ | ⟨e1,e2⟩
    ·cases e1;simp
    ·dsimp only at e1 e2;subst e1;omega
 ·have hb : b = false := by assumption
  refine rq_le (Le.frzD (d := 2) (i := 0) rfl rfl) ?_
  refine rq_ret rfl ⟨?_,(by (exact pur_sl _ _))⟩
  simp only [oneOf]
  rw [goodF_ext hA (goodF_of w hS (hC hb))]
theorem kept_c (ts:List Int) (bd:List AL.Stmt) (pts:List Pnt) (i:Int) (lv:Nat) (f:List Nat) (w:WG ts pts) (hi:0 ≤ i ∧ i < pts.length) (hlv:lv < 2 ^ ts.length) (hf:f.length = 6) (hs:∀ z:Nat,Sm f[z]!):PC Tryz.prog 229 [aG ts bd pts,iv i,iv (lv:Int),.agg (flat cW f)] (fun r => r = .v (.int .u64 (kpF ts pts[i.toNat]! lv f:Nat))):=by
 have hpl := w.pl
 have htl := w.tl
 have hin : i.toNat < pts.length := by omega
 have hst := (w.set i.toNat hin)
 have hsl : Sm lv := ⟨Nat.lt_of_lt_of_le hlv (Nat.pow_le_pow_right (by decide) (by omega))⟩
 have hT : Sm (wS ts pts[i.toNat]! [2]) := mkBits_sm (by omega)
 have hB : Sm (sbit pts[i.toNat]!) := sbit_sm (by omega)
 have hbl := bitsI_len (anl lv (wS ts pts[i.toNat]! [2] ||| sbit pts[i.toNat]!))
 have hlt : anl lv (wS ts pts[i.toNat]! [2] ||| sbit pts[i.toNat]!) < 2 ^ ts.length := Nat.xor_lt_two_pow hlv (Nat.lt_of_le_of_lt Nat.and_le_left hlv)
 refine pc_start Tryz.func229 Tryz.ntmps229 ?_
 repeat' (first|(apply id_rw;(first|(apply rx_callE (k := 148);rfl;(apply bits_c <;> (infer_instance));(rfl);rfl)|(apply rx_callE (k := 244);rfl;(apply taken_c <;> (assumption));exact Pur.pf;rfl)|(apply rx_callE (k := 245);rfl;(apply setBit_c <;> (omega));exact Pur.pf;rfl)))|refine stpb ?_|refine stpd ?_|fail)
 refine aw_loopA (σ := Nat × Nat) [7,28,29] [0] (fun k => [(30,iv (k.1 : Int)),(10,.v (.int .u64 (k.2 : Int)))]) (fun k => []) (fun k => k.1 ≤ (bitsI (anl lv (wS ts pts[i.toNat]! [2] ||| sbit pts[i.toNat]!))).length ∧ k.2 = orL f ((bitsI (anl lv (wS ts pts[i.toNat]! [2] ||| sbit pts[i.toNat]!))).take k.1) 0 ∧ Sm k.2) (fun k => (bitsI (anl lv (wS ts pts[i.toNat]! [2] ||| sbit pts[i.toNat]!))).length - k.1) (0,0) ⟨by omega,rfl,inferInstance⟩ ?_
 rintro ⟨k,a⟩ ⟨hk,ha,hsa⟩
 dsimp only at hk ha hsa ⊢
 have hbb : k < (bitsI (anl lv (wS ts pts[i.toNat]! [2] ||| sbit pts[i.toNat]!))).length → 0 ≤ (bitsI (anl lv (wS ts pts[i.toNat]! [2] ||| sbit pts[i.toNat]!)))[k]! ∧ (bitsI (anl lv (wS ts pts[i.toNat]! [2] ||| sbit pts[i.toNat]!)))[k]! < ts.length := fun h => bitsI_bd hlt h
 repeat' (first|refine stpb ?_|(refine stp2 ?_ ?_ <;> intro hc hq <;> try (exfalso;omega))|fail)
 ·(refine ex3 (k + 1, _) (Le.renA [(0, 0)]) ?_ ?_)
  ·dsimp only
   refine ⟨by omega,?_,inferInstance⟩
   rw [ha]; unfold orL;rw [foldl_take _ _ _ _ (by omega)]
  ·dsimp only;omega
 ·refine rq_ret rfl ⟨?_, rfl⟩
  simp only [oneOf]
  rw [ha,List.take_of_length_le (by omega)]; rfl
theorem accesses_c (ts:List Int) (bd:List AL.Stmt) (pts:List Pnt) (x:Pnt) (mb:Nat) (htl:ts.length ≤ 6) (hmb:Sm mb) (hst:setAt x < ts.length) (hy:0 ≤ x.y ∧ (3 ≤ x.op → x.op ≤ 7 → x.y < ts.length)):PC Tryz.prog 282 [aG ts bd pts,aPnt x,iv (mb:Int)] (fun r => r = sl cAcc (accF ts x (mb.testBit (setAt x).toNat))):=by
 refine pc_start Tryz.func282 Tryz.ntmps282 ?_
 repeat' (first|(apply id_rw;first|(apply rx_assignNil (d := 7) (e := 2);rfl;rfl)|(first|(apply rx_callE (k := 279);rfl;(apply sets_c);exact Pur.pf;rfl)|(apply rx_callE (k := 152);rfl;(apply takes_c <;> (omega));exact Pur.pf;rfl)))|refine stpb ?_|(refine stp2 ?_ ?_ <;> intro hc hq <;> try (exfalso;omega))|(refine stp3 ?_ ?_ <;> intro hg hq <;> try (exfalso;omega))|fail)
 all_goals first|refine rq_le (Le.frzD (d := 6) (i := 1) rfl rfl) ?_|refine rq_le (Le.frzD (d := 6) (i := 3) rfl rfl) ?_|refine rq_le (Le.frzD (d := 6) (i := 5) rfl rfl) ?_
 all_goals refine rq_ret rfl ⟨?_,(by (rfl))⟩
 all_goals simp only [oneOf,accF]
 all_goals have h1 := and1_iff mb (setAt x).toNat
 all_goals (try (rw [if_neg (show ¬ (0 ≤ setAt x ∧ ts[(setAt x).toNat]! = 2 ∧ mb.testBit (setAt x).toNat = true) from fun h => by omega)]))
 all_goals (simp_all <;> rfl)
theorem against_c (ts:List Int) (bd:List AL.Stmt) (pts:List Pnt) (i:Int) (mb loans:Nat) (w:WG ts pts) (hi:0 ≤ i ∧ i < pts.length) (hmb:Sm mb) (hlo:loans < 2 ^ pts.length):PC Tryz.prog 228 [aG ts bd pts,iv i,iv (mb:Int),.v (.int .u64 (loans:Int))] (fun r => r = .v (.int .u64 (agF pts loans (accF ts pts[i.toNat]! (mb.testBit (setAt pts[i.toNat]!).toNat)) 0:Nat))):=by
 have hpl := w.pl
 have htl := w.tl
 have hin : i.toNat < pts.length := by omega
 have hst := (w.set i.toNat hin).1
 have hy := w.y i.toNat hin
 have hx := w.x i.toNat hin
 have hop := w.op i.toNat hin
 have hlsm : Sm loans := ⟨Nat.lt_of_lt_of_le hlo (Nat.pow_le_pow_right (by decide) (by omega))⟩
 have hacc := accF_ok (mb.testBit (setAt pts[i.toNat]!).toNat) w hin
 have hal := accF_len ts pts[i.toNat]! (mb.testBit (setAt pts[i.toNat]!).toNat)
 refine pc_start Tryz.func228 Tryz.ntmps228 ?_
 repeat' (first|(apply id_rw;(apply rx_callE (k := 282);rfl;(apply accesses_c <;> (assumption));exact Pur.pf;rfl))|refine stpb ?_|fail)
 generalize accF ts pts[i.toNat]! (mb.testBit (setAt pts[i.toNat]!).toNat) = acs at hacc hal
 refine aw_loopA (σ := Nat × Nat) [0,3,23,24] [] (fun k => [(25,iv (k.1 : Int)),(9,.v (.int .u64 (k.2 : Int)))]) (fun k => []) (fun k => k.1 ≤ acs.length ∧ k.2 = agF pts loans (acs.take k.1) 0 ∧ k.2 < 2 ^ pts.length) (fun k => acs.length - k.1) (0,0) ⟨by omega,rfl,Nat.pow_pos (by decide)⟩ ?_
 rintro ⟨k,a⟩ ⟨hk,ha,hab⟩
 dsimp only at hk ha hab ⊢
 by_cases hkn : k < acs.length
 ·have hcv := hacc _ (getB_mem acs k hkn)
  have hof : ∀ V,Sm (ofV pts V) := fun V => ofV_sm w V
  have hll := bitsI_len (loans &&& ofV pts (2 ^ (acs[k]!.var).toNat))
  have hlb : loans &&& ofV pts (2 ^ (acs[k]!.var).toNat) < 2 ^ pts.length := Nat.lt_of_le_of_lt Nat.and_le_left hlo
  have htk := foldl_take (fun a c => agA pts c.write (bitsI (loans &&& ofV pts (2 ^ c.var.toNat))) a) acs 0 k hkn
  repeat' (first|(apply id_rw;first|(apply rx_shl1;rfl;rfl;infer_instance;omega;rfl;(case' kk => intro hsm))|(first|(apply rx_callE (k := 227);rfl;(apply loanBits_c <;> (infer_instance));(rfl);rfl)|(apply rx_callE (k := 281);rfl;(apply ofVars_c <;> (assumption));exact Pur.pf;rfl)))|refine stpb ?_|(refine stp2 ?_ ?_ <;> intro hc hq <;> try (exfalso;omega))|fail)
  refine aw_loopA (σ := Nat × Nat) [0,3,11,23,24,25,36,37] [0] (fun j => [(38,iv (j.1 : Int)),(9,.v (.int .u64 (j.2 : Int)))]) (fun j => []) (fun j => j.1 ≤ (bitsI (loans &&& ofV pts (2 ^ (acs[k]!.var).toNat))).length ∧ j.2 = agA pts acs[k]!.write ((bitsI (loans &&& ofV pts (2 ^ (acs[k]!.var).toNat))).take j.1) a ∧ j.2 < 2 ^ pts.length) (fun j => (bitsI (loans &&& ofV pts (2 ^ (acs[k]!.var).toNat))).length - j.1) (0,a) ⟨by omega,rfl,hab⟩ ?_
  rintro ⟨j,b⟩ ⟨hj,hb,hbb⟩
  dsimp only at hj hb hbb ⊢
  have hbsm : Sm b := ⟨Nat.lt_of_lt_of_le hbb (Nat.pow_le_pow_right (by decide) (by omega))⟩
  by_cases hjn : j < (bitsI (loans &&& ofV pts (2 ^ (acs[k]!.var).toNat))).length
  ·have hlz := bitsI_bd hlb hjn
   have hstep : agA pts acs[k]!.write ((bitsI (loans &&& ofV pts (2 ^ (acs[k]!.var).toNat))).take (j + 1)) a = if acs[k]!.write = true ∨ pts[((bitsI (loans &&& ofV pts (2 ^ (acs[k]!.var).toNat)))[j]!).toNat]!.op = 5 then b ||| 2 ^ ((bitsI (loans &&& ofV pts (2 ^ (acs[k]!.var).toNat)))[j]!).toNat else b := by
    rw [hb]; unfold agA;rw [foldl_take _ _ _ _ hjn]
   have hb2 : b ||| 2 ^ ((bitsI (loans &&& ofV pts (2 ^ (acs[k]!.var).toNat)))[j]!).toNat < 2 ^ pts.length := Nat.or_lt_two_pow hbb (Nat.pow_lt_pow_right (by decide) (by omega))
   repeat' (first|(apply id_rw;(apply rx_shl1;rfl;rfl;infer_instance;omega;rfl;(case' kk => intro hsm)))|refine stpb ?_|(refine stp2 ?_ ?_ <;> intro hc hq <;> try (exfalso;omega))|(refine stp3 ?_ ?_ <;> intro hg hq <;> try (exfalso;omega))|fail)
   all_goals first
    | ((refine ex3 (j + 1, b ||| 2 ^ ((bitsI (loans &&& ofV pts (2 ^ (acs[k]!.var).toNat)))[j]!).toNat) (Le.renA [(0, 0)]) ?_ ?_)
       ·dsimp only
        refine ⟨by omega,?_,hb2⟩
        rw [hstep,if_pos (by first|exact .inl (by assumption)|exact .inr (by assumption))]
       ·dsimp only;omega)
    | ((refine ex3 (j + 1, b) (Le.renA [(0, 0)]) ?_ ?_)
       ·dsimp only
        refine ⟨by omega,?_,hbb⟩
        rw [hstep,if_neg (fun h => h.elim (fun h1 => Bool.noConfusion (h1.symm.trans (by assumption : acs[k]!.write = false))) (fun h2 => absurd h2 (by assumption)))]
       ·dsimp only;omega)
  ·repeat' (first | refine stpb ?_ | (refine stp2 ?_ ?_ <;> intro hc hq <;> try (exfalso; omega))|fail)
   (refine ex3 (k + 1,b) (Le.renA []) ?_ ?_)
   ·dsimp only
    refine ⟨by omega,?_,hbb⟩
    rw [hb,List.take_of_length_le (by omega),ha]; unfold agF;rw [htk]
   ·dsimp only;omega
 ·repeat' (first | refine stpb ?_ | (refine stp2 ?_ ?_ <;> intro hc hq <;> try (exfalso; omega))|fail)
  refine rq_ret rfl ⟨?_,rfl⟩
  simp only [oneOf]
  rw [ha,List.take_of_length_le (by omega)]
theorem issues1_c (n:Nat) (A:List Nat) (i:Int) (hA:A.length = n * 6) (hi:0 ≤ i ∧ i < n):PC Tryz.prog 171 [iv i,.iptr [.imm n (flat cW A)]] (fun r => r = .agg (flat cW (row6 A i.toNat))):=by
 have h6 : ((A.drop (i.toNat * 6)).take 6).length = 6 := row6_len hA (by omega)
 refine pc_start Tryz.func171 Tryz.ntmps171 ?_
 repeat' (first|refine stpb ?_|fail)
 refine rq_ret (resL_cellW (z := 6) rfl rfl h6 (by decide)) ⟨rfl,(by (exact pur_sl _ _))⟩
theorem check_c (ts:List Int) (bd:List AL.Stmt) (pts:List Pnt) (Aa Am Al Af Ap:List Nat) (n:Nat) (w:WG ts pts) (ga:GoodA ts pts Aa) (gm:GoodM ts pts Am) (gl:GoodL ts pts Al) (gf:GoodF ts pts Af) (gp:GoodP ts pts Ap) (hn:n = pts.length) :
  PC Tryz.prog 169 [aG ts bd pts,.imm n (flat cN Al),.clos (.func 171) [] [.iptr [.imm n (flat cW Af)]]] (fun r => r = sl cIss (issF ts pts Aa Am Al Af Ap pts.length)) := by
 subst hn
 have hpl := w.pl
 have htl := w.tl
 have hla := ga.1
 have hlm := gm.1
 have hll := gl.1
 have hlf := gf.1
 have hlp := gp.1
 refine pc_start Tryz.func169 Tryz.ntmps169 ?_
 repeat' (first|(apply id_rw;first|(apply rx_assignNil (d := 10) (e := 3);rfl;rfl)|(first|(apply rx_callE (k := 185);rfl;(apply maybe_c <;> (assumption));exact Pur.pf;rfl)|(apply rx_callE (k := 225);rfl;(apply always_c <;> (assumption));exact Pur.pf;rfl)|(apply rx_callE (k := 226);rfl;(apply placed_c <;> (assumption));exact Pur.pf;rfl)))|refine stpb ?_|fail)
 refine aw_loopA (σ := Nat × List Iss × Nat) [0,1,2,7,8,9,27,28] [] (fun k => [(29,iv (k.1 : Int)),(10,.own 0 0 k.2.2 3)]) (fun k => [(0,some (flat cIss k.2.1))]) (fun k => k.1 ≤ pts.length ∧ k.2.1 = issF ts pts Aa Am Al Af Ap k.1 ∧ k.2.2 = k.2.1.length ∧ k.2.2 ≤ k.1 * 124) (fun k => pts.length - k.1) (0,[],0) ⟨by omega,rfl,rfl,Nat.le_refl _⟩ ?_
 rintro ⟨i,u,m⟩ ⟨hk,hu,hm,hmk⟩
 dsimp only at hk hu hm hmk ⊢
 by_cases hin : i < pts.length
 ·have hst := w.set i hin
  have hsU : Sm (wS ts pts[i]! [1,2,3]) := mkBits_sm (by omega)
  have bl : ∀ {A : Nat} {n : Nat}, n ≤ 62 → (∀ v, A.testBit v = true → v < n) → A < 2 ^ n := fun _ hv => Nat.lt_pow_two_of_testBit _ fun v h => by
   cases hq : Nat.testBit _ v with
   | false => rfl
   | true => have := hv v hq;omega
  have hAa : Sm Aa[i]! := ⟨bl (n := 62) (by omega) fun v hv => by have := ((ga.2 i hin v).1 hv).1;omega⟩
  have hAm : Sm Am[i]! := ⟨bl (n := 62) (by omega) fun v hv => by have := Mb_lt w ((gm.2 i hin v).1 hv);dsimp only at this;omega⟩
  have hAl : Al[i]! < 2 ^ ts.length := bl (by omega) fun v hv => by obtain ⟨k,_,h⟩ := (gl.2 i hin v).1 hv;exact Nd_lt w h
  have hAl2 : Sm Al[i]! := ⟨Nat.lt_of_lt_of_le hAl (Nat.pow_le_pow_right (by decide) (by omega))⟩
  have hAp : Ap[i]! < 2 ^ pts.length := bl (by omega) fun v hv => (Pl_ln ((gp.2 i hin v).1 hv)).1
  have hAp2 : Sm Ap[i]! := ⟨Nat.lt_of_lt_of_le hAp (Nat.pow_le_pow_right (by decide) (by omega))⟩
  have hrl := row6_len hlf hin
  have hrs : ∀ z : Nat, Sm (row6 Af i)[z]! := by
   intro z
   by_cases hz : z < 6
   ·rw [row6_at hlf hin hz]
    exact ⟨bl (n := 62) (by omega) fun v hv => by have := (Fr_lt w ((gf.2 i z hin hz v).1 hv)).2.2;dsimp only at this;omega⟩
   ·rw [getElem!_neg _ z (by rw [hrl]; exact hz)]; exact ⟨by decide⟩
  have hkp : kpF ts pts[(i : Int).toNat]! Al[i]! (row6 Af (i : Int).toNat) < 2 ^ pts.length := by
   refine bl (by omega) fun v hv => ?_
   unfold kpF at hv
   rw [testBit_orL] at hv
   rcases hv with hv | ⟨z,hz,hv⟩
   ·simp at hv
   ·obtain ⟨q, h1, h2, rfl⟩ := mem_bitsI.1 hz
    rw [testBit_anl,Bool.and_eq_true] at h2
    have h3 := lt_of_bits hAl h2.1
    have h4 : q < 6 := by omega
    have h5 : (row6 Af i)[q]!.testBit v = true := hv
    rw [row6_at hlf hin h4] at h5
    exact (Fr_lt w ((gf.2 i q hin h4 v).1 h5)).2.2
  have hkp2 : Sm (kpF ts pts[(i : Int).toNat]! Al[i]! (row6 Af (i : Int).toNat)) := ⟨Nat.lt_of_lt_of_le hkp (Nat.pow_le_pow_right (by decide) (by omega))⟩
  have hlo : kpF ts pts[(i : Int).toNat]! Al[i]! (row6 Af (i : Int).toNat) &&& Ap[i]! < 2 ^ pts.length := Nat.and_lt_two_pow _ hAp
  have hcf := cfN_lt w (Am := Am) (Al := Al) (Af := Af) (i := i) hAp
  have hcf2 : Sm (cfN ts pts Am Al Af Ap i) := ⟨Nat.lt_of_lt_of_le hcf (Nat.pow_le_pow_right (by decide) (by omega))⟩
  have hcf3 : Sm (agF pts (kpF ts pts[(i : Int).toNat]! Al[i]! (row6 Af (i : Int).toNat) &&& Ap[i]!) (accF ts pts[(i : Int).toNat]! (Am[i]!.testBit (setAt pts[(i : Int).toNat]!).toNat)) 0) := hcf2
  have hb1 := bitsI_len (anl (wS ts pts[i]! [1,2,3]) Aa[i]!)
  have hb2 := bitsI_len (cfN ts pts Am Al Af Ap i)
  repeat' (first|(apply id_rw;(first|(apply rx_callE (k := 148);rfl;(apply bits_c <;> (infer_instance));(rfl);rfl)|(apply rx_callE (k := 149);rfl;(apply used_c <;> (assumption));exact Pur.pf;rfl)))|refine stpb ?_|(refine stp2 ?_ ?_ <;> intro hc hq <;> try (exfalso;omega))|refine stpd ?_|fail)
  have hb1b : ∀ j,j < (bitsI (anl (wS ts pts[i]! [1,2,3]) Aa[i]!)).length → 0 ≤ (bitsI (anl (wS ts pts[i]! [1,2,3]) Aa[i]!))[j]! := fun j h => (bitsI_bd (inferInstance : Sm (anl (wS ts pts[i]! [1,2,3]) Aa[i]!)).pf h).1
  refine aw_loopA (σ := Nat × List Iss × Nat) [0,1,2,7,8,9,11,27,28,29,42,43] [] (fun j => [(44,iv (j.1 : Int)),(10,.own 0 0 j.2.2 3)]) (fun j => [(0,some (flat cIss j.2.1))]) (fun j => j.1 ≤ (bitsI (anl (wS ts pts[i]! [1,2,3]) Aa[i]!)).length ∧ j.2.1 = u ++ issU i ((bitsI (anl (wS ts pts[i]! [1,2,3]) Aa[i]!)).take j.1) ∧ j.2.2 = j.2.1.length ∧ j.2.2 ≤ i * 124 + j.1) (fun j => (bitsI (anl (wS ts pts[i]! [1,2,3]) Aa[i]!)).length - j.1) (0,u,m) ⟨by omega,by simp [issU],hm,by omega⟩ ?_
  rintro ⟨j,u2,m2⟩ ⟨hj,hu2,hm2,hmk2⟩
  dsimp only at hj hu2 hm2 hmk2 ⊢
  by_cases hjn : j < (bitsI (anl (wS ts pts[i]! [1,2,3]) Aa[i]!)).length
  ·repeat' (first | (apply id_rw; (apply rx_buildSliceI (t := _);rfl;rfl;rfl;(exact (rfl:_=some [_, _, _]));rfl;rfl)) | refine stpb ?_ | (refine stp2 ?_ ?_ <;> intro hc hq <;> try (exfalso; omega))|fail)
   (refine ex3 (j + 1,_,_) (Le.renA [(0,3)]) ?_ ?_)
   ·dsimp only
    refine ⟨by omega,?_,by simp;omega,by omega⟩
    rw [hu2]; unfold issU;rw [map_take_succ _ _ _ hjn,List.append_assoc]
   ·dsimp only;omega
  ·have hu3 : u2 = u ++ issU i (bitsI (anl (wS ts pts[i]! [1, 2, 3]) Aa[i]!)) := by rw [hu2, List.take_of_length_le (by omega)]
   repeat' (first|(apply id_rw;first|(first|(apply rx_callE (k := 227);rfl;(apply loanBits_c <;> (assumption));(rfl);rfl)|(apply rx_callE (k := 228);rfl;(apply against_c <;> (first|assumption|omega));exact Pur.pf;rfl)|(apply rx_callE (k := 229);rfl;(apply kept_c <;> (first|assumption|omega));exact Pur.pf;rfl))|(apply rx_callC;rfl;rfl;infer_instance;rfl;(apply issues1_c <;> (first|assumption|omega));exact Pur.pf;rfl))|refine stpb ?_|(refine stp2 ?_ ?_ <;> intro hc hq <;> try (exfalso;omega))|refine stpd ?_|fail)
   generalize hL : bitsI (agF pts (kpF ts pts[(i : Int).toNat]! Al[i]! (row6 Af (i : Int).toNat) &&& Ap[i]!) (accF ts pts[(i : Int).toNat]! (Am[i]!.testBit (setAt pts[(i : Int).toNat]!).toNat)) 0) = L2
   have hL2 : bitsI (cfN ts pts Am Al Af Ap i) = L2 := hL
   have hbd : ∀ j,j < L2.length → 0 ≤ L2[j]! ∧ L2[j]! < pts.length := fun j h => by rw [← hL2] at h ⊢; exact bitsI_bd hcf h
   rw [hL2] at hb2
   refine aw_loopA (σ := Nat × List Iss × Nat) [0,1,2,7,8,9,11,27,28,29,77,78] [] (fun l => [(79,iv (l.1 : Int)),(10,.own 0 0 l.2.2 3)]) (fun l => [(0,some (flat cIss l.2.1))]) (fun l => l.1 ≤ L2.length ∧ l.2.1 = u2 ++ issC pts i (L2.take l.1) ∧ l.2.2 = l.2.1.length ∧ l.2.2 ≤ i * 124 + 62 + l.1) (fun l => L2.length - l.1) (0,u2,m2) ⟨by omega,by simp [issC],hm2,Nat.le_trans hmk2 (by omega)⟩ ?_
   rintro ⟨l,u4,m4⟩ ⟨hl,hu4,hm4,hmk4⟩
   dsimp only at hl hu4 hm4 hmk4 ⊢
   by_cases hln : l < L2.length
   ·have hbl := hbd l hln
    repeat' (first|(apply id_rw;(apply rx_buildSliceI (t := _);rfl;rfl;rfl;(exact (rfl:_=some [_,_,_]));rfl;rfl))|refine stpb ?_|(refine stp2 ?_ ?_ <;> intro hc hq <;> try (exfalso;omega))|fail)
    ·(refine ex3 (l + 1, _, _) (Le.renA [(0, 3)]) ?_ ?_)
     ·dsimp only
      refine ⟨by omega,?_,by simp;omega,by omega⟩
      rw [hu4]; unfold issC;rw [map_take_succ _ _ _ hln,List.append_assoc,if_pos hq]
     ·dsimp only;omega
    ·(refine ex3 (l + 1, _, _) (Le.renA [(0, 3)]) ?_ ?_)
     ·dsimp only
      refine ⟨by omega,?_,by simp;omega,by omega⟩
      rw [hu4]; unfold issC;rw [map_take_succ _ _ _ hln,List.append_assoc,if_neg hq]
     ·dsimp only;omega
   ·repeat' (first | refine stpb ?_ | (refine stp2 ?_ ?_ <;> intro hc hq <;> try (exfalso; omega))|fail)
    (refine ex3 (i + 1,u4,m4) (Le.renA [(0,0)]) ?_ ?_)
    ·dsimp only
     refine ⟨by omega,?_,hm4,by omega⟩
     rw [issF_succ,hu4,List.take_of_length_le (by omega),hu3,← hL2,hu,List.append_assoc]; rfl
    ·dsimp only;omega
 ·repeat' (first | refine stpb ?_ | (refine stp2 ?_ ?_ <;> intro hc hq <;> try (exfalso; omega))|fail)
  (refine rq_le (Le.frzD (d := 6) (i := 0) rfl rfl) ?_; refine rq_ret rfl ?_)
  refine ⟨?_,(by (exact pur_sl _ _))⟩
  simp only [oneOf,sl]
  rw [hm,hu,show i = pts.length by omega]
theorem issuesI_c (ts:List Int) (bd:List AL.Stmt) (pts:List Pnt) (w:WG ts pts) (f:Flows ts pts):PC Tryz.prog 111 [aG ts bd pts] (fun r => r = sl cIss f.iss):=by
 have hpl := w.pl
 refine pc_start Tryz.func111 Tryz.ntmps111 ?_
 repeat' (first|(apply id_rw;first|(apply rx_makeFuncFrz;rfl;rfl;rfl)|(apply rx_callE (k := 168);rfl;exact loansIn_c ts bd pts f.Af w f.gf;exact Pur.pf;rfl)|(apply rx_callE (k := 170);rfl;exact liveAfter_c ts bd pts f.An f.Al w f.gn f.gl;exact Pur.pf;rfl)|(apply rx_callE (k := 169);rfl;exact check_c ts bd pts f.Aa f.Am f.Al f.Af f.Ap _ w f.ga f.gm f.gl f.gf f.gp rfl;exact Pur.pf;rfl))|refine stpb ?_|fail)
 refine rq_ret rfl ⟨rfl,(by (exact pur_sl _ _))⟩
theorem graphOf_c (p:Prg) (hl:p.types.length ≤ 1048576) (hs:cntL p.body ≤ 1048576):PC Tryz.prog 104 [aPrg p,.v (.slice none 0 0)] (fun r => r = if validF p = true then .tup [aG p.types p.body (ptsF p),bv true] else .tup [.v (.pointer none),bv false]):=by
 have hpl := ptsF_len p
 have hnl := npL_le p.body
 refine pc_start Tryz.func104 Tryz.ntmps104 ?_
 repeat' (first|(apply id_rw;(first|(apply rx_callE (k := 17);rfl;(apply validI_c <;> (first|assumption|omega));exact Pur.pf;rfl)|(apply rx_callE (k := 60);rfl;(apply points_c <;> (assumption));exact Pur.pf;rfl)))|refine stpb ?_|(refine stp2 ?_ ?_ <;> intro hc hq <;> try (exfalso;omega))|refine stpd ?_|fail)
 ·refine rq_ret rfl ⟨?_, (by (rfl))⟩
  rw [if_neg (by simp [hq])]; rfl
 ·refine aw_loopA (σ := Unit) [6, 17, 18] [1] (fun _u => [(19, iv 0)]) (fun _u => []) (fun _u => True) (fun _u => 0) () trivial ?_
  intro _ _
  repeat' (first|refine stpb ?_|fail)
  refine rq_le (Le.frzP (d := 4) (i := 1) rfl rfl) ?_
  refine rq_ret rfl ⟨?_,(by show (AV.tup [aG p.types p.body (ptsF p),bv true]).pur = true;exact PurV.pf)⟩
  rw [if_pos hq]; rfl
def chkF (p : Prg) (f : Flows p.types (ptsF p)) : List Iss := if validF p = true then f.iss else []
theorem CheckI_c (p:Prg) (f:Flows p.types (ptsF p)) (hl:p.types.length ≤ 1048576) (hs:cntL p.body ≤ 1048576):PC Tryz.prog 67 [aPrg p] (fun r => r = sl cIss (chkF p f)):=by
 unfold chkF
 cases hv : validF p
 ·refine pc_start Tryz.func67 Tryz.ntmps67 ?_
  repeat' (first|(apply id_rw;(apply rx_callE (k := 104);rfl;(exact (by have := graphOf_c p hl hs;rw [if_neg (by simp [hv])] at this;exact this));exact Pur.pf;rfl))|refine stpb ?_|fail)
  (refine rq_le (Le.nilImm (d := 2) rfl) ?_; refine rq_ret rfl ?_)
  exact ⟨rfl,rfl⟩
 ·have w := WG.of_valid hv
  refine pc_start Tryz.func67 Tryz.ntmps67 ?_
  repeat' (first|(apply id_rw;first|(apply rx_callE (k := 104);rfl;(exact (by have := graphOf_c p hl hs;rw [if_pos hv] at this;exact this));exact Pur.pf;rfl)|(apply rx_callE (k := 111);rfl;exact issuesI_c p.types p.body (ptsF p) w f;exact Pur.pf;rfl))|refine stpb ?_|fail)
  exact rq_ret rfl ⟨rfl,(by (exact pur_sl _ _))⟩
def fstF (l : List Iss) : Iss × Bool := match l with | [] => (⟨0,0,0⟩,false) | x :: _ => (x,true)
instance : BoT Tryz.prog 4:=⟨by kernel_rfl⟩
theorem l3Set_c (x:Pnt):PC Tryz.prog 178 [aPnt x] (fun r => r = iv (setAt x)):=by
 refine pc_start Tryz.func178 Tryz.ntmps178 ?_
 repeat' (first|refine stpb ?_|(refine stp2 ?_ ?_ <;> intro hc hq <;> try (exfalso;omega))|(refine stp3 ?_ ?_ <;> intro hg hq <;> try (exfalso;omega))|refine stpr ?_|fail)
 all_goals (refine ⟨?_,rfl⟩; simp only [oneOf,AV.v.injEq,Value.bool.injEq,Value.int.injEq,true_and])
 all_goals grind [setAt]
theorem l3Use_c (ts:List Int) (x:Pnt) (v:Int) (h:0 ≤ v ∧ v < ts.length):PC Tryz.prog 174 [sl cI ts,aPnt x,iv v] (fun r => r = iv (useAt ts x v)):=by
 refine pc_start Tryz.func174 Tryz.ntmps174 ?_
 repeat' (first|refine stpb ?_|(refine stp2 ?_ ?_ <;> intro hc hq <;> try (exfalso;omega))|(refine stp3 ?_ ?_ <;> intro hg hq <;> try (exfalso;omega))|refine stpr ?_|fail)
 all_goals (refine ⟨?_,rfl⟩; simp only [oneOf,AV.v.injEq,Value.bool.injEq,Value.int.injEq,true_and])
 all_goals grind [useAt]
theorem l3Equal_c (a b:List Bool) (hab:a.length = b.length) (hl:a.length ≤ 1048576):PC Tryz.prog 234 [sl cB a,sl cB b] (fun r => r = bv (decide (a = b))):=by
 refine pc_start Tryz.func234 Tryz.ntmps234 ?_
 repeat' (first|refine stpb ?_|fail)
 refine aw_loopA (σ := Nat) [0,1] [] (fun k => [(5,iv (k : Int))]) (fun k => []) (fun k => k ≤ a.length ∧ ∀ i,i < k → a[i]! = b[i]!) (fun k => a.length - k) (0) ⟨by omega,by omega⟩ ?_
 intro k ⟨hk,hall⟩
 repeat' (first|refine stpb ?_|(refine stp2 ?_ ?_ <;> intro hc hq <;> try (exfalso;omega))|refine stpd ?_|refine stpr ?_|fail)
 ·refine ⟨?_, (by (rfl))⟩
  simp only [oneOf]
  have : a ≠ b := fun e => by subst e;exact absurd rfl ‹¬_›
  rw [decide_eq_false this]
 ·(refine ex3 (k + 1) (Le.renA []) ?_ ?_)
  ·refine ⟨by omega, fun i hi => ?_⟩
   by_cases h : i = k
   ·subst h;assumption
   ·exact hall i (by omega)
  ·try dsimp only
   omega
 ·refine ⟨?_, (by (rfl))⟩
  simp only [oneOf]
  have : a = b := ext_get hab fun i hi => hall i (by omega)
  rw [decide_eq_true this,decide_eq_true (by omega)]
theorem l3After_c (ts:List Int) (x:Pnt) (b:List Bool) (hb:b.length = ts.length) (hl:ts.length ≤ 6) (hs:setAt x < ts.length):PC Tryz.prog 232 [sl cI ts,aPnt x,sl cB b] (fun r => r = sl cB (aftB ts x b)):=by
 refine pc_start Tryz.func232 Tryz.ntmps232 ?_
 repeat' (first|refine stpb ?_|fail)
 refine aw_loopA (σ := Nat × List Bool) [0,4,7] [0] (fun k => [(8,iv (k.1 : Int))]) (fun k => [(2,some (flat cB k.2))]) (fun k => k.1 ≤ b.length ∧ k.2.length = b.length ∧ (∀ i,i < b.length → k.2[i]! = if i < k.1 ∧ useAt ts x i = 2 then false else b[i]!)) (fun k => b.length - k.1) (0,b) ⟨by omega,rfl,by intro i hi;rw [if_neg (by omega)]⟩ ?_
 rintro ⟨k,u⟩ ⟨hk,hul,hu⟩
 dsimp only at hk hul hu
 try dsimp only
 repeat' (first|(apply id_rw;(first|(apply rx_callE (k := 174);rfl;(apply l3Use_c <;> (omega));exact Pur.pf;rfl)|(apply rx_callE (k := 178);rfl;(apply l3Set_c);exact Pur.pf;rfl)))|refine stpb ?_|(refine stp2 ?_ ?_ <;> intro hc hq <;> try (exfalso;omega))|fail)
 ·(refine ex3 (k + 1, _) (Le.renA [(2, 2), (0, 0)]) ?_ ?_)
  ·refine ⟨(by show k + 1 ≤ b.length; omega), (by show (u.set k false).length = b.length; simp; omega), fun i hi => ?_⟩
   show (u.set k false)[i]! = if i < k + 1 ∧ _ then _ else _
   rw [set_get,hu i hi]; grind
  ·show b.length - (k + 1) < b.length - k;omega
 ·(refine ex3 (k + 1, _) (Le.renA [(2, 2), (0, 0)]) ?_ ?_)
  ·refine ⟨(by show k + 1 ≤ b.length; omega), hul, fun i hi => ?_⟩
   show u[i]! = if i < k + 1 ∧ _ then _ else _
   rw [hu i hi]; grind
  ·show b.length - (k + 1) < b.length - k;omega
 ·refine rq_le (Le.frzD (d := 6) (i := 2) rfl rfl) ?_
  refine rq_ret rfl ⟨?_,(by (exact pur_sl _ _))⟩
  have e : u.set (setAt x).toNat true = aftB ts x b := ext_get (by rw [aftB_len]; simp; omega) fun i hi => by
   rw [aftB_get _ _ _ _ (by simp at hi;omega),set_get,hu i (by simp at hi;omega)]
   grind
  simp only [oneOf,e,Nat.zero_add,sl,aftB_len]
 ·refine rq_le (Le.frzD (d := 6) (i := 2) rfl rfl) ?_
  refine rq_ret rfl ⟨?_,(by (exact pur_sl _ _))⟩
  have e : u = aftB ts x b := ext_get (by rw [aftB_len]; omega) fun i hi => by
   rw [aftB_get _ _ _ _ (by omega),hu i (by omega)]
   grind
  rw [e]
  simp only [oneOf,Nat.zero_add,sl,aftB_len]
theorem l3Join_c (o a:List Bool) (all:Bool) (ho:o.length = 0 ∨ o.length = a.length) (hl:a.length ≤ 1048576):PC Tryz.prog 233 [sl cB o,sl cB a,bv all] (fun r => r = sl cB (jnB o a all)):=by
 refine pc_start Tryz.func233 Tryz.ntmps233 ?_
 cases all
 ·repeat' (first | refine stpb ?_|fail)
  refine aw_loopA (σ := Nat × List Bool) [0,1,2,7] [] (fun k => [(8,iv (k.1 : Int))]) (fun k => [(1,some (flat cB k.2))]) (fun k => k.1 ≤ o.length ∧ k.2.length = a.length ∧ (∀ i,i < a.length → k.2[i]! = if i < k.1 then o[i]! || a[i]! else a[i]!)) (fun k => o.length - k.1) (0,a) ⟨by omega,rfl,by intro i hi;rw [if_neg (by omega)]⟩ ?_
  rintro ⟨k,u⟩ ⟨hk,hul,hu⟩
  dsimp only at hk hul hu
  try dsimp only
  repeat' (first|refine stpb ?_|(refine stp2 ?_ ?_ <;> intro hc hq <;> try (exfalso;omega))|(refine stp3 ?_ ?_ <;> intro hg hq <;> try (exfalso;omega))|fail)
  ·(refine ex3 (k + 1, _) (Le.renA [(1, 1)]) ?_ ?_)
   ·refine ⟨(by show k + 1 ≤ o.length; omega), (by show (u.set k a[k]!).length = a.length; simp; omega), fun i hi => ?_⟩
    show (u.set k a[k]!)[i]! = if i < k + 1 then _ else _
    rw [set_get,hu i hi]; grind
   ·show o.length - (k + 1) < o.length - k;omega
  ·(refine ex3 (k + 1, _) (Le.renA [(1, 1)]) ?_ ?_)
   ·refine ⟨(by show k + 1 ≤ o.length; omega), (by show (u.set k true).length = a.length; simp; omega), fun i hi => ?_⟩
    show (u.set k true)[i]! = if i < k + 1 then _ else _
    rw [set_get,hu i hi]; grind
   ·show o.length - (k + 1) < o.length - k;omega
  ·refine rq_le (Le.frzD (d := 6) (i := 1) rfl rfl) ?_
   refine rq_ret rfl ⟨?_,(by (exact pur_sl _ _))⟩
   have e : u = jnB o a false := ext_get (by rw [jnB_len]; omega) fun i hi => by
    rw [jnB_get _ _ _ _ (by omega),hu i (by omega)]
    grind
   rw [e]
   simp only [oneOf,Nat.zero_add,sl,jnB_len]
 ·repeat' (first | refine stpb ?_|fail)
  refine aw_loopA (σ := Nat × List Bool) [0,1,2,7] [] (fun k => [(8,iv (k.1 : Int))]) (fun k => [(1,some (flat cB k.2))]) (fun k => k.1 ≤ o.length ∧ k.2.length = a.length ∧ (∀ i,i < a.length → k.2[i]! = if i < k.1 then o[i]! && a[i]! else a[i]!)) (fun k => o.length - k.1) (0,a) ⟨by omega,rfl,by intro i hi;rw [if_neg (by omega)]⟩ ?_
  rintro ⟨k,u⟩ ⟨hk,hul,hu⟩
  dsimp only at hk hul hu
  try dsimp only
  repeat' (first|refine stpb ?_|(refine stp2 ?_ ?_ <;> intro hc hq <;> try (exfalso;omega))|(refine stp3 ?_ ?_ <;> intro hg hq <;> try (exfalso;omega))|fail)
  ·(refine ex3 (k + 1, _) (Le.renA [(1, 1)]) ?_ ?_)
   ·refine ⟨(by show k + 1 ≤ o.length; omega), (by show (u.set k a[k]!).length = a.length; simp; omega), fun i hi => ?_⟩
    show (u.set k a[k]!)[i]! = if i < k + 1 then _ else _
    rw [set_get,hu i hi]; grind
   ·show o.length - (k + 1) < o.length - k;omega
  ·(refine ex3 (k + 1, _) (Le.renA [(1, 1)]) ?_ ?_)
   ·refine ⟨(by show k + 1 ≤ o.length; omega), (by show (u.set k false).length = a.length; simp; omega), fun i hi => ?_⟩
    show (u.set k false)[i]! = if i < k + 1 then _ else _
    rw [set_get,hu i hi]; grind
   ·show o.length - (k + 1) < o.length - k;omega
  ·refine rq_le (Le.frzD (d := 6) (i := 1) rfl rfl) ?_
   refine rq_ret rfl ⟨?_,(by (exact pur_sl _ _))⟩
   have e : u = jnB o a true := ext_get (by rw [jnB_len]; omega) fun i hi => by
    rw [jnB_get _ _ _ _ (by omega),hu i (by omega)]
    grind
   rw [e]
   simp only [oneOf,Nat.zero_add,sl,jnB_len]
theorem l3Forward_c (p:Prg) (all:Bool) (A:List Nat) (hs:cntL p.body ≤ 1048576) (w:WG p.types (ptsF p)) (hr:Rch (ptsF p)) (hA:GoodF2 p.types (ptsF p) all A):PC Tryz.prog 172 [aPrg p,bv all] (fun r => r = sl cBB (rowsB p.types.length (ptsF p).length A)):=by
 have hpl := w.pl
 have hp0 := w.p0
 have htl := w.tl
 have hini := fw_init w all
 refine pc_start Tryz.func172 Tryz.ntmps172 ?_
 repeat' (first|(apply id_rw;first|(apply rx_callE (k := 62);rfl;exact l2Points_c p hs;exact Pur.pf;rfl)|(with_reducible apply rw_stop (d := 22)))|refine stpb ?_|fail)
 refine rw_go (rw_le ?_ (Le.nilRows (i := 0 + 1) rfl))
 repeat' (first|(apply id_rw;(apply rx_mkB (d := 26);rfl;rfl;omega;omega;rfl;rfl))|refine stpb ?_|fail)
 refine aw_loopA (σ := Fw × Nat) [1,2,5,6,7] [0] (fun s => [(8,.own 4 0 s.2 1)]) (fun s => [(1,some (flat cBB s.1.out)),(2,some (flat cB s.1.seen)),(4,some (flat cI s.1.work))]) (fun s => FI p.types (ptsF p) all s.1 ∧ FC p.types (ptsF p) all (fun _ => False) s.1 ∧ s.2 = s.1.work.length ∧ fwMu all p.types.length (ptsF p).length s.1 ≤ 10000) (fun s => fwMu all p.types.length (ptsF p).length s.1) (⟨(List.replicate (ptsF p).length []).set 0 (List.replicate p.types.length false),(List.replicate (ptsF p).length false).set 0 true,[0]⟩,1) ⟨hini.1,hini.2,rfl,by have := fwMu_bd all p.types.length (ptsF p).length ⟨(List.replicate (ptsF p).length []).set 0 (List.replicate p.types.length false),(List.replicate (ptsF p).length false).set 0 true,[0]⟩ htl hpl;simp only [List.length_singleton] at this;show fwMu all p.types.length (ptsF p).length ⟨(List.replicate (ptsF p).length []).set 0 (List.replicate p.types.length false),(List.replicate (ptsF p).length false).set 0 true,[0]⟩ ≤ 10000;omega⟩ ?_
 rintro ⟨⟨out,seen,work⟩,m⟩ ⟨hI,hC,hm,hmb⟩
 dsimp only at hI hC hm hmb
 have hlo := hI.lo
 have hls := hI.ls
 dsimp only at hlo hls
 cases work with
 | nil =>
  simp only [List.length_nil] at hm
  subst hm
  try dsimp only
  repeat' (first|refine stpb ?_|fail)
  refine rq_le (Le.frzD (d := 4) (i := 1) rfl rfl) ?_
  refine rq_ret rfl ⟨?_,(by (exact pur_sl _ _))⟩
  have e : out = rowsB p.types.length (ptsF p).length A := fw_final w hr hA hI hC rfl
  rw [e]
  simp only [oneOf,Nat.zero_add,sl,rowsB_len]
 | cons a q =>
  simp only [List.length_cons] at hm
  try dsimp only
  have hwa := hI.w a (List.mem_cons_self)
  have hon := hI.a a.toNat (by omega) hwa.2.2
  dsimp only at hwa hon
  have hset := (w.set a.toNat (by omega)).1
  repeat' (first|(apply id_rw;first|(with_reducible apply rw_stop (d := 8))|(apply rx_sliceOw;rfl;rfl;omega;rfl))|refine stpb ?_|(refine stp2 ?_ ?_ <;> intro hc hq <;> try (exfalso;omega))|fail)
  refine rw_go (rw_le ?_ (Le.mvO (d := 38) (i := 4) rfl rfl (by simp [flat_length]) (by decide)))
  have hmw := fwMu_wk all p.types.length (ptsF p).length ⟨out,seen,a :: q⟩
  simp only [List.length_cons] at hmw
  have hpop := fw_pop hI hC
  have hT := fw_hT hI hwa.2.2
  dsimp only at hT
  have hal : (aftB p.types (ptsF p)[a.toNat]! out[a.toNat]!).length = p.types.length := by rw [aftB_len]; exact hon
  repeat' (first|(apply id_rw;(apply rx_callE (k := 232);rfl;(apply l3After_c <;> (assumption));exact Pur.pf;rfl))|refine stpb ?_|refine stpd ?_|fail)
  refine aw_loopA (σ := Nat × Fw × Nat) [1,2,5,6,7,9,10] [0] (fun k => [(11,iv (k.1 : Int)),(8,.own 5 0 k.2.2 1)]) (fun k => [(1,some (flat cBB k.2.1.out)),(2,some (flat cB k.2.1.seen)),(5,some (flat cI k.2.1.work))]) (fun k => k.1 ≤ (ptsF p)[a.toNat]!.next.length ∧ FIn p.types (ptsF p) all a.toNat (aftB p.types (ptsF p)[a.toNat]! out[a.toNat]!) (fwMu all p.types.length (ptsF p).length ⟨out,seen,a :: q⟩ - 1) k.1 k.2.1 ∧ k.2.2 = k.2.1.work.length) (fun k => (ptsF p)[a.toNat]!.next.length - k.1) (0,⟨out,seen,q⟩,m - 1) ⟨by omega,hpop,by show m - 1 = q.length;omega⟩ ?_
  rintro ⟨k,⟨o2,s2,w2⟩,m2⟩ ⟨hk,hF,hm2⟩
  dsimp only at hk hF hm2
  try dsimp only
  have hnl := w.nl a.toNat (by omega)
  have hlo2 := hF.I.lo
  have hls2 := hF.I.ls
  have hmu2 := hF.mu
  have hmw2 := fwMu_wk all p.types.length (ptsF p).length ⟨o2,s2,w2⟩
  dsimp only at hlo2 hls2 hmw2
  by_cases hkn : k < (ptsF p)[a.toNat]!.next.length
  ·have hz := w.nx a.toNat (by omega) _ (getB_mem _ _ hkn)
   have hst := hF.step w (by omega) hkn hal hT
   by_cases hsn : s2[((ptsF p)[a.toNat]!.next[k]!).toNat]! = true
   ·have hol := hF.I.a _ (by omega) hsn
    dsimp only at hol
    have hab : (o2[((ptsF p)[a.toNat]!.next[k]!).toNat]!).length = (jnB o2[((ptsF p)[a.toNat]!.next[k]!).toNat]! (aftB p.types (ptsF p)[a.toNat]! out[a.toNat]!) all).length := by rw [jnB_len]; omega
    have ho : (o2[((ptsF p)[a.toNat]!.next[k]!).toNat]!).length = 0 ∨ (o2[((ptsF p)[a.toNat]!.next[k]!).toNat]!).length = (aftB p.types (ptsF p)[a.toNat]! out[a.toNat]!).length := .inr (by omega)
    repeat' (first|(apply id_rw;first|(apply rx_buildSliceI (t := _);rfl;rfl;rfl;exact (rfl:_=some [_]);rfl;rfl)|(first|(apply rx_callE (k := 233);rfl;(apply l3Join_c <;> (first|assumption|omega));exact Pur.pf;rfl)|(apply rx_callE (k := 234);rfl;(apply l3Equal_c <;> (first|assumption|omega));exact Pur.pf;rfl)))|refine stpb ?_|(refine stp2 ?_ ?_ <;> intro hc hq <;> try (exfalso;omega))|(refine stp3 ?_ ?_ <;> intro hg hq <;> try (exfalso;omega))|fail)
    all_goals try exact absurd (hsn.symm.trans (by assumption : s2[((ptsF p)[a.toNat]!.next[k]!).toNat]! = false)) (by decide)
    ·have e9 : fwP all (aftB p.types (ptsF p)[a.toNat]! out[a.toNat]!) ⟨o2, s2, w2⟩ ((ptsF p)[a.toNat]!.next[k]!).toNat = ⟨o2.set ((ptsF p)[a.toNat]!.next[k]!).toNat (jnB o2[((ptsF p)[a.toNat]!.next[k]!).toNat]! (aftB p.types (ptsF p)[a.toNat]! out[a.toNat]!) all), s2.set ((ptsF p)[a.toNat]!.next[k]!).toNat true, w2 ++ [((ptsF p)[a.toNat]!.next[k]!)]⟩ := by
      unfold fwP
      rw [if_neg (fun h => absurd h.2 ‹_›),Int.toNat_of_nonneg hz.1]
     rw [e9] at hst
     (refine ex3 (k + 1,⟨_,_,_⟩,_) (Le.renA [(0,0),(1,1),(2,2),(5,7)]) ?_ ?_)
     ·exact ⟨(by show k + 1 ≤ (ptsF p)[a.toNat]!.next.length;omega),hst,(by show m2 + 1 = (w2 ++ [((ptsF p)[a.toNat]!.next[k]!)]).length;rw [List.length_append,List.length_singleton]; omega)⟩
     ·show (ptsF p)[a.toNat]!.next.length - (k + 1) < (ptsF p)[a.toNat]!.next.length - k;omega
    ·have e9 : fwP all (aftB p.types (ptsF p)[a.toNat]! out[a.toNat]!) ⟨o2, s2, w2⟩ ((ptsF p)[a.toNat]!.next[k]!).toNat = ⟨o2, s2, w2⟩ := by
      unfold fwP
      rw [if_pos ⟨hsn,‹_›⟩]
     rw [e9] at hst
     (refine ex3 (k + 1,⟨o2,s2,w2⟩,m2) (Le.renA [(0,0),(1,1),(2,2),(5,5)]) ?_ ?_)
     ·exact ⟨(by show k + 1 ≤ (ptsF p)[a.toNat]!.next.length;omega),hst,hm2⟩
     ·show (ptsF p)[a.toNat]!.next.length - (k + 1) < (ptsF p)[a.toNat]!.next.length - k;omega
   ·rw [Bool.not_eq_true] at hsn
    have hol := hF.I.b _ (by omega) hsn
    dsimp only at hol
    have ho : (o2[((ptsF p)[a.toNat]!.next[k]!).toNat]!).length = 0 ∨ (o2[((ptsF p)[a.toNat]!.next[k]!).toNat]!).length = (aftB p.types (ptsF p)[a.toNat]! out[a.toNat]!).length := .inl (by rw [hol]; rfl)
    repeat' (first|(apply id_rw;first|(apply rx_buildSliceI (t := _);rfl;rfl;rfl;exact (rfl:_=some [_]);rfl;rfl)|(first|(apply rx_callE (k := 233);rfl;(apply l3Join_c <;> (first|assumption|omega));exact Pur.pf;rfl)|(apply rx_callE (k := 234);rfl;(apply l3Equal_c <;> (first|omega|grind));exact Pur.pf;rfl)))|refine stpb ?_|(refine stp2 ?_ ?_ <;> intro hc hq <;> try (exfalso;omega))|(refine stp3 ?_ ?_ <;> intro hg hq <;> try (exfalso;omega))|fail)
    all_goals try exact absurd (hsn.symm.trans (by assumption : s2[((ptsF p)[a.toNat]!.next[k]!).toNat]! = true)) (by decide)
    ·have e9 : fwP all (aftB p.types (ptsF p)[a.toNat]! out[a.toNat]!) ⟨o2, s2, w2⟩ ((ptsF p)[a.toNat]!.next[k]!).toNat = ⟨o2.set ((ptsF p)[a.toNat]!.next[k]!).toNat (jnB o2[((ptsF p)[a.toNat]!.next[k]!).toNat]! (aftB p.types (ptsF p)[a.toNat]! out[a.toNat]!) all), s2.set ((ptsF p)[a.toNat]!.next[k]!).toNat true, w2 ++ [((ptsF p)[a.toNat]!.next[k]!)]⟩ := by
      unfold fwP
      rw [if_neg (fun h => by rw [hsn] at h;cases h.1),Int.toNat_of_nonneg hz.1]
     rw [e9] at hst
     (refine ex3 (k + 1,⟨_,_,_⟩,_) (Le.renA [(0,0),(1,1),(2,2),(5,7)]) ?_ ?_)
     ·exact ⟨(by show k + 1 ≤ (ptsF p)[a.toNat]!.next.length;omega),hst,(by show m2 + 1 = (w2 ++ [((ptsF p)[a.toNat]!.next[k]!)]).length;rw [List.length_append,List.length_singleton]; omega)⟩
     ·show (ptsF p)[a.toNat]!.next.length - (k + 1) < (ptsF p)[a.toNat]!.next.length - k;omega
  ·repeat' (first | refine stpb ?_ | (refine stp2 ?_ ?_ <;> intro hc hq <;> try (exfalso; omega))|fail)
   (refine ex3 (⟨o2,s2,w2⟩,m2) (Le.renA [(0,0),(1,1),(2,2),(4,5)]) ?_ ?_)
   ·exact ⟨hF.I,hF.out (by omega),hm2,(by show fwMu all p.types.length (ptsF p).length ⟨o2,s2,w2⟩ ≤ 10000;omega)⟩
   ·show fwMu all p.types.length (ptsF p).length ⟨o2,s2,w2⟩ < fwMu all p.types.length (ptsF p).length ⟨out,seen,a :: q⟩; omega
theorem l4Accesses_c (ts:List Int) (x:Pnt) (mb:List Bool) (htl:ts.length ≤ 6) (hmb:mb.length = ts.length) (hst:setAt x < ts.length) (hy:0 ≤ x.y ∧ (3 ≤ x.op → x.op ≤ 7 → x.y < ts.length)):PC Tryz.prog 175 [sl cI ts,aPnt x,sl cB mb] (fun r => r = sl cAcc (accF ts x mb[(setAt x).toNat]!)):=by
 have hu : x.op = 3 → (useAt ts x x.y = 2 ↔ tkT ts[x.y.toNat]! = true) := by
  intro h
  unfold useAt tkT;rw [if_pos h,if_pos rfl]; grind
 refine pc_start Tryz.func175 Tryz.ntmps175 ?_
 repeat' (first|(apply id_rw;(first|(apply rx_callE (k := 174);rfl;(apply l3Use_c <;> (omega));exact Pur.pf;rfl)|(apply rx_callE (k := 178);rfl;(apply l3Set_c);exact Pur.pf;rfl)))|refine stpb ?_|(refine stp2 ?_ ?_ <;> intro hc hq <;> try (exfalso;omega))|(refine stp3 ?_ ?_ <;> intro hg hq <;> try (exfalso;omega))|fail)
 all_goals first|refine rq_le (Le.frzD (d := 6) (i := 1) rfl rfl) ?_|refine rq_le (Le.frzD (d := 6) (i := 3) rfl rfl) ?_|refine rq_le (Le.frzD (d := 6) (i := 5) rfl rfl) ?_
 all_goals refine rq_ret rfl ⟨?_,(by (rfl))⟩
 all_goals simp only [oneOf,accF]
 all_goals (repeat' split)
 all_goals first|rfl|(exfalso;grind)
theorem l4Conflicts_c (pts:List Pnt) (acs:List Acc) (fr:List (List Bool)) (pl lv:List Bool) (hpl:pts.length ≤ 61) (hac:acs.length ≤ 6) (h1:pl.length = pts.length) (h2:lv.length = pts.length):PC Tryz.prog 176 [sl cPnt pts,sl cAcc acs,.agg [sl cBB fr,sl cB pl],sl cB lv] (fun r => r = sl cB (cfB pts acs pl lv)):=by
 refine pc_start Tryz.func176 Tryz.ntmps176 ?_
 repeat' (first|refine stpb ?_|fail)
 refine aw_loopA (σ := Nat × List Bool) [0,1,3,6,9] [0] (fun k => [(10,iv (k.1 : Int))]) (fun k => [(1,some (flat cB k.2))]) (fun k => k.1 ≤ pts.length ∧ k.2.length = pts.length ∧ (∀ l,l < pts.length → k.2[l]! = if l < k.1 then acs.any (cfg pts pl lv l) else false)) (fun k => pts.length - k.1) (0,List.replicate pts.length false) ⟨by omega,by simp,fun l hl => by rw [if_neg (by omega),rep_get _ _ _ hl]⟩ ?_
 rintro ⟨i,u⟩ ⟨hi,hul,hu⟩
 dsimp only at hi hul hu
 try dsimp only
 repeat' (first|refine stpb ?_|(refine stp2 ?_ ?_ <;> intro hc hq <;> try (exfalso;omega))|fail)
 ·have hin : i < pts.length := by omega
  refine aw_loopA (σ := Nat × List Bool) [0,1,3,6,9,10] [0] (fun k => [(11,iv (k.1 : Int))]) (fun k => [(1,some (flat cB k.2))]) (fun k => k.1 ≤ acs.length ∧ k.2.length = pts.length ∧ (∀ l,l < pts.length → k.2[l]! = if l < i then acs.any (cfg pts pl lv l) else if l = i then (acs.take k.1).any (cfg pts pl lv l) else false)) (fun k => acs.length - k.1) (0,u) ⟨by omega,hul,fun l hl => by rw [hu l hl]; simp⟩ ?_
  rintro ⟨j,s⟩ ⟨hj,hsl,hs⟩
  dsimp only at hj hsl hs
  try dsimp only
  have hsi : s[i]! = (acs.take j).any (cfg pts pl lv i) := by rw [hs i hin]; simp
  have hst := fun h : j < acs.length => any_take (cfg pts pl lv i) acs j h
  have hcg : cfg pts pl lv i acs[j]! = (lv[i]! && pl[i]! && decide (pts[i]!.y = acs[j]!.var) && (acs[j]!.write || decide (pts[i]!.op = 5))) := rfl
  repeat' (first|refine stpb ?_|(refine stp2 ?_ ?_ <;> intro hc hq <;> try (exfalso;omega))|(refine stp3 ?_ ?_ <;> intro hg hq <;> try (exfalso;omega))|refine stpd ?_|fail)
  ·(refine ex3 (j + 1, _) (Le.renA [(0, 0), (1, 1)]) ?_ ?_)
   ·refine ⟨(by show j + 1 ≤ acs.length; omega), (by show (s.set i _).length = pts.length; rw [List.length_set]; exact hsl), fun l hl => ?_⟩
    show (s.set i _)[l]! = if l < i then _ else if l = i then (acs.take (j + 1)).any _ else false
    by_cases e : l = i
    ·rw [e, hst (by omega), hcg, set_get, if_pos ⟨rfl, by omega⟩, if_neg (Nat.lt_irrefl _), if_pos rfl, ← hsi]
     clear hs hu hst hsi hcg
     grind
    ·rw [set_get,if_neg (fun h => e h.1.symm),hs l hl,if_neg e,if_neg e]
   ·show acs.length - (j + 1) < acs.length - j;omega
  ·(refine ex3 (j + 1, _) (Le.renA [(0, 0), (1, 1)]) ?_ ?_)
   ·refine ⟨(by show j + 1 ≤ acs.length; omega), (by show (s.set i _).length = pts.length; rw [List.length_set]; exact hsl), fun l hl => ?_⟩
    show (s.set i _)[l]! = if l < i then _ else if l = i then (acs.take (j + 1)).any _ else false
    by_cases e : l = i
    ·rw [e, hst (by omega), hcg, set_get, if_pos ⟨rfl, by omega⟩, if_neg (Nat.lt_irrefl _), if_pos rfl, ← hsi]
     clear hs hu hst hsi hcg
     grind
    ·rw [set_get,if_neg (fun h => e h.1.symm),hs l hl,if_neg e,if_neg e]
   ·show acs.length - (j + 1) < acs.length - j;omega
  ·(refine ex3 (j + 1, _) (Le.renA [(0, 0), (1, 1)]) ?_ ?_)
   ·refine ⟨(by show j + 1 ≤ acs.length; omega), (by show (s.set i _).length = pts.length; rw [List.length_set]; exact hsl), fun l hl => ?_⟩
    show (s.set i _)[l]! = if l < i then _ else if l = i then (acs.take (j + 1)).any _ else false
    by_cases e : l = i
    ·rw [e, hst (by omega), hcg, set_get, if_pos ⟨rfl, by omega⟩, if_neg (Nat.lt_irrefl _), if_pos rfl, ← hsi]
     clear hs hu hst hsi hcg
     grind
    ·rw [set_get,if_neg (fun h => e h.1.symm),hs l hl,if_neg e,if_neg e]
   ·show acs.length - (j + 1) < acs.length - j;omega
  ·(refine ex3 (j + 1, _) (Le.renA [(0, 0), (1, 1)]) ?_ ?_)
   ·refine ⟨(by show j + 1 ≤ acs.length; omega), (by show (s.set i _).length = pts.length; rw [List.length_set]; exact hsl), fun l hl => ?_⟩
    show (s.set i _)[l]! = if l < i then _ else if l = i then (acs.take (j + 1)).any _ else false
    by_cases e : l = i
    ·rw [e, hst (by omega), hcg, set_get, if_pos ⟨rfl, by omega⟩, if_neg (Nat.lt_irrefl _), if_pos rfl, ← hsi]
     clear hs hu hst hsi hcg
     grind
    ·rw [set_get,if_neg (fun h => e h.1.symm),hs l hl,if_neg e,if_neg e]
   ·show acs.length - (j + 1) < acs.length - j;omega
  ·(refine ex3 (j + 1, _) (Le.renA [(0, 0), (1, 1)]) ?_ ?_)
   ·refine ⟨(by show j + 1 ≤ acs.length; omega), (by show (s.set i _).length = pts.length; rw [List.length_set]; exact hsl), fun l hl => ?_⟩
    show (s.set i _)[l]! = if l < i then _ else if l = i then (acs.take (j + 1)).any _ else false
    by_cases e : l = i
    ·rw [e, hst (by omega), hcg, set_get, if_pos ⟨rfl, by omega⟩, if_neg (Nat.lt_irrefl _), if_pos rfl, ← hsi]
     clear hs hu hst hsi hcg
     grind
    ·rw [set_get,if_neg (fun h => e h.1.symm),hs l hl,if_neg e,if_neg e]
   ·show acs.length - (j + 1) < acs.length - j;omega
  ·(refine ex3 (j + 1, _) (Le.renA [(0, 0), (1, 1)]) ?_ ?_)
   ·refine ⟨(by show j + 1 ≤ acs.length; omega), (by show (s.set i _).length = pts.length; rw [List.length_set]; exact hsl), fun l hl => ?_⟩
    show (s.set i _)[l]! = if l < i then _ else if l = i then (acs.take (j + 1)).any _ else false
    by_cases e : l = i
    ·rw [e, hst (by omega), hcg, set_get, if_pos ⟨rfl, by omega⟩, if_neg (Nat.lt_irrefl _), if_pos rfl, ← hsi]
     clear hs hu hst hsi hcg
     grind
    ·rw [set_get,if_neg (fun h => e h.1.symm),hs l hl,if_neg e,if_neg e]
   ·show acs.length - (j + 1) < acs.length - j;omega
  ·(refine ex3 (j + 1, _) (Le.renA [(0, 0), (1, 1)]) ?_ ?_)
   ·refine ⟨(by show j + 1 ≤ acs.length; omega), (by show (s.set i _).length = pts.length; rw [List.length_set]; exact hsl), fun l hl => ?_⟩
    show (s.set i _)[l]! = if l < i then _ else if l = i then (acs.take (j + 1)).any _ else false
    by_cases e : l = i
    ·rw [e, hst (by omega), hcg, set_get, if_pos ⟨rfl, by omega⟩, if_neg (Nat.lt_irrefl _), if_pos rfl, ← hsi]
     clear hs hu hst hsi hcg
     grind
    ·rw [set_get,if_neg (fun h => e h.1.symm),hs l hl,if_neg e,if_neg e]
   ·show acs.length - (j + 1) < acs.length - j;omega
  ·(refine ex3 (j + 1, _) (Le.renA [(0, 0), (1, 1)]) ?_ ?_)
   ·refine ⟨(by show j + 1 ≤ acs.length; omega), (by show (s.set i _).length = pts.length; rw [List.length_set]; exact hsl), fun l hl => ?_⟩
    show (s.set i _)[l]! = if l < i then _ else if l = i then (acs.take (j + 1)).any _ else false
    by_cases e : l = i
    ·rw [e, hst (by omega), hcg, set_get, if_pos ⟨rfl, by omega⟩, if_neg (Nat.lt_irrefl _), if_pos rfl, ← hsi]
     clear hs hu hst hsi hcg
     grind
    ·rw [set_get,if_neg (fun h => e h.1.symm),hs l hl,if_neg e,if_neg e]
   ·show acs.length - (j + 1) < acs.length - j;omega
  ·(refine ex3 (i + 1, s) (Le.renA [(0, 0), (1, 1)]) ?_ ?_)
   ·refine ⟨(by show i + 1 ≤ pts.length; omega), hsl, fun l hl => ?_⟩
    show s[l]! = if l < i + 1 then _ else _
    rw [hs l hl,List.take_of_length_le (by omega)]
    clear hs hu
    grind
   ·show pts.length - (i + 1) < pts.length - i;omega
 ·refine rq_le (Le.frzD (d := 8) (i := 1) rfl rfl) ?_
  refine rq_ret rfl ⟨?_,(by (exact pur_sl _ _))⟩
  have e : u = cfB pts acs pl lv := ext_get (by rw [cfB_len, hul]) fun l hl => by
   rw [cfB_get _ _ _ _ _ (by omega),hu l (by omega),if_pos (by omega)]
  rw [e]
  simp only [oneOf,Nat.zero_add,sl,cfB_len]
theorem rx_l4Add {a b:List Bool}{m:Nat}{N:Nat}{Q:Exit → AS → Prop}{all:Array Oper}{rest:List Oper}{tsl:List (Nat × AV)}{hsl:List (Nat × Option (List AV))}{nidl:Nat}{z0:Lo}{md:Md}{d:Nat}{ty:TypeId}{pos:String}{af:Array Edge}{tys:Array TypeId}{x0 x1:Operand}{i0:Nat}(ha0:ev (lk tsl) x0 = some (.own i0 0 m 1)) (ha1:ev (lk tsl) x1 = some (sl cB b)) (hH0:lkH hsl i0 = some (flat cB a)) (hmc:MC Tryz.prog 238 [.own 0 0 m 1,sl cB b] [(0,some (flat cB a))] 1 (fun _:Unit => True) (fun _ => .tup []) (fun _ => [(0,some (flat cB (addB a b)))])) (hM:Nat.ble (nidl + 0) big = true) (hN:Nat.blt d N = true){md':Md}[hmd:MdA md (rOs [x0,x1] ++ [.inr i0]) (List.map Sum.inr (List.map Prod.fst ([(i0,some (flat cB (addB a b)))]:List (Nat × Option (List AV)))) ++ [.inl d]) md'] (kk:RW Tryz.prog N all Q md' rest ⟨(d,.tup []) :: tsl,wrH hsl [(i0,some (flat cB (addB a b)))],nidl + 0,z0⟩):RW Tryz.prog N all Q md (⟨some d,.call ⟨.value (.func 238),#[x0,x1],tys⟩,ty,pos,af,none⟩ :: rest) ⟨tsl,hsl,nidl,z0⟩:=by
 exact rx_mcallA (l := [x0,x1]) [i0] 1 [(i0,some (flat cB (addB a b)))] hmc (avs := [.own i0 0 m 1,sl cB b]) (by simp only [evL,ha0,ha1]) rfl hM hN (md' := md') (hmd := hmd) kk
theorem l4Add_c (a b:List Bool) (m:Nat) (hm:m = a.length) (hab:b.length ≤ a.length) (hl:a.length ≤ 1048576):MC Tryz.prog 238 [.own 0 0 m 1,sl cB b] [(0,some (flat cB a))] 1 (fun _:Unit => True) (fun _ => .tup []) (fun _ => [(0,some (flat cB (addB a b)))]):=by
 subst hm
 refine mc_start Tryz.func238 Tryz.ntmps238 ?_
 repeat' (first|refine stpb ?_|fail)
 refine aw_loopA (σ := Nat × List Bool) [0,1] [] (fun k => [(4,iv (k.1 : Int))]) (fun k => [(0,some (flat cB k.2))]) (fun k => k.1 ≤ b.length ∧ k.2.length = a.length ∧ (∀ l,l < a.length → k.2[l]! = (a[l]! || (decide (l < k.1) && b[l]!)))) (fun k => b.length - k.1) (0,a) ⟨by omega,rfl,fun l hl => by simp⟩ ?_
 rintro ⟨k,u⟩ ⟨hk,hul,hu⟩
 dsimp only at hk hul hu
 try dsimp only
 repeat' (first|refine stpb ?_|(refine stp2 ?_ ?_ <;> intro hc hq <;> try (exfalso;omega))|(refine stp3 ?_ ?_ <;> intro hg hq <;> try (exfalso;omega))|fail)
 ·(refine ex3 (k + 1, _) (Le.renA []) ?_ ?_)
  ·refine ⟨(by show k + 1 ≤ b.length; omega), (by show (u.set k _).length = a.length; rw [List.length_set]; exact hul), fun l hl => ?_⟩
   show (u.set k _)[l]! = (a[l]! || (decide (l < k + 1) && b[l]!))
   have h1 := hu l hl
   have h2 := hu k (by omega)
   rw [set_get]
   clear hu
   grind
  ·show b.length - (k + 1) < b.length - k;omega
 ·(refine ex3 (k + 1, _) (Le.renA []) ?_ ?_)
  ·refine ⟨(by show k + 1 ≤ b.length; omega), (by show (u.set k _).length = a.length; rw [List.length_set]; exact hul), fun l hl => ?_⟩
   show (u.set k _)[l]! = (a[l]! || (decide (l < k + 1) && b[l]!))
   have h1 := hu l hl
   have h2 := hu k (by omega)
   rw [set_get]
   clear hu
   grind
  ·show b.length - (k + 1) < b.length - k;omega
 ·refine rq_end (l := []) rfl ?_
  refine mc_ret () trivial rfl ⟨sE ?_,trivial⟩
  have e : u = addB a b := ext_get (by rw [addB_len, hul]) fun l hl => by
   rw [addB_get _ _ _ (by omega),hu l (by omega)]
   clear hu
   grind
  rw [e]
theorem l4Live_c (ts:List Int) (x:Pnt) (fr:List (List Bool)) (pl lv:List Bool) (htl:ts.length ≤ 6) (hpl:pl.length ≤ 61) (h1:lv.length = ts.length) (h2:fr.length = ts.length) (h3:∀ v,v < ts.length → fr[v]!.length = pl.length):PC Tryz.prog 177 [sl cI ts,aPnt x,.agg [sl cBB fr,sl cB pl],sl cB lv] (fun r => r = sl cB (lvB ts x fr lv pl.length)):=by
 refine pc_start Tryz.func177 Tryz.ntmps177 ?_
 repeat' (first|refine stpb ?_|fail)
 refine aw_loopA (σ := Nat × List Bool) [0,3,5,6,9] [0,1] (fun k => [(10,iv (k.1 : Int))]) (fun k => [(2,some (flat cB k.2))]) (fun k => k.1 ≤ lv.length ∧ k.2.length = pl.length ∧ (∀ l,l < pl.length → k.2[l]! = (List.range k.1).any (lvG ts x fr lv l))) (fun k => lv.length - k.1) (0,List.replicate pl.length false) ⟨by omega,by simp,fun l hl => by rw [rep_get _ _ _ hl]; rfl⟩ ?_
 rintro ⟨k,u⟩ ⟨hk,hul,hu⟩
 dsimp only at hk hul hu
 try dsimp only
 by_cases hkn : k < lv.length
 ·have hrow := h3 k (by omega)
  have hst : ∀ l,(List.range (k + 1)).any (lvG ts x fr lv l) = ((List.range k).any (lvG ts x fr lv l) || lvG ts x fr lv l k) := fun l => by rw [List.range_succ,List.any_append]; simp
  repeat' (first|(apply id_rw;(first|(apply rx_callE (k := 174);rfl;(apply l3Use_c <;> (omega));exact Pur.pf;rfl)|(apply rx_callE (k := 178);rfl;(apply l3Set_c);exact Pur.pf;rfl)|(apply rx_l4Add;rfl;rfl;(rfl);(apply l4Add_c <;> (omega));rfl;rfl)))|refine stpb ?_|(refine stp2 ?_ ?_ <;> intro hc hq <;> try (exfalso;omega))|(refine stp3 ?_ ?_ <;> intro hg hq <;> try (exfalso;omega))|fail)
  ·(refine ex3 (k + 1, _) (Le.renA [(0, 0), (1, 1), (2, 2)]) ?_ ?_)
   ·refine ⟨(by show k + 1 ≤ lv.length; omega), (by show (addB u fr[k]!).length = pl.length; rw [addB_len]; exact hul), fun l hl => ?_⟩
    show (addB u fr[k]!)[l]! = (List.range (k + 1)).any _
    rw [hst l,addB_get _ _ _ (by omega),hu l hl,decide_eq_true (by omega : l < fr[k]!.length)]
    clear hu hst h3
    unfold lvG
    grind
   ·show lv.length - (k + 1) < lv.length - k;omega
  ·(refine ex3 (k + 1, u) (Le.renA [(0, 0), (1, 1), (2, 2)]) ?_ ?_)
   ·refine ⟨(by show k + 1 ≤ lv.length; omega), hul, fun l hl => ?_⟩
    show u[l]! = (List.range (k + 1)).any _
    rw [hst l,hu l hl]
    clear hu hst h3
    have e : lvG ts x fr lv l k = false := by unfold lvG;grind
    rw [e,Bool.or_false]
   ·show lv.length - (k + 1) < lv.length - k;omega
  ·(refine ex3 (k + 1, u) (Le.renA [(0, 0), (1, 1), (2, 2)]) ?_ ?_)
   ·refine ⟨(by show k + 1 ≤ lv.length; omega), hul, fun l hl => ?_⟩
    show u[l]! = (List.range (k + 1)).any _
    rw [hst l,hu l hl]
    clear hu hst h3
    have e : lvG ts x fr lv l k = false := by unfold lvG;grind
    rw [e,Bool.or_false]
   ·show lv.length - (k + 1) < lv.length - k;omega
  ·(refine ex3 (k + 1, u) (Le.renA [(0, 0), (1, 1), (2, 2)]) ?_ ?_)
   ·refine ⟨(by show k + 1 ≤ lv.length; omega), hul, fun l hl => ?_⟩
    show u[l]! = (List.range (k + 1)).any _
    rw [hst l,hu l hl]
    clear hu hst h3
    have e : lvG ts x fr lv l k = false := by unfold lvG;grind
    rw [e,Bool.or_false]
   ·show lv.length - (k + 1) < lv.length - k;omega
 ·repeat' (first | refine stpb ?_ | (refine stp2 ?_ ?_ <;> intro hc hq <;> try (exfalso; omega))|fail)
  refine rq_le (Le.frzD (d := 8) (i := 2) rfl rfl) ?_
  refine rq_ret rfl ⟨?_,(by (exact pur_sl _ _))⟩
  have hkl : k = lv.length := by omega
  have e : u = lvB ts x fr lv pl.length := ext_get (by unfold lvB; simp; omega) fun l hl => by
   unfold lvB
   rw [mapR_get _ _ _ (by omega),hu l (by omega),hkl]
  have el : (lvB ts x fr lv pl.length).length = pl.length := by unfold lvB;simp
  rw [e]
  simp only [oneOf,Nat.zero_add,sl,el]
theorem allR_false {f:Nat → Bool}{n k:Nat}(h:k < n) (hf:f k = false):(List.range n).all f = false:=by
 rw [Bool.eq_false_iff]; intro hc
 rw [List.all_eq_true] at hc
 have := hc k (List.mem_range.2 h)
 rw [hf] at this;cases this
theorem allR_succ {f:Nat → Bool}{k:Nat}:(List.range (k + 1)).all f = ((List.range k).all f && f k):=by
 rw [List.range_succ,List.all_append]; simp
theorem l4Within_c (fa fb:List (List Bool)) (pa pb:List Bool) (hpl:pa.length ≤ 61) (hfl:fa.length ≤ 6) (h1:pb.length = pa.length) (h2:fb.length = fa.length) (h3:∀ v,v < fa.length → fa[v]!.length = pa.length) (h4:∀ v,v < fa.length → fb[v]!.length = pa.length):PC Tryz.prog 237 [.agg [sl cBB fa,sl cB pa],.agg [sl cBB fb,sl cB pb]] (fun r => r = bv (wiB fa fb pa pb)):=by
 refine pc_start Tryz.func237 Tryz.ntmps237 ?_
 repeat' (first|refine stpb ?_|fail)
 refine aw_loopA (σ := Nat) [2,3] [0,1] (fun k => [(5,iv (k : Int))]) (fun k => []) (fun k => k ≤ pa.length ∧ (List.range k).all (wiI fa fb pa pb) = true) (fun k => pa.length - k) (0) ⟨by omega,rfl⟩ ?_
 rintro i ⟨hi,hall⟩
 try dsimp only
 repeat' (first|refine stpb ?_|(refine stp2 ?_ ?_ <;> intro hc hq <;> try (exfalso;omega))|(refine stp3 ?_ ?_ <;> intro hg hq <;> try (exfalso;omega))|fail)
 ·refine rq_ret rfl ⟨?_, (by (rfl))⟩
  have e2 : wiI fa fb pa pb i = false := by unfold wiI;grind
  have e3 : wiB fa fb pa pb = false := allR_false (by omega : i < pa.length) e2
  simp only [oneOf]
  rw [e3]
 ·have hin : i < pa.length := by omega
  have hpp : (!pa[i]! || pb[i]!) = true := by grind
  refine aw_loopA (σ := Nat) [2,3,5] [0,1] (fun j => [(6,iv (j : Int))]) (fun j => []) (fun j => j ≤ fa.length ∧ (List.range j).all (wiV fa fb i) = true) (fun j => fa.length - j) (0) ⟨by omega,rfl⟩ ?_
  rintro j ⟨hj,hj2⟩
  try dsimp only
  by_cases hjn : j < fa.length
  ·have r1 := h3 j hjn
   have r2 := h4 j hjn
   repeat' (first|refine stpb ?_|(refine stp2 ?_ ?_ <;> intro hc hq <;> try (exfalso;omega))|(refine stp3 ?_ ?_ <;> intro hg hq <;> try (exfalso;omega))|fail)
   ·refine rq_ret rfl ⟨?_, (by (rfl))⟩
    have e1 : wiV fa fb i j = false := by unfold wiV;grind
    have e2 : wiI fa fb pa pb i = false := by unfold wiI;rw [allR_false hjn e1,Bool.and_false]
    have e3 : wiB fa fb pa pb = false := allR_false hin e2
    simp only [oneOf]
    rw [e3]
   ·(refine ex3 (j + 1) (Le.renA [(0, 0), (1, 1)]) ?_ ?_)
    ·refine ⟨by omega, ?_⟩
     rw [allR_succ,hj2]; unfold wiV;grind
    ·omega
   ·(refine ex3 (j + 1) (Le.renA [(0, 0), (1, 1)]) ?_ ?_)
    ·refine ⟨by omega, ?_⟩
     rw [allR_succ,hj2]; unfold wiV;grind
    ·omega
  ·have hje : j = fa.length := by omega
   have e2 : wiI fa fb pa pb i = true := by unfold wiI;rw [hpp,← hje,hj2]; rfl
   repeat' (first|refine stpb ?_|(refine stp2 ?_ ?_ <;> intro hc hq <;> try (exfalso;omega))|fail)
   (refine ex3 (i + 1) (Le.renA [(0,0),(1,1)]) ?_ ?_)
   ·refine ⟨by omega, ?_⟩
    rw [allR_succ,hall,e2]; rfl
   ·omega
 ·have hin : i < pa.length := by omega
  have hpp : (!pa[i]! || pb[i]!) = true := by grind
  refine aw_loopA (σ := Nat) [2,3,5] [0,1] (fun j => [(6,iv (j : Int))]) (fun j => []) (fun j => j ≤ fa.length ∧ (List.range j).all (wiV fa fb i) = true) (fun j => fa.length - j) (0) ⟨by omega,rfl⟩ ?_
  rintro j ⟨hj,hj2⟩
  try dsimp only
  by_cases hjn : j < fa.length
  ·have r1 := h3 j hjn
   have r2 := h4 j hjn
   repeat' (first|refine stpb ?_|(refine stp2 ?_ ?_ <;> intro hc hq <;> try (exfalso;omega))|(refine stp3 ?_ ?_ <;> intro hg hq <;> try (exfalso;omega))|fail)
   ·refine rq_ret rfl ⟨?_, (by (rfl))⟩
    have e1 : wiV fa fb i j = false := by unfold wiV;grind
    have e2 : wiI fa fb pa pb i = false := by unfold wiI;rw [allR_false hjn e1,Bool.and_false]
    have e3 : wiB fa fb pa pb = false := allR_false hin e2
    simp only [oneOf]
    rw [e3]
   ·(refine ex3 (j + 1) (Le.renA [(0, 0), (1, 1)]) ?_ ?_)
    ·refine ⟨by omega, ?_⟩
     rw [allR_succ,hj2]; unfold wiV;grind
    ·omega
   ·(refine ex3 (j + 1) (Le.renA [(0, 0), (1, 1)]) ?_ ?_)
    ·refine ⟨by omega, ?_⟩
     rw [allR_succ,hj2]; unfold wiV;grind
    ·omega
  ·have hje : j = fa.length := by omega
   have e2 : wiI fa fb pa pb i = true := by unfold wiI;rw [hpp,← hje,hj2]; rfl
   repeat' (first|refine stpb ?_|(refine stp2 ?_ ?_ <;> intro hc hq <;> try (exfalso;omega))|fail)
   (refine ex3 (i + 1) (Le.renA [(0,0),(1,1)]) ?_ ?_)
   ·refine ⟨by omega, ?_⟩
    rw [allR_succ,hall,e2]; rfl
   ·omega
 ·refine rq_ret rfl ⟨?_, (by (rfl))⟩
  have hie : i = pa.length := by omega
  have e3 : wiB fa fb pa pb = true := by unfold wiB;rw [← hie]; exact hall
  simp only [oneOf]
  rw [e3]
end Go.Proofs.YtjnhlgpbojggnaaGreatDoor
