/-
 A part of the proofs over this program: rules and contracts of its functions (the contracts).
-/
import Derived.Test.YtahdccneecdmmaaGreatJ4B06
set_option linter.unusedVariables false
set_option linter.unusedSimpArgs false
set_option maxHeartbeats 8000000
set_option maxRecDepth 4000
attribute [local irreducible] Go.AL.RW Go.AL.AW Go.AL.Stop
namespace Go.Proofs.YtahdccneecdmmaaGreat
open Go.AL Go.RowKit
theorem CW {xs : List AL.Stmt} {m : Nat} {s : AL.Stmt} (hm : m = xs.length) : ((flat bF xs).drop 0).take (m * 6) ++ ([iv s.op, iv s.x, iv s.y, iv s.n, sl bF s.th, sl bF s.el].drop 0).take (1 * 6) = flat bF (xs ++ [s]) := dR hm (by rw [mG]; rfl)
theorem Mg (c : Nat) (hc : c < 8) : PC Tryz.prog 190 [iv (c : Int)] (fun r => r = g9 smL[c]!) := by
 have hl : smL.length = 8 := rfl
 refine aC Tryz.func190 Tryz.ntmps190 ?_
 repeat' (first|(apply aH;(apply aM (cs := flat bF smL);rfl;rfl;rfl;rfl;rfl;rfl))|refine aE ?_|refine aF ?_|fail)
 exact aD (l := [g9 smL[c]!]) rfl ⟨rfl, Pur.pf⟩
theorem GN (n : Nat) (hn : n < 4096) : PC Tryz.prog 111 [iv (n : Int)] (fun r => r = bZ (qN n)) := by
 refine aC Tryz.func111 Tryz.ntmps111 ?_
 repeat' (first|refine aE ?_|refine aF ?_|fail)
 refine aI (σ := Nat × Nat × List AL.Stmt × Nat) [2, 3] [0, 1] (fun k => [(9, iv (k.1 : Int)), (0, iv (k.2.1 : Int))]) (fun k => [(3, some [.own 1 0 4 1, .own 2 0 k.2.2.2 6]), (2, some (flat bF k.2.2.1))]) (fun k => k.1 ≤ 4 ∧ k.2.1 ≤ 4096 ∧ k.2.2.1 ++ CA k.2.1 (4 - k.1) = (qN n).body ∧ k.2.2.2 = k.2.2.1.length ∧ k.2.2.2 = 2 + k.1) (fun k => 4 - k.1) (0, n, NL, 2) ⟨Nat.zero_le _, by show n ≤ 4096;omega, rfl, rfl, rfl⟩ ?_
 rintro ⟨k, m, B, bl⟩ ⟨hk, hm9, hB, hbl, hb2⟩
 dsimp only at hk hm9 hB hbl hb2 ⊢
 have hst := Mg (m % 8) (Nat.mod_lt _ (by decide))
 repeat' (first|(apply aH;first|(apply aA (k := 190);rfl;exact hst;(rfl);rfl)|(apply bT;rfl;rfl;rfl;rfl;rfl;(rw [aJ]; omega);(rfl);omega;omega;(exact CW (by (assumption)));rfl;rfl))|refine aE ?_|refine aF ?_|(refine aK ?_ ?_ <;> intro hc hq <;> try (exfalso;omega))|refine bO ?_|fail)
 ·(refine bC (k + 1, m / 8, B ++ [smL[m % 8]!], bl + 1) (Le.renA [(0, 0), (1, 1), (2, 5), (3, 3)]) ?_ ?_)
  ·refine ⟨by show k + 1 ≤ 4; omega, by show m / 8 ≤ 4096; omega, ?_, by show bl + 1 = (B ++ [_]).length; rw [List.length_append, hbl]; rfl, by show bl + 1 = 2 + (k + 1); omega⟩
   show (B ++ [smL[m % 8]!]) ++ CA (m / 8) (4 - (k + 1)) = _
   rw [← hB, show 4 - k = (4 - (k + 1)) + 1 by omega, CA, List.append_assoc]; rfl
  ·show 4 - (k + 1) < 4 - k;omega
 ·have e : B = (qN n).body := by rw [← hB, show 4 - k = 0 by omega, CA, List.append_nil]
  refine aU ((Le.frzC (j := 0) (i := 1) [] rfl rfl (by decide)).trans (Le.frzC (j := 0) (i := 2) [_] rfl rfl (by decide))) ?_
  rw [hbl, e]
  exact aD (l := [bZ (qN n)]) rfl ⟨rfl, Pur.pf⟩
theorem Li : PC Tryz.prog 162 [] (fun r => r = sl cI [1, 2, 3, 4]) := by
 refine aC Tryz.func162 Tryz.ntmps162 ?_
 repeat' (first|(apply aH;(apply aM (t := _);rfl;rfl;rfl;(exact (rfl:_=some [_, _, _, _]));rfl;rfl))|refine aE ?_|refine aF ?_|fail)
 exact aD rfl ⟨rfl, rfl⟩
theorem Gi : PC Tryz.prog 163 [] (fun r => r = sl bF smL) := by
 refine aC Tryz.func163 Tryz.ntmps163 ?_
 repeat' (first|(apply aH;(apply aM (cs := flat bF smL);rfl;rfl;rfl;rfl;rfl;rfl))|refine aE ?_|refine aF ?_|fail)
 exact aD rfl ⟨rfl, (by (rfl))⟩
theorem GI : PC Tryz.prog 164 [] (fun r => r = iv 4) := by
 refine aC Tryz.func164 Tryz.ntmps164 ?_
 repeat' (first|refine aE ?_|refine aF ?_|fail)
 exact aD rfl ⟨rfl, rfl⟩
theorem Fo : PC Tryz.prog 110 [] (fun r => r = iv 4096) := by
 refine aC Tryz.func110 Tryz.ntmps110 ?_
 repeat' (first|refine aE ?_|refine aF ?_|fail)
 exact aD rfl ⟨rfl, rfl⟩
theorem FF : PC Tryz.prog 112 [] (fun r => r = iv 4096) := by
 refine aC Tryz.func112 Tryz.ntmps112 ?_
 have hst : PC Tryz.prog 163 [] (fun r => r = .imm 8 (flat bF smL)) := Gi
 have hz := GI
 repeat' (first|refine aE ?_|refine aF ?_|fail)
 refine aI (σ := Nat × Nat) [] [] (fun k => [(2, iv (k.1 : Int)), (1, iv (k.2 : Int))]) (fun k => []) (fun k => k.1 ≤ 4 ∧ k.2 = 8 ^ k.1 ∧ k.2 ≤ 4096) (fun k => 4 - k.1) (0, 1) ⟨Nat.zero_le _, rfl, by decide⟩ ?_
 rintro ⟨k, m⟩ ⟨hk, hm, hm9⟩
 dsimp only at hk hm hm9 ⊢
 repeat' (first|(apply aH;first|(apply aA (k := 164);rfl;exact hz;(rfl);rfl)|(apply aA (k := 163);rfl;exact hst;(rfl);rfl))|refine aE ?_|refine aF ?_|(refine aK ?_ ?_ <;> intro hc hq <;> try (exfalso;omega))|fail)
 ·(refine bC (k + 1, m * 8) (Le.renA []) ?_ ?_)
  ·have h1 : 8 ^ k ≤ 8 ^ 3 := Nat.pow_le_pow_right (by decide) (by omega)
   exact ⟨by show k + 1 ≤ 4;omega, by show m * 8 = 8 ^ (k + 1);rw [hm, Nat.pow_succ], by show m * 8 ≤ 4096;omega⟩
  ·show 4 - (k + 1) < 4 - k;omega
 ·obtain rfl : k = 4 := by omega
  rw [hm]
  exact aD (l := [iv 4096]) rfl ⟨rfl, rfl⟩
theorem Lq (n : Nat) (hn : n < 4096) : PC Tryz.prog 92 [iv (n : Int)] (fun r => r = bZ (qN n)) := by
 have h8 : smL.length = 8 := rfl
 have hst := Gi
 have hty := Li
 have hz := GI
 refine aC Tryz.func92 Tryz.ntmps92 ?_
 repeat' (first|(apply aH;first|(apply aA (k := 162);rfl;exact hty;(rfl);rfl)|(apply aA (k := 163);rfl;exact hst;(rfl);rfl))|refine aE ?_|refine aF ?_|fail)
 refine aI (σ := Nat × Nat × List AL.Stmt × Nat) [2, 3, 4] [0] (fun k => [(5, iv (k.1 : Int)), (0, iv (k.2.1 : Int))]) (fun k => [(2, some [sl cI [1, 2, 3, 4], .own 1 0 k.2.2.2 6]), (1, some (flat bF k.2.2.1))]) (fun k => k.1 ≤ 4 ∧ k.2.1 ≤ 4096 ∧ k.2.2.1 ++ CA k.2.1 (4 - k.1) = (qN n).body ∧ k.2.2.2 = k.2.2.1.length ∧ k.2.2.2 = 2 + k.1) (fun k => 4 - k.1) (0, n, NL, 2) ⟨Nat.zero_le _, by show n ≤ 4096;omega, rfl, rfl, rfl⟩ ?_
 rintro ⟨k, m, B, bl⟩ ⟨hk, hm9, hB, hbl, hb2⟩
 dsimp only at hk hm9 hB hbl hb2 ⊢
 repeat' (first|(apply aH;first|(apply aA (k := 164);rfl;exact hz;(rfl);rfl)|(apply bT;rfl;rfl;rfl;rfl;rfl;(rw [aJ]; omega);(rfl);omega;omega;(exact CW (by (assumption)));rfl;rfl))|refine aE ?_|refine aF ?_|(refine aK ?_ ?_ <;> intro hc hq <;> try (exfalso;omega))|refine bO ?_|fail)
 ·(refine bC (k + 1, m / 8, B ++ [smL[m % 8]!], bl + 1) (Le.renA [(0, 0), (1, 4), (2, 2)]) ?_ ?_)
  ·refine ⟨by show k + 1 ≤ 4; omega, by show m / 8 ≤ 4096; omega, ?_, by show bl + 1 = (B ++ [_]).length; rw [List.length_append, hbl]; rfl, by show bl + 1 = 2 + (k + 1); omega⟩
   show (B ++ [smL[m % 8]!]) ++ CA (m / 8) (4 - (k + 1)) = _
   rw [← hB, show 4 - k = (4 - (k + 1)) + 1 by omega, CA, List.append_assoc]; rfl
  ·show 4 - (k + 1) < 4 - k;omega
 ·have e : B = (qN n).body := by rw [← hB, show 4 - k = 0 by omega, CA, List.append_nil]
  refine aU (Le.frzC (j := 0) (i := 1) [_] rfl rfl (by decide)) ?_
  rw [hbl, e]
  exact aD (l := [bZ (qN n)]) rfl ⟨rfl, Pur.pf⟩
theorem HT (n : Int) : PC Tryz.prog 45 [iv n] (fun r => r = if 0 ≤ n ∧ n < 4096 then .tup [bZ (qN n.toNat), bv true] else .tup [bZ ⟨[], []⟩, bv false]) := by
 have ht := Fo
 by_cases h : 0 ≤ n ∧ n < 4096
 ·obtain ⟨k, rfl⟩ : ∃ k : Nat, n = k := ⟨n.toNat, by omega⟩
  rw [if_pos h]
  have hp := GN k (by omega)
  refine aC Tryz.func45 Tryz.ntmps45 ?_
  repeat' (first|(apply aH;first|(apply aA (k := 110);rfl;exact ht;(rfl);rfl)|(apply aA (k := 111);rfl;exact hp;(rfl);rfl)|(apply aA (k := 54);rfl;(apply cX);(rfl);rfl))|refine aE ?_|refine aF ?_|(refine aK ?_ ?_ <;> intro hc hq <;> try (exfalso;omega))|fail)
  exact aD (l := [bZ (qN k), bv true]) rfl ⟨rfl, Pur.pf⟩
 ·rw [if_neg h]
  refine aC Tryz.func45 Tryz.ntmps45 ?_
  repeat' (first|(apply aH;first|(apply aA (k := 110);rfl;exact ht;(rfl);rfl)|(apply aA (k := 54);rfl;(apply cX);(rfl);rfl))|refine aE ?_|refine aF ?_|(refine aK ?_ ?_ <;> intro hc hq <;> try (exfalso;omega))|fail)
  exact aD (l := [bZ ⟨[], []⟩, bv false]) rfl ⟨rfl, Pur.pf⟩
def Dn (l : List Iss) : List AV := [sl dN l]
instance : FlT Dn 1 := ⟨fun _ => rfl⟩
instance : FE Dn (fun r => [sl dN r]) := ⟨fun _ => rfl⟩
instance (r : List Iss) : Pur (Dn r) := ⟨by show (AV.pur (sl dN r) && true) = true; rw [Bool.and_true]; exact a6 dN r⟩
theorem DG (p : Prg) (hv : bK p = false) (hl : p.types.length ≤ 1000000) (hs : bE p.body ≤ 1000000) : PC Tryz.prog 37 [bZ p] (fun r => r = .tup [iv 0, bv false]) := by
 have h3 := oC p hl (by omega)
 rw [hv] at h3
 refine aC Tryz.func37 Tryz.ntmps37 ?_
 repeat' (first|(apply aH;(apply aA (k := 39);rfl;exact h3;exact Pur.pf;rfl))|refine aE ?_|refine aF ?_|fail)
 exact aD rfl ⟨rfl, rfl⟩
theorem Hu (p : Prg) (A B C : List Iss) (b : Bool) (hv : bK p = true) (hl : p.types.length ≤ 1000000) (hs : bE p.body ≤ 1000000) (h1 : PC Tryz.prog 40 [bZ p] (fun r => r = sl dN A)) (h2 : PC Tryz.prog 41 [bZ p] (fun r => r = sl dN B))
  (h4 : PC Tryz.prog 70 [bZ p] (fun r => r = sl dN C)) (h5 : PC Tryz.prog 95 [bZ p, iv 3] (fun r => r = bv b)) : PC Tryz.prog 37 [bZ p] (fun r => r = .tup [iv (EH [A, B, C] : Int), bv b]) := by
 have h3 := oC p hl (by omega)
 rw [hv] at h3
 refine aC Tryz.func37 Tryz.ntmps37 ?_
 repeat' (first|(apply aH;first|(apply aA (k := 39);rfl;exact h3;exact Pur.pf;rfl)|(apply aA (k := 40);rfl;exact h1;exact Pur.pf;rfl)|(apply aA (k := 41);rfl;exact h2;exact Pur.pf;rfl)|(apply aA (k := 70);rfl;exact h4;exact Pur.pf;rfl))|refine aE ?_|refine aF ?_|refine bO ?_|fail)
 refine AW.le ?_ (Le.frzD (d := 16) (i := 1) (cs := flat Dn [A, B, C]) rfl rfl)
 have hLl : [A, B, C].length = 3 := rfl
 generalize [A, B, C] = L at *
 refine aI (σ := Nat × Nat) [1, 16, 17] [0] (fun k => [(18, iv (k.1 : Int)), (4, iv (k.2 : Int))]) (fun k => []) (fun k => k.1 ≤ 3 ∧ k.2 = EH (L.take k.1) ∧ k.2 ≤ k.1) (fun k => 3 - k.1) (0, 0) ⟨Nat.zero_le _, rfl, Nat.le_refl _⟩ ?_
 rintro ⟨k, c⟩ ⟨hk, hc0, hck⟩
 dsimp only at hk hc0 hck ⊢
 have hst : k < 3 → EH (L.take (k + 1)) = c + (if L[k]! = [] then 0 else 1) := fun h => by rw [b7 _ _ (by omega), FY, ← hc0]
 repeat' (first|(apply aH;(apply aA (k := 95);rfl;exact h5;exact Pur.pf;rfl))|refine aE ?_|refine aF ?_|(refine aK ?_ ?_ <;> intro hc hq <;> try (exfalso;omega))|fail)
 ·(refine bC (k + 1, c + 1) (Le.renA [(0, 0)]) ?_ ?_)
  ·refine ⟨by show k + 1 ≤ 3; omega, ?_, by show c + 1 ≤ k + 1; omega⟩
   show c + 1 = EH (L.take (k + 1))
   rw [hst (by omega), if_neg (fun e => by rw [e] at hq;simp at hq)]
  ·show 3 - (k + 1) < 3 - k;omega
 ·(refine bC (k + 1, c) (Le.renA [(0, 0)]) ?_ ?_)
  ·refine ⟨by show k + 1 ≤ 3; omega, ?_, by show c ≤ k + 1; omega⟩
   show c = EH (L.take (k + 1))
   rw [hst (by omega), if_pos (List.eq_nil_of_length_eq_zero (by omega))]; rfl
  ·show 3 - (k + 1) < 3 - k;omega
 ·have e : c = EH L := by rw [hc0, List.take_of_length_le (by omega)]
  rw [e]
  exact aD rfl ⟨rfl, rfl⟩
theorem Ik (A B C : List Iss) : EH [A, B, C] = (if 0 < A.length then 1 else 0) + (if 0 < B.length then 1 else 0) + (if 0 < C.length then 1 else 0) := by
 cases A <;> cases B <;> cases C <;> rfl
theorem DD (p : Prg) (hv : bK p = false) (hl : p.types.length ≤ 1000000) (hs : bE p.body ≤ 1000000) : PC Tryz.prog 38 [bZ p] (fun r => r = .tup [iv 0, bv false]) := by
 have h3 := gA p hl (by omega)
 rw [hv] at h3
 refine aC Tryz.func38 Tryz.ntmps38 ?_
 repeat' (first|(apply aH;(apply aA (k := 61);rfl;exact h3;exact Pur.pf;rfl))|refine aE ?_|refine aF ?_|fail)
 exact aD rfl ⟨rfl, rfl⟩
theorem HC (p : Prg) (A B C : List Iss) (b : Bool) (hv : bK p = true) (hl : p.types.length ≤ 1000000) (hs : bE p.body ≤ 1000000) (h1 : PC Tryz.prog 96 [bZ p] (fun r => r = sl dN A)) (h2 : PC Tryz.prog 97 [bZ p] (fun r => r = sl dN B))
  (h4 : PC Tryz.prog 98 [bZ p] (fun r => r = sl dN C)) (h5 : PC Tryz.prog 99 [bZ p, iv 3] (fun r => r = bv b)) : PC Tryz.prog 38 [bZ p] (fun r => r = .tup [iv (EH [A, B, C] : Int), bv b]) := by
 have h3 := gA p hl (by omega)
 rw [hv] at h3
 refine aC Tryz.func38 Tryz.ntmps38 ?_
 repeat' (first|(apply aH;first|(apply aA (k := 61);rfl;exact h3;exact Pur.pf;rfl)|(apply aA (k := 96);rfl;exact h1;exact Pur.pf;rfl)|(apply aA (k := 97);rfl;exact h2;exact Pur.pf;rfl)|(apply aA (k := 98);rfl;exact h4;exact Pur.pf;rfl)|(apply aA (k := 99);rfl;exact h5;exact Pur.pf;rfl))|refine aE ?_|refine aF ?_|(refine aK ?_ ?_ <;> intro hc hq <;> try (exfalso;omega))|fail)
 all_goals (refine aD rfl ⟨?_, rfl⟩; simp only [aN]; rw [Ik]; split <;> split <;> split <;> first|(exfalso;omega)|rfl)
theorem lJ (n : Nat) : bE (qN n).body ≤ 1000000 ∧ (qN n).types.length ≤ 1000000 := by
 rw [Ih]; exact ⟨by decide, by show 4 ≤ 1000000;decide⟩
noncomputable def Ee (p : Prg) : Nat × Bool := if hv : bK p = true then (EH (NZ p hv), qT p 3 && (Ba p 3).isNone) else (0, false)
theorem Ke (p : Prg) (hv : bK p = true) : Ee p = (EH (NZ p hv), qT p 3 && (Ba p 3).isNone) := dif_pos hv
theorem Kh (p : Prg) (hv : bK p = false) : Ee p = (0, false) := dif_neg (by rw [hv]; decide)
theorem p7 (p : Prg) (hl : p.types.length ≤ 1000000) (hs : bE p.body ≤ 1000000) : PC Tryz.prog 37 [bZ p] (fun r => r = .tup [iv ((Ee p).1 : Int), bv (Ee p).2]) := by
 cases hv : bK p
 ·rw [Kh p hv]; exact DG p hv hl hs
 ·rw [Ke p hv]
  have hc := GC p (EE p hv) hl hs
  rw [show DA p (EE p hv) = (EE p hv).iss from if_pos hv] at hc
  exact Hu p _ _ _ _ hv hl hs (Dx p (EE p hv) hv hl hs) (Eu p (EE p hv) (Nx p hv) (GB p hv) hv hl hs) hc (Ie p 3 hl hs)
theorem E3 (p : Prg) (hl : p.types.length ≤ 1000000) (hs : bE p.body ≤ 1000000) : PC Tryz.prog 38 [bZ p] (fun r => r = .tup [iv ((Ee p).1 : Int), bv (Ee p).2]) := by
 cases hv : bK p
 ·rw [Kh p hv]; exact DD p hv hl hs
 ·rw [Ke p hv]
  have hc := Fs p (EE p hv) hl hs
  rw [show DA p (EE p hv) = (EE p hv).iss from if_pos hv] at hc
  exact HC p _ _ _ _ hv hl hs (E0 p (EE p hv) hv hl hs) (Dt p (EE p hv) (Nx p hv) (GB p hv) hv hl hs) hc (Jl p 3 hl hs)
theorem HA (bs : List UInt8) (hb : bs.length ≤ 1048576) : PC Tryz.prog 42 [sl cU bs] (fun r => ∃ (f k : Int) (b : Bool), r = .tup [iv f, iv k, bv b]) := by
 have hb2 : (bs.take 2000).length ≤ 2000 := by rw [List.length_take]; omega
 refine aC Tryz.func42 Tryz.ntmps42 ?_
 repeat' (first|(apply aH;first|(apply aM (t := _);rfl;rfl;rfl;(first|exact (rfl:_=some [_, _, _, _, _])|exact (rfl:_=some [_, _, _, _, _, _, _]));rfl;rfl)|(first|(apply Bo;rfl;(apply EW <;> (assumption));rfl;rfl)|(apply Df;rfl;rfl;(rfl);(apply H4 <;> (first|assumption|omega));rfl;rfl)|(apply KR;rfl;rfl;infer_instance;rfl;(rfl);assumption;omega;(decide);(decide);rfl;rfl)))|refine aE ?_|refine aF ?_|fail)
 exact aD (l := [iv _, iv _, bv _]) rfl ⟨⟨_, _, _, rfl⟩, rfl⟩
noncomputable def E2 (ref : Int) (sf : Bool) (n : Nat) : Bool := decide (((Ee (qN n)).1 : Int) = ref) && ((Ee (qN n)).2 == sf)
theorem fjP_iff {ref : Int} {sf : Bool} {n : Nat} : E2 ref sf n = true ↔ ((Ee (qN n)).1 : Int) = ref ∧ (Ee (qN n)).2 = sf := by
 unfold E2;rw [Bool.and_eq_true, decide_eq_true_eq, beq_iff_eq]
theorem yZ (P : Nat → Bool) (f : Nat) : ∀ d, (∃ n, f ≤ n ∧ n < f + d ∧ P n = true ∧ ∀ m, f ≤ m → m < n → P m = false) ∨ (∀ n, f ≤ n → n < f + d → P n = false)
 | 0 => .inr fun n h1 h2 => by omega
 | d + 1 => by
  rcases yZ P f d with ⟨n, h1, h2, h3, h4⟩|h
  ·exact .inl ⟨n, h1, by omega, h3, h4⟩
  ·cases hp : P (f + d) with
   | true => exact .inl ⟨f + d, by omega, by omega, hp, fun m h1 h2 => h m h1 (by omega)⟩
   | false =>
    refine .inr fun n h1 h2 => ?_
    by_cases e : n = f + d
    ·rw [e]; exact hp
    ·exact h n h1 (by omega)
def FJo (ref : Int) (sf : Bool) (f : Nat) (o : Option Nat) : Prop := match o with
 | some n => f ≤ n ∧ n < f + min 200 (4096 - f) ∧ E2 ref sf n = true ∧ ∀ m, f ≤ m → m < n → E2 ref sf m = false
 | none => ∀ n, f ≤ n → n < f + min 200 (4096 - f) → E2 ref sf n = false
theorem FJo.ex (ref : Int) (sf : Bool) (f : Nat) : ∃ o, FJo ref sf f o := by
 rcases yZ (E2 ref sf) f (min 200 (4096 - f)) with ⟨n, h⟩|h
 ·exact ⟨some n, h⟩
 ·exact ⟨none, h⟩
theorem FJo.at {ref : Int} {sf : Bool} {f k : Nat} {o : Option Nat} (h : FJo ref sf f o) (hk : f ≤ k) (hk2 : k < f + min 200 (4096 - f)) (hp : E2 ref sf k = true) (hb : ∀ m, f ≤ m → m < k → E2 ref sf m = false) : o = some k := by
 cases o with
 | none => have := h k hk hk2;rw [hp] at this;cases this
 | some n =>
  obtain ⟨h1, h2, h3, h4⟩ := h
  rcases Nat.lt_trichotomy n k with q|q|q
  ·have := hb n h1 q;rw [h3] at this;cases this
  ·rw [q]
  ·have := h4 k hk q;rw [hp] at this;cases this
theorem FJo.no {ref : Int} {sf : Bool} {f : Nat} {o : Option Nat} (h : FJo ref sf f o) (hb : ∀ m, f ≤ m → m < f + min 200 (4096 - f) → E2 ref sf m = false) : o = none := by
 cases o with
 | none => rfl
 | some n => obtain ⟨h1, h2, h3, h4⟩ := h;have := hb n h1 h2;rw [h3] at this;cases this
theorem M3 (f : Nat) (ref : Int) (sf : Bool) (o : Option Nat) (ho : FJo ref sf f o) (hf : f < 4096) : PC Tryz.prog 43 [iv (f : Int), iv ref, bv sf] (fun r => r = .tup [iv ((o.getD 0 : Nat) : Int), bv o.isSome]) := by
 obtain ⟨T, hT, ht⟩ : ∃ T : Int, T = 4096 ∧ PC Tryz.prog 110 [] (fun r => r = iv T) := ⟨4096, rfl, Fo⟩
 have hat := fun k => @FJo.at ref sf f k o ho
 have hno := FJo.no ho
 obtain ⟨d, hd⟩ : ∃ d, d = min 200 (4096 - f) := ⟨_, rfl⟩
 rw [← hd] at hat hno
 have hd1 : f + d ≤ 4096 ∧ d ≤ 200 ∧ (f + d = 4096 ∨ d = 200) := by omega
 clear hd
 refine aC Tryz.func43 Tryz.ntmps43 ?_
 repeat' (first|refine aE ?_|refine aF ?_|fail)
 refine aI (σ := Nat) [0, 1, 2] [] (fun k => [(8, iv (k : Int))]) (fun k => []) (fun k => f ≤ k ∧ k ≤ f + d ∧ ∀ m, f ≤ m → m < k → E2 ref sf m = false) (fun k => 4096 - k) (f) ⟨Nat.le_refl _, by omega, fun m h1 h2 => by omega⟩ ?_
 rintro k ⟨hk1, hk2, hkb⟩
 have hj := p7 (qN k) (lJ k).2 (lJ k).1
 have hp : k < 4096 → _ := fun h => GN k h
 have hu := @fjP_iff ref sf k
 generalize Ee (qN k) = J at *
 repeat' (first|(apply aH;first|(apply aA (k := 110);rfl;exact ht;(rfl);rfl)|(apply aA (k := 111);rfl;exact hp (by omega);(rfl);rfl)|(apply aA (k := 37);rfl;exact hj;exact Pur.pf;rfl))|refine aE ?_|refine aF ?_|(refine aK ?_ ?_ <;> intro hc hq <;> try (exfalso;omega))|(refine bQ ?_ ?_ <;> intro hg hq <;> try (exfalso;omega))|fail)
 ·have e := hat k hk1 (by omega) (hu.2 ⟨by assumption, by assumption⟩) hkb
  subst e
  exact aD (l := [iv (k : Int), bv true]) rfl ⟨rfl, rfl⟩
 ·(refine bC (k + 1) (Le.renA []) ?_ ?_)
  ·refine ⟨by omega, by omega, fun m h1 h2 => ?_⟩
   by_cases q : m = k
   ·subst q;rw [Bool.eq_false_iff]; intro h;exact absurd (hu.1 h).2 (by assumption)
   ·exact hkb m h1 (by omega)
  ·omega
 ·(refine bC (k + 1) (Le.renA []) ?_ ?_)
  ·refine ⟨by omega, by omega, fun m h1 h2 => ?_⟩
   by_cases q : m = k
   ·subst q;rw [Bool.eq_false_iff]; intro h;exact absurd (hu.1 h).1 (by assumption)
   ·exact hkb m h1 (by omega)
  ·omega
 all_goals
  have e := hno (fun m h1 h2 => hkb m h1 (by omega))
  subst e
  exact aD (l := [iv 0, bv false]) rfl ⟨rfl, rfl⟩
theorem LP (f ref : Int) (sf : Bool) (hf : f < 0 ∨ 4096 ≤ f) : PC Tryz.prog 43 [iv f, iv ref, bv sf] (fun r => r = .tup [iv 0, bv false]) := by
 obtain ⟨T, hT, ht⟩ : ∃ T : Int, T = 4096 ∧ PC Tryz.prog 110 [] (fun r => r = iv T) := ⟨4096, rfl, Fo⟩
 refine aC Tryz.func43 Tryz.ntmps43 ?_
 repeat' (first|refine aE ?_|refine aF ?_|(refine aK ?_ ?_ <;> intro hc hq <;> try (exfalso;omega))|fail)
 ·exact aD (l := [iv 0, bv false]) rfl ⟨rfl, rfl⟩
 ·refine aI (σ := Unit) [0, 1, 2] [] (fun _u => [(8, iv f)]) (fun _u => []) (fun _u => True) (fun _u => 0) () trivial ?_
  intro _ _
  repeat' (first|(apply aH;(apply aA (k := 110);rfl;exact ht;(rfl);rfl))|refine aE ?_|refine aF ?_|(refine bQ ?_ ?_ <;> intro hg hq <;> try (exfalso;omega))|fail)
  exact aD (l := [iv 0, bv false]) rfl ⟨rfl, rfl⟩
theorem MJ (f : Nat) (ref : Int) (sf : Bool) (o : Option Nat) (ho : FJo ref sf f o) (hf : f < 4096) : PC Tryz.prog 44 [iv (f : Int), iv ref, bv sf] (fun r => r = .tup [iv ((o.getD 0 : Nat) : Int), bv o.isSome]) := by
 obtain ⟨T, hT, ht⟩ : ∃ T : Int, T = 4096 ∧ PC Tryz.prog 112 [] (fun r => r = iv T) := ⟨4096, rfl, FF⟩
 have hat := fun k => @FJo.at ref sf f k o ho
 have hno := FJo.no ho
 obtain ⟨d, hd⟩ : ∃ d, d = min 200 (4096 - f) := ⟨_, rfl⟩
 rw [← hd] at hat hno
 have hd1 : f + d ≤ 4096 ∧ d ≤ 200 ∧ (f + d = 4096 ∨ d = 200) := by omega
 clear hd
 refine aC Tryz.func44 Tryz.ntmps44 ?_
 repeat' (first|refine aE ?_|refine aF ?_|fail)
 refine aI (σ := Nat) [0, 1, 2] [] (fun k => [(8, iv (k : Int))]) (fun k => []) (fun k => f ≤ k ∧ k ≤ f + d ∧ ∀ m, f ≤ m → m < k → E2 ref sf m = false) (fun k => 4096 - k) (f) ⟨Nat.le_refl _, by omega, fun m h1 h2 => by omega⟩ ?_
 rintro k ⟨hk1, hk2, hkb⟩
 have hj := E3 (qN k) (lJ k).2 (lJ k).1
 have hp : k < 4096 → _ := fun h => Lq k h
 have hu := @fjP_iff ref sf k
 generalize Ee (qN k) = J at *
 repeat' (first|(apply aH;first|(apply aA (k := 112);rfl;exact ht;(rfl);rfl)|(apply aA (k := 92);rfl;exact hp (by omega);(rfl);rfl)|(apply aA (k := 38);rfl;exact hj;exact Pur.pf;rfl))|refine aE ?_|refine aF ?_|(refine aK ?_ ?_ <;> intro hc hq <;> try (exfalso;omega))|(refine bQ ?_ ?_ <;> intro hg hq <;> try (exfalso;omega))|fail)
 ·have e := hat k hk1 (by omega) (hu.2 ⟨by assumption, by assumption⟩) hkb
  subst e
  exact aD (l := [iv (k : Int), bv true]) rfl ⟨rfl, rfl⟩
 ·(refine bC (k + 1) (Le.renA []) ?_ ?_)
  ·refine ⟨by omega, by omega, fun m h1 h2 => ?_⟩
   by_cases q : m = k
   ·subst q;rw [Bool.eq_false_iff]; intro h;exact absurd (hu.1 h).2 (by assumption)
   ·exact hkb m h1 (by omega)
  ·omega
 ·(refine bC (k + 1) (Le.renA []) ?_ ?_)
  ·refine ⟨by omega, by omega, fun m h1 h2 => ?_⟩
   by_cases q : m = k
   ·subst q;rw [Bool.eq_false_iff]; intro h;exact absurd (hu.1 h).1 (by assumption)
   ·exact hkb m h1 (by omega)
  ·omega
 all_goals
  have e := hno (fun m h1 h2 => hkb m h1 (by omega))
  subst e
  exact aD (l := [iv 0, bv false]) rfl ⟨rfl, rfl⟩
theorem KW (f ref : Int) (sf : Bool) (hf : f < 0 ∨ 4096 ≤ f) : PC Tryz.prog 44 [iv f, iv ref, bv sf] (fun r => r = .tup [iv 0, bv false]) := by
 obtain ⟨T, hT, ht⟩ : ∃ T : Int, T = 4096 ∧ PC Tryz.prog 112 [] (fun r => r = iv T) := ⟨4096, rfl, FF⟩
 refine aC Tryz.func44 Tryz.ntmps44 ?_
 repeat' (first|refine aE ?_|refine aF ?_|(refine aK ?_ ?_ <;> intro hc hq <;> try (exfalso;omega))|fail)
 ·exact aD (l := [iv 0, bv false]) rfl ⟨rfl, rfl⟩
 ·refine aI (σ := Unit) [0, 1, 2] [] (fun _u => [(8, iv f)]) (fun _u => []) (fun _u => True) (fun _u => 0) () trivial ?_
  intro _ _
  repeat' (first|(apply aH;(apply aA (k := 112);rfl;exact ht;(rfl);rfl))|refine aE ?_|refine aF ?_|(refine bQ ?_ ?_ <;> intro hg hq <;> try (exfalso;omega))|fail)
  exact aD (l := [iv 0, bv false]) rfl ⟨rfl, rfl⟩
theorem GJ (f ref : Int) (sf : Bool) : ∃ o : Option Nat, PC Tryz.prog 43 [iv f, iv ref, bv sf] (fun r => r = .tup [iv ((o.getD 0 : Nat) : Int), bv o.isSome]) ∧ PC Tryz.prog 44 [iv f, iv ref, bv sf] (fun r => r = .tup [iv ((o.getD 0 : Nat) : Int), bv o.isSome]) ∧
  (∀ n, o = some n → 0 ≤ f ∧ f ≤ n ∧ n < 4096 ∧ E2 ref sf n = true ∧ ∀ m : Nat, f ≤ m → m < n → E2 ref sf m = false) := by
 by_cases h : f < 0 ∨ 4096 ≤ f
 ·exact ⟨none, LP f ref sf h, KW f ref sf h, fun n e => by cases e⟩
 ·obtain ⟨k, rfl⟩ : ∃ k : Nat, f = k := ⟨f.toNat, by omega⟩
  obtain ⟨o, ho⟩ := FJo.ex ref sf k
  refine ⟨o, M3 k ref sf o ho (by omega), MJ k ref sf o ho (by omega), fun n e => ?_⟩
  subst e
  obtain ⟨h1, h2, h3, h4⟩ := ho
  exact ⟨by omega, by omega, by omega, h3, fun m q1 q2 => h4 m (by omega) q2⟩
theorem lF (f k : Int) (sf : Bool) : PC Tryz.prog 10 [iv f, iv k, bv sf] (fun r => r = bv true) := by
 obtain ⟨o, h1, h2, hl⟩ := GJ f k sf
 generalize o.isSome = ok at *
 generalize o.getD 0 = m at *
 refine aC Tryz.func10 Tryz.ntmps10 ?_
 repeat' (first|(apply aH;first|((with_reducible apply aA (k := 43));(case ha => rfl);(case h => exact h1);(case hp => (rfl));(case hN => rfl))|((with_reducible apply aA (k := 44));(case ha => rfl);(case h => exact h2);(case hp => (rfl));(case hN => rfl)))|refine aE ?_|refine aF ?_|(refine aK ?_ ?_ <;> intro hc hq <;> try (exfalso;omega))|(refine bQ ?_ ?_ <;> intro hg hq <;> try (exfalso;omega))|fail)
 all_goals first
  | (exfalso;exact (by assumption : ¬ True) trivial)
  | exact aD rfl ⟨rfl, rfl⟩
  | (refine aD rfl ⟨?_, rfl⟩; simp only [aN, decide_true]; done)
theorem zQ (z : Int) (h : 0 ≤ z ∧ z < 4096) : PC Tryz.prog 45 [iv z] (fun r => r = .tup [bZ (qN z.toNat), bv true]) := by
 have hs := HT z
 rw [if_pos h] at hs
 exact hs
theorem qL (bs ms : List UInt8) : PC Tryz.prog 9 [sl cU bs, sl cU ms] (fun r => r = bv true) := by
 by_cases hb : bs.length ≤ 1048576 ∧ ms.length ≤ 1048576
 ·refine aC Tryz.func9 Tryz.ntmps9 ?_
  repeat' (first|(apply aH;first|((with_reducible apply Ja (k := 42));(case ha => rfl);(case h => exact HA bs hb.1);(case hp => (exact Pur.pf));(case hN => rfl);(rintro _ ⟨f, k, sf, rfl⟩ _))|(with_reducible apply aV (d := 35)))|refine aE ?_|refine aF ?_|(refine aK ?_ ?_ <;> intro hc hq <;> try (exfalso;omega))|(refine bQ ?_ ?_ <;> intro hg hq <;> try (exfalso;omega))|fail)
  refine bV ?_
  obtain ⟨o, h1, h2, hl⟩ := GJ f k sf
  cases o with
  | none =>
   repeat' (first|(apply aH;first|((with_reducible apply aA (k := 43));(case ha => rfl);(case h => exact h1);(case hp => (rfl));(case hN => rfl))|((with_reducible apply aA (k := 44));(case ha => rfl);(case h => exact h2);(case hp => (rfl));(case hN => rfl)))|refine aE ?_|refine aF ?_|fail)
   all_goals first
    | (exfalso;exact (by assumption : ¬ True) trivial)
    | exact aD rfl ⟨rfl, rfl⟩
    | (refine aD rfl ⟨?_, rfl⟩; simp only [aN, decide_true]; done)
  | some n =>
   obtain ⟨q0, q1, q2, q3, q4⟩ := hl n rfl
   obtain ⟨e1, e2⟩ := fjP_iff.1 q3
   have hj := p7 (qN n) (lJ n).2 (lJ n).1
   rw [e1, e2] at hj
   have hs := zQ (n : Int) (by omega)
   rw [Int.toNat_natCast] at hs
   change PC _ _ _ (fun r => r = .tup [iv (n : Int), bv true]) at h1 h2
   by_cases hfn : f < n
   ·have hm1 := Int.emod_nonneg (ms.length : Int) (by omega : (n : Int) - f ≠ 0)
    have hm2 := Int.emod_lt_of_pos (ms.length : Int) (by omega : 0 < (n : Int) - f)
    obtain ⟨z, hz⟩ : ∃ z, z = f + (ms.length : Int) % ((n : Int) - f) := ⟨_, rfl⟩
    have hs2 := zQ z (by omega)
    have hj2 := p7 (qN z.toNat) (lJ _).2 (lJ _).1
    have hb2 := q4 z.toNat (by omega) (by omega)
    rw [Bool.eq_false_iff, ne_eq, fjP_iff] at hb2
    rw [hz] at hs2
    have hz2 : 0 ≤ f + (ms.length : Int) % ((n : Int) - f) := by omega
    rw [← hz] at hs2
    generalize Ee (qN z.toNat) = J at *
    subst hz
    repeat' (first|(apply aH;first|((with_reducible apply aA (k := 43));(case ha => rfl);(case h => exact h1);(case hp => (rfl));(case hN => rfl))|((with_reducible apply aA (k := 44));(case ha => rfl);(case h => exact h2);(case hp => (rfl));(case hN => rfl))|((with_reducible apply aA (k := 45));(case ha => rfl);(case h => first|exact hs|exact hs2);(case hp => (rfl));(case hN => rfl))|((with_reducible apply aA (k := 37));(case ha => rfl);(case h => first|exact hj|exact hj2);(case hp => (exact Pur.pf));(case hN => rfl)))|refine aE ?_|refine aF ?_|(refine aK ?_ ?_ <;> intro hc hq <;> try (exfalso;omega))|(refine bQ ?_ ?_ <;> intro hg hq <;> try (exfalso;omega))|fail)
    all_goals first
     | (exfalso;exact (by assumption : ¬ True) trivial)
     | (exfalso;exact hb2 ⟨by assumption, by assumption⟩)
     | exact aD rfl ⟨rfl, rfl⟩
     | (refine aD rfl ⟨?_, rfl⟩; simp only [aN, decide_true]; done)
     | (refine aD rfl ⟨?_, rfl⟩; simp only [aN]; refine congrArg (fun b => AV.v (Value.bool b)) ?_; rw [decide_eq_true_eq]; omega)
   ·repeat' (first | (apply aH; first | ((with_reducible apply aA (k := 43)); (case ha => rfl); (case h => exact h1); (case hp => (rfl)); (case hN => rfl)) | ((with_reducible apply aA (k := 44)); (case ha => rfl); (case h => exact h2); (case hp => (rfl)); (case hN => rfl)) | ((with_reducible apply aA (k := 45)); (case ha => rfl); (case h => exact hs); (case hp => (rfl)); (case hN => rfl)) | ((with_reducible apply aA (k := 37)); (case ha => rfl); (case h => exact hj); (case hp => (exact Pur.pf)); (case hN => rfl))) | refine aE ?_ | refine aF ?_ | (refine aK ?_ ?_ <;> intro hc hq <;> try (exfalso; omega)) | (refine bQ ?_ ?_ <;> intro hg hq <;> try (exfalso; omega))|fail)
    all_goals first
     | (exfalso;exact (by assumption : ¬ True) trivial)
     | exact aD rfl ⟨rfl, rfl⟩
     | (refine aD rfl ⟨?_, rfl⟩; simp only [aN, decide_true]; done)
     | (refine aD rfl ⟨?_, rfl⟩; simp only [aN]; refine congrArg (fun b => AV.v (Value.bool b)) ?_; rw [decide_eq_true_eq]; omega)
 ·refine aC Tryz.func9 Tryz.ntmps9 ?_
  repeat' (first|refine aE ?_|refine aF ?_|(refine aK ?_ ?_ <;> intro hc hq <;> try (exfalso;omega))|(refine bQ ?_ ?_ <;> intro hg hq <;> try (exfalso;omega))|fail)
  all_goals first
   | exact aD rfl ⟨rfl, rfl⟩
   | (exfalso;omega)
end Go.Proofs.YtahdccneecdmmaaGreat
