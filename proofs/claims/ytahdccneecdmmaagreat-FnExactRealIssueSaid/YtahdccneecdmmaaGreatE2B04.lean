/-
 A part of the proofs over this program: rules and contracts of its functions (the contracts).
-/
import Derived.Test.YtahdccneecdmmaaGreatE2B03
set_option linter.unusedVariables false
set_option linter.unusedSimpArgs false
set_option maxHeartbeats 8000000
set_option maxRecDepth 4000
attribute [local irreducible] Go.AL.RW Go.AL.AW Go.AL.Stop
namespace Go.Proofs.YtahdccneecdmmaaGreat
open Go.AL Go.RowKit
variable {N : Nat} {Q : Exit → AS → Prop} {all : Array Oper} {rest : List Oper} {tsl : List (Nat × AV)} {hsl : List (Nat × Option (List AV))} {nidl : Nat} {z0 : Lo} {md : Md} {d : Nat} {ty : TypeId} {pos : String} {af : Array Edge} {tys : Array TypeId}
theorem DA (p:Prg) (L:List Iss) (x:Iss) (hC:PC Tryz.prog 98 [bQ p] (fun r => r = sl fA L)) (hLl:L.length ≤ 1048576) (hx:x ∉ L):PC Tryz.prog 82 [bQ p,fV x] (fun r => r = .tup [sl cI [],bv false]):=by
 have hh := lX p L x hC hLl
 rw [decide_eq_false hx] at hh
 refine aB Tryz.func82 Tryz.ntmps82 ?_
 repeat' (first|(apply aF;first|(apply aA (k := 146);rfl;exact hh;exact Pur.pf;rfl)|(apply aL (t := _);rfl;rfl;rfl;(rfl);rfl;rfl))|refine aE ?_|fail)
 exact aD rfl ⟨rfl,(by (rfl))⟩
theorem KF (p:Prg) (L:List Iss) (a:Nat) (k wi:Int) (hC:PC Tryz.prog 98 [bQ p] (fun r => r = sl fA L)) (hLl:L.length ≤ 1048576) (hk:k = 1) (ha:a < (aC p).length) (hv:bK p = true) (hx:(⟨(a:Int),k,wi⟩:Iss) ∈ L) (hs:aU p.body ≤ 1048576) :
  PC Tryz.prog 82 [bQ p,fV ⟨(a : Int),k,wi⟩] (fun r => r = .tup [sl cI (dS (wG (aC p) a)),bv true]) := by
 have w := WG.of_valid hv
 have hh := lX p L ⟨(a : Int),k,wi⟩ hC hLl
 rw [decide_eq_true hx] at hh
 have hp := c6 p hs
 have hb := rN p.types (aC p) a w ha
 subst hk
 refine aB Tryz.func82 Tryz.ntmps82 ?_
 repeat' (first|(apply aF;first|(apply aA (k := 146);rfl;exact hh;exact Pur.pf;rfl)|(apply aA (k := 132);rfl;exact hp;exact Pur.pf;rfl)|(apply aA (k := 147);rfl;exact hb;exact Pur.pf;rfl))|refine aE ?_|fail)
 all_goals first|exact aD rfl ⟨rfl,(by exact Pur.pf)⟩
theorem J6 (p:Prg) (f:Flows p.types (aC p)) (L:List Iss) (a l:Nat) (k:Int) (hC:PC Tryz.prog 98 [bQ p] (fun r => r = sl fA L)) (hLl:L.length ≤ 1048576) (hk:k ≠ 1) (ha:a < (aC p).length) (hll:l < (aC p).length) (hv:bK p = true) (hx:(⟨(a:Int),k,(l:Int)⟩:Iss) ∈ L) (hl:p.types.length ≤ 1048576) (hs:aU p.body ≤ 1048576) (u:Nat)
  (hu : (jT (dP (aC p) a) (dR p.types (aC p) f.Af l) (aC p).length).1 = (u : Int)) (hun : u < (aC p).length) (h2 : dP (aC p) l a ≠ []) (h3 : dP (aC p) a u ≠ []) :
  PC Tryz.prog 82 [bQ p,fV ⟨(a : Int),k,(l : Int)⟩] (fun r => r = .tup [sl cI (dS (wG (aC p) l) ++ (dS (dP (aC p) l a)).drop 1 ++ (dS (dP (aC p) a u)).drop 1),bv true]) := by
 have w := WG.of_valid hv
 have hh := lX p L ⟨(a : Int),k,(l : Int)⟩ hC hLl
 rw [decide_eq_true hx] at hh
 have hp := c6 p hs
 have hb := rN p.types (aC p) l w hll
 obtain ⟨F0,hF0⟩ := GoodR.exist (aC p) a
 have hua := kT p a l f F0 hl hs hv ha hll hF0
 rw [hu,if_pos (by omega)] at hua
 have hs1 := j7 p.types (aC p) l a w hll ha
 rw [decide_eq_true ((fP w.nx hll a).2 ((iM w.nx hll).1 h2))] at hs1
 have hs2 := j7 p.types (aC p) a u w ha hun
 have hl1 := gO (x := a) w.nx hll
 have hl2 := gO (x := u) w.nx ha
 have hl0 := rV w.nx w.p0 l
 have hpl := w.pl
 rw [← cQ] at hl0 hl1 hl2
 have hp1 : 0 < (dS (dP (aC p) l a)).length := by rw [cQ]; exact List.length_pos_iff.2 h2
 have hp2 : 0 < (dS (dP (aC p) a u)).length := by rw [cQ]; exact List.length_pos_iff.2 h3
 generalize dS (wG (aC p) l) = A at *
 generalize dS (dP (aC p) l a) = B at *
 generalize dS (dP (aC p) a u) = D at *
 have hj1 := vK A B (by omega) (by omega) hp1
 have hj2 := vK (A ++ B.drop 1) D (by rw [List.length_append,List.length_drop]; omega) (by omega) hp2
 refine aB Tryz.func82 Tryz.ntmps82 ?_
 repeat' (first|(apply aF;first|(apply aA (k := 146);rfl;exact hh;exact Pur.pf;rfl)|(apply aA (k := 132);rfl;exact hp;exact Pur.pf;rfl)|(apply aA (k := 147);rfl;exact hb;exact Pur.pf;rfl)|(apply aA (k := 149);rfl;exact hua;exact Pur.pf;rfl)|(apply aA (k := 148);rfl;exact hs1;exact Pur.pf;rfl)|(apply aA (k := 148);rfl;exact hs2;exact Pur.pf;rfl)|(apply aA (k := 150);rfl;exact hj1;exact Pur.pf;rfl)|(apply aA (k := 150);rfl;exact hj2;exact Pur.pf;rfl))|refine aE ?_|(refine aJ ?_ ?_ <;> intro hc hq <;> try (exfalso;omega))|fail)
 all_goals first|exact aD rfl ⟨rfl,(by exact Pur.pf)⟩
theorem Jg (p:Prg) (f:Flows p.types (aC p)) (L:List Iss) (a l:Nat) (k:Int) (hC:PC Tryz.prog 98 [bQ p] (fun r => r = sl fA L)) (hLl:L.length ≤ 1048576) (hk:k ≠ 1) (ha:a < (aC p).length) (hll:l < (aC p).length) (hv:bK p = true) (hx:(⟨(a:Int),k,(l:Int)⟩:Iss) ∈ L) (hl:p.types.length ≤ 1048576) (hs:aU p.body ≤ 1048576)
  (hu : (jT (dP (aC p) a) (dR p.types (aC p) f.Af l) (aC p).length).1 < 0) :
  PC Tryz.prog 82 [bQ p,fV ⟨(a : Int),k,(l : Int)⟩] (fun r => r = .tup [sl cI [],bv false]) := by
 have w := WG.of_valid hv
 have hh := lX p L ⟨(a : Int),k,(l : Int)⟩ hC hLl
 rw [decide_eq_true hx] at hh
 have hp := c6 p hs
 have hb := rN p.types (aC p) l w hll
 obtain ⟨F0,hF0⟩ := GoodR.exist (aC p) a
 have hua := kT p a l f F0 hl hs hv ha hll hF0
 rw [if_neg (by omega)] at hua
 have hs1 := j7 p.types (aC p) l a w hll ha
 refine aB Tryz.func82 Tryz.ntmps82 ?_
 repeat' (first|(apply aF;first|(apply aA (k := 146);rfl;exact hh;exact Pur.pf;rfl)|(apply aA (k := 132);rfl;exact hp;exact Pur.pf;rfl)|(apply aA (k := 147);rfl;exact hb;exact Pur.pf;rfl)|(apply aA (k := 149);rfl;exact hua;exact Pur.pf;rfl)|(apply aA (k := 148);rfl;exact hs1;exact Pur.pf;rfl)|(apply aL (t := _);rfl;rfl;rfl;(rfl);rfl;rfl))|refine aE ?_|(refine aJ ?_ ?_ <;> intro hc hq <;> try (exfalso;omega))|(refine bO ?_ ?_ <;> intro hg hq <;> try (exfalso;omega))|fail)
 all_goals first|exact aD rfl ⟨rfl,(by (rfl))⟩
theorem Jh (p:Prg) (f:Flows p.types (aC p)) (L:List Iss) (a l:Nat) (k:Int) (hC:PC Tryz.prog 98 [bQ p] (fun r => r = sl fA L)) (hLl:L.length ≤ 1048576) (hk:k ≠ 1) (ha:a < (aC p).length) (hll:l < (aC p).length) (hv:bK p = true) (hx:(⟨(a:Int),k,(l:Int)⟩:Iss) ∈ L) (hl:p.types.length ≤ 1048576) (hs:aU p.body ≤ 1048576) (u:Nat)
  (hu : (jT (dP (aC p) a) (dR p.types (aC p) f.Af l) (aC p).length).1 = (u : Int)) (h2 : ¬ Wy (aC p) l a) :
  PC Tryz.prog 82 [bQ p,fV ⟨(a : Int),k,(l : Int)⟩] (fun r => r = .tup [sl cI [],bv false]) := by
 have w := WG.of_valid hv
 have hh := lX p L ⟨(a : Int),k,(l : Int)⟩ hC hLl
 rw [decide_eq_true hx] at hh
 have hp := c6 p hs
 have hb := rN p.types (aC p) l w hll
 obtain ⟨F0,hF0⟩ := GoodR.exist (aC p) a
 have hua := kT p a l f F0 hl hs hv ha hll hF0
 rw [hu,if_pos (by omega)] at hua
 have hs1 := j7 p.types (aC p) l a w hll ha
 rw [decide_eq_false (fun h => h2 ((fP w.nx hll a).1 h))] at hs1
 refine aB Tryz.func82 Tryz.ntmps82 ?_
 repeat' (first|(apply aF;first|(apply aA (k := 146);rfl;exact hh;exact Pur.pf;rfl)|(apply aA (k := 132);rfl;exact hp;exact Pur.pf;rfl)|(apply aA (k := 147);rfl;exact hb;exact Pur.pf;rfl)|(apply aA (k := 149);rfl;exact hua;exact Pur.pf;rfl)|(apply aA (k := 148);rfl;exact hs1;exact Pur.pf;rfl)|(apply aL (t := _);rfl;rfl;rfl;(rfl);rfl;rfl))|refine aE ?_|(refine aJ ?_ ?_ <;> intro hc hq <;> try (exfalso;omega))|fail)
 all_goals first|exact aD rfl ⟨rfl,(by (rfl))⟩
theorem tO {stk:List Tg}{id:Int}(h:0 ≤ b7 stk id):∀ k < (b7 stk id).toNat,stk[k]!.id ≠ id:=by
 unfold b7 at h ⊢
 split
 ·rename_i k hk
  obtain ⟨h1,h2,h3⟩ := List.findIdx?_eq_some_iff_getElem.1 hk
  rw [Int.toNat_natCast]
  intro j hj he
  have := h3 j hj
  rw [aS _ _ (by omega)] at he
  simp [he] at this
 ·rename_i hk;rw [hk] at h;dsimp only at h;omega
theorem w9 {stk:List Tg}{id:Int}{i:Nat}(hi:i < stk.length) (h:stk[i]!.id = id) (hn:∀ k < i,stk[k]!.id ≠ id):b7 stk id = (i:Int):=by
 have hb := dX stk id
 by_cases hneg : b7 stk id < 0
 ·have := pX.1 hneg stk[i]! (by rw [aS _ _ hi]; exact List.getElem_mem hi)
  exact absurd h this
 ·have ha := JG (stk := stk) (id := id) (by omega)
  have hf := tO (stk := stk) (id := id) (by omega)
  rcases Nat.lt_trichotomy (b7 stk id).toNat i with h1|h1|h1
  ·exact absurd ha (hn _ h1)
  ·omega
  ·exact absurd h (hf _ h1)
theorem C4 (stk:List Tg) (id:Int) (hl:stk.length ≤ 1048576):PC Tryz.prog 284 [sl b6 stk,iv id] (fun r => r = iv (b7 stk id)):=by
 refine aB Tryz.func284 Tryz.ntmps284 ?_
 repeat' (first|refine aE ?_|fail)
 refine aH (σ := Nat) [0,1] [] (fun i => [(5,iv (i : Int))]) (fun i => []) (fun i => i ≤ stk.length ∧ (∀ k < i,stk[k]!.id ≠ id)) (fun i => stk.length - i) (0) ⟨Nat.zero_le _,fun k hk => absurd hk (by omega)⟩ ?_
 rintro i ⟨hi,hn⟩
 try dsimp only at hi hn
 repeat' (first|refine aE ?_|(refine aJ ?_ ?_ <;> intro hc hq <;> try (exfalso;omega))|fail)
 ·refine aD rfl ⟨?_, rfl⟩
  simp only [aM]; rw [w9 (i := i) (by omega) (by assumption) hn]
 ·(refine bC (i + 1) (Le.renA []) ?_ ?_)
  ·refine ⟨by omega, fun k hk => ?_⟩
   rcases Nat.lt_or_ge k i with h|h
   ·exact hn k h
   ·rw [show k = i by omega]; assumption
  ·show stk.length - (i + 1) < stk.length - i;omega
 ·refine aD rfl ⟨?_, rfl⟩
  have := pX (stk := stk) (id := id)
  have hb := dX stk id
  have : b7 stk id < 0 := this.2 (fun t ht => by obtain ⟨k,hk,rfl⟩ := List.getElem_of_mem ht;have := hn k (by omega);rwa [aS _ _ hk] at this)
  simp only [aM]; rw [show b7 stk id = -1 by omega]
theorem o9 (c:Cl):OkC c ↔ (0 ≤ c.val ∧ c.val ≤ 9) ∧ (1 ≤ c.next ∧ c.next ≤ 1000) ∧ (1 ≤ c.stk.length ∧ c.stk.length ≤ 200) ∧ c.stk[0]!.uq = true ∧ (∀ k < c.stk.length,0 ≤ c.stk[k]!.id ∧ c.stk[k]!.id < c.next ∧ b7 c.stk c.stk[k]!.id = (k:Int)):=by
 constructor
 ·intro h
  refine ⟨h.v,h.n,h.l,h.u,fun k hk => ?_⟩
  have h1 := h.i c.stk[k]! (by rw [aS _ _ hk]; exact List.getElem_mem hk)
  refine ⟨h1.1,h1.2,w9 hk rfl (fun j hj he => ?_)⟩
  have hd := List.nodup_iff_pairwise_ne.1 h.d |> List.pairwise_iff_getElem.1
  have := hd j k (by rw [List.length_map]; omega) (by rw [List.length_map]; omega) hj
  simp only [List.getElem_map] at this
  rw [aS _ _ (by omega),aS _ _ hk] at he
  exact this he
 ·rintro ⟨h1, h2, h3, h4, h5⟩
  refine ⟨h1,h2,h3,h4,fun t ht => ?_,?_⟩
  ·obtain ⟨k, hk, rfl⟩ := List.getElem_of_mem ht
   have := h5 k hk;rw [aS _ _ hk] at this
   exact ⟨this.1,this.2.1⟩
  ·rw [List.nodup_iff_pairwise_ne, List.pairwise_iff_getElem]
   intro i j hi hj hij he
   rw [List.length_map] at hi hj
   simp only [List.getElem_map] at he
   have a := (h5 i hi).2.2
   have b := (h5 j hj).2.2
   rw [aS _ _ hi] at a;rw [aS _ _ hj,← he,a] at b
   omega
instance (c : Cl) : Decidable (OkC c) := decidable_of_iff _ (o9 c).symm
theorem cL (m:List Cl):OkM m ↔ m.length ≤ 200 ∧ ∀ k < m.length,OkC m[k]!:=by
 constructor
 ·exact fun h => ⟨h.l,fun k hk => h.c _ (by rw [aS _ _ hk]; exact List.getElem_mem hk)⟩
 ·exact fun h => ⟨h.1,fun c hc => by obtain ⟨k,hk,rfl⟩ := List.getElem_of_mem hc;have := h.2 k hk;rwa [aS _ _ hk] at this⟩
instance (m : List Cl) : Decidable (OkM m) := decidable_of_iff _ (cL m).symm
theorem HJ (c:Cl):PC Tryz.prog 282 [O2 c] (fun r => r = bv (decide (OkC c))):=by
 refine aB Tryz.func282 Tryz.ntmps282 ?_
 repeat' (first|refine aE ?_|(refine aJ ?_ ?_ <;> intro hc hq <;> try (exfalso;omega))|(refine bO ?_ ?_ <;> intro hg hq <;> try (exfalso;omega))|fail)
 all_goals try (refine aD rfl ⟨?_, rfl⟩; simp only [aM]; rw [show decide (OkC c) = false from decide_eq_false (fun h => by
  obtain ⟨h1,h2,h3,h4,h5⟩ := (o9 c).1 h
  first|omega|exact absurd (by assumption : c.stk[Int.toNat 0]!.uq = false) (by rw [show Int.toNat 0 = 0 from rfl,h4]; decide))]; done)
 have hu : c.stk[0]!.uq = true := by assumption
 refine aH (σ := Nat) [1] [0] (fun i => [(3,iv (i : Int))]) (fun i => []) (fun i => i ≤ c.stk.length ∧ (∀ k < i,0 ≤ c.stk[k]!.id ∧ c.stk[k]!.id < c.next ∧ b7 c.stk c.stk[k]!.id = (k : Int))) (fun i => c.stk.length - i) (0) ⟨Nat.zero_le _,fun k hk => absurd hk (by omega)⟩ ?_
 rintro i ⟨hi,hn⟩
 try dsimp only at hi hn
 repeat' (first|(apply aF;(apply aA (k := 284);rfl;exact C4 c.stk c.stk[i]!.id (by omega);exact Pur.pf;rfl))|refine aE ?_|(refine aJ ?_ ?_ <;> intro hc hq <;> try (exfalso;omega))|(refine bO ?_ ?_ <;> intro hg hq <;> try (exfalso;omega))|refine bI ?_|fail)
 all_goals try (refine aD rfl ⟨?_, rfl⟩; simp only [aM]; rw [show decide (OkC c) = false from decide_eq_false (fun h => by
  obtain ⟨h1,h2,h3,h4,h5⟩ := (o9 c).1 h
  exact absurd (h5 i (by omega)) (by omega))]; done)
 ·(refine bC (i + 1) (Le.renA [(0, 0)]) ?_ ?_)
  ·refine ⟨by omega, fun k hk => ?_⟩
   rcases Nat.lt_or_ge k i with h|h
   ·exact hn k h
   ·rw [show k = i by omega]; exact ⟨by assumption,by assumption,by assumption⟩
  ·show c.stk.length - (i + 1) < c.stk.length - i;omega
 ·refine aD rfl ⟨?_, rfl⟩
  simp only [aM]
  rw [show decide (OkC c) = true from decide_eq_true ((o9 c).2 ⟨by omega,by omega,by omega,hu,fun k hk => hn k (by omega)⟩)]
theorem nH (m:List Cl) (hl:m.length ≤ 1048576):PC Tryz.prog 272 [sl bE m] (fun r => r = bv (decide (OkM m))):=by
 refine aB Tryz.func272 Tryz.ntmps272 ?_
 repeat' (first|refine aE ?_|fail)
 refine aH (σ := Nat) [0] [] (fun i => [(3,iv (i : Int))]) (fun i => []) (fun i => i ≤ m.length ∧ i ≤ 201 ∧ (∀ k < i,OkC m[k]!)) (fun i => m.length - i) (0) ⟨Nat.zero_le _,by omega,fun k hk => absurd hk (by omega)⟩ ?_
 rintro i ⟨hi,hi2,hn⟩
 try dsimp only at hi hi2 hn
 repeat' (first|(apply aF;(apply aA (k := 282);rfl;exact HJ m[i]!;exact Pur.pf;rfl))|refine aE ?_|(refine aJ ?_ ?_ <;> intro hc hq <;> try (exfalso;omega))|(refine bO ?_ ?_ <;> intro hg hq <;> try (exfalso;omega))|fail)
 ·refine aD rfl ⟨?_, rfl⟩
  simp only [aM]; rw [show decide (OkM m) = false from decide_eq_false (fun h => by
   have h1 := ((cL m).1 h).2 i (by omega)
   have h2 : ¬ OkC m[i]! := by assumption
   exact h2 h1)]
 ·(refine bC (i + 1) (Le.renA []) ?_ ?_)
  ·refine ⟨by omega, by omega, fun k hk => ?_⟩
   rcases Nat.lt_or_ge k i with h|h
   ·exact hn k h
   ·rw [show k = i by omega]; assumption
  ·show m.length - (i + 1) < m.length - i;omega
 ·refine aD rfl ⟨?_, rfl⟩
  simp only [aM]
  rw [show decide ((m.length : Int) ≤ 200) = false from decide_eq_false (by omega),show decide (OkM m) = false from decide_eq_false (fun h => by have := h.l;omega)]
 ·refine aD rfl ⟨?_, rfl⟩
  simp only [aM]
  rw [show decide ((m.length : Int) ≤ 200) = decide (OkM m) from decide_eq_decide.2 ⟨fun h => (cL m).2 ⟨by omega,fun k hk => hn k (by omega)⟩,fun h => by have := h.l;omega⟩]
theorem kH (k:Int):PC Tryz.prog 246 [iv k] (fun r => r = iv (if k = 1 then 3 else if k = 0 then 0 else 4)):=by
 refine aB Tryz.func246 Tryz.ntmps246 ?_
 repeat' (first|refine aE ?_|(refine aJ ?_ ?_ <;> intro hc hq <;> try (exfalso;omega))|refine dF ?_|fail)
 all_goals (refine ⟨?_,rfl⟩; simp only [aM,AV.v.injEq,Value.bool.injEq,Value.int.injEq,true_and])
 all_goals grind
theorem rC (k:Int):PC Tryz.prog 201 [iv k] (fun r => r = iv (eR k)):=by
 refine aB Tryz.func201 Tryz.ntmps201 ?_
 repeat' (first|refine aE ?_|(refine aJ ?_ ?_ <;> intro hc hq <;> try (exfalso;omega))|refine dF ?_|fail)
 all_goals (refine ⟨?_,rfl⟩; simp only [aM,AV.v.injEq,Value.bool.injEq,Value.int.injEq,true_and])
 all_goals grind [eR]
theorem sS {xs:List Tg}{m:Nat}{a:Int}{b:Bool}(hm:m = xs.length):((flat b6 xs).drop 0).take (m * 2) ++ [iv a,bv b] = flat b6 (xs ++ [⟨a,b⟩]) := fK hm rfl
theorem IW {xs:List Cl}{m:Nat}{a c:Int}{b:Bool}{s:List Tg}(hm:m = xs.length):((flat bE xs).drop 0).take (m * 4) ++ [iv a,bv b,iv c,sl b6 s] = flat bE (xs ++ [⟨a,b,c,s⟩]) := fK hm rfl
theorem jI {α:Type}[Inhabited α] (l:List α){k i:Nat}(h:k ≤ i) (hi:i < l.length):(l.drop k).take (i + 1 - k) = (l.drop k).take (i - k) ++ [l[i]!]:=by
 have hl : i - k < (l.drop k).length := by rw [List.length_drop]; omega
 have h1 := b0 (l.drop k) (i - k) hl
 rw [show i + 1 - k = i - k + 1 by omega,h1]
 congr 2
 rw [aS (l.drop k) (i - k) hl,List.getElem_drop,aS l i hi]
 congr 1;omega
theorem pS {α}{p:α → Bool}{a:α}(h:p a = true):[a].filter p = [a] := by simp [h]
theorem mV {α}{p:α → Bool}{a:α}(h:p a = false):[a].filter p = [] := by simp [h]
theorem IT (stk:List Tg) (k:Nat) (hk:k < stk.length) (hl:stk.length ≤ 1048576):PC Tryz.prog 277 [sl b6 stk,iv (k:Int)] (fun r => r = sl b6 (fZ stk k false)):=by
 have e1 : List.take (((k : Int) + 1).toNat - 0) (List.drop 0 stk) = stk.take (k + 1) := by rw [List.drop_zero]; congr 1
 have e2 : (stk.take (k + 1)).length = k + 1 := by rw [List.length_take]; omega
 refine aB Tryz.func277 Tryz.ntmps277 ?_
 repeat' (first|(apply aF;(with_reducible apply aW (d := 12)))|refine aE ?_|fail)
 refine bU ?_
 rw [e1]
 repeat' (first|refine aE ?_|fail)
 refine aH (σ := Nat × List Tg × Nat) [0] [] (fun s => [(6,iv (s.1 : Int)),(5,.own 1 0 s.2.2 2)]) (fun s => [(1,some (flat b6 s.2.1))]) (fun s => k + 1 ≤ s.1 ∧ s.1 ≤ stk.length ∧ s.2.1 = stk.take (k + 1) ++ ((stk.drop (k + 1)).take (s.1 - (k + 1))).filter (fun t => !t.uq) ∧ s.2.2 = s.2.1.length ∧ s.2.2 ≤ s.1) (fun s => stk.length - s.1) (k + 1,stk.take (k + 1),0 + (stk.take (k + 1)).length) ⟨Nat.le_refl _,by dsimp only;omega,by simp,by dsimp only;omega,by dsimp only;omega⟩ ?_
 rintro ⟨i,xs,n⟩ ⟨hki,hi,hxs,hn,hni⟩
 dsimp only at hki hi hxs hn hni ⊢
 repeat' (first|(apply aF;first|(apply bS;rfl;rfl;rfl;rfl;rfl;(rw [aI]; omega);(rfl);omega;omega;(exact sS (by (assumption)));rfl;rfl)|(apply aL (t := _);rfl;rfl;rfl;(exact (rfl:_=some [_,_]));rfl;rfl))|refine aE ?_|(refine aJ ?_ ?_ <;> intro hc hq <;> try (exfalso;omega))|fail)
 ·(refine bC (i + 1, _, _) (Le.renA [(1, 3)]) ?_ ?_)
  ·refine ⟨by dsimp only; omega, by dsimp only; omega, ?_, by dsimp only; rw [List.length_append, hn]; rfl, by dsimp only; omega⟩
   dsimp only
   rw [hxs,jI stk hki (by omega),List.filter_append,List.append_assoc]
   congr 2
   have hu : stk[i]!.uq = false := by assumption
   rw [pS (by rw [hu]; rfl)]
  ·dsimp only;omega
 ·(refine bC (i + 1, xs, n) (Le.renA [(1, 1)]) ?_ ?_)
  ·refine ⟨by dsimp only; omega, by dsimp only; omega, ?_, hn, by dsimp only; omega⟩
   dsimp only
   have hu : stk[i]!.uq = true := by assumption
   rw [hxs,jI stk hki (by omega),List.filter_append,mV (by rw [hu]; rfl),List.append_nil]
  ·dsimp only;omega
 ·(refine aR (Le.frzD (d := 4) (i := 1) rfl rfl) ?_; refine aD rfl ?_)
  refine ⟨?_,(by (exact a9 _ _))⟩
  have hie : i = stk.length := by omega
  simp only [aM,sl]
  have hd : (stk.drop (k + 1)).take (stk.length - (k + 1)) = stk.drop (k + 1) := List.take_of_length_le (by rw [List.length_drop]; exact Nat.le_refl _)
  rw [hn,hxs,hie,hd]
  rfl
theorem HT (m:List Cl) (hm:OkM m):PC Tryz.prog 273 [sl bE m] (fun r => r = sl bE m):=by
 have hml := hm.l
 refine aB Tryz.func273 Tryz.ntmps273 ?_
 repeat' (first|refine aE ?_|fail)
 refine aH (σ := Nat × List Cl) [0] [] (fun k => [(4,iv (k.1 : Int)),(3,.own 0 0 k.1 4)]) (fun k => [(0,some (flat bE k.2))]) (fun k => k.1 ≤ m.length ∧ k.2 = m.take k.1) (fun k => m.length - k.1) (0,[]) ⟨by omega,rfl⟩ ?_
 rintro ⟨i,xs⟩ ⟨hi,hxs⟩
 dsimp only at hi hxs ⊢
 have hln : xs.length = i := by rw [hxs,List.length_take]; exact Nat.min_eq_left hi
 have hst : i < m.length → m[i]!.stk.length ≤ 200 := fun h => (((cL m).1 hm).2 i h).l.2
 repeat' (first|(apply aF;(with_reducible apply aW (d := 21)))|refine aE ?_|(refine aJ ?_ ?_ <;> intro hc hq <;> try (exfalso;omega))|fail)
 ·refine bU (cX ?_ (Le.frzD (d := 20) (i := 3) rfl rfl))
  rw [Nat.zero_add m[i]!.stk.length]
  repeat' (first|(apply aF;first|(apply bS;rfl;rfl;rfl;rfl;rfl;(rw [aI]; omega);(rfl);omega;omega;(exact IW (by (omega)));rfl;rfl)|(apply aL (t := _);rfl;rfl;rfl;(exact (rfl:_=some [_,_,_,_]));rfl;rfl))|refine aE ?_|fail)
  (refine bC (i + 1,_) (Le.renA [(0,5)]) ?_ ?_)
  ·exact ⟨by dsimp only;omega,by dsimp only;rw [hxs,b0 m i (by omega)]⟩
  ·dsimp only;omega
 ·(refine aR (Le.frzD (d := 2) (i := 0) rfl rfl) ?_; refine aD rfl ?_)
  refine ⟨?_,(by (exact a9 _ _))⟩
  have hie : i = m.length := by omega
  simp only [aM,sl]
  rw [hxs,hie,List.take_length]
theorem BZ {m:List Cl}{x:Pt}{wr:Bool}(h:x.cell < 0 ∨ (m.length:Int) ≤ x.cell):a7 m x wr = 4:=by
 unfold a7;rw [if_pos (by omega)]
theorem GH {m:List Cl}{x:Pt}{wr:Bool}(h:0 ≤ x.cell) (h2:x.cell < m.length) (h3:m[x.cell.toNat]!.alive = false):a7 m x wr = 1:=by
 unfold a7;rw [if_neg (by omega),if_pos h3]
theorem Ht {m:List Cl}{x:Pt}{wr:Bool}(h:0 ≤ x.cell) (h2:x.cell < m.length) (h3:m[x.cell.toNat]!.alive = true) (h4:b7 m[x.cell.toNat]!.stk x.tag < 0):a7 m x wr = 2:=by
 unfold a7;rw [if_neg (by omega),if_neg (by rw [h3]; decide),if_pos h4]
theorem qY {m:List Cl}{x:Pt}(h:0 ≤ x.cell) (h2:x.cell < m.length) (h3:m[x.cell.toNat]!.alive = true) (h4:0 ≤ b7 m[x.cell.toNat]!.stk x.tag):a7 m x false = 0:=by
 unfold a7;rw [if_neg (by omega),if_neg (by rw [h3]; decide),if_neg (by omega),if_neg (by intro q;exact absurd q.1 (by decide))]
theorem wR {m:List Cl}{x:Pt}:a7 m x true = if a7 m x false = 0 then (if m[x.cell.toNat]!.stk[(b7 m[x.cell.toNat]!.stk x.tag).toNat]!.uq = false then 3 else 0) else a7 m x false:=by
 unfold a7
 split
 ·rw [if_neg (by decide)]
 ·split
  ·rw [if_neg (by decide)]
  ·split
   ·rw [if_neg (by decide)]
   ·rw [if_neg (c := false = true ∧ _) (by intro q; exact absurd q.1 (by decide)), if_pos rfl]
    simp only [true_and]
theorem dB {m:List Cl}{x:Pt}{wr:Bool}(h:a7 m x wr = 0):0 ≤ x.cell ∧ x.cell < m.length ∧ m[x.cell.toNat]!.alive = true ∧ 0 ≤ b7 m[x.cell.toNat]!.stk x.tag ∧ (wr = true → m[x.cell.toNat]!.stk[(b7 m[x.cell.toNat]!.stk x.tag).toNat]!.uq = true):=by
 unfold a7 at h
 split at h
 ·omega
 ·split at h
  ·omega
  ·split at h
   ·omega
   ·split at h
    ·omega
    ·rename_i a b c d
     refine ⟨by omega,by omega,by simpa using b,by omega,fun hw => ?_⟩
     by_cases q : m[x.cell.toNat]!.stk[(b7 m[x.cell.toNat]!.stk x.tag).toNat]!.uq = false
     ·exact absurd ⟨hw,q⟩ d
     ·simpa using q
theorem eO {m:List Cl}{x0:Operand}(ha0:ev (lk tsl) x0 = some (sl bE m)) (hmc:MC Tryz.prog 273 [sl bE m] [] 0 (fun _:Unit => True) (fun _ => .own 0 0 m.length 4) (fun _ => [(0,some (flat bE m))])) (hM:Nat.ble (nidl + 1) aV = true) (hN:Nat.blt d N = true){md':Md}[hmd:MdA md (fU [x0] ++ []) (List.map Sum.inr (List.map Prod.fst ([(nidl,some (flat bE m))]:List (Nat × Option (List AV)))) ++ [.inl d]) md'] (kk:RW Tryz.prog N all Q md' rest ⟨(d,.own nidl 0 m.length 4) :: tsl,hO hsl [(nidl,some (flat bE m))],nidl + 1,z0⟩):RW Tryz.prog N all Q md (⟨some d,.call ⟨.value (.func 273),#[x0],tys⟩,ty,pos,af,none⟩ :: rest) ⟨tsl,hsl,nidl,z0⟩:=by
 exact aZ (l := [x0]) [] 1 [(nidl,some (flat bE m))] hmc (avs := [sl bE m]) (by simp only [evL,ha0]) rfl hM hN (md' := md') (hmd := hmd) kk
theorem fF (m:List Cl) (hm:OkM m):MC Tryz.prog 273 [sl bE m] [] 0 (fun _:Unit => True) (fun _ => .own 0 0 m.length 4) (fun _ => [(0,some (flat bE m))]):=by
 have hml := hm.l
 refine aX Tryz.func273 Tryz.ntmps273 ?_
 repeat' (first|refine aE ?_|fail)
 refine aH (σ := Nat × List Cl) [0] [] (fun k => [(4,iv (k.1 : Int)),(3,.own 0 0 k.1 4)]) (fun k => [(0,some (flat bE k.2))]) (fun k => k.1 ≤ m.length ∧ k.2 = m.take k.1) (fun k => m.length - k.1) (0,[]) ⟨by omega,rfl⟩ ?_
 rintro ⟨i,xs⟩ ⟨hi,hxs⟩
 dsimp only at hi hxs ⊢
 have hln : xs.length = i := by rw [hxs,List.length_take]; exact Nat.min_eq_left hi
 have hst : i < m.length → m[i]!.stk.length ≤ 200 := fun h => (((cL m).1 hm).2 i h).l.2
 repeat' (first|(apply aF;(with_reducible apply aW (d := 21)))|refine aE ?_|(refine aJ ?_ ?_ <;> intro hc hq <;> try (exfalso;omega))|fail)
 ·refine bU (cX ?_ (Le.frzD (d := 20) (i := 3) rfl rfl))
  rw [Nat.zero_add m[i]!.stk.length]
  repeat' (first|(apply aF;first|(apply bS;rfl;rfl;rfl;rfl;rfl;(rw [aI]; omega);(rfl);omega;omega;(exact IW (by (omega)));rfl;rfl)|(apply aL (t := _);rfl;rfl;rfl;(exact (rfl:_=some [_,_,_,_]));rfl;rfl))|refine aE ?_|fail)
  (refine bC (i + 1,_) (Le.renA [(0,5)]) ?_ ?_)
  ·exact ⟨by dsimp only;omega,by dsimp only;rw [hxs,b0 m i (by omega)]⟩
  ·dsimp only;omega
 ·have hie : i = m.length := by omega
  (refine aD rfl ?_; refine aT () trivial ?_ ⟨sE ?_,trivial⟩)
  ·rw [hie]; rfl
  ·rw [hxs,hie,List.take_length]
theorem kB (m:List Cl) (hm:OkM m) (x:Pt):PC Tryz.prog 276 [sl bE m,mK x] (fun r => r = .tup [iv (if a7 m x false = 0 then b7 m[x.cell.toNat]!.stk x.tag else 0),iv (a7 m x false)]):=by
 have hml := hm.l
 have hcv := nH m (by omega)
 rw [decide_eq_true hm] at hcv
 have hst : 0 ≤ x.cell → x.cell < m.length → m[x.cell.toNat]!.stk.length ≤ 1048576 := fun h1 h2 => Nat.le_trans (((cL m).1 hm).2 x.cell.toNat (by omega)).l.2 (by decide)
 refine aB Tryz.func276 Tryz.ntmps276 ?_
 repeat' (first|(apply aF;first|(apply aA (k := 272);rfl;exact hcv;exact Pur.pf;rfl)|(apply aA (k := 284);rfl;exact C4 m[x.cell.toNat]!.stk x.tag (hst (by assumption) (by assumption));exact Pur.pf;rfl))|refine aE ?_|(refine aJ ?_ ?_ <;> intro hc hq <;> try (exfalso;omega))|(refine bO ?_ ?_ <;> intro hg hq <;> try (exfalso;omega))|refine bI ?_|fail)
 all_goals (refine aD rfl ⟨?_,rfl⟩; simp only [aM])
 ·rw [BZ (by omega)]; rfl
 ·rw [GH (by assumption) (by assumption) (by assumption)]; rfl
 ·rw [Ht (by assumption) (by assumption) (by assumption) (by assumption)]; rfl
 ·rw [qY (by assumption) (by assumption) (by assumption) (by assumption)]; rfl
 ·rw [BZ (by omega)]; rfl
theorem B6 {xs:List Cl}{k:Nat}{s:List Tg}(hk:k < xs.length):gM (flat bE xs) (0 + k * 4 + 3) [sl b6 s] = flat bE (xs.set k { xs[k]! with stk := s }) := fI hk (by simp) rfl
theorem MQ {xs:List Cl}{k:Nat}{v:Int}(hk:k < xs.length):gM (flat bE xs) (0 + k * 4 + 0) [iv v] = flat bE (xs.set k { xs[k]! with val := v }) := fI hk (by simp) rfl
theorem Nf {xs:List Cl}{k:Nat}{b:Bool}(hk:k < xs.length):gM (flat bE xs) (0 + k * 4 + 1) [.v (.bool b)] = flat bE (xs.set k { xs[k]! with alive := b }) := fI hk (by simp) rfl
theorem dV {α:Type}{f:α → List AV}{xs:List α}{n:Nat}(h:n = xs.length):AV.imm n (flat f xs) = sl f xs := by subst h;rfl
theorem qB (m:List Cl) (hm:OkM m) (x:Pt):PC Tryz.prog 252 [sl bE m,mK x] (fun r => r = .tup [sl bE (dI m x false),iv (oV m x),iv (a7 m x false)]):=by
 have hml := hm.l
 have hst : 0 ≤ x.cell → x.cell < m.length → m[x.cell.toNat]!.stk.length ≤ 1048576 := fun h1 h2 => Nat.le_trans (((cL m).1 hm).2 x.cell.toNat (by omega)).l.2 (by decide)
 by_cases hk : a7 m x false = 0
 ·have hpl := kB m hm x
  rw [if_pos hk,hk] at hpl
  obtain ⟨h1,h2,h3,h4,_⟩ := dB hk
  have hbd := dX m[x.cell.toNat]!.stk x.tag
  have hrd := IT m[x.cell.toNat]!.stk (b7 m[x.cell.toNat]!.stk x.tag).toNat (by omega) (hst h1 h2)
  rw [Int.toNat_of_nonneg h4] at hrd
  refine aB Tryz.func252 Tryz.ntmps252 ?_
  repeat' (first|(apply aF;first|(apply eO;rfl;exact fF m hm;rfl;rfl)|(apply aA (k := 276);rfl;exact hpl;exact Pur.pf;rfl)|(apply aA (k := 277);rfl;exact hrd;exact Pur.pf;rfl)|(apply bB;rfl;rfl;rfl;rfl;rfl;(rw [aI]; simp only [gB] <;> omega);(exact B6 (by (omega)))))|refine aE ?_|refine bI ?_|fail)
  (refine aR (Le.frzD (d := 4) (i := 1) rfl rfl) ?_; refine aD rfl ?_)
  refine ⟨?_,by exact Pur.pf⟩
  simp only [aM]
  rw [dV (by rw [List.length_set]),hk]
  unfold dI oV;rw [if_pos hk,if_pos hk]; rfl
 ·have hpl := kB m hm x
  rw [if_neg hk] at hpl
  refine aB Tryz.func252 Tryz.ntmps252 ?_
  repeat' (first|(apply aF;first|(apply eO;rfl;exact fF m hm;rfl;rfl)|(apply aA (k := 276);rfl;exact hpl;exact Pur.pf;rfl))|refine aE ?_|(refine aJ ?_ ?_ <;> intro hc hq <;> try (exfalso;omega))|fail)
  (refine aR (Le.frzD (d := 4) (i := 1) rfl rfl) ?_; refine aD rfl ?_)
  refine ⟨?_,by exact Pur.pf⟩
  simp only [aM]
  unfold dI oV;rw [if_neg hk,if_neg hk]
theorem L6 {cs:List AV}{i:Nat}{c:AV}:gM cs i [c] = cs.take i ++ c :: cs.drop (i + 1):=by
 have := xD (cs := cs) (v := i) (c := c)
 rwa [Nat.zero_add,Nat.mul_one] at this
theorem Le.frzCl {ts:List (Nat × AV)}{hs:List (Nat × Option (List AV))}{n:Nat}{z0:Lo}{j q v m:Nat}{u:List Cl}{r:List Tg}(hj:aO hs j = some (gM (flat bE u) (0 + v * 4 + 3) [.own q 0 m 2])) (hq:aO hs q = some (flat b6 r)) (hm:m = r.length) (hv:v < u.length) (hjq:j ≠ q) :
  Le ⟨ts,hs,n,z0⟩ ⟨ts,(j,some (flat bE (u.set v { u[v]! with stk := r }))) :: (q,none) :: hs,n,z0⟩ := by
 subst hm
 have hl : (flat bE u).length = u.length * 4 := aI bE u
 have e := B6 (s := r) hv
 rw [L6] at hj e
 have h := Le.frzC (ts := ts) (n := n) (z0 := z0) ((flat bE u).take (0 + v * 4 + 3)) hj hq hjq
 rw [← e]; exact h
theorem sC {m:List Cl}{x:Pt}{wr:Bool}:(dI m x wr).length = m.length:=by
 unfold dI;split
 ·rw [List.length_set]
 ·rfl
theorem gT {m:List Cl}{x:Pt}{x0 x1:Operand}(ha0:ev (lk tsl) x0 = some (sl bE m)) (ha1:ev (lk tsl) x1 = some (mK x)) (hmc:MC Tryz.prog 271 [sl bE m,mK x] [] 0 (fun _:Unit => True) (fun _ => .tup [.own 1 0 m.length 4,iv (a7 m x true)]) (fun _ => [(1,some (flat bE (dI m x true)))])) (hM:Nat.ble (nidl + 2) aV = true) (hN:Nat.blt d N = true){md':Md}[hmd:MdA md (fU [x0,x1] ++ []) (List.map Sum.inr (List.map Prod.fst ([((nidl + 1),some (flat bE (dI m x true)))]:List (Nat × Option (List AV)))) ++ [.inl d]) md'] (kk:RW Tryz.prog N all Q md' rest ⟨(d,.tup [.own (nidl + 1) 0 m.length 4,iv (a7 m x true)]) :: tsl,hO hsl [((nidl + 1),some (flat bE (dI m x true)))],nidl + 2,z0⟩):RW Tryz.prog N all Q md (⟨some d,.call ⟨.value (.func 271),#[x0,x1],tys⟩,ty,pos,af,none⟩ :: rest) ⟨tsl,hsl,nidl,z0⟩:=by
 exact aZ (l := [x0,x1]) [] 2 [((nidl + 1),some (flat bE (dI m x true)))] hmc (avs := [sl bE m,mK x]) (by simp only [evL,ha0,ha1]) rfl hM hN (md' := md') (hmd := hmd) kk
theorem iN (m:List Cl) (x:Pt) (hm:OkM m):MC Tryz.prog 271 [sl bE m,mK x] [] 0 (fun _:Unit => True) (fun _ => .tup [.own 1 0 m.length 4,iv (a7 m x true)]) (fun _ => [(1,some (flat bE (dI m x true)))]):=by
 have hml := hm.l
 have hst : 0 ≤ x.cell → x.cell < m.length → m[x.cell.toNat]!.stk.length ≤ 200 := fun h1 h2 => (((cL m).1 hm).2 x.cell.toNat (by omega)).l.2
 have hpl := kB m hm x
 by_cases hk : a7 m x false = 0
 ·rw [if_pos hk, hk] at hpl
  obtain ⟨h1,h2,h3,h4,_⟩ := dB hk
  have hbd := dX m[x.cell.toNat]!.stk x.tag
  have hs2 := hst h1 h2
  obtain ⟨k,hkk⟩ := Int.eq_ofNat_of_zero_le h4
  rw [hkk] at hpl
  have hkn : k < m[x.cell.toNat]!.stk.length := by omega
  have hkt : (b7 m[x.cell.toNat]!.stk x.tag).toNat = k := by omega
  have hwr := wR (m := m) (x := x)
  rw [if_pos hk,hkt] at hwr
  have e1 : List.take (((k : Int) + 1).toNat - 0) (List.drop 0 m[x.cell.toNat]!.stk) = m[x.cell.toNat]!.stk.take (k + 1) := by rw [List.drop_zero]; congr 1
  have e2 : (m[x.cell.toNat]!.stk.take (k + 1)).length = k + 1 := by rw [List.length_take]; omega
  refine aX Tryz.func271 Tryz.ntmps271 ?_
  repeat' (first|(apply aF;first|(apply eO;rfl;exact fF m hm;rfl;rfl)|(apply aA (k := 276);rfl;exact hpl;exact Pur.pf;rfl)|(with_reducible apply aW (d := 46)))|refine aE ?_|(refine aJ ?_ ?_ <;> intro hc hq <;> try (exfalso;omega))|refine bI ?_|fail)
  ·have hu : m[x.cell.toNat]!.stk[k]!.uq = false := by assumption
   rw [if_pos hu] at hwr
   (refine aD rfl ?_; refine aT () trivial ?_ ⟨sE ?_,trivial⟩)
   ·rw [hwr]; rfl
   ·unfold dI;rw [if_neg (by rw [hwr]; decide)]
  ·have hu : m[x.cell.toNat]!.stk[k]!.uq = true := by assumption
   rw [if_neg (by rw [hu]; decide)] at hwr
   refine bU ?_
   rw [e1]
   repeat' (first|(apply aF;(with_reducible apply aW (d := 49)))|refine aE ?_|fail)
   refine bU (cX ?_ (Le.frzCl (j := 1) (q := 3) (v := x.cell.toNat) (u := m) (r := m[x.cell.toNat]!.stk.take (k + 1)) rfl rfl (Nat.zero_add _) (by omega) (by decide)))
   repeat' (first|refine aE ?_|fail)
   (refine aD rfl ?_; refine aT () trivial ?_ ⟨sE ?_,trivial⟩)
   ·rw [hwr]; rfl
   ·unfold dI sO fZ;rw [if_pos hwr,hkt,if_pos rfl]
 ·rw [if_neg hk] at hpl
  have hk2 : a7 m x true = a7 m x false := by rw [wR,if_neg hk]
  refine aX Tryz.func271 Tryz.ntmps271 ?_
  repeat' (first|(apply aF;first|(apply eO;rfl;exact fF m hm;rfl;rfl)|(apply aA (k := 276);rfl;exact hpl;exact Pur.pf;rfl))|refine aE ?_|(refine aJ ?_ ?_ <;> intro hc hq <;> try (exfalso;omega))|fail)
  (refine aD rfl ?_; refine aT () trivial ?_ ⟨sE ?_,trivial⟩)
  ·rw [hk2]; rfl
  ·unfold dI;rw [if_neg (by rw [hk2]; exact hk)]
theorem set_set {α:Type}{l:List α}{i:Nat}{a b:α}:(l.set i a).set i b = l.set i b := by simp
theorem kV {α:Type}[Inhabited α] {l:List α}{i:Nat}{a:α}(h:i < l.length):(l.set i a)[i]! = a := by rw [aS _ _ (by rw [List.length_set]; exact h),List.getElem_set_self]
theorem xJ (m:List Cl) (hm:OkM m) (x:Pt) (v:Int):PC Tryz.prog 253 [sl bE m,mK x,iv v] (fun r => r = .tup [sl bE (zY m x v),iv (vH m x v)]):=by
 have hml := hm.l
 have hlt := sC (m := m) (x := x) (wr := true)
 have hin := dB (m := m) (x := x) (wr := true)
 by_cases hv : 0 ≤ v ∧ v ≤ 9
 ·have hwk : vH m x v = a7 m x true := by unfold vH; rw [if_pos hv]
  by_cases hk : a7 m x true = 0
  ·obtain ⟨h1, h2, _⟩ := hin hk
   refine aB Tryz.func253 Tryz.ntmps253 ?_
   repeat' (first|(apply aF;first|(apply gT;rfl;rfl;exact iN m x hm;rfl;rfl)|(apply bB;rfl;rfl;rfl;rfl;rfl;(rw [aI]; simp only [gB] <;> omega);(exact MQ (by (omega)))))|refine aE ?_|(refine aJ ?_ ?_ <;> intro hc hq <;> try (exfalso;omega))|(refine bO ?_ ?_ <;> intro hg hq <;> try (exfalso;omega))|fail)
   (refine aR (Le.frzD (d := 6) (i := 2) rfl rfl) ?_; refine aD rfl ?_)
   refine ⟨?_,by exact Pur.pf⟩
   simp only [aM]
   rw [dV (by rw [List.length_set,hlt]),hwk]
   unfold zY dI;rw [if_pos hk,if_pos (by rw [hwk]; exact hk),kV (by omega),set_set]
  ·refine aB Tryz.func253 Tryz.ntmps253 ?_
   repeat' (first|(apply aF;(apply gT;rfl;rfl;exact iN m x hm;rfl;rfl))|refine aE ?_|(refine aJ ?_ ?_ <;> intro hc hq <;> try (exfalso;omega))|(refine bO ?_ ?_ <;> intro hg hq <;> try (exfalso;omega))|fail)
   (refine aR (Le.frzD (d := 6) (i := 2) rfl rfl) ?_; refine aD rfl ?_)
   refine ⟨?_,by exact Pur.pf⟩
   simp only [aM]
   rw [dV (by rw [hlt]),hwk]
   unfold zY dI;rw [if_neg hk,if_neg (by rw [hwk]; exact hk)]
 ·have hwk : vH m x v = 4 := by unfold vH; rw [if_neg hv]
  have e : zY m x v = m := by unfold zY;rw [if_neg (by rw [hwk]; decide)]
  refine aB Tryz.func253 Tryz.ntmps253 ?_
  repeat' (first|(apply aF;(apply eO;rfl;exact fF m hm;rfl;rfl))|refine aE ?_|(refine aJ ?_ ?_ <;> intro hc hq <;> try (exfalso;omega))|(refine bO ?_ ?_ <;> intro hg hq <;> try (exfalso;omega))|fail)
  all_goals (try (exfalso;omega))
  all_goals (
   (refine aR (Le.frzD (d := 6) (i := 1) rfl rfl) ?_; refine aD rfl ?_)
   refine ⟨?_,by exact Pur.pf⟩
   simp only [aM]
   rw [e,hwk])
theorem l7 (m:List Cl) (hm:OkM m) (x:Pt):PC Tryz.prog 245 [sl bE m,mK x] (fun r => r = .tup [sl bE (k9 m x),iv (a7 m x true)]):=by
 have hml := hm.l
 have hlt := sC (m := m) (x := x) (wr := true)
 have hin := dB (m := m) (x := x) (wr := true)
 by_cases hk : a7 m x true = 0
 ·obtain ⟨h1, h2, _⟩ := hin hk
  refine aB Tryz.func245 Tryz.ntmps245 ?_
  repeat' (first|(apply aF;first|(apply gT;rfl;rfl;exact iN m x hm;rfl;rfl)|(apply bB;rfl;rfl;rfl;rfl;rfl;(rw [aI]; simp only [gB] <;> omega);(exact Nf (by (omega)))))|refine aE ?_|(refine aJ ?_ ?_ <;> intro hc hq <;> try (exfalso;omega))|fail)
  (refine aR (Le.frzD (d := 4) (i := 2) rfl rfl) ?_; refine aD rfl ?_)
  refine ⟨?_,by exact Pur.pf⟩
  simp only [aM]
  rw [dV (by rw [List.length_set,hlt])]
  unfold k9 dI;rw [if_pos hk,if_pos hk,kV (by omega),set_set]
 ·refine aB Tryz.func245 Tryz.ntmps245 ?_
  repeat' (first|(apply aF;(apply gT;rfl;rfl;exact iN m x hm;rfl;rfl))|refine aE ?_|(refine aJ ?_ ?_ <;> intro hc hq <;> try (exfalso;omega))|fail)
  (refine aR (Le.frzD (d := 4) (i := 2) rfl rfl) ?_; refine aD rfl ?_)
  refine ⟨?_,by exact Pur.pf⟩
  simp only [aM]
  rw [dV (by rw [hlt])]
  unfold k9 dI;rw [if_neg hk,if_neg hk]
theorem CF (m:List Cl) (hm:OkM m) (v:Int):PC Tryz.prog 249 [sl bE m,iv v] (fun r => r = .tup (if 0 ≤ v ∧ v ≤ 9 ∧ m.length < 200 then [sl bE (m ++ [uN v]),.agg [iv m.length,iv 0],bv true] else [sl bE [],.agg [iv 0,iv 0],bv false])):=by
 have hml := hm.l
 have hcv := nH m (by omega)
 rw [decide_eq_true hm] at hcv
 refine aB Tryz.func249 Tryz.ntmps249 ?_
 repeat' (first|(apply aF;first|(apply eO;rfl;exact fF m hm;rfl;rfl)|(apply aA (k := 272);rfl;exact hcv;exact Pur.pf;rfl)|(apply aL (t := _);rfl;rfl;rfl;(first|exact (rfl:_=some [_,_])|exact (rfl:_=some [_,_,_,_])|rfl);rfl;rfl))|refine aE ?_|(refine aJ ?_ ?_ <;> intro hc hq <;> try (exfalso;omega))|(refine bO ?_ ?_ <;> intro hg hq <;> try (exfalso;omega))|fail)
 all_goals try exact aD (l := [sl bE [],.agg [iv 0,iv 0],bv false]) rfl ⟨by rw [if_neg (by omega)]; rfl,rfl⟩
 have e : ((flat bE m).drop 0).take (m.length * 4) ++ [iv v,bv true,iv 1,.imm 1 [iv 0,bv true]] = flat bE (m ++ [uN v]) := fK rfl rfl
 have e2 : AV.imm (m.length + 1) (((flat bE m).drop 0).take (m.length * 4) ++ [iv v, bv true, iv 1, .imm 1 [iv 0, bv true]]) = sl bE (m ++ [uN v]) := by
  rw [e]; exact dV (by rw [List.length_append]; rfl)
 refine aR (Le.frzD (d := 4) (i := 4) rfl rfl) ?_
 refine aD (l := [AV.imm (m.length + 1) (((flat bE m).drop 0).take (m.length * 4) ++ [iv v,bv true,iv 1,.imm 1 [iv 0,bv true]]),.agg [iv m.length,iv 0],bv true]) rfl ?_
 rw [e2,if_pos (by omega)]
 exact ⟨rfl,by exact Pur.pf⟩
def nW (m : List Cl) (j : Nat) (r : List Tg) : Prop := r.length = 200 ∨ m[j]!.next = 1000
instance (m : List Cl) (j : Nat) (r : List Tg) : Decidable (nW m j r) := by unfold nW;infer_instance
def jC (m b : List Cl) (j : Nat) (u : Bool) (r : List Tg) : List Cl := if nW m j r then b else m.set j (psh { m[j]! with stk := r } u)
def jD (m : List Cl) (j : Nat) (r : List Tg) : Pt := if nW m j r then ⟨0,0⟩ else ⟨j,m[j]!.next⟩
def jG (m : List Cl) (j : Nat) (r : List Tg) : Int := if nW m j r then 4 else 0
theorem v9 {m b:List Cl}{j:Nat}{u:Bool}{r:List Tg}{n k:Nat}{x0 x1 x2 x3:Operand}{i0 i1:Nat}(ha0:ev (lk tsl) x0 = some (.own i0 0 n 4)) (ha1:ev (lk tsl) x1 = some (sl bE b)) (ha2:ev (lk tsl) x2 = some (iv (j:Int))) (ha3:ev (lk tsl) x3 = some (bv u)) (hH0:aO hsl i0 = some (flat dZ (cS m j (.own i1 0 k 2)))) (hH1:aO hsl i1 = some (flat b6 r)) (hdd:Go.AL.distinct [i0,i1] = true) (hmc:MC Tryz.prog 283 [.own 0 0 n 4,sl bE b,iv (j:Int),bv u] [(0,some (flat dZ (cS m j (.own 1 0 k 2)))),(1,some (flat b6 r))] 2 (fun _:Unit => True) (fun _ => .tup [sl bE (jC m b j u r),mK (jD m j r),iv (jG m j r)]) (fun _ => [])) (hM:Nat.ble (nidl + 0) aV = true) (hN:Nat.blt d N = true){md':Md}[hmd:MdA md (fU [x0,x1,x2,x3] ++ [.inr i0,.inr i1]) (List.map Sum.inr (List.map Prod.fst ([(i0,none),(i1,none)]:List (Nat × Option (List AV)))) ++ [.inl d]) md'] (kk:RW Tryz.prog N all Q md' rest ⟨(d,.tup [sl bE (jC m b j u r),mK (jD m j r),iv (jG m j r)]) :: tsl,hO hsl [(i0,none),(i1,none)],nidl + 0,z0⟩):RW Tryz.prog N all Q md (⟨some d,.call ⟨.value (.func 283),#[x0,x1,x2,x3],tys⟩,ty,pos,af,none⟩ :: rest) ⟨tsl,hsl,nidl,z0⟩:=by
 exact aZ (l := [x0,x1,x2,x3]) [i0,i1] 2 [(i0,none),(i1,none)] hmc (avs := [.own i0 0 n 4,sl bE b,iv (j : Int),bv u]) (by simp only [evL,ha0,ha1,ha2,ha3]) hdd hM hN (md' := md') (hmd := hmd) kk
theorem AZ (m b:List Cl) (j:Nat) (u:Bool) (r:List Tg) (n k:Nat) (hb:OkM b) (hn:n = m.length) (hk:k = r.length) (hj:j < m.length) (hnx:0 ≤ m[j]!.next ∧ m[j]!.next ≤ 1000) (hr:r.length ≤ 200) (hml:m.length ≤ 200):MC Tryz.prog 283 [.own 0 0 n 4,sl bE b,iv (j:Int),bv u] [(0,some (flat dZ (cS m j (.own 1 0 k 2)))),(1,some (flat b6 r))] 2 (fun _:Unit => True) (fun _ => .tup [sl bE (jC m b j u r),mK (jD m j r),iv (jG m j r)]) (fun _ => []):=by
 have hol := cP (m := m) (j := j) (X := .own 1 0 k 2)
 have hog := gJ (m := m) (j := j) (X := .own 1 0 k 2) hj
 have hol2 := cP (m := m) (j := j) (X := .own (2 + 1 + 1 + 1) 0 (r.length + 1) 2)
 subst hn hk
 refine aX Tryz.func283 Tryz.ntmps283 ?_
 repeat' (first|(apply aF;(with_reducible apply aW (d := 11)))|refine aE ?_|fail)
 refine bU ?_
 rw [hog]
 dsimp only
 repeat' (first|(apply aF;first|(apply aA (k := 273);rfl;exact HT b hb;exact Pur.pf;rfl)|(apply bS;rfl;rfl;rfl;rfl;rfl;(rw [aI]; omega);(rfl);omega;omega;(exact sS (by (omega)));rfl;rfl)|(apply bB;rfl;rfl;rfl;rfl;rfl;(case hl => (first|decide|(rw [aI]; simp only [gB] <;> omega)|(simp;done)));(first|exact tU (by (assumption))|exact yN (by (assumption))))|(apply aL (t := _);rfl;rfl;rfl;(exact (rfl:_=some [_,_]));rfl;rfl))|refine aE ?_|(refine aJ ?_ ?_ <;> intro hc hq <;> try (exfalso;omega))|(refine bO ?_ ?_ <;> intro hg hq <;> try (exfalso;omega))|fail)
 ·have hf : nW m j r := .inr (by assumption)
  refine aD (l := [sl bE b,.agg [iv 0,iv 0],iv 4]) rfl ?_
  refine aT () trivial ?_ trivial
  unfold jC jD jG;rw [if_pos hf,if_pos hf,if_pos hf]; rfl
 ·have hf : ¬ nW m j r := by unfold nW; omega
  have hm2 : (m.set j { m[j]! with next := m[j]!.next + 1 }).length = m.length := List.length_set
  refine aR (Le.cls (o := 0) (q := 5) (j := j) (k := r.length + 1) (m := m.set j { m[j]! with next := m[j]!.next + 1 }) (r := r ++ [⟨m[j]!.next,u⟩]) rfl rfl (by rw [List.length_append]; rfl) (by omega) (by decide)) ?_
  refine aR (Le.frzD (d := 8) (i := 0) rfl rfl) ?_
  have e : (m.set j { m[j]! with next := m[j]!.next + 1 }).set j { (m.set j { m[j]! with next := m[j]!.next + 1 })[j]! with stk := r ++ [⟨m[j]!.next, u⟩] } = m.set j (psh { m[j]! with stk := r } u) := by
   rw [kV hj,set_set]; rfl
  rw [e]
  refine aD (l := [.imm m.length (flat bE (m.set j (psh { m[j]! with stk := r } u))),.agg [iv (j : Int),iv m[j]!.next],iv 0]) rfl ?_
  refine aT () trivial ?_ trivial
  unfold jC jD jG;rw [if_neg hf,if_neg hf,if_neg hf,dV (by rw [List.length_set])]; rfl
 ·have hf : nW m j r := .inl (by omega)
  refine aD (l := [sl bE b,.agg [iv 0,iv 0],iv 4]) rfl ?_
  refine aT () trivial ?_ trivial
  unfold jC jD jG;rw [if_pos hf,if_pos hf,if_pos hf]; rfl
theorem BY {stk r:List Tg}{k:Nat}{x0 x1:Operand}(ha0:ev (lk tsl) x0 = some (sl b6 stk)) (ha1:ev (lk tsl) x1 = some (iv (k:Int))) (hmc:MC Tryz.prog 277 [sl b6 stk,iv (k:Int)] [] 0 (fun _:Unit => True) (fun _ => .own 1 0 r.length 2) (fun _ => [(1,some (flat b6 r))])) (hM:Nat.ble (nidl + 2) aV = true) (hN:Nat.blt d N = true){md':Md}[hmd:MdA md (fU [x0,x1] ++ []) (List.map Sum.inr (List.map Prod.fst ([((nidl + 1),some (flat b6 r))]:List (Nat × Option (List AV)))) ++ [.inl d]) md'] (kk:RW Tryz.prog N all Q md' rest ⟨(d,.own (nidl + 1) 0 r.length 2) :: tsl,hO hsl [((nidl + 1),some (flat b6 r))],nidl + 2,z0⟩):RW Tryz.prog N all Q md (⟨some d,.call ⟨.value (.func 277),#[x0,x1],tys⟩,ty,pos,af,none⟩ :: rest) ⟨tsl,hsl,nidl,z0⟩:=by
 exact aZ (l := [x0,x1]) [] 2 [((nidl + 1),some (flat b6 r))] hmc (avs := [sl b6 stk,iv (k : Int)]) (by simp only [evL,ha0,ha1]) rfl hM hN (md' := md') (hmd := hmd) kk
theorem EL (stk r:List Tg) (k:Nat) (hr:r = fZ stk k false) (hk:k < stk.length) (hl:stk.length ≤ 1048576):MC Tryz.prog 277 [sl b6 stk,iv (k:Int)] [] 0 (fun _:Unit => True) (fun _ => .own 1 0 r.length 2) (fun _ => [(1,some (flat b6 r))]):=by
 have e1 : List.take (((k : Int) + 1).toNat - 0) (List.drop 0 stk) = stk.take (k + 1) := by rw [List.drop_zero]; congr 1
 have e2 : (stk.take (k + 1)).length = k + 1 := by rw [List.length_take]; omega
 refine aX Tryz.func277 Tryz.ntmps277 ?_
 repeat' (first|(apply aF;(with_reducible apply aW (d := 12)))|refine aE ?_|fail)
 refine bU ?_
 rw [e1]
 repeat' (first|refine aE ?_|fail)
 refine aH (σ := Nat × List Tg × Nat) [0] [] (fun s => [(6,iv (s.1 : Int)),(5,.own 1 0 s.2.2 2)]) (fun s => [(1,some (flat b6 s.2.1))]) (fun s => k + 1 ≤ s.1 ∧ s.1 ≤ stk.length ∧ s.2.1 = stk.take (k + 1) ++ ((stk.drop (k + 1)).take (s.1 - (k + 1))).filter (fun t => !t.uq) ∧ s.2.2 = s.2.1.length ∧ s.2.2 ≤ s.1) (fun s => stk.length - s.1) (k + 1,stk.take (k + 1),0 + (stk.take (k + 1)).length) ⟨Nat.le_refl _,by dsimp only;omega,by simp,by dsimp only;omega,by dsimp only;omega⟩ ?_
 rintro ⟨i,xs,n⟩ ⟨hki,hi,hxs,hn,hni⟩
 dsimp only at hki hi hxs hn hni ⊢
 repeat' (first|(apply aF;first|(apply bS;rfl;rfl;rfl;rfl;rfl;(rw [aI]; omega);(rfl);omega;omega;(exact sS (by (assumption)));rfl;rfl)|(apply aL (t := _);rfl;rfl;rfl;(exact (rfl:_=some [_,_]));rfl;rfl))|refine aE ?_|(refine aJ ?_ ?_ <;> intro hc hq <;> try (exfalso;omega))|fail)
 ·(refine bC (i + 1, _, _) (Le.renA [(1, 3)]) ?_ ?_)
  ·refine ⟨by dsimp only; omega, by dsimp only; omega, ?_, by dsimp only; rw [List.length_append, hn]; rfl, by dsimp only; omega⟩
   dsimp only
   rw [hxs,jI stk hki (by omega),List.filter_append,List.append_assoc]
   congr 2
   have hu : stk[i]!.uq = false := by assumption
   rw [pS (by rw [hu]; rfl)]
  ·dsimp only;omega
 ·(refine bC (i + 1, xs, n) (Le.renA [(1, 1)]) ?_ ?_)
  ·refine ⟨by dsimp only; omega, by dsimp only; omega, ?_, hn, by dsimp only; omega⟩
   dsimp only
   have hu : stk[i]!.uq = true := by assumption
   rw [hxs,jI stk hki (by omega),List.filter_append,mV (by rw [hu]; rfl),List.append_nil]
  ·dsimp only;omega
 ·have hie : i = stk.length := by omega
  have hd : (stk.drop (k + 1)).take (stk.length - (k + 1)) = stk.drop (k + 1) := List.take_of_length_le (by rw [List.length_drop]; exact Nat.le_refl _)
  have hxr : xs = r := by rw [hxs,hie,hd,hr]; rfl
  subst hxr
  (refine aD rfl ?_; refine aT () trivial ?_ ⟨sE ?_,trivial⟩)
  ·rw [hn]; rfl
  ·rfl
theorem Gb {m:List Cl}{x:Pt}{j:Nat}{r:List Tg}{v:Int}{x0 x1:Operand}(ha0:ev (lk tsl) x0 = some (sl bE m)) (ha1:ev (lk tsl) x1 = some (mK x)) (hmc:MC Tryz.prog 252 [sl bE m,mK x] [] 0 (fun _:Unit => True) (fun _ => .tup [.own 1 0 m.length 4,iv v,iv 0]) (fun _ => [(1,some (flat dZ (cS m j (.own 3 0 r.length 2)))),(3,some (flat b6 r))])) (hM:Nat.ble (nidl + 4) aV = true) (hN:Nat.blt d N = true){md':Md}[hmd:MdA md (fU [x0,x1] ++ []) (List.map Sum.inr (List.map Prod.fst ([((nidl + 1),some (flat dZ (cS m j (.own (nidl + 3) 0 r.length 2)))),((nidl + 3),some (flat b6 r))]:List (Nat × Option (List AV)))) ++ [.inl d]) md'] (kk:RW Tryz.prog N all Q md' rest ⟨(d,.tup [.own (nidl + 1) 0 m.length 4,iv v,iv 0]) :: tsl,hO hsl [((nidl + 1),some (flat dZ (cS m j (.own (nidl + 3) 0 r.length 2)))),((nidl + 3),some (flat b6 r))],nidl + 4,z0⟩):RW Tryz.prog N all Q md (⟨some d,.call ⟨.value (.func 252),#[x0,x1],tys⟩,ty,pos,af,none⟩ :: rest) ⟨tsl,hsl,nidl,z0⟩:=by
 exact aZ (l := [x0,x1]) [] 4 [((nidl + 1),some (flat dZ (cS m j (.own (nidl + 3) 0 r.length 2)))),((nidl + 3),some (flat b6 r))] hmc (avs := [sl bE m,mK x]) (by simp only [evL,ha0,ha1]) rfl hM hN (md' := md') (hmd := hmd) kk
theorem Ji (m:List Cl) (x:Pt) (j:Nat) (r:List Tg) (v:Int) (hm:OkM m) (hk:a7 m x false = 0) (hj:j = x.cell.toNat) (hr:r = fZ m[j]!.stk (b7 m[j]!.stk x.tag).toNat false) (hv:v = m[j]!.val):MC Tryz.prog 252 [sl bE m,mK x] [] 0 (fun _:Unit => True) (fun _ => .tup [.own 1 0 m.length 4,iv v,iv 0]) (fun _ => [(1,some (flat dZ (cS m j (.own 3 0 r.length 2)))),(3,some (flat b6 r))]):=by
 subst hj
 have hml := hm.l
 have hst : 0 ≤ x.cell → x.cell < m.length → m[x.cell.toNat]!.stk.length ≤ 1048576 := fun h1 h2 => Nat.le_trans (((cL m).1 hm).2 x.cell.toNat (by omega)).l.2 (by decide)
 have hpl := kB m hm x
 rw [if_pos hk,hk] at hpl
 obtain ⟨h1,h2,h3,h4,_⟩ := dB hk
 have hbd := dX m[x.cell.toNat]!.stk x.tag
 have hrd := EL m[x.cell.toNat]!.stk r (b7 m[x.cell.toNat]!.stk x.tag).toNat hr (by omega) (hst h1 h2)
 rw [Int.toNat_of_nonneg h4] at hrd
 obtain ⟨k,hkk⟩ := Int.eq_ofNat_of_zero_le h4
 rw [hkk] at hpl hrd
 refine aX Tryz.func252 Tryz.ntmps252 ?_
 repeat' (first|(apply aF;first|(apply eO;rfl;exact fF m hm;rfl;rfl)|(apply aA (k := 276);rfl;exact hpl;exact Pur.pf;rfl)|(apply BY;rfl;rfl;exact hrd;rfl;rfl)|(apply bB;rfl;rfl;rfl;rfl;rfl;(rw [aI]; simp only [gB] <;> omega);(exact yL (by (omega)))))|refine aE ?_|refine bI ?_|fail)
 (refine aD rfl ?_; refine aT () trivial ?_ ⟨sE ?_,⟨sE ?_,trivial⟩⟩)
 ·rw [hv]; rfl
 ·rfl
 ·rfl
theorem Ep {m:List Cl}{x:Pt}{j:Nat}{r:List Tg}{x0 x1:Operand}(ha0:ev (lk tsl) x0 = some (sl bE m)) (ha1:ev (lk tsl) x1 = some (mK x)) (hmc:MC Tryz.prog 271 [sl bE m,mK x] [] 0 (fun _:Unit => True) (fun _ => .tup [.own 1 0 m.length 4,iv 0]) (fun _ => [(1,some (flat dZ (cS m j (.own 3 0 r.length 2)))),(3,some (flat b6 r))])) (hM:Nat.ble (nidl + 4) aV = true) (hN:Nat.blt d N = true){md':Md}[hmd:MdA md (fU [x0,x1] ++ []) (List.map Sum.inr (List.map Prod.fst ([((nidl + 1),some (flat dZ (cS m j (.own (nidl + 3) 0 r.length 2)))),((nidl + 3),some (flat b6 r))]:List (Nat × Option (List AV)))) ++ [.inl d]) md'] (kk:RW Tryz.prog N all Q md' rest ⟨(d,.tup [.own (nidl + 1) 0 m.length 4,iv 0]) :: tsl,hO hsl [((nidl + 1),some (flat dZ (cS m j (.own (nidl + 3) 0 r.length 2)))),((nidl + 3),some (flat b6 r))],nidl + 4,z0⟩):RW Tryz.prog N all Q md (⟨some d,.call ⟨.value (.func 271),#[x0,x1],tys⟩,ty,pos,af,none⟩ :: rest) ⟨tsl,hsl,nidl,z0⟩:=by
 exact aZ (l := [x0,x1]) [] 4 [((nidl + 1),some (flat dZ (cS m j (.own (nidl + 3) 0 r.length 2)))),((nidl + 3),some (flat b6 r))] hmc (avs := [sl bE m,mK x]) (by simp only [evL,ha0,ha1]) rfl hM hN (md' := md') (hmd := hmd) kk
theorem G3 (m:List Cl) (x:Pt) (j:Nat) (r:List Tg) (hm:OkM m) (hk:a7 m x true = 0) (hj:j = x.cell.toNat) (hr:r = fZ m[j]!.stk (b7 m[j]!.stk x.tag).toNat true):MC Tryz.prog 271 [sl bE m,mK x] [] 0 (fun _:Unit => True) (fun _ => .tup [.own 1 0 m.length 4,iv 0]) (fun _ => [(1,some (flat dZ (cS m j (.own 3 0 r.length 2)))),(3,some (flat b6 r))]):=by
 subst hj
 have hml := hm.l
 obtain ⟨h1,h2,h3,h4,hu⟩ := dB hk
 have hk0 : a7 m x false = 0 := qY h1 h2 h3 h4
 have hs2 : m[x.cell.toNat]!.stk.length ≤ 200 := (((cL m).1 hm).2 x.cell.toNat (by omega)).l.2
 have hpl := kB m hm x
 rw [if_pos hk0,hk0] at hpl
 have hbd := dX m[x.cell.toNat]!.stk x.tag
 obtain ⟨k,hkk⟩ := Int.eq_ofNat_of_zero_le h4
 have hkt : (b7 m[x.cell.toNat]!.stk x.tag).toNat = k := by omega
 rw [hkk] at hpl
 rw [hkt] at hr hu
 have hkn : k < m[x.cell.toNat]!.stk.length := by omega
 have e1 : List.take (((k : Int) + 1).toNat - 0) (List.drop 0 m[x.cell.toNat]!.stk) = r := by rw [List.drop_zero,hr]; unfold fZ;rw [if_pos rfl]; congr 1
 have e2 : r.length = k + 1 := by rw [← e1,List.drop_zero,List.length_take]; omega
 have hut := hu rfl
 refine aX Tryz.func271 Tryz.ntmps271 ?_
 repeat' (first|(apply aF;first|(apply eO;rfl;exact fF m hm;rfl;rfl)|(apply aA (k := 276);rfl;exact hpl;exact Pur.pf;rfl)|(with_reducible apply aW (d := 46)))|refine aE ?_|(refine aJ ?_ ?_ <;> intro hc hq <;> try (exfalso;omega))|refine bI ?_|fail)
 ·exfalso; have hf : m[x.cell.toNat]!.stk[k]!.uq = false := by assumption
  rw [hut] at hf;exact absurd hf (by decide)
 refine bU ?_
 rw [e1]
 repeat' (first|(apply aF;(apply bB;rfl;rfl;rfl;rfl;rfl;(rw [aI]; simp only [gB] <;> omega);(exact yL (by (omega)))))|refine aE ?_|fail)
 (refine aD rfl ?_; refine aT () trivial ?_ ⟨sE ?_,⟨sE ?_,trivial⟩⟩)
 ·rfl
 ·rw [Nat.zero_add r.length]
 ·rfl
theorem vF {m:List Cl}{x:Pt}{u:Bool}{r:List Tg}(hk:a7 m x u = 0) (hr:r = fZ m[x.cell.toNat]!.stk (b7 m[x.cell.toNat]!.stk x.tag).toNat u):lV m x u = jG m x.cell.toNat r ∧ nG m x u = jC m m x.cell.toNat u r ∧ rF m x u = jD m x.cell.toNat r:=by
 obtain ⟨h1,h2,_⟩ := dB hk
 subst hr
 have e : lV m x u = jG m x.cell.toNat (fZ m[x.cell.toNat]!.stk (b7 m[x.cell.toNat]!.stk x.tag).toNat u) := by
  unfold lV;rw [if_pos hk]; rfl
 refine ⟨e,?_,?_⟩
 ·unfold nG jC
  rw [e]; unfold jG
  split
  ·rw [if_neg (by decide)]
  ·rw [if_pos rfl]; rfl
 ·unfold rF jD
  rw [e]; unfold jG
  split
  ·rw [if_neg (by decide)]
  ·rw [if_pos rfl,Int.toNat_of_nonneg h1]
theorem Hv {m:List Cl}{x:Pt}{u:Bool}(hk:a7 m x u ≠ 0):lV m x u = a7 m x u ∧ nG m x u = m ∧ rF m x u = ⟨0,0⟩:=by
 have e : lV m x u = a7 m x u := by unfold lV;rw [if_neg hk]
 exact ⟨e,by unfold nG;rw [if_neg (by rw [e]; exact hk)],by unfold rF;rw [if_neg (by rw [e]; exact hk)]⟩
theorem wM (m:List Cl) (hm:OkM m) (x:Pt):PC Tryz.prog 274 [sl bE m,mK x] (fun r => r = .tup [sl bE (nG m x false),mK (rF m x false),iv (lV m x false)]):=by
 have hml := hm.l
 by_cases hk : a7 m x false = 0
 ·obtain ⟨c, t⟩ := x
  obtain ⟨h1,h2,_⟩ := dB hk
  have h1' : 0 ≤ c := h1
  obtain ⟨j,rfl⟩ := Int.eq_ofNat_of_zero_le h1'
  have h2' : (j : Int) < m.length := h2
  have hc := ((cL m).1 hm).2 j (by omega)
  obtain ⟨r,hr⟩ : ∃ r,r = fZ m[j]!.stk (b7 m[j]!.stk t).toNat false := ⟨_,rfl⟩
  have hrl : r.length ≤ 200 := by rw [hr]; exact Nat.le_trans tchS_sub.length_le hc.l.2
  obtain ⟨e1,e2,e3⟩ := vF hk hr
  have hpu := AZ m m j false r m.length r.length hm rfl rfl (by omega) (by have := hc.n;omega) hrl hml
  rw [e1,e2,e3]
  refine aB Tryz.func274 Tryz.ntmps274 ?_
  repeat' (first|(apply aF;first|(apply Gb (j := j) (r := r) (v := m[j]!.val);rfl;rfl;exact Ji m _ _ r _ hm hk rfl hr rfl;rfl;rfl)|(apply v9 (m := m) (b := m) (j := j) (u := false) (r := r) (n := m.length) (k := r.length);rfl;rfl;rfl;rfl;rfl;rfl;rfl;exact hpu;rfl;rfl))|refine aE ?_|fail)
  exact aD (l := [sl bE (jC m m j false r),.agg [iv (jD m j r).cell,iv (jD m j r).tag],iv (jG m j r)]) rfl ⟨rfl,by exact Pur.pf⟩
 ·obtain ⟨e1, e2, e3⟩ := Hv hk
  have hrd := qB m hm x
  have e4 : dI m x false = m := by unfold dI;rw [if_neg hk]
  rw [e4] at hrd
  rw [e1,e2,e3]
  refine aB Tryz.func274 Tryz.ntmps274 ?_
  repeat' (first|(apply aF;(apply aA (k := 252);rfl;exact hrd;exact Pur.pf;rfl))|refine aE ?_|(refine aJ ?_ ?_ <;> intro hc hq <;> try (exfalso;omega))|fail)
  skip
  exact aD (l := [sl bE m,.agg [iv 0,iv 0],iv (a7 m x false)]) rfl ⟨rfl,by exact Pur.pf⟩
theorem uU (m:List Cl) (hm:OkM m) (x:Pt):PC Tryz.prog 275 [sl bE m,mK x] (fun r => r = .tup [sl bE (nG m x true),mK (rF m x true),iv (lV m x true)]):=by
 have hml := hm.l
 by_cases hk : a7 m x true = 0
 ·obtain ⟨c, t⟩ := x
  obtain ⟨h1,h2,_⟩ := dB hk
  have h1' : 0 ≤ c := h1
  obtain ⟨j,rfl⟩ := Int.eq_ofNat_of_zero_le h1'
  have h2' : (j : Int) < m.length := h2
  have hc := ((cL m).1 hm).2 j (by omega)
  obtain ⟨r,hr⟩ : ∃ r,r = fZ m[j]!.stk (b7 m[j]!.stk t).toNat true := ⟨_,rfl⟩
  have hrl : r.length ≤ 200 := by rw [hr]; exact Nat.le_trans tchS_sub.length_le hc.l.2
  obtain ⟨e1,e2,e3⟩ := vF hk hr
  have hpu := AZ m m j true r m.length r.length hm rfl rfl (by omega) (by have := hc.n;omega) hrl hml
  rw [e1,e2,e3]
  refine aB Tryz.func275 Tryz.ntmps275 ?_
  repeat' (first|(apply aF;first|(apply Ep (j := j) (r := r);rfl;rfl;exact G3 m _ _ r hm hk rfl hr;rfl;rfl)|(apply v9 (m := m) (b := m) (j := j) (u := true) (r := r) (n := m.length) (k := r.length);rfl;rfl;rfl;rfl;rfl;rfl;rfl;exact hpu;rfl;rfl))|refine aE ?_|fail)
  exact aD (l := [sl bE (jC m m j true r),.agg [iv (jD m j r).cell,iv (jD m j r).tag],iv (jG m j r)]) rfl ⟨rfl,by exact Pur.pf⟩
 ·obtain ⟨e1, e2, e3⟩ := Hv hk
  have hwr := iN m x hm
  have e4 : dI m x true = m := by unfold dI;rw [if_neg hk]
  rw [e1,e2,e3]
  refine aB Tryz.func275 Tryz.ntmps275 ?_
  repeat' (first|(apply aF;(apply gT;rfl;rfl;exact hwr;rfl;rfl))|refine aE ?_|(refine aJ ?_ ?_ <;> intro hc hq <;> try (exfalso;omega))|fail)
  refine aR (Le.frzD (d := 4) (i := 3) (m := m.length) (cs := flat bE (dI m x true)) rfl rfl) ?_
  rw [e4]
  exact aD (l := [sl bE m,.agg [iv 0,iv 0],iv (a7 m x true)]) rfl ⟨rfl,by exact Pur.pf⟩
abbrev fB (s : Mc) : AV := .agg [sl cT s.slots,sl bE s.cells,sl cI s.read]
theorem uX {xs:List Sl}{k:Nat}{a:Bool}{b c d:Int}(hk:k < xs.length):gM (flat cT xs) (0 + k * 4) [bv a,iv b,iv c,iv d] = flat cT (xs.set k ⟨a,b,⟨c,d⟩⟩) := fH hk rfl
theorem p7 (s:Mc) (v:Nat) (hv:v < s.slots.length) (hl:s.slots.length ≤ 1048576):PC Tryz.prog 247 [fB s,iv (v:Int)] (fun r => r = fB ⟨s.slots.set v mL,s.cells,s.read⟩):=by
 refine aB Tryz.func247 Tryz.ntmps247 ?_
 repeat' (first|(apply aF;(apply bB;rfl;rfl;rfl;rfl;rfl;(case hl => (first|(rw [aI]; simp only [gB] <;> omega)|(simp;done)));(exact uX (by (assumption)))))|refine aE ?_|fail)
 refine aR (Le.frzC (j := 1) (i := 3) [] rfl rfl (by decide)) ?_
 have e : AV.imm (0 + s.slots.length) (flat cT (s.slots.set v mL)) = sl cT (s.slots.set v mL) := dV (by rw [List.length_set,Nat.zero_add])
 refine aD (l := [.agg [.imm (0 + s.slots.length) (flat cT (s.slots.set v mL)),sl bE s.cells,sl cI s.read]]) rfl ?_
 rw [e]
 exact ⟨rfl,by exact Pur.pf⟩
theorem HC (k:Int):(if o6 k = -1 then (0:Int) else o6 k) = if k = 1 then 3 else if k = 0 then 0 else 4:=by
 unfold o6 eR
 by_cases h : k = 0
 ·subst h;rfl
 ·rw [if_neg h, if_neg h]
  by_cases h1 : k = 1
  ·rw [if_pos h1]; rfl
  ·rw [if_neg h1]; rfl
theorem kY (ts:List Int) (s:Mc) (v:Nat) (y:Sl) (hm:OkM s.cells) (hv:v < s.slots.length) (hvt:v < ts.length) (hl:s.slots.length ≤ 1048576):PC Tryz.prog 248 [sl cI ts,fB s,iv (v:Int),HD y] (fun r => r = .tup [fB (bT ts s v y).1,iv (if (bT ts s v y).2 = -1 then 0 else (bT ts s v y).2)]):=by
 have hfc := l7 s.cells hm s.slots[v]!.ptr
 refine aB Tryz.func248 Tryz.ntmps248 ?_
 repeat' (first|(apply aF;first|(apply aA (k := 245);rfl;exact hfc;exact Pur.pf;rfl)|(apply bB;rfl;rfl;rfl;rfl;rfl;(case hl => (first|(rw [aI]; simp only [gB] <;> omega)|(simp;done)));(exact uX (by (assumption))))|(apply aA (k := 246);rfl;(apply kH);(rfl);rfl))|refine aE ?_|(refine aJ ?_ ?_ <;> intro hc hq <;> try (exfalso;omega))|(refine bO ?_ ?_ <;> intro hg hq <;> try (exfalso;omega))|refine bI ?_|fail)
 all_goals (
  refine aR (Le.frzC (j := 2) (i := 4) [] rfl rfl (by decide)) ?_
  have e : AV.imm (0 + s.slots.length) (flat cT (s.slots.set v y)) = sl cT (s.slots.set v y) := dV (by rw [List.length_set,Nat.zero_add]))
 ·have hp : bT ts s v y = (⟨s.slots.set v y, k9 s.cells s.slots[v]!.ptr, s.read⟩, o6 (a7 s.cells s.slots[v]!.ptr true)) := if_pos ⟨by assumption, by assumption⟩
  refine aD (l := [.agg [.imm (0 + s.slots.length) (flat cT (s.slots.set v y)),sl bE (k9 s.cells s.slots[v]!.ptr),sl cI s.read],iv (if a7 s.cells s.slots[v]!.ptr true = 1 then 3 else if a7 s.cells s.slots[v]!.ptr true = 0 then 0 else 4)]) rfl ?_
  rw [e,hp]
  dsimp only
  rw [HC]
  exact ⟨rfl,by exact Pur.pf⟩
 all_goals (
  have hp : bT ts s v y = (⟨s.slots.set v y, s.cells, s.read⟩, -1) := if_neg (by
   rintro ⟨q1,q2⟩
   first|(exact (by assumption : ¬ ts[v]! = 2) q1)|(rw [(by assumption : s.slots[v]!.set = false)] at q2;exact absurd q2 (by decide)))
  refine aD (l := [.agg [.imm (0 + s.slots.length) (flat cT (s.slots.set v y)),sl bE s.cells,sl cI s.read],iv 0]) rfl ?_
  rw [e,hp]
  exact ⟨rfl,by exact Pur.pf⟩)
def gk (e : Int) : Int := if e = -1 then 0 else e
theorem Lj {t:Int}(h:t = 2 ∨ t = 4):zA t = true:=by
 unfold zA;rcases h with h|h <;> subst h <;> rfl
theorem N6 {t:Int}(h:¬ t = 2) (h2:¬ t = 4):¬ zA t = true:=by
 unfold zA;rw [decide_eq_false h,decide_eq_false h2]; decide
theorem yB {k:Int}(h:¬ k = 0):(if k = 1 then (3:Int) else if k = 0 then 0 else 4) = eR k:=by
 unfold eR;rw [if_neg h]
theorem Lg {m:List Cl}{x:Pt}{u:Bool}(h:¬ lV m x u = 0):nG m x u = m := by unfold nG;rw [if_neg h]
theorem HB (ts:List Int) (s:Mc) (x:Pnt) (hm:OkM s.cells) (hsl:s.slots.length = ts.length) (hx:0 ≤ x.x ∧ x.x < ts.length) (hy:0 ≤ x.y ∧ x.y < ts.length) (hl:ts.length ≤ 1048576):PC Tryz.prog 250 [sl cI ts,fB s,dD x] (fun r => r = .tup [fB (bT ts (if zA ts[x.y.toNat]! = true then ⟨s.slots.set x.y.toNat mL,s.cells,s.read⟩ else s) x.x.toNat s.slots[x.y.toNat]!).1,iv (gk (bT ts (if zA ts[x.y.toNat]! = true then ⟨s.slots.set x.y.toNat mL,s.cells,s.read⟩ else s) x.x.toNat s.slots[x.y.toNat]!).2)]):=by
 have hcl := p7 s x.y.toNat (by omega) (by omega)
 have hp1 := kY ts ⟨s.slots.set x.y.toNat mL,s.cells,s.read⟩ x.x.toNat s.slots[x.y.toNat]! hm (by show _ < (s.slots.set x.y.toNat mL).length;rw [List.length_set]; omega) (by omega) (by show (s.slots.set x.y.toNat mL).length ≤ _; rw [List.length_set]; omega)
 have hp2 := kY ts s x.x.toNat s.slots[x.y.toNat]! hm (by omega) (by omega) (by omega)
 rw [Int.toNat_of_nonneg hy.1] at hcl
 rw [Int.toNat_of_nonneg hx.1] at hp1 hp2
 refine aB Tryz.func250 Tryz.ntmps250 ?_
 repeat' (first|(apply aF;first|(apply aA (k := 247);rfl;exact hcl;exact Pur.pf;rfl)|(apply aA (k := 248);rfl;(first|exact hp1|exact hp2);exact Pur.pf;rfl))|refine aE ?_|(refine aJ ?_ ?_ <;> intro hc hq <;> try (exfalso;omega))|(refine bO ?_ ?_ <;> intro hg hq <;> try (exfalso;omega))|fail)
 ·refine aD (l := [fB (bT ts ⟨s.slots.set x.y.toNat mL, s.cells, s.read⟩ x.x.toNat s.slots[x.y.toNat]!).1, iv (gk (bT ts ⟨s.slots.set x.y.toNat mL, s.cells, s.read⟩ x.x.toNat s.slots[x.y.toNat]!).2)]) rfl ⟨?_, by exact Pur.pf⟩
  rw [if_pos (Lj (.inr (by assumption)))]; rfl
 ·refine aD (l := [fB (bT ts s x.x.toNat s.slots[x.y.toNat]!).1, iv (gk (bT ts s x.x.toNat s.slots[x.y.toNat]!).2)]) rfl ⟨?_, by exact Pur.pf⟩
  rw [if_neg (N6 (by assumption) (by assumption))]; rfl
 ·refine aD (l := [fB (bT ts ⟨s.slots.set x.y.toNat mL, s.cells, s.read⟩ x.x.toNat s.slots[x.y.toNat]!).1, iv (gk (bT ts ⟨s.slots.set x.y.toNat mL, s.cells, s.read⟩ x.x.toNat s.slots[x.y.toNat]!).2)]) rfl ⟨?_, by exact Pur.pf⟩
  rw [if_pos (Lj (.inl (by assumption)))]; rfl
theorem Hc (ts:List Int) (s:Mc) (x:Pnt) (u:Bool) (hu:u = decide (x.op = 5)) (hm:OkM s.cells) (hsl:s.slots.length = ts.length) (hx:0 ≤ x.x ∧ x.x < ts.length) (hy:0 ≤ x.y ∧ x.y < ts.length) (hl:ts.length ≤ 1048576):PC Tryz.prog 251 [sl cI ts,fB s,dD x] (fun r => r = if lV s.cells s.slots[x.y.toNat]!.ptr u = 0 then
  .tup [fB (bT ts ⟨s.slots,nG s.cells s.slots[x.y.toNat]!.ptr u,s.read⟩ x.x.toNat ⟨true,0,rF s.cells s.slots[x.y.toNat]!.ptr u⟩).1,iv (gk (bT ts ⟨s.slots,nG s.cells s.slots[x.y.toNat]!.ptr u,s.read⟩ x.x.toNat ⟨true,0,rF s.cells s.slots[x.y.toNat]!.ptr u⟩).2)]
  else .tup [fB s,iv (eR (lV s.cells s.slots[x.y.toNat]!.ptr u))]) := by
 have hsh := wM s.cells hm s.slots[x.y.toNat]!.ptr
 have hbo := uU s.cells hm s.slots[x.y.toNat]!.ptr
 have hp1 := kY ts ⟨s.slots,nG s.cells s.slots[x.y.toNat]!.ptr false,s.read⟩ x.x.toNat ⟨true,0,rF s.cells s.slots[x.y.toNat]!.ptr false⟩ (hm.ln _ _) (by show _ < s.slots.length;omega) (by omega) (by show s.slots.length ≤ _; omega)
 have hp2 := kY ts ⟨s.slots,nG s.cells s.slots[x.y.toNat]!.ptr true,s.read⟩ x.x.toNat ⟨true,0,rF s.cells s.slots[x.y.toNat]!.ptr true⟩ (hm.ln _ _) (by show _ < s.slots.length;omega) (by omega) (by show s.slots.length ≤ _; omega)
 rw [Int.toNat_of_nonneg hx.1] at hp1 hp2
 refine aB Tryz.func251 Tryz.ntmps251 ?_
 repeat' (first|(apply aF;first|(apply aA (k := 274);rfl;exact hsh;exact Pur.pf;rfl)|(apply aA (k := 275);rfl;exact hbo;exact Pur.pf;rfl)|(apply aA (k := 248) (avs := [sl cI ts,fB ⟨s.slots,nG s.cells s.slots[x.y.toNat]!.ptr false,s.read⟩,iv x.x,HD ⟨true,0,rF s.cells s.slots[x.y.toNat]!.ptr false⟩]);rfl;exact hp1;exact Pur.pf;rfl)|(apply aA (k := 248) (avs := [sl cI ts,fB ⟨s.slots,nG s.cells s.slots[x.y.toNat]!.ptr true,s.read⟩,iv x.x,HD ⟨true,0,rF s.cells s.slots[x.y.toNat]!.ptr true⟩]);rfl;exact hp2;exact Pur.pf;rfl)|(apply aA (k := 246);rfl;(apply kH);(rfl);rfl))|refine aE ?_|(refine aJ ?_ ?_ <;> intro hc hq <;> try (exfalso;omega))|refine bI ?_|fail)
 ·have hk : ¬ lV s.cells s.slots[x.y.toNat]!.ptr true = 0 := by assumption
  have hu2 : u = true := by rw [hu]; exact decide_eq_true (by assumption)
  subst hu2
  refine aD (l := [.agg [sl cT s.slots,sl bE (nG s.cells s.slots[x.y.toNat]!.ptr true),sl cI s.read],iv (if lV s.cells s.slots[x.y.toNat]!.ptr true = 1 then 3 else if lV s.cells s.slots[x.y.toNat]!.ptr true = 0 then 0 else 4)]) rfl ?_
  rw [yB hk,if_neg hk,Lg hk]
  exact ⟨rfl,by exact Pur.pf⟩
 ·have hk : lV s.cells s.slots[x.y.toNat]!.ptr true = 0 := by assumption
  have hu2 : u = true := by rw [hu]; exact decide_eq_true (by assumption)
  subst hu2
  refine aD (l := [fB (bT ts ⟨s.slots,nG s.cells s.slots[x.y.toNat]!.ptr true,s.read⟩ x.x.toNat ⟨true,0,rF s.cells s.slots[x.y.toNat]!.ptr true⟩).1,iv (gk (bT ts ⟨s.slots,nG s.cells s.slots[x.y.toNat]!.ptr true,s.read⟩ x.x.toNat ⟨true,0,rF s.cells s.slots[x.y.toNat]!.ptr true⟩).2)]) rfl ⟨?_,by exact Pur.pf⟩
  rw [if_pos hk]; rfl
 ·have hk : ¬ lV s.cells s.slots[x.y.toNat]!.ptr false = 0 := by assumption
  have hu2 : u = false := by rw [hu]; exact decide_eq_false (by assumption)
  subst hu2
  refine aD (l := [.agg [sl cT s.slots,sl bE (nG s.cells s.slots[x.y.toNat]!.ptr false),sl cI s.read],iv (if lV s.cells s.slots[x.y.toNat]!.ptr false = 1 then 3 else if lV s.cells s.slots[x.y.toNat]!.ptr false = 0 then 0 else 4)]) rfl ?_
  rw [yB hk,if_neg hk,Lg hk]
  exact ⟨rfl,by exact Pur.pf⟩
 ·have hk : lV s.cells s.slots[x.y.toNat]!.ptr false = 0 := by assumption
  have hu2 : u = false := by rw [hu]; exact decide_eq_false (by assumption)
  subst hu2
  refine aD (l := [fB (bT ts ⟨s.slots,nG s.cells s.slots[x.y.toNat]!.ptr false,s.read⟩ x.x.toNat ⟨true,0,rF s.cells s.slots[x.y.toNat]!.ptr false⟩).1,iv (gk (bT ts ⟨s.slots,nG s.cells s.slots[x.y.toNat]!.ptr false,s.read⟩ x.x.toNat ⟨true,0,rF s.cells s.slots[x.y.toNat]!.ptr false⟩).2)]) rfl ⟨?_,by exact Pur.pf⟩
  rw [if_pos hk]; rfl
theorem Mj (ts:List Int) (s:Mc) (x:Pnt) (ho:x.op = 1) (hm:OkM s.cells) (hsl:s.slots.length = ts.length) (hx:0 ≤ x.x ∧ x.x < ts.length) (hl:ts.length ≤ 1048576):PC Tryz.prog 215 [sl cI ts,fB s,dD x] (fun r => r = .tup [fB (c7 ts s x).1,iv (gk (c7 ts s x).2)]):=by
 have hp := kY ts s x.x.toNat ⟨true,x.n,⟨0,0⟩⟩ hm (by omega) (by omega) (by omega)
 rw [Int.toNat_of_nonneg hx.1] at hp
 have hd : c7 ts s x = bT ts s x.x.toNat ⟨true,x.n,⟨0,0⟩⟩ := by unfold c7;rw [if_pos ho]
 rw [hd]
 refine aB Tryz.func215 Tryz.ntmps215 ?_
 repeat' (first|(apply aF;(apply aA (k := 248) (avs := [sl cI ts,fB s,iv x.x,HD ⟨true,x.n,⟨0,0⟩⟩]);rfl;exact hp;exact Pur.pf;rfl))|refine aE ?_|(refine aJ ?_ ?_ <;> intro hc hq <;> try (exfalso;omega))|fail)
 exact aD (l := [fB (bT ts s x.x.toNat ⟨true,x.n,⟨0,0⟩⟩).1,iv (gk (bT ts s x.x.toNat ⟨true,x.n,⟨0,0⟩⟩).2)]) rfl ⟨rfl,by exact Pur.pf⟩
theorem Mg (ts:List Int) (s:Mc) (x:Pnt) (ho:x.op = 2) (hm:OkM s.cells) (hsl:s.slots.length = ts.length) (hx:0 ≤ x.x ∧ x.x < ts.length) (hn:0 ≤ x.n ∧ x.n ≤ 9) (hl:ts.length ≤ 1048576):PC Tryz.prog 215 [sl cI ts,fB s,dD x] (fun r => r = .tup [fB (c7 ts s x).1,iv (gk (c7 ts s x).2)]):=by
 have hml := hm.l
 have hnc := CF s.cells hm x.n
 by_cases h2 : s.cells.length = 200
 ·rw [if_neg (by omega)] at hnc
  have hd : c7 ts s x = (s,1) := by unfold c7;rw [if_neg (by omega),if_pos ho,if_pos h2]
  rw [hd]
  refine aB Tryz.func215 Tryz.ntmps215 ?_
  repeat' (first|(apply aF;(apply aA (k := 249);rfl;exact hnc;exact Pur.pf;rfl))|refine aE ?_|(refine aJ ?_ ?_ <;> intro hc hq <;> try (exfalso;omega))|fail)
  exact aD (l := [fB s,iv 1]) rfl ⟨rfl,by exact Pur.pf⟩
 ·rw [if_pos (by omega)] at hnc
  have hp := kY ts ⟨s.slots,s.cells ++ [uN x.n],s.read⟩ x.x.toNat ⟨true,0,⟨s.cells.length,0⟩⟩ (hm.nw hn (by omega)) (by show _ < s.slots.length;omega) (by omega) (by show s.slots.length ≤ _; omega)
  rw [Int.toNat_of_nonneg hx.1] at hp
  have hd : c7 ts s x = bT ts ⟨s.slots,s.cells ++ [uN x.n],s.read⟩ x.x.toNat ⟨true,0,⟨s.cells.length,0⟩⟩ := by unfold c7;rw [if_neg (by omega),if_pos ho,if_neg h2]
  rw [hd]
  refine aB Tryz.func215 Tryz.ntmps215 ?_
  repeat' (first|(apply aF;first|(apply aA (k := 249);rfl;exact hnc;exact Pur.pf;rfl)|(apply aA (k := 248) (avs := [sl cI ts,fB ⟨s.slots,s.cells ++ [uN x.n],s.read⟩,iv x.x,HD ⟨true,0,⟨s.cells.length,0⟩⟩]);rfl;exact hp;exact Pur.pf;rfl))|refine aE ?_|(refine aJ ?_ ?_ <;> intro hc hq <;> try (exfalso;omega))|fail)
  exact aD (l := [fB (bT ts ⟨s.slots,s.cells ++ [uN x.n],s.read⟩ x.x.toNat ⟨true,0,⟨s.cells.length,0⟩⟩).1,iv (gk (bT ts ⟨s.slots,s.cells ++ [uN x.n],s.read⟩ x.x.toNat ⟨true,0,⟨s.cells.length,0⟩⟩).2)]) rfl ⟨rfl,by exact Pur.pf⟩
theorem Nc (ts:List Int) (s:Mc) (x:Pnt) (ho:x.op = 3) (hm:OkM s.cells) (hsl:s.slots.length = ts.length) (hx:0 ≤ x.x ∧ x.x < ts.length) (hy:0 ≤ x.y ∧ x.y < ts.length) (hl:ts.length ≤ 1048576):PC Tryz.prog 215 [sl cI ts,fB s,dD x] (fun r => r = .tup [fB (c7 ts s x).1,iv (gk (c7 ts s x).2)]):=by
 have hmv := HB ts s x hm hsl hx hy hl
 have hd : c7 ts s x = bT ts (if zA ts[x.y.toNat]! = true then ⟨s.slots.set x.y.toNat mL,s.cells,s.read⟩ else s) x.x.toNat s.slots[x.y.toNat]! := by unfold c7;rw [if_neg (by omega),if_neg (by omega),if_pos ho]
 rw [← hd] at hmv
 refine aB Tryz.func215 Tryz.ntmps215 ?_
 repeat' (first|(apply aF;(apply aA (k := 250);rfl;exact hmv;exact Pur.pf;rfl))|refine aE ?_|(refine aJ ?_ ?_ <;> intro hc hq <;> try (exfalso;omega))|fail)
 exact aD (l := [fB (c7 ts s x).1,iv (gk (c7 ts s x).2)]) rfl ⟨rfl,by exact Pur.pf⟩
theorem JC (ts:List Int) (s:Mc) (x:Pnt) (ho:x.op = 4 ∨ x.op = 5) (hm:OkM s.cells) (hsl:s.slots.length = ts.length) (hx:0 ≤ x.x ∧ x.x < ts.length) (hy:0 ≤ x.y ∧ x.y < ts.length) (hl:ts.length ≤ 1048576):PC Tryz.prog 215 [sl cI ts,fB s,dD x] (fun r => r = .tup [fB (c7 ts s x).1,iv (gk (c7 ts s x).2)]):=by
 have hmk := Hc ts s x (decide (x.op = 5)) rfl hm hsl hx hy hl
 have h0 : c7 ts s x = (if lV s.cells s.slots[x.y.toNat]!.ptr (decide (x.op = 5)) = 0 then bT ts ⟨s.slots, nG s.cells s.slots[x.y.toNat]!.ptr (decide (x.op = 5)), s.read⟩ x.x.toNat ⟨true, 0, rF s.cells s.slots[x.y.toNat]!.ptr (decide (x.op = 5))⟩
   else (s,eR (lV s.cells s.slots[x.y.toNat]!.ptr (decide (x.op = 5))))) := by
  unfold c7;rw [if_neg (show ¬ x.op = 1 by omega),if_neg (show ¬ x.op = 2 by omega),if_neg (show ¬ x.op = 3 by omega),if_pos ho]
 have hd : ∀ r, (r = if lV s.cells s.slots[x.y.toNat]!.ptr (decide (x.op = 5)) = 0 then
   AV.tup [fB (bT ts ⟨s.slots,nG s.cells s.slots[x.y.toNat]!.ptr (decide (x.op = 5)),s.read⟩ x.x.toNat ⟨true,0,rF s.cells s.slots[x.y.toNat]!.ptr (decide (x.op = 5))⟩).1,iv (gk (bT ts ⟨s.slots,nG s.cells s.slots[x.y.toNat]!.ptr (decide (x.op = 5)),s.read⟩ x.x.toNat ⟨true,0,rF s.cells s.slots[x.y.toNat]!.ptr (decide (x.op = 5))⟩).2)]
   else AV.tup [fB s,iv (eR (lV s.cells s.slots[x.y.toNat]!.ptr (decide (x.op = 5))))]) = (r = AV.tup [fB (c7 ts s x).1,iv (gk (c7 ts s x).2)]) := by
  intro r
  rw [h0]
  by_cases hk : lV s.cells s.slots[x.y.toNat]!.ptr (decide (x.op = 5)) = 0
  ·rw [if_pos hk,if_pos hk]
  ·rw [if_neg hk, if_neg hk]
   have : ∀ k,gk (eR k) = eR k := fun k => by unfold gk eR;split <;> rfl
   dsimp only
   rw [this]
 simp only [hd] at hmk
 refine aB Tryz.func215 Tryz.ntmps215 ?_
 repeat' (first|(apply aF;(apply aA (k := 251);rfl;exact hmk;exact Pur.pf;rfl))|refine aE ?_|(refine aJ ?_ ?_ <;> intro hc hq <;> try (exfalso;omega))|fail)
 all_goals exact aD (l := [fB (c7 ts s x).1,iv (gk (c7 ts s x).2)]) rfl ⟨rfl,by exact Pur.pf⟩
theorem Me (ts:List Int) (s:Mc) (x:Pnt) (ho:x.op = 6) (hm:OkM s.cells) (hsl:s.slots.length = ts.length) (hx:0 ≤ x.x ∧ x.x < ts.length) (hy:0 ≤ x.y ∧ x.y < ts.length) (hl:ts.length ≤ 1048576) (hrl:s.read.length ≤ 1048576):PC Tryz.prog 215 [sl cI ts,fB s,dD x] (fun r => r = .tup [fB (c7 ts s x).1,iv (gk (c7 ts s x).2)]):=by
 have hrd := qB s.cells hm s.slots[x.y.toNat]!.ptr
 have h0 : c7 ts s x = (if a7 s.cells s.slots[x.y.toNat]!.ptr false = 0 then bT ts ⟨s.slots, dI s.cells s.slots[x.y.toNat]!.ptr false, s.read ++ [oV s.cells s.slots[x.y.toNat]!.ptr]⟩ x.x.toNat ⟨true, oV s.cells s.slots[x.y.toNat]!.ptr, ⟨0, 0⟩⟩
   else (s,eR (a7 s.cells s.slots[x.y.toNat]!.ptr false))) := by
  unfold c7;rw [if_neg (show ¬ x.op = 1 by omega),if_neg (show ¬ x.op = 2 by omega),if_neg (show ¬ x.op = 3 by omega),if_neg (show ¬ (x.op = 4 ∨ x.op = 5) by omega),if_pos ho]
 have hp := kY ts ⟨s.slots,dI s.cells s.slots[x.y.toNat]!.ptr false,s.read ++ [oV s.cells s.slots[x.y.toNat]!.ptr]⟩ x.x.toNat ⟨true,oV s.cells s.slots[x.y.toNat]!.ptr,⟨0,0⟩⟩ (hm.tch _ _) (by show _ < s.slots.length;omega) (by omega) (by show s.slots.length ≤ _; omega)
 rw [Int.toNat_of_nonneg hx.1] at hp
 by_cases hk : a7 s.cells s.slots[x.y.toNat]!.ptr false = 0
 ·rw [if_pos hk] at h0
  rw [h0]
  refine aB Tryz.func215 Tryz.ntmps215 ?_
  repeat' (first|(apply aF;first|(apply aA (k := 252);rfl;exact hrd;exact Pur.pf;rfl)|(with_reducible apply aW (d := 105)))|refine aE ?_|(refine aJ ?_ ?_ <;> intro hc hq <;> try (exfalso;omega))|refine bI ?_|fail)
  refine bU (cX ?_ (Le.frzC (j := 0) (i := 6) [sl cT s.slots,sl bE (dI s.cells s.slots[x.y.toNat]!.ptr false)] (m := 0 + s.read.length + 1) (d := flat cI (s.read ++ [oV s.cells s.slots[x.y.toNat]!.ptr])) rfl rfl (by decide)))
  have e : AV.imm (0 + s.read.length + 1) (flat cI (s.read ++ [oV s.cells s.slots[x.y.toNat]!.ptr])) = sl cI (s.read ++ [oV s.cells s.slots[x.y.toNat]!.ptr]) := dV (by rw [Nat.zero_add,List.length_append]; rfl)
  rw [e]
  repeat' (first|(apply aF;(apply aA (k := 248) (avs := [sl cI ts,fB ⟨s.slots,dI s.cells s.slots[x.y.toNat]!.ptr false,s.read ++ [oV s.cells s.slots[x.y.toNat]!.ptr]⟩,iv x.x,HD ⟨true,oV s.cells s.slots[x.y.toNat]!.ptr,⟨0,0⟩⟩]);rfl;exact hp;exact Pur.pf;rfl))|refine aE ?_|fail)
  exact aD (l := [fB (bT ts ⟨s.slots,dI s.cells s.slots[x.y.toNat]!.ptr false,s.read ++ [oV s.cells s.slots[x.y.toNat]!.ptr]⟩ x.x.toNat ⟨true,oV s.cells s.slots[x.y.toNat]!.ptr,⟨0,0⟩⟩).1,iv (gk (bT ts ⟨s.slots,dI s.cells s.slots[x.y.toNat]!.ptr false,s.read ++ [oV s.cells s.slots[x.y.toNat]!.ptr]⟩ x.x.toNat ⟨true,oV s.cells s.slots[x.y.toNat]!.ptr,⟨0,0⟩⟩).2)]) rfl ⟨rfl,by exact Pur.pf⟩
 ·rw [if_neg hk] at h0
  rw [h0]
  have e4 : dI s.cells s.slots[x.y.toNat]!.ptr false = s.cells := by unfold dI;rw [if_neg hk]
  rw [e4] at hrd
  refine aB Tryz.func215 Tryz.ntmps215 ?_
  repeat' (first|(apply aF;first|(apply aA (k := 252);rfl;exact hrd;exact Pur.pf;rfl)|(apply aA (k := 246);rfl;(apply kH);(rfl);rfl))|refine aE ?_|(refine aJ ?_ ?_ <;> intro hc hq <;> try (exfalso;omega))|refine bI ?_|fail)
  refine aD (l := [fB s,iv (if a7 s.cells s.slots[x.y.toNat]!.ptr false = 1 then 3 else if a7 s.cells s.slots[x.y.toNat]!.ptr false = 0 then 0 else 4)]) rfl ?_
  rw [yB hk]
  have : ∀ k,gk (eR k) = eR k := fun k => by unfold gk eR;split <;> rfl
  dsimp only
  rw [this]
  exact ⟨rfl,by exact Pur.pf⟩
theorem MP (ts:List Int) (s:Mc) (x:Pnt) (ho:x.op = 7) (hm:OkM s.cells) (hsl:s.slots.length = ts.length) (hx:0 ≤ x.x ∧ x.x < ts.length) (hy:0 ≤ x.y ∧ x.y < ts.length) (hl:ts.length ≤ 1048576):PC Tryz.prog 215 [sl cI ts,fB s,dD x] (fun r => r = .tup [fB (c7 ts s x).1,iv (gk (c7 ts s x).2)]):=by
 have hwr := xJ s.cells hm s.slots[x.x.toNat]!.ptr s.slots[x.y.toNat]!.num
 have h0 : c7 ts s x = (⟨s.slots, zY s.cells s.slots[x.x.toNat]!.ptr s.slots[x.y.toNat]!.num, s.read⟩, o6 (vH s.cells s.slots[x.x.toNat]!.ptr s.slots[x.y.toNat]!.num)) := by
  unfold c7;rw [if_neg (show ¬ x.op = 1 by omega),if_neg (show ¬ x.op = 2 by omega),if_neg (show ¬ x.op = 3 by omega),if_neg (show ¬ (x.op = 4 ∨ x.op = 5) by omega),if_neg (show ¬ x.op = 6 by omega),if_pos ho]
 rw [h0]
 refine aB Tryz.func215 Tryz.ntmps215 ?_
 repeat' (first|(apply aF;first|(apply aA (k := 253);rfl;exact hwr;exact Pur.pf;rfl)|(apply aA (k := 246);rfl;(apply kH);(rfl);rfl))|refine aE ?_|(refine aJ ?_ ?_ <;> intro hc hq <;> try (exfalso;omega))|refine bI ?_|fail)
 refine aD (l := [fB ⟨s.slots,zY s.cells s.slots[x.x.toNat]!.ptr s.slots[x.y.toNat]!.num,s.read⟩,iv (if vH s.cells s.slots[x.x.toNat]!.ptr s.slots[x.y.toNat]!.num = 1 then 3 else if vH s.cells s.slots[x.x.toNat]!.ptr s.slots[x.y.toNat]!.num = 0 then 0 else 4)]) rfl ?_
 rw [← HC]
 exact ⟨rfl,by exact Pur.pf⟩
theorem Ng (ts:List Int) (s:Mc) (x:Pnt) (ho:x.op = 8) (hm:OkM s.cells) (hsl:s.slots.length = ts.length) (hx:0 ≤ x.x ∧ x.x < ts.length) (hl:ts.length ≤ 1048576):PC Tryz.prog 215 [sl cI ts,fB s,dD x] (fun r => r = .tup [fB (c7 ts s x).1,iv (gk (c7 ts s x).2)]):=by
 have hfr := l7 s.cells hm s.slots[x.x.toNat]!.ptr
 have hcl := p7 ⟨s.slots,k9 s.cells s.slots[x.x.toNat]!.ptr,s.read⟩ x.x.toNat (by show _ < s.slots.length;omega) (by show s.slots.length ≤ _; omega)
 rw [Int.toNat_of_nonneg hx.1] at hcl
 have h0 : c7 ts s x = (⟨s.slots.set x.x.toNat mL, k9 s.cells s.slots[x.x.toNat]!.ptr, s.read⟩, o6 (a7 s.cells s.slots[x.x.toNat]!.ptr true)) := by
  unfold c7;rw [if_neg (show ¬ x.op = 1 by omega),if_neg (show ¬ x.op = 2 by omega),if_neg (show ¬ x.op = 3 by omega),if_neg (show ¬ (x.op = 4 ∨ x.op = 5) by omega),if_neg (show ¬ x.op = 6 by omega),if_neg (show ¬ x.op = 7 by omega),if_pos ho]
 rw [h0]
 refine aB Tryz.func215 Tryz.ntmps215 ?_
 repeat' (first|(apply aF;first|(apply aA (k := 245);rfl;exact hfr;exact Pur.pf;rfl)|(apply aA (k := 247);rfl;exact hcl;exact Pur.pf;rfl)|(apply aA (k := 246);rfl;(apply kH);(rfl);rfl))|refine aE ?_|(refine aJ ?_ ?_ <;> intro hc hq <;> try (exfalso;omega))|refine bI ?_|fail)
 refine aD (l := [fB ⟨s.slots.set x.x.toNat mL,k9 s.cells s.slots[x.x.toNat]!.ptr,s.read⟩,iv (if a7 s.cells s.slots[x.x.toNat]!.ptr true = 1 then 3 else if a7 s.cells s.slots[x.x.toNat]!.ptr true = 0 then 0 else 4)]) rfl ?_
 rw [← HC]
 exact ⟨rfl,by exact Pur.pf⟩
def Lw (s : Mc) (x : Pnt) : Bool :=
 if x.op = 3 ∨ x.op = 4 ∨ x.op = 5 ∨ x.op = 6 then !s.slots[x.y.toNat]!.set
 else if x.op = 7 then !s.slots[x.x.toNat]!.set || !s.slots[x.y.toNat]!.set
 else if x.op = 8 then !s.slots[x.x.toNat]!.set else false
theorem D9 (s:Mc) (x:Pnt) (hx:(x.op = 7 ∨ x.op = 8) → 0 ≤ x.x ∧ x.x < s.slots.length) (hy:(x.op = 3 ∨ x.op = 4 ∨ x.op = 5 ∨ x.op = 6 ∨ x.op = 7) → 0 ≤ x.y ∧ x.y < s.slots.length):PC Tryz.prog 214 [dD x,fB s] (fun r => r = bv (Lw s x)):=by
 refine aB Tryz.func214 Tryz.ntmps214 ?_
 repeat' (first|refine aE ?_|(refine aJ ?_ ?_ <;> intro hc hq <;> try (exfalso;omega))|(refine bO ?_ ?_ <;> intro hg hq <;> try (exfalso;omega))|fail)
 all_goals (refine aD rfl ⟨?_,rfl⟩; simp only [aM,AV.v.injEq,Value.bool.injEq]; unfold Lw;grind)
theorem wK {ts:List Int}{n v:Nat}{q:Mc}(h:¬ (ts[v]! = 2 ∧ q.slots[v]!.set = true)):cF ts (n + 1) v q = cF ts n (v + 1) q:=by
 rw [cF,if_neg h]
theorem Hd {ts:List Int}{n v:Nat}{q:Mc}(h:ts[v]! = 2 ∧ q.slots[v]!.set = true) (hk:a7 q.cells q.slots[v]!.ptr true = 0):cF ts (n + 1) v q = cF ts n (v + 1) ⟨q.slots.set v mL,k9 q.cells q.slots[v]!.ptr,q.read⟩:=by
 rw [cF,if_pos h,if_pos hk]
theorem Ge {ts:List Int}{n v:Nat}{q:Mc}(h:ts[v]! = 2 ∧ q.slots[v]!.set = true) (hk:¬ a7 q.cells q.slots[v]!.ptr true = 0):cF ts (n + 1) v q = (⟨q.slots,k9 q.cells q.slots[v]!.ptr,q.read⟩,eR (a7 q.cells q.slots[v]!.ptr true)):=by
 rw [cF,if_pos h,if_neg hk]
theorem Lb (ts:List Int) (s:Mc) (hm:OkM s.cells) (hsl:s.slots.length = ts.length) (hl:ts.length ≤ 1048576):PC Tryz.prog 213 [sl cI ts,fB s] (fun r => r = .tup [fB (cF ts ts.length 0 s).1,iv (cF ts ts.length 0 s).2]):=by
 refine aB Tryz.func213 Tryz.ntmps213 ?_
 repeat' (first|refine aE ?_|fail)
 refine aH (σ := Nat × Mc) [0,3,4] [1] (fun k => [(6,iv (k.1 : Int))]) (fun k => [(0,some [sl cT k.2.slots,sl bE k.2.cells,sl cI k.2.read])]) (fun k => k.1 ≤ ts.length ∧ cF ts (ts.length - k.1) k.1 k.2 = cF ts ts.length 0 s ∧ OkM k.2.cells ∧ k.2.slots.length = ts.length) (fun k => ts.length - k.1) (0,s) ⟨Nat.zero_le _,rfl,hm,hsl⟩ ?_
 rintro ⟨v,q⟩ ⟨hv,hf,hmq,hlq⟩
 dsimp only at hv hf hmq hlq ⊢
 have hfr := l7 q.cells hmq q.slots[v]!.ptr
 have hcl := fun h => p7 ⟨q.slots,k9 q.cells q.slots[v]!.ptr,q.read⟩ v h (by show q.slots.length ≤ _; omega)
 repeat' (first|(apply aF;first|(apply aA (k := 245);rfl;exact hfr;exact Pur.pf;rfl)|(apply aA (k := 247);rfl;(exact hcl (by show v < q.slots.length;omega));exact Pur.pf;rfl)|(apply aA (k := 246);rfl;(apply kH);(rfl);rfl))|refine aE ?_|(refine aJ ?_ ?_ <;> intro hc hq <;> try (exfalso;omega))|(refine bO ?_ ?_ <;> intro hg hq <;> try (exfalso;omega))|refine bI ?_|fail)
 ·(refine bC (v + 1, q) (Le.renA [(0, 0), (1, 1)]) ?_ ?_)
  ·refine ⟨by omega, ?_, hmq, hlq⟩
   dsimp only
   rw [← hf, show ts.length - v = (ts.length - (v + 1)) + 1 by omega, wK (fun h => by
    have h2 : q.slots[v]!.set = false := by assumption
    rw [h2] at h;exact absurd h.2 (by decide))]
  ·dsimp only;omega
 ·have hk : ¬ a7 q.cells q.slots[v]!.ptr true = 0 := by assumption
  have hq2 : cF ts ts.length 0 s = (⟨q.slots, k9 q.cells q.slots[v]!.ptr, q.read⟩, eR (a7 q.cells q.slots[v]!.ptr true)) := by
   rw [← hf,show ts.length - v = (ts.length - (v + 1)) + 1 by omega,Ge ⟨by assumption,by assumption⟩ hk]
  rw [hq2]
  refine aD (l := [fB ⟨q.slots,k9 q.cells q.slots[v]!.ptr,q.read⟩,iv (if a7 q.cells q.slots[v]!.ptr true = 1 then 3 else if a7 q.cells q.slots[v]!.ptr true = 0 then 0 else 4)]) rfl ?_
  rw [yB hk]
  exact ⟨rfl,by exact Pur.pf⟩
 ·(refine bC (v + 1, ⟨q.slots.set v mL, k9 q.cells q.slots[v]!.ptr, q.read⟩) (Le.renA [(0, 0), (1, 1)]) ?_ ?_)
  ·refine ⟨by omega, ?_, hmq.fr _, by show (q.slots.set v mL).length = _; rw [List.length_set]; exact hlq⟩
   dsimp only
   rw [← hf,show ts.length - v = (ts.length - (v + 1)) + 1 by omega,Hd ⟨by assumption,by assumption⟩ (by assumption)]
  ·dsimp only;omega
 ·(refine bC (v + 1, q) (Le.renA [(0, 0), (1, 1)]) ?_ ?_)
  ·refine ⟨by omega, ?_, hmq, hlq⟩
   dsimp only
   rw [← hf, show ts.length - v = (ts.length - (v + 1)) + 1 by omega, wK (fun h => by
    have h2 : ¬ ts[v]! = 2 := by assumption
    exact h2 h.1)]
  ·dsimp only;omega
 ·have hve : v = ts.length := by omega
  have hq2 : cF ts ts.length 0 s = (q,0) := by rw [← hf,hve,Nat.sub_self]; rfl
  rw [hq2]
  exact aD (l := [fB q,iv 0]) rfl ⟨rfl,by exact Pur.pf⟩
theorem xW (p:Prg) (hl:p.types.length ≤ 1048576) (hs:aU p.body ≤ 1048576):PC Tryz.prog 151 [bQ p] (fun r => r = sl bZ (if bK p = true then aC p else [])):=by
 have hval := j6 p hl (by omega)
 have h2 := c6 p hs
 refine aB Tryz.func151 Tryz.ntmps151 ?_
 repeat' (first|(apply aF;first|(apply aA (k := 61);rfl;exact hval;exact Pur.pf;rfl)|(apply aA (k := 132);rfl;exact h2;exact Pur.pf;rfl)|(apply aL (t := _);rfl;rfl;rfl;(rfl);rfl;rfl))|refine aE ?_|(refine aJ ?_ ?_ <;> intro hc hq <;> try (exfalso;omega))|fail)
 ·refine aD rfl ⟨?_, (by (rfl))⟩
  rw [if_neg (by simp [hq])]; rfl
 ·refine aD rfl ⟨?_, (by (exact a9 _ _))⟩
  rw [if_pos hq]; rfl
def wm (pts : List Pnt) (n a : Nat) (cs : List Int) : List Int × Bool := ((gF pts n a cs).1.map (fun a : Nat => (a : Int)),(gF pts n a cs).2)
theorem HK {pts:List Pnt}{n a:Nat}{cs:List Int}(h:pts[a]!.op = 11):wm pts n a cs = ([(a:Int)],true):=by
 have e : gF pts n a cs = ([a],true) := by cases n <;> (unfold gF;rw [if_pos h])
 unfold wm;rw [e]; rfl
theorem Gf {pts:List Pnt}{a:Nat}{cs:List Int}(h:¬ pts[a]!.op = 11):wm pts 0 a cs = ([],false):=by
 have e : gF pts 0 a cs = ([],false) := by unfold gF;rw [if_neg h]
 unfold wm;rw [e]; rfl
theorem N3 {pts:List Pnt}{n a:Nat}{cs:List Int}(h:¬ pts[a]!.op = 11):wm pts (n + 1) a cs = ((a:Int) :: (wm pts n (hZ pts a cs).1 (hZ pts a cs).2).1,(wm pts n (hZ pts a cs).1 (hZ pts a cs).2).2):=by
 unfold wm;rw [gF,if_neg h]; rfl
theorem Lq {pts:List Pnt}{a:Nat}{cs:List Int}(h:¬ pts[a]!.next.length = 2):hZ pts a cs = ((pts[a]!.next[0]!).toNat,cs):=by
 unfold hZ;rw [if_neg h]
theorem NX {pts:List Pnt}{a u:Nat}{cs:List Int}(h:pts[a]!.next.length = 2) (hu:cs.length ≤ u):hZ pts a (cs.drop u) = ((pts[a]!.next[1]!).toNat,cs.drop (u + 1)):=by
 unfold hZ;rw [if_pos h,List.drop_eq_nil_of_le hu,List.drop_eq_nil_of_le (by omega)]
theorem Ln {pts:List Pnt}{a u:Nat}{cs:List Int}(h:pts[a]!.next.length = 2) (hu:u < cs.length):hZ pts a (cs.drop u) = ((pts[a]!.next[if cs[u]!.tmod 2 = 0 then 0 else 1]!).toNat,cs.drop (u + 1)):=by
 have e : (cs[u]! % 2).toNat = if cs[u]!.tmod 2 = 0 then 0 else 1 := by
  by_cases q : cs[u]!.tmod 2 = 0
  ·rw [if_pos q,Int.emod_eq_zero_of_dvd (Int.dvd_of_tmod_eq_zero q)]; rfl
  ·rw [if_neg q]
   have : ¬ cs[u]! % 2 = 0 := fun q2 => q (Int.tmod_eq_zero_of_dvd (Int.dvd_of_emod_eq_zero q2))
   omega
 have e2 : cs.drop u = cs[u]! :: cs.drop (u + 1) := by rw [List.drop_eq_getElem_cons hu,aS _ _ hu]
 unfold hZ
 rw [if_pos h,e2]
 dsimp only
 rw [e]
theorem oX {pts:List Pnt}{n a:Nat}{out cs cs2:List Int}{b:Nat}{q:List Int × Bool}(h:¬ pts[a]!.op = 11) (ho:out.length < n) (hs:hZ pts a cs = (b,cs2)) (hq:q = (out ++ (wm pts (n - out.length) a cs).1,(wm pts (n - out.length) a cs).2)) :
  q = ((out ++ [(a : Int)]) ++ (wm pts (n - (out ++ [(a : Int)]).length) b cs2).1,(wm pts (n - (out ++ [(a : Int)]).length) b cs2).2) := by
 rw [hq,show n - out.length = (n - (out.length + 1)) + 1 by omega,N3 h,hs,List.length_append,List.append_assoc]
 rfl
theorem BG (p:Prg) (cs:List Int) (n:Nat) (hv:bK p = true) (hl:p.types.length ≤ 1048576) (hs:aU p.body ≤ 1048576) (hn:n ≤ 1000) (hcl:cs.length ≤ 1048576):PC Tryz.prog 212 [bQ p,sl cI cs,iv (n:Int)] (fun r => r = .tup [sl cI (wm (aC p) n 0 cs).1,bv (wm (aC p) n 0 cs).2]):=by
 have hpo := xW p hl hs
 rw [if_pos hv] at hpo
 have w := WG.of_valid hv
 have wa := WA.of_valid hv
 obtain ⟨pts,hpts⟩ : ∃ pts,pts = aC p := ⟨_,rfl⟩
 rw [← hpts] at hpo w wa ⊢
 have hpl := w.pl
 have hp0 := w.p0
 refine aB Tryz.func212 Tryz.ntmps212 ?_
 repeat' (first|(apply aF;(apply aA (k := 151);rfl;exact hpo;exact Pur.pf;rfl))|refine aE ?_|(refine aJ ?_ ?_ <;> intro hc hq <;> try (exfalso;omega))|(refine bO ?_ ?_ <;> intro hg hq <;> try (exfalso;omega))|fail)
 refine aH (σ := Int × Nat × List Int × Nat) [1,2,9] [] (fun k => [(10,iv k.1),(11,iv (k.2.1 : Int)),(8,.own 1 0 k.2.2.2 1)]) (fun k => [(1,some (flat cI k.2.2.1))]) (fun k => (0 ≤ k.1 ∧ k.1 < pts.length) ∧ k.2.1 ≤ k.2.2.1.length ∧ k.2.2.1.length ≤ n ∧ k.2.2.2 = k.2.2.1.length ∧ wm pts n 0 cs = (k.2.2.1 ++ (wm pts (n - k.2.2.1.length) k.1.toNat (cs.drop k.2.1)).1,(wm pts (n - k.2.2.1.length) k.1.toNat (cs.drop k.2.1)).2)) (fun k => n + 1 - k.2.2.1.length) (0,0,[],0) ⟨⟨Int.le_refl _,by show (0 : Int) < _; omega⟩,Nat.le_refl _,Nat.zero_le _,rfl,rfl⟩ ?_
 rintro ⟨a,u,out,m⟩ ⟨⟨ha0,ha⟩,hu,ho,hm,hw⟩
 dsimp only at ha0 ha hu ho hm hw ⊢
 have hat : (a.toNat : Int) = a := Int.toNat_of_nonneg ha0
 have hnx := w.nx a.toNat (by omega)
 have hnl := w.nl a.toNat (by omega)
 have hn1 := wa.n a.toNat (by omega)
 have hk : ∀ k,k < pts[a.toNat]!.next.length → 0 ≤ pts[a.toNat]!.next[k]! ∧ pts[a.toNat]!.next[k]! < pts.length := fun k h => hnx _ (aN _ _ h)
 repeat' (first|(apply aF;(apply aL (t := _);rfl;rfl;rfl;exact (rfl:_=some [_]);rfl;rfl))|refine aE ?_|(refine aJ ?_ ?_ <;> intro hc hq <;> try (exfalso;omega))|(refine bO ?_ ?_ <;> intro hg hq <;> try (exfalso;omega))|fail)
 ·have hop : ¬ pts[a.toNat]!.op = 11 := by assumption
  have e : wm pts n 0 cs = (out,false) := by rw [hw,show n - out.length = 0 by omega,Gf hop,List.append_nil]
  rw [e]
  (refine aR (Le.frzD (d := 6) (i := 1) rfl rfl) ?_; refine aD rfl ?_)
  refine ⟨?_,(by exact Pur.pf)⟩
  simp only [aM,sl]
  rw [hm]
 ·have hop : ¬ pts[a.toNat]!.op = 11 := by assumption
  have hst := oX hop (by omega) ((Ln (by omega) (by omega)).trans (by rw [if_pos (by assumption)])) hw
  rw [hat] at hst
  have hk := hk 0 (by omega)
  (refine bC (pts[a.toNat]!.next[0]!,u + 1,_,_) (Le.renA [(1,3)]) ?_ ?_)
  ·refine ⟨hk,?_,?_,?_,hst⟩ <;> (dsimp only;rw [List.length_append]; simp only [List.length_singleton]; omega)
  ·dsimp only;rw [List.length_append]; simp only [List.length_singleton]; omega
 ·have hop : ¬ pts[a.toNat]!.op = 11 := by assumption
  have hst := oX hop (by omega) ((Ln (by omega) (by omega)).trans (by rw [if_neg (by assumption)])) hw
  rw [hat] at hst
  have hk := hk 1 (by omega)
  (refine bC (pts[a.toNat]!.next[1]!,u + 1,_,_) (Le.renA [(1,3)]) ?_ ?_)
  ·refine ⟨hk,?_,?_,?_,hst⟩ <;> (dsimp only;rw [List.length_append]; simp only [List.length_singleton]; omega)
  ·dsimp only;rw [List.length_append]; simp only [List.length_singleton]; omega
 ·have hop : ¬ pts[a.toNat]!.op = 11 := by assumption
  have hst := oX hop (by omega) (NX (by omega) (by omega)) hw
  rw [hat] at hst
  have hk := hk 1 (by omega)
  (refine bC (pts[a.toNat]!.next[1]!,u + 1,_,_) (Le.renA [(1,3)]) ?_ ?_)
  ·refine ⟨hk,?_,?_,?_,hst⟩ <;> (dsimp only;rw [List.length_append]; simp only [List.length_singleton]; omega)
  ·dsimp only;rw [List.length_append]; simp only [List.length_singleton]; omega
 ·have hop : ¬ pts[a.toNat]!.op = 11 := by assumption
  have hst := oX hop (by omega) (Lq (by omega)) hw
  rw [hat] at hst
  have hk := hk 0 (by omega)
  (refine bC (pts[a.toNat]!.next[0]!,u,_,_) (Le.renA [(1,3)]) ?_ ?_)
  ·refine ⟨hk,?_,?_,?_,hst⟩ <;> (dsimp only;rw [List.length_append]; simp only [List.length_singleton]; omega)
  ·dsimp only;rw [List.length_append]; simp only [List.length_singleton]; omega
 ·have hop : pts[a.toNat]!.op = 11 := by assumption
  have e : wm pts n 0 cs = (out ++ [a],true) := by rw [hw,HK hop,hat]
  rw [e]
  (refine aR (Le.frzD (d := 6) (i := 3) rfl rfl) ?_; refine aD rfl ?_)
  refine ⟨?_,(by exact Pur.pf)⟩
  simp only [aM,sl]
  rw [hm,List.length_append]; rfl
theorem MO {ts:List Int}{s:Mc}{x:Pnt}(hx:(x.op = 7 ∨ x.op = 8) → 0 ≤ x.x ∧ x.x < ts.length) (hy:(x.op = 3 ∨ x.op = 4 ∨ x.op = 5 ∨ x.op = 6 ∨ x.op = 7) → 0 ≤ x.y ∧ x.y < ts.length):Lw s x = cG ts s x:=by
 have hX : ∀ v : Nat,(v : Int) = x.x → v = x.x.toNat := fun v h => by omega
 have hY : ∀ v : Nat,(v : Int) = x.y → v = x.y.toNat := fun v h => by omega
 cases hu : cG ts s x with
 | true =>
  obtain ⟨v,hv,hne,hs⟩ := zH hu
  unfold a6 at hne
  unfold Lw
  by_cases h3 : x.op = 3
  ·rw [if_pos h3] at hne
   by_cases e : (v : Int) = x.y
   ·rw [if_pos (.inl h3),← hY v e,hs]; rfl
   ·rw [if_neg e] at hne;exact absurd rfl hne
  ·rw [if_neg h3] at hne
   by_cases h4 : x.op = 4 ∨ x.op = 5 ∨ x.op = 6
   ·rw [if_pos h4] at hne
    by_cases e : (v : Int) = x.y
    ·rw [if_pos (by omega),← hY v e,hs]; rfl
    ·rw [if_neg e] at hne;exact absurd rfl hne
   ·rw [if_neg h4] at hne
    rw [if_neg (by omega)]
    by_cases h7 : x.op = 7
    ·rw [if_pos h7] at hne ⊢
     by_cases e : (v : Int) = x.x
     ·rw [← hX v e,hs]; rfl
     ·rw [if_neg e] at hne
      by_cases e2 : (v : Int) = x.y
      ·rw [← hY v e2,hs]; simp
      ·rw [if_neg e2] at hne;exact absurd rfl hne
    ·rw [if_neg h7] at hne ⊢
     by_cases h8 : x.op = 8
     ·rw [if_pos h8] at hne ⊢
      by_cases e : (v : Int) = x.x
      ·rw [← hX v e,hs]; rfl
      ·rw [if_neg e] at hne;exact absurd rfl hne
     ·rw [if_neg h8] at hne;exact absurd rfl hne
 | false =>
  have hS : ∀ v : Nat,v < ts.length → a6 ts x v ≠ 0 → s.slots[v]!.set = true := fun v hv h => Jz hu hv h
  unfold Lw
  by_cases h3 : x.op = 3
  ·have := hy (.inl h3)
   rw [if_pos (.inl h3),hS x.y.toNat (by omega) (by unfold a6;rw [if_pos h3,if_pos (by omega)]; split <;> decide)]; rfl
  ·by_cases h4 : x.op = 4 ∨ x.op = 5 ∨ x.op = 6
   ·have := hy (by omega)
    rw [if_pos (by omega),hS x.y.toNat (by omega) (by unfold a6;rw [if_neg h3,if_pos h4,if_pos (by omega)]; decide)]; rfl
   ·rw [if_neg (by omega)]
    by_cases h7 : x.op = 7
    ·have hy7 := hy (by omega)
     have hx7 := hx (.inl h7)
     rw [if_pos h7, hS x.x.toNat (by omega) (by unfold a6; rw [if_neg h3, if_neg h4, if_pos h7, if_pos (by omega)]; decide),
      hS x.y.toNat (by omega) (by unfold a6;rw [if_neg h3,if_neg h4,if_pos h7]; split;decide;rw [if_pos (by omega)]; decide)]; rfl
    ·rw [if_neg h7]
     by_cases h8 : x.op = 8
     ·have hx8 := hx (.inr h8)
      rw [if_pos h8,hS x.x.toNat (by omega) (by unfold a6;rw [if_neg h3,if_neg h4,if_neg h7,if_pos h8,if_pos (by omega)]; decide)]; rfl
     ·rw [if_neg h8]
theorem BL (k:Int):o6 k ≠ 0:=by
 unfold o6 eR;split
 ·decide
 ·split <;> decide
theorem Dc (k:Int):eR k ≠ 0 := by unfold eR;split <;> decide
theorem oB {ts:List Int}{s:Mc}{v:Nat}{y:Sl}:(bT ts s v y).2 ≠ 0:=by
 unfold bT;split
 ·exact BL _
 ·show (-1 : Int) ≠ 0;decide
theorem LZ {ts:List Int}{s:Mc}{x:Pnt}(h:x.op ≠ 11):(c7 ts s x).2 ≠ 0:=by
 unfold c7
 split
 ·exact oB
 split
 ·split
  ·show (1 : Int) ≠ 0;decide
  ·exact oB
 split
 ·exact oB
 split
 ·split
  ·exact oB
  ·exact Dc _
 split
 ·split
  ·exact oB
  ·exact Dc _
 split
 ·exact BL _
 split
 ·exact BL _
 show (-1 : Int) ≠ 0;decide
theorem NW {ts:List Int}{s:Mc}{x:Pnt}(h:x.op ≠ 11):gk (c7 ts s x).2 = 0 ↔ (c7 ts s x).2 = -1:=by
 have := LZ (ts := ts) (s := s) h
 unfold gk;split
 ·simp [*]
 ·constructor <;> (intro q;contradiction)
theorem Nk (ts:List Int) (s:Mc) (x:Pnt) (ho:x.op = 9 ∨ x.op = 10):PC Tryz.prog 215 [sl cI ts,fB s,dD x] (fun r => r = .tup [fB (c7 ts s x).1,iv (gk (c7 ts s x).2)]):=by
 have h0 : c7 ts s x = (s, -1) := by
  unfold c7;rw [if_neg (show ¬ x.op = 1 by omega),if_neg (show ¬ x.op = 2 by omega),if_neg (show ¬ x.op = 3 by omega),if_neg (show ¬ (x.op = 4 ∨ x.op = 5) by omega),if_neg (show ¬ x.op = 6 by omega),if_neg (show ¬ x.op = 7 by omega),if_neg (show ¬ x.op = 8 by omega),if_neg (show ¬ x.op = 11 by omega)]
 rw [h0]
 refine aB Tryz.func215 Tryz.ntmps215 ?_
 repeat' (first|refine aE ?_|(refine aJ ?_ ?_ <;> intro hc hq <;> try (exfalso;omega))|fail)
 exact aD (l := [fB s,iv 0]) rfl ⟨rfl,by exact Pur.pf⟩
theorem Mt (ts:List Int) (s:Mc) (x:Pnt) (h11:x.op ≠ 11) (hop:1 ≤ x.op ∧ x.op ≤ 11) (hm:OkM s.cells) (hsl:s.slots.length = ts.length) (hx:x.op ≤ 8 → 0 ≤ x.x ∧ x.x < ts.length) (hy:3 ≤ x.op → x.op ≤ 7 → 0 ≤ x.y ∧ x.y < ts.length) (hn:x.op = 2 → 0 ≤ x.n ∧ x.n ≤ 9) (hl:ts.length ≤ 1048576) (hrl:s.read.length ≤ 1048576):PC Tryz.prog 215 [sl cI ts,fB s,dD x] (fun r => r = .tup [fB (c7 ts s x).1,iv (gk (c7 ts s x).2)]):=by
 by_cases h1 : x.op = 1
 ·exact Mj ts s x h1 hm hsl (hx (by omega)) hl
 by_cases h2 : x.op = 2
 ·exact Mg ts s x h2 hm hsl (hx (by omega)) (hn h2) hl
 by_cases h3 : x.op = 3
 ·exact Nc ts s x h3 hm hsl (hx (by omega)) (hy (by omega) (by omega)) hl
 by_cases h4 : x.op = 4 ∨ x.op = 5
 ·exact JC ts s x h4 hm hsl (hx (by omega)) (hy (by omega) (by omega)) hl
 by_cases h6 : x.op = 6
 ·exact Me ts s x h6 hm hsl (hx (by omega)) (hy (by omega) (by omega)) hl hrl
 by_cases h7 : x.op = 7
 ·exact MP ts s x h7 hm hsl (hx (by omega)) (hy (by omega) (by omega)) hl
 by_cases h8 : x.op = 8
 ·exact Ng ts s x h8 hm hsl (hx (by omega)) hl
 ·exact Nk ts s x (by omega)
theorem kG {ts:List Int}{s:Mc}{v:Nat}{y:Sl}:(bT ts s v y).1.read = s.read := by unfold bT;split <;> rfl
theorem zW {ts:List Int}{s:Mc}{x:Pnt}(h:x.op ≠ 11):(c7 ts s x).1.read.length ≤ s.read.length + 1:=by
 unfold c7
 split
 ·rw [kG]; omega
 split
 ·split
  ·dsimp only;omega
  ·rw [kG]; dsimp only;omega
 split
 ·rw [kG]; split <;> (first|omega|(dsimp only;omega))
 split
 ·split
  ·rw [kG]; dsimp only;omega
  ·dsimp only;omega
 split
 ·split
  ·rw [kG]; dsimp only;rw [List.length_append]; simp only [List.length_singleton]; omega
  ·dsimp only;omega
 split
 ·dsimp only;omega
 split
 ·dsimp only;omega
 dsimp only;omega
theorem DQ (pts:List Pnt):∀ n a cs,(gF pts n a cs).2 = true → ∃ l b,(gF pts n a cs).1 = l ++ [b] ∧ pts[b]!.op = 11
 | 0, a, cs, h => by
  unfold gF at h ⊢
  by_cases e : pts[a]!.op = 11
  ·rw [if_pos e]; exact ⟨[],a,rfl,e⟩
  ·rw [if_neg e] at h;exact absurd h (by decide)
 | n + 1, a, cs, h => by
  rw [gF] at h ⊢
  by_cases e : pts[a]!.op = 11
  ·rw [if_pos e]; exact ⟨[],a,rfl,e⟩
  ·rw [if_neg e] at h ⊢
   obtain ⟨l,b,h1,h2⟩ := DQ pts n _ _ h
   exact ⟨a :: l,b,by dsimp only;rw [h1]; rfl,h2⟩
theorem Nu {s:Mc}{x:Pnt}(h:x.op = 11):Lw s x = false:=by
 unfold Lw;rw [if_neg (by omega),if_neg (by omega),if_neg (by omega)]
theorem Js (p:Prg) (cs:List Int) (n:Nat) (hv:bK p = true) (hl:p.types.length ≤ 1048576) (hs:aU p.body ≤ 1048576) (hn:n ≤ 150) (hcl:cs.length ≤ 1048576) (hL:∀ a ∈ (gF (aC p) n 0 cs).1,a < (aC p).length) (hLl:(gF (aC p) n 0 cs).1.length ≤ 151):PC Tryz.prog 154 [bQ p,sl cI cs,iv (n:Int)] (fun r => r = .tup [fB (jE p.types (aC p) cs n).1,iv (jE p.types (aC p) cs n).2.1,iv (jE p.types (aC p) cs n).2.2]):=by
 have hpo := c6 p hs
 have hru := BG p cs n hv hl hs (by omega) hcl
 have w := WG.of_valid hv
 have wa := WA.of_valid hv
 obtain ⟨q,hq⟩ : ∃ q,q = jE p.types (aC p) cs n := ⟨_,rfl⟩
 rw [← hq]
 unfold jE at hq
 unfold wm at hru
 obtain ⟨L,hLe⟩ : ∃ L,L = (gF (aC p) n 0 cs).1 := ⟨_,rfl⟩
 obtain ⟨dn,hdn⟩ : ∃ dn,dn = (gF (aC p) n 0 cs).2 := ⟨_,rfl⟩
 rw [← hLe,← hdn] at hru
 rw [← hLe] at hq hL hLl
 have hgx : ∀ i,i < L.length → (L.map (fun a : Nat => (a : Int)))[i]! = (L[i]! : Int) := fun i h => by rw [aS _ _ (by rw [List.length_map]; exact h),List.getElem_map,aS _ _ h]
 have hml : (L.map (fun a : Nat => (a : Int))).length = L.length := List.length_map _
 generalize (L.map (fun a : Nat => (a : Int))) = LI at *
 generalize hP : aC p = pts at *
 have e1 : AV.imm p.types.length ((List.replicate p.types.length ([Value.bool false, Value.int .i64 0, Value.int .i64 0, Value.int .i64 0].map AV.v)).flatten) = sl cT (List.replicate p.types.length mL) := by
  rw [uD (f := cT) (x := mL) (l := [Value.bool false,Value.int .i64 0,Value.int .i64 0,Value.int .i64 0].map AV.v) rfl]; exact dV (by simp)
 refine aB Tryz.func154 Tryz.ntmps154 ?_
 repeat' (first|(apply aF;first|(apply aA (k := 132);rfl;exact hpo;exact Pur.pf;rfl)|(with_reducible apply aW (d := 27))|(apply aL (t := _);rfl;rfl;rfl;(rfl);rfl;rfl))|refine aE ?_|fail)
 refine bU (cX ?_ (Le.frzD (d := 24) (i := 2) rfl rfl))
 rw [e1]
 repeat' (first|(apply aF;(apply aA (k := 212);rfl;exact hru;exact Pur.pf;rfl))|refine aE ?_|fail)
 refine aH (σ := Nat × Mc) [3,6,9,10,11,12] [0,1] (fun k => [(13,iv (k.1 : Int))]) (fun k => [(5,some [sl cT k.2.slots,sl bE k.2.cells,sl cI k.2.read])]) (fun k => k.1 ≤ L.length ∧ nB p.types pts (L.drop k.1) k.2 (if k.1 = 0 then 0 else L[k.1 - 1]!) = q ∧ OkS p.types.length k.2 ∧ k.2.read.length ≤ k.1 ∧ (∀ j,j < k.1 → pts[L[j]!]!.op ≠ 11)) (fun k => L.length - k.1) (0,mc0 p.types.length) ⟨Nat.zero_le _,by rw [hq]; rfl,OkS.mc0 _,Nat.le_refl _,fun j h => absurd h (by omega)⟩ ?_
 rintro ⟨i,s⟩ ⟨hi,hf,hok,hrd,h11⟩
 dsimp only at hi hf hok hrd h11 ⊢
 have hil : i < L.length → L[i]! < pts.length := fun h => hL _ (aN _ _ h)
 have hex := fun h => Lb p.types s hok.m hok.l h
 by_cases hiL : i < L.length
 ·have hap := hil hiL
  have hop := w.op L[i]! hap
  have hwx := w.x L[i]! hap
  have hwy := w.y L[i]! hap
  have hA := wa.a L[i]! hap
  have hg := hgx i hiL
  have hen := hex hl
  have hun := D9 s pts[L[i]!]! (fun h => by have := hok.l;omega) (fun h => by have := hok.l;omega)
  have hun2 := MO (ts := p.types) (s := s) (x := pts[L[i]!]!) (fun h => by omega) (fun h => by omega)
  rw [hun2] at hun
  have hdo := fun h => Mt p.types s pts[L[i]!]! h hop hok.m hok.l (fun h => by omega) (fun h h2 => by omega) (fun h => hA.n (.inr h)) hl (by omega)
  repeat' (first|(apply aF;(with_reducible apply aW (d := 46)))|refine aE ?_|(refine aJ ?_ ?_ <;> intro hc hq <;> try (exfalso;omega))|fail)
  refine bU ?_
  rw [hg]
  repeat' (first|(apply aF;first|(apply aA (k := 213);rfl;exact hen;exact Pur.pf;rfl)|(apply aA (k := 214);rfl;exact hun;exact Pur.pf;rfl)|(apply aA (k := 215);rfl;exact hdo (by assumption);exact Pur.pf;rfl))|refine aE ?_|(refine aJ ?_ ?_ <;> intro hc hq <;> try (exfalso;omega))|refine bI ?_|fail)
  all_goals have hdr : L.drop i = L[i]! :: L.drop (i + 1) := by rw [List.drop_eq_getElem_cons hiL,aS _ _ hiL]
  all_goals rw [hdr] at hf
  ·have ho : pts[L[i]!]!.op = 11 := by assumption
   have hqq : q = ((cF p.types p.types.length 0 s).1, (cF p.types p.types.length 0 s).2, L[i]!) := by
    rw [← hf,nB,if_neg (by rw [← hun2,Nu ho]; decide),GC ho,if_neg (by have := yH p.types p.types.length 0 s;omega)]
   rw [hqq]
   refine aD (l := [fB (cF p.types p.types.length 0 s).1,iv (cF p.types p.types.length 0 s).2,iv LI[i]!]) rfl ?_
   rw [hg]
   exact ⟨rfl,by exact Pur.pf⟩
  ·have hu : cG p.types s pts[L[i]!]! = true := by assumption
   have hqq : q = (s,2,L[i]!) := by rw [← hf,nB,if_pos hu]
   rw [hqq]
   refine aD (l := [fB s,iv 2,iv LI[i]!]) rfl ?_
   rw [hg]
   exact ⟨rfl,by exact Pur.pf⟩
  ·have ho : ¬ pts[L[i]!]!.op = 11 := by assumption
   have hu : cG p.types s pts[L[i]!]! = false := by assumption
   have hk : ¬ gk (c7 p.types s pts[L[i]!]!).2 = 0 := by assumption
   have hk2 : ¬ (c7 p.types s pts[L[i]!]!).2 = -1 := fun e => hk ((NW ho).2 e)
   have hqq : q = ((c7 p.types s pts[L[i]!]!).1,(c7 p.types s pts[L[i]!]!).2,L[i]!) := by rw [← hf,nB,if_neg (by rw [hu]; decide),if_neg hk2]
   rw [hqq]
   refine aD (l := [fB (c7 p.types s pts[L[i]!]!).1,iv (gk (c7 p.types s pts[L[i]!]!).2),iv LI[i]!]) rfl ?_
   rw [hg,show gk (c7 p.types s pts[L[i]!]!).2 = (c7 p.types s pts[L[i]!]!).2 by unfold gk;rw [if_neg hk2]]
   exact ⟨rfl,by exact Pur.pf⟩
  ·have ho : ¬ pts[L[i]!]!.op = 11 := by assumption
   have hu : cG p.types s pts[L[i]!]! = false := by assumption
   have hk2 : (c7 p.types s pts[L[i]!]!).2 = -1 := (NW ho).1 (by assumption)
   (refine bC (i + 1,(c7 p.types s pts[L[i]!]!).1) (Le.renA [(0,0),(1,1),(5,5)]) ?_ ?_)
   ·refine ⟨by dsimp only; omega, ?_, hok.do ⟨fun h => hA.n (.inr h)⟩, ?_, ?_⟩
    ·dsimp only
     rw [← hf,if_neg (by omega),show i + 1 - 1 = i by omega,nB,if_neg (by rw [hu]; decide),if_pos hk2]
    ·dsimp only;have := zW (ts := p.types) (s := s) ho;omega
    ·intro j hj
     rcases Nat.lt_or_ge j i with h|h
     ·exact h11 j h
     ·rw [show j = i by omega]; exact ho
   ·dsimp only;omega
 ·repeat' (first | refine aE ?_ | (refine aJ ?_ ?_ <;> intro hc hq <;> try (exfalso; omega)) | (refine bO ?_ ?_ <;> intro hg hq <;> try (exfalso; omega)) | refine bI ?_|fail)
  all_goals have hie : i = L.length := by omega
  all_goals have hqq : q = (s,1,if i = 0 then 0 else L[i - 1]!) := by rw [← hf,hie,List.drop_length]; rfl
  ·rw [hqq, if_neg (by omega)]
   refine aD (l := [fB s,iv 1,iv LI[((LI.length : Int) - 1).toNat]!]) rfl ?_
   rw [show ((LI.length : Int) - 1).toNat = i - 1 by omega,hgx (i - 1) (by omega)]
   exact ⟨rfl,by exact Pur.pf⟩
  ·rw [hqq, if_pos (by omega)]
   exact aD (l := [fB s,iv 1,iv 0]) rfl ⟨rfl,by exact Pur.pf⟩
  ·exfalso
   have hd1 : dn = true := by assumption
   obtain ⟨l,b,e1,e2⟩ := DQ pts n 0 cs (by rw [← hdn]; exact hd1)
   rw [← hLe] at e1
   have hlen : L.length = l.length + 1 := by rw [e1,List.length_append]; rfl
   have hb : L[l.length]! = b := by rw [aS _ _ (by omega)]; simp [e1]
   have := h11 l.length (by omega)
   rw [hb] at this
   exact this e2
end Go.Proofs.YtahdccneecdmmaaGreat
