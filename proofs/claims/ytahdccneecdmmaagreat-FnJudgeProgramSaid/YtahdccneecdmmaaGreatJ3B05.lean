/-
 A part of the proofs over this program: rules and contracts of its functions (the contracts).
-/
import Derived.Test.YtahdccneecdmmaaGreatJ3B04
set_option linter.unusedVariables false
set_option linter.unusedSimpArgs false
set_option maxHeartbeats 8000000
set_option maxRecDepth 4000
attribute [local irreducible] Go.AL.RW Go.AL.AW Go.AL.Stop
namespace Go.Proofs.YtahdccneecdmmaaGreat
open Go.AL Go.RowKit
variable {N : Nat} {Q : Exit → AS → Prop} {all : Array Oper} {rest : List Oper} {tsl : List (Nat × AV)} {hsl : List (Nat × Option (List AV))} {nidl : Nat} {z0 : Lo} {md : Md} {d : Nat} {ty : TypeId} {pos : String} {af : Array Edge} {tys : Array TypeId}
def gk (e : Int) : Int := if e = -1 then 0 else e
theorem NP {t:Int}(h:t = 2 ∨ t = 4):xA t = true:=by
 unfold xA;rcases h with h|h <;> subst h <;> rfl
theorem Rz {t:Int}(h:¬ t = 2) (h2:¬ t = 4):¬ xA t = true:=by
 unfold xA;rw [decide_eq_false h,decide_eq_false h2]; decide
theorem AQ {k:Int}(h:¬ k = 0):(if k = 1 then (3:Int) else if k = 0 then 0 else 4) = eJ k:=by
 unfold eJ;rw [if_neg h]
theorem NR {m:List Cl}{x:Pt}{u:Bool}(h:¬ kV m x u = 0):jT m x u = m := by unfold jT;rw [if_neg h]
theorem Jy (ts:List Int) (s:Mc) (x:Pnt) (hm:OkM s.cells) (hsl:s.slots.length = ts.length) (hx:0 ≤ x.x ∧ x.x < ts.length) (hy:0 ≤ x.y ∧ x.y < ts.length) (hl:ts.length ≤ 1000000):PC Tryz.prog 250 [sl cI ts,gG s,dY x] (fun r => r = .tup [gG (bK ts (if xA ts[x.y.toNat]! = true then ⟨s.slots.set x.y.toNat gP,s.cells,s.read⟩ else s) x.x.toNat s.slots[x.y.toNat]!).1,iv (gk (bK ts (if xA ts[x.y.toNat]! = true then ⟨s.slots.set x.y.toNat gP,s.cells,s.read⟩ else s) x.x.toNat s.slots[x.y.toNat]!).2)]):=by
 have hcl := r9 s x.y.toNat (by omega) (by omega)
 have hp1 := lU ts ⟨s.slots.set x.y.toNat gP,s.cells,s.read⟩ x.x.toNat s.slots[x.y.toNat]! hm (by show _ < (s.slots.set x.y.toNat gP).length;rw [List.length_set]; omega) (by omega) (by show (s.slots.set x.y.toNat gP).length ≤ _; rw [List.length_set]; omega)
 have hp2 := lU ts s x.x.toNat s.slots[x.y.toNat]! hm (by omega) (by omega) (by omega)
 rw [Int.toNat_of_nonneg hy.1] at hcl
 rw [Int.toNat_of_nonneg hx.1] at hp1 hp2
 refine aC Tryz.func250 Tryz.ntmps250 ?_
 repeat' (first|(apply aF;first|(apply aA (k := 247);rfl;exact hcl;exact Pur.pf;rfl)|(apply aA (k := 248);rfl;(first|exact hp1|exact hp2);exact Pur.pf;rfl))|refine aE ?_|(refine aK ?_ ?_ <;> intro hc hq <;> try (exfalso;omega))|(refine bS ?_ ?_ <;> intro hg hq <;> try (exfalso;omega))|fail)
 ·refine aD (l := [gG (bK ts ⟨s.slots.set x.y.toNat gP, s.cells, s.read⟩ x.x.toNat s.slots[x.y.toNat]!).1, iv (gk (bK ts ⟨s.slots.set x.y.toNat gP, s.cells, s.read⟩ x.x.toNat s.slots[x.y.toNat]!).2)]) rfl ⟨?_, by exact Pur.pf⟩
  rw [if_pos (NP (.inr (by assumption)))]; rfl
 ·refine aD (l := [gG (bK ts s x.x.toNat s.slots[x.y.toNat]!).1, iv (gk (bK ts s x.x.toNat s.slots[x.y.toNat]!).2)]) rfl ⟨?_, by exact Pur.pf⟩
  rw [if_neg (Rz (by assumption) (by assumption))]; rfl
 ·refine aD (l := [gG (bK ts ⟨s.slots.set x.y.toNat gP, s.cells, s.read⟩ x.x.toNat s.slots[x.y.toNat]!).1, iv (gk (bK ts ⟨s.slots.set x.y.toNat gP, s.cells, s.read⟩ x.x.toNat s.slots[x.y.toNat]!).2)]) rfl ⟨?_, by exact Pur.pf⟩
  rw [if_pos (NP (.inl (by assumption)))]; rfl
theorem H5 (ts:List Int) (s:Mc) (x:Pnt) (u:Bool) (hu:u = decide (x.op = 5)) (hm:OkM s.cells) (hsl:s.slots.length = ts.length) (hx:0 ≤ x.x ∧ x.x < ts.length) (hy:0 ≤ x.y ∧ x.y < ts.length) (hl:ts.length ≤ 1000000):PC Tryz.prog 251 [sl cI ts,gG s,dY x] (fun r => r = if kV s.cells s.slots[x.y.toNat]!.ptr u = 0 then
  .tup [gG (bK ts ⟨s.slots,jT s.cells s.slots[x.y.toNat]!.ptr u,s.read⟩ x.x.toNat ⟨true,0,qI s.cells s.slots[x.y.toNat]!.ptr u⟩).1,iv (gk (bK ts ⟨s.slots,jT s.cells s.slots[x.y.toNat]!.ptr u,s.read⟩ x.x.toNat ⟨true,0,qI s.cells s.slots[x.y.toNat]!.ptr u⟩).2)]
  else .tup [gG s,iv (eJ (kV s.cells s.slots[x.y.toNat]!.ptr u))]) := by
 have hsh := AP s.cells hm s.slots[x.y.toNat]!.ptr
 have hbo := xF s.cells hm s.slots[x.y.toNat]!.ptr
 have hp1 := lU ts ⟨s.slots,jT s.cells s.slots[x.y.toNat]!.ptr false,s.read⟩ x.x.toNat ⟨true,0,qI s.cells s.slots[x.y.toNat]!.ptr false⟩ (hm.ln _ _) (by show _ < s.slots.length;omega) (by omega) (by show s.slots.length ≤ _; omega)
 have hp2 := lU ts ⟨s.slots,jT s.cells s.slots[x.y.toNat]!.ptr true,s.read⟩ x.x.toNat ⟨true,0,qI s.cells s.slots[x.y.toNat]!.ptr true⟩ (hm.ln _ _) (by show _ < s.slots.length;omega) (by omega) (by show s.slots.length ≤ _; omega)
 rw [Int.toNat_of_nonneg hx.1] at hp1 hp2
 refine aC Tryz.func251 Tryz.ntmps251 ?_
 repeat' (first|(apply aF;first|(apply aA (k := 274);rfl;exact hsh;exact Pur.pf;rfl)|(apply aA (k := 275);rfl;exact hbo;exact Pur.pf;rfl)|(apply aA (k := 248) (avs := [sl cI ts,gG ⟨s.slots,jT s.cells s.slots[x.y.toNat]!.ptr false,s.read⟩,iv x.x,JA ⟨true,0,qI s.cells s.slots[x.y.toNat]!.ptr false⟩]);rfl;exact hp1;exact Pur.pf;rfl)|(apply aA (k := 248) (avs := [sl cI ts,gG ⟨s.slots,jT s.cells s.slots[x.y.toNat]!.ptr true,s.read⟩,iv x.x,JA ⟨true,0,qI s.cells s.slots[x.y.toNat]!.ptr true⟩]);rfl;exact hp2;exact Pur.pf;rfl)|(apply aA (k := 246);rfl;(apply k5);(rfl);rfl))|refine aE ?_|(refine aK ?_ ?_ <;> intro hc hq <;> try (exfalso;omega))|refine bQ ?_|fail)
 ·have hk : ¬ kV s.cells s.slots[x.y.toNat]!.ptr true = 0 := by assumption
  have hu2 : u = true := by rw [hu]; exact decide_eq_true (by assumption)
  subst hu2
  refine aD (l := [.agg [sl dK s.slots,sl bO (jT s.cells s.slots[x.y.toNat]!.ptr true),sl cI s.read],iv (if kV s.cells s.slots[x.y.toNat]!.ptr true = 1 then 3 else if kV s.cells s.slots[x.y.toNat]!.ptr true = 0 then 0 else 4)]) rfl ?_
  rw [AQ hk,if_neg hk,NR hk]
  exact ⟨rfl,by exact Pur.pf⟩
 ·have hk : kV s.cells s.slots[x.y.toNat]!.ptr true = 0 := by assumption
  have hu2 : u = true := by rw [hu]; exact decide_eq_true (by assumption)
  subst hu2
  refine aD (l := [gG (bK ts ⟨s.slots,jT s.cells s.slots[x.y.toNat]!.ptr true,s.read⟩ x.x.toNat ⟨true,0,qI s.cells s.slots[x.y.toNat]!.ptr true⟩).1,iv (gk (bK ts ⟨s.slots,jT s.cells s.slots[x.y.toNat]!.ptr true,s.read⟩ x.x.toNat ⟨true,0,qI s.cells s.slots[x.y.toNat]!.ptr true⟩).2)]) rfl ⟨?_,by exact Pur.pf⟩
  rw [if_pos hk]; rfl
 ·have hk : ¬ kV s.cells s.slots[x.y.toNat]!.ptr false = 0 := by assumption
  have hu2 : u = false := by rw [hu]; exact decide_eq_false (by assumption)
  subst hu2
  refine aD (l := [.agg [sl dK s.slots,sl bO (jT s.cells s.slots[x.y.toNat]!.ptr false),sl cI s.read],iv (if kV s.cells s.slots[x.y.toNat]!.ptr false = 1 then 3 else if kV s.cells s.slots[x.y.toNat]!.ptr false = 0 then 0 else 4)]) rfl ?_
  rw [AQ hk,if_neg hk,NR hk]
  exact ⟨rfl,by exact Pur.pf⟩
 ·have hk : kV s.cells s.slots[x.y.toNat]!.ptr false = 0 := by assumption
  have hu2 : u = false := by rw [hu]; exact decide_eq_false (by assumption)
  subst hu2
  refine aD (l := [gG (bK ts ⟨s.slots,jT s.cells s.slots[x.y.toNat]!.ptr false,s.read⟩ x.x.toNat ⟨true,0,qI s.cells s.slots[x.y.toNat]!.ptr false⟩).1,iv (gk (bK ts ⟨s.slots,jT s.cells s.slots[x.y.toNat]!.ptr false,s.read⟩ x.x.toNat ⟨true,0,qI s.cells s.slots[x.y.toNat]!.ptr false⟩).2)]) rfl ⟨?_,by exact Pur.pf⟩
  rw [if_pos hk]; rfl
theorem Ou (ts:List Int) (s:Mc) (x:Pnt) (ho:x.op = 1) (hm:OkM s.cells) (hsl:s.slots.length = ts.length) (hx:0 ≤ x.x ∧ x.x < ts.length) (hl:ts.length ≤ 1000000):PC Tryz.prog 215 [sl cI ts,gG s,dY x] (fun r => r = .tup [gG (bT ts s x).1,iv (gk (bT ts s x).2)]):=by
 have hp := lU ts s x.x.toNat ⟨true,x.n,⟨0,0⟩⟩ hm (by omega) (by omega) (by omega)
 rw [Int.toNat_of_nonneg hx.1] at hp
 have hd : bT ts s x = bK ts s x.x.toNat ⟨true,x.n,⟨0,0⟩⟩ := by unfold bT;rw [if_pos ho]
 rw [hd]
 refine aC Tryz.func215 Tryz.ntmps215 ?_
 repeat' (first|(apply aF;(apply aA (k := 248) (avs := [sl cI ts,gG s,iv x.x,JA ⟨true,x.n,⟨0,0⟩⟩]);rfl;exact hp;exact Pur.pf;rfl))|refine aE ?_|(refine aK ?_ ?_ <;> intro hc hq <;> try (exfalso;omega))|fail)
 exact aD (l := [gG (bK ts s x.x.toNat ⟨true,x.n,⟨0,0⟩⟩).1,iv (gk (bK ts s x.x.toNat ⟨true,x.n,⟨0,0⟩⟩).2)]) rfl ⟨rfl,by exact Pur.pf⟩
theorem PZ (ts:List Int) (s:Mc) (x:Pnt) (ho:x.op = 2) (hm:OkM s.cells) (hsl:s.slots.length = ts.length) (hx:0 ≤ x.x ∧ x.x < ts.length) (hn:0 ≤ x.n ∧ x.n ≤ 9) (hl:ts.length ≤ 1000000):PC Tryz.prog 215 [sl cI ts,gG s,dY x] (fun r => r = .tup [gG (bT ts s x).1,iv (gk (bT ts s x).2)]):=by
 have hml := hm.l
 have hnc := CZ s.cells hm x.n
 by_cases h2 : s.cells.length = 200
 ·rw [if_neg (by omega)] at hnc
  have hd : bT ts s x = (s,1) := by unfold bT;rw [if_neg (by omega),if_pos ho,if_pos h2]
  rw [hd]
  refine aC Tryz.func215 Tryz.ntmps215 ?_
  repeat' (first|(apply aF;(apply aA (k := 249);rfl;exact hnc;exact Pur.pf;rfl))|refine aE ?_|(refine aK ?_ ?_ <;> intro hc hq <;> try (exfalso;omega))|fail)
  exact aD (l := [gG s,iv 1]) rfl ⟨rfl,by exact Pur.pf⟩
 ·rw [if_pos (by omega)] at hnc
  have hp := lU ts ⟨s.slots,s.cells ++ [oT x.n],s.read⟩ x.x.toNat ⟨true,0,⟨s.cells.length,0⟩⟩ (hm.nw hn (by omega)) (by show _ < s.slots.length;omega) (by omega) (by show s.slots.length ≤ _; omega)
  rw [Int.toNat_of_nonneg hx.1] at hp
  have hd : bT ts s x = bK ts ⟨s.slots,s.cells ++ [oT x.n],s.read⟩ x.x.toNat ⟨true,0,⟨s.cells.length,0⟩⟩ := by unfold bT;rw [if_neg (by omega),if_pos ho,if_neg h2]
  rw [hd]
  refine aC Tryz.func215 Tryz.ntmps215 ?_
  repeat' (first|(apply aF;first|(apply aA (k := 249);rfl;exact hnc;exact Pur.pf;rfl)|(apply aA (k := 248) (avs := [sl cI ts,gG ⟨s.slots,s.cells ++ [oT x.n],s.read⟩,iv x.x,JA ⟨true,0,⟨s.cells.length,0⟩⟩]);rfl;exact hp;exact Pur.pf;rfl))|refine aE ?_|(refine aK ?_ ?_ <;> intro hc hq <;> try (exfalso;omega))|fail)
  exact aD (l := [gG (bK ts ⟨s.slots,s.cells ++ [oT x.n],s.read⟩ x.x.toNat ⟨true,0,⟨s.cells.length,0⟩⟩).1,iv (gk (bK ts ⟨s.slots,s.cells ++ [oT x.n],s.read⟩ x.x.toNat ⟨true,0,⟨s.cells.length,0⟩⟩).2)]) rfl ⟨rfl,by exact Pur.pf⟩
theorem OW (ts:List Int) (s:Mc) (x:Pnt) (ho:x.op = 3) (hm:OkM s.cells) (hsl:s.slots.length = ts.length) (hx:0 ≤ x.x ∧ x.x < ts.length) (hy:0 ≤ x.y ∧ x.y < ts.length) (hl:ts.length ≤ 1000000):PC Tryz.prog 215 [sl cI ts,gG s,dY x] (fun r => r = .tup [gG (bT ts s x).1,iv (gk (bT ts s x).2)]):=by
 have hmv := Jy ts s x hm hsl hx hy hl
 have hd : bT ts s x = bK ts (if xA ts[x.y.toNat]! = true then ⟨s.slots.set x.y.toNat gP,s.cells,s.read⟩ else s) x.x.toNat s.slots[x.y.toNat]! := by unfold bT;rw [if_neg (by omega),if_neg (by omega),if_pos ho]
 rw [← hd] at hmv
 refine aC Tryz.func215 Tryz.ntmps215 ?_
 repeat' (first|(apply aF;(apply aA (k := 250);rfl;exact hmv;exact Pur.pf;rfl))|refine aE ?_|(refine aK ?_ ?_ <;> intro hc hq <;> try (exfalso;omega))|fail)
 exact aD (l := [gG (bT ts s x).1,iv (gk (bT ts s x).2)]) rfl ⟨rfl,by exact Pur.pf⟩
theorem K7 (ts:List Int) (s:Mc) (x:Pnt) (ho:x.op = 4 ∨ x.op = 5) (hm:OkM s.cells) (hsl:s.slots.length = ts.length) (hx:0 ≤ x.x ∧ x.x < ts.length) (hy:0 ≤ x.y ∧ x.y < ts.length) (hl:ts.length ≤ 1000000):PC Tryz.prog 215 [sl cI ts,gG s,dY x] (fun r => r = .tup [gG (bT ts s x).1,iv (gk (bT ts s x).2)]):=by
 have hmk := H5 ts s x (decide (x.op = 5)) rfl hm hsl hx hy hl
 have h0 : bT ts s x = (if kV s.cells s.slots[x.y.toNat]!.ptr (decide (x.op = 5)) = 0 then bK ts ⟨s.slots, jT s.cells s.slots[x.y.toNat]!.ptr (decide (x.op = 5)), s.read⟩ x.x.toNat ⟨true, 0, qI s.cells s.slots[x.y.toNat]!.ptr (decide (x.op = 5))⟩
   else (s,eJ (kV s.cells s.slots[x.y.toNat]!.ptr (decide (x.op = 5))))) := by
  unfold bT;rw [if_neg (show ¬ x.op = 1 by omega),if_neg (show ¬ x.op = 2 by omega),if_neg (show ¬ x.op = 3 by omega),if_pos ho]
 have hd : ∀ r, (r = if kV s.cells s.slots[x.y.toNat]!.ptr (decide (x.op = 5)) = 0 then
   AV.tup [gG (bK ts ⟨s.slots,jT s.cells s.slots[x.y.toNat]!.ptr (decide (x.op = 5)),s.read⟩ x.x.toNat ⟨true,0,qI s.cells s.slots[x.y.toNat]!.ptr (decide (x.op = 5))⟩).1,iv (gk (bK ts ⟨s.slots,jT s.cells s.slots[x.y.toNat]!.ptr (decide (x.op = 5)),s.read⟩ x.x.toNat ⟨true,0,qI s.cells s.slots[x.y.toNat]!.ptr (decide (x.op = 5))⟩).2)]
   else AV.tup [gG s,iv (eJ (kV s.cells s.slots[x.y.toNat]!.ptr (decide (x.op = 5))))]) = (r = AV.tup [gG (bT ts s x).1,iv (gk (bT ts s x).2)]) := by
  intro r
  rw [h0]
  by_cases hk : kV s.cells s.slots[x.y.toNat]!.ptr (decide (x.op = 5)) = 0
  ·rw [if_pos hk,if_pos hk]
  ·rw [if_neg hk, if_neg hk]
   have : ∀ k,gk (eJ k) = eJ k := fun k => by unfold gk eJ;split <;> rfl
   dsimp only
   rw [this]
 simp only [hd] at hmk
 refine aC Tryz.func215 Tryz.ntmps215 ?_
 repeat' (first|(apply aF;(apply aA (k := 251);rfl;exact hmk;exact Pur.pf;rfl))|refine aE ?_|(refine aK ?_ ?_ <;> intro hc hq <;> try (exfalso;omega))|fail)
 all_goals exact aD (l := [gG (bT ts s x).1,iv (gk (bT ts s x).2)]) rfl ⟨rfl,by exact Pur.pf⟩
theorem Ov (ts:List Int) (s:Mc) (x:Pnt) (ho:x.op = 6) (hm:OkM s.cells) (hsl:s.slots.length = ts.length) (hx:0 ≤ x.x ∧ x.x < ts.length) (hy:0 ≤ x.y ∧ x.y < ts.length) (hl:ts.length ≤ 1000000) (hrl:s.read.length ≤ 1000000):PC Tryz.prog 215 [sl cI ts,gG s,dY x] (fun r => r = .tup [gG (bT ts s x).1,iv (gk (bT ts s x).2)]):=by
 have hrd := sR s.cells hm s.slots[x.y.toNat]!.ptr
 have h0 : bT ts s x = (if a7 s.cells s.slots[x.y.toNat]!.ptr false = 0 then bK ts ⟨s.slots, cV s.cells s.slots[x.y.toNat]!.ptr false, s.read ++ [oN s.cells s.slots[x.y.toNat]!.ptr]⟩ x.x.toNat ⟨true, oN s.cells s.slots[x.y.toNat]!.ptr, ⟨0, 0⟩⟩
   else (s,eJ (a7 s.cells s.slots[x.y.toNat]!.ptr false))) := by
  unfold bT;rw [if_neg (show ¬ x.op = 1 by omega),if_neg (show ¬ x.op = 2 by omega),if_neg (show ¬ x.op = 3 by omega),if_neg (show ¬ (x.op = 4 ∨ x.op = 5) by omega),if_pos ho]
 have hp := lU ts ⟨s.slots,cV s.cells s.slots[x.y.toNat]!.ptr false,s.read ++ [oN s.cells s.slots[x.y.toNat]!.ptr]⟩ x.x.toNat ⟨true,oN s.cells s.slots[x.y.toNat]!.ptr,⟨0,0⟩⟩ (hm.tch _ _) (by show _ < s.slots.length;omega) (by omega) (by show s.slots.length ≤ _; omega)
 rw [Int.toNat_of_nonneg hx.1] at hp
 by_cases hk : a7 s.cells s.slots[x.y.toNat]!.ptr false = 0
 ·rw [if_pos hk] at h0
  rw [h0]
  refine aC Tryz.func215 Tryz.ntmps215 ?_
  repeat' (first|(apply aF;first|(apply aA (k := 252);rfl;exact hrd;exact Pur.pf;rfl)|(with_reducible apply aY (d := 105)))|refine aE ?_|(refine aK ?_ ?_ <;> intro hc hq <;> try (exfalso;omega))|refine bQ ?_|fail)
  refine bZ (c8 ?_ (Le.frzC (j := 0) (i := 6) [sl dK s.slots,sl bO (cV s.cells s.slots[x.y.toNat]!.ptr false)] (m := 0 + s.read.length + 1) (d := flat cI (s.read ++ [oN s.cells s.slots[x.y.toNat]!.ptr])) rfl rfl (by decide)))
  have e : AV.imm (0 + s.read.length + 1) (flat cI (s.read ++ [oN s.cells s.slots[x.y.toNat]!.ptr])) = sl cI (s.read ++ [oN s.cells s.slots[x.y.toNat]!.ptr]) := fF (by rw [Nat.zero_add,List.length_append]; rfl)
  rw [e]
  repeat' (first|(apply aF;(apply aA (k := 248) (avs := [sl cI ts,gG ⟨s.slots,cV s.cells s.slots[x.y.toNat]!.ptr false,s.read ++ [oN s.cells s.slots[x.y.toNat]!.ptr]⟩,iv x.x,JA ⟨true,oN s.cells s.slots[x.y.toNat]!.ptr,⟨0,0⟩⟩]);rfl;exact hp;exact Pur.pf;rfl))|refine aE ?_|fail)
  exact aD (l := [gG (bK ts ⟨s.slots,cV s.cells s.slots[x.y.toNat]!.ptr false,s.read ++ [oN s.cells s.slots[x.y.toNat]!.ptr]⟩ x.x.toNat ⟨true,oN s.cells s.slots[x.y.toNat]!.ptr,⟨0,0⟩⟩).1,iv (gk (bK ts ⟨s.slots,cV s.cells s.slots[x.y.toNat]!.ptr false,s.read ++ [oN s.cells s.slots[x.y.toNat]!.ptr]⟩ x.x.toNat ⟨true,oN s.cells s.slots[x.y.toNat]!.ptr,⟨0,0⟩⟩).2)]) rfl ⟨rfl,by exact Pur.pf⟩
 ·rw [if_neg hk] at h0
  rw [h0]
  have e4 : cV s.cells s.slots[x.y.toNat]!.ptr false = s.cells := by unfold cV;rw [if_neg hk]
  rw [e4] at hrd
  refine aC Tryz.func215 Tryz.ntmps215 ?_
  repeat' (first|(apply aF;first|(apply aA (k := 252);rfl;exact hrd;exact Pur.pf;rfl)|(apply aA (k := 246);rfl;(apply k5);(rfl);rfl))|refine aE ?_|(refine aK ?_ ?_ <;> intro hc hq <;> try (exfalso;omega))|refine bQ ?_|fail)
  refine aD (l := [gG s,iv (if a7 s.cells s.slots[x.y.toNat]!.ptr false = 1 then 3 else if a7 s.cells s.slots[x.y.toNat]!.ptr false = 0 then 0 else 4)]) rfl ?_
  rw [AQ hk]
  have : ∀ k,gk (eJ k) = eJ k := fun k => by unfold gk eJ;split <;> rfl
  dsimp only
  rw [this]
  exact ⟨rfl,by exact Pur.pf⟩
theorem OA (ts:List Int) (s:Mc) (x:Pnt) (ho:x.op = 7) (hm:OkM s.cells) (hsl:s.slots.length = ts.length) (hx:0 ≤ x.x ∧ x.x < ts.length) (hy:0 ≤ x.y ∧ x.y < ts.length) (hl:ts.length ≤ 1000000):PC Tryz.prog 215 [sl cI ts,gG s,dY x] (fun r => r = .tup [gG (bT ts s x).1,iv (gk (bT ts s x).2)]):=by
 have hwr := Ai s.cells hm s.slots[x.x.toNat]!.ptr s.slots[x.y.toNat]!.num
 have h0 : bT ts s x = (⟨s.slots, oQ s.cells s.slots[x.x.toNat]!.ptr s.slots[x.y.toNat]!.num, s.read⟩, kI (qU s.cells s.slots[x.x.toNat]!.ptr s.slots[x.y.toNat]!.num)) := by
  unfold bT;rw [if_neg (show ¬ x.op = 1 by omega),if_neg (show ¬ x.op = 2 by omega),if_neg (show ¬ x.op = 3 by omega),if_neg (show ¬ (x.op = 4 ∨ x.op = 5) by omega),if_neg (show ¬ x.op = 6 by omega),if_pos ho]
 rw [h0]
 refine aC Tryz.func215 Tryz.ntmps215 ?_
 repeat' (first|(apply aF;first|(apply aA (k := 253);rfl;exact hwr;exact Pur.pf;rfl)|(apply aA (k := 246);rfl;(apply k5);(rfl);rfl))|refine aE ?_|(refine aK ?_ ?_ <;> intro hc hq <;> try (exfalso;omega))|refine bQ ?_|fail)
 refine aD (l := [gG ⟨s.slots,oQ s.cells s.slots[x.x.toNat]!.ptr s.slots[x.y.toNat]!.num,s.read⟩,iv (if qU s.cells s.slots[x.x.toNat]!.ptr s.slots[x.y.toNat]!.num = 1 then 3 else if qU s.cells s.slots[x.x.toNat]!.ptr s.slots[x.y.toNat]!.num = 0 then 0 else 4)]) rfl ?_
 rw [← Ia]
 exact ⟨rfl,by exact Pur.pf⟩
theorem O2 (ts:List Int) (s:Mc) (x:Pnt) (ho:x.op = 8) (hm:OkM s.cells) (hsl:s.slots.length = ts.length) (hx:0 ≤ x.x ∧ x.x < ts.length) (hl:ts.length ≤ 1000000):PC Tryz.prog 215 [sl cI ts,gG s,dY x] (fun r => r = .tup [gG (bT ts s x).1,iv (gk (bT ts s x).2)]):=by
 have hfr := nA s.cells hm s.slots[x.x.toNat]!.ptr
 have hcl := r9 ⟨s.slots,g8 s.cells s.slots[x.x.toNat]!.ptr,s.read⟩ x.x.toNat (by show _ < s.slots.length;omega) (by show s.slots.length ≤ _; omega)
 rw [Int.toNat_of_nonneg hx.1] at hcl
 have h0 : bT ts s x = (⟨s.slots.set x.x.toNat gP, g8 s.cells s.slots[x.x.toNat]!.ptr, s.read⟩, kI (a7 s.cells s.slots[x.x.toNat]!.ptr true)) := by
  unfold bT;rw [if_neg (show ¬ x.op = 1 by omega),if_neg (show ¬ x.op = 2 by omega),if_neg (show ¬ x.op = 3 by omega),if_neg (show ¬ (x.op = 4 ∨ x.op = 5) by omega),if_neg (show ¬ x.op = 6 by omega),if_neg (show ¬ x.op = 7 by omega),if_pos ho]
 rw [h0]
 refine aC Tryz.func215 Tryz.ntmps215 ?_
 repeat' (first|(apply aF;first|(apply aA (k := 245);rfl;exact hfr;exact Pur.pf;rfl)|(apply aA (k := 247);rfl;exact hcl;exact Pur.pf;rfl)|(apply aA (k := 246);rfl;(apply k5);(rfl);rfl))|refine aE ?_|(refine aK ?_ ?_ <;> intro hc hq <;> try (exfalso;omega))|refine bQ ?_|fail)
 refine aD (l := [gG ⟨s.slots.set x.x.toNat gP,g8 s.cells s.slots[x.x.toNat]!.ptr,s.read⟩,iv (if a7 s.cells s.slots[x.x.toNat]!.ptr true = 1 then 3 else if a7 s.cells s.slots[x.x.toNat]!.ptr true = 0 then 0 else 4)]) rfl ?_
 rw [← Ia]
 exact ⟨rfl,by exact Pur.pf⟩
def PR (s : Mc) (x : Pnt) : Bool :=
 if x.op = 3 ∨ x.op = 4 ∨ x.op = 5 ∨ x.op = 6 then !s.slots[x.y.toNat]!.set
 else if x.op = 7 then !s.slots[x.x.toNat]!.set || !s.slots[x.y.toNat]!.set
 else if x.op = 8 then !s.slots[x.x.toNat]!.set else false
theorem Gr (s:Mc) (x:Pnt) (hx:(x.op = 7 ∨ x.op = 8) → 0 ≤ x.x ∧ x.x < s.slots.length) (hy:(x.op = 3 ∨ x.op = 4 ∨ x.op = 5 ∨ x.op = 6 ∨ x.op = 7) → 0 ≤ x.y ∧ x.y < s.slots.length):PC Tryz.prog 214 [dY x,gG s] (fun r => r = bv (PR s x)):=by
 refine aC Tryz.func214 Tryz.ntmps214 ?_
 repeat' (first|refine aE ?_|(refine aK ?_ ?_ <;> intro hc hq <;> try (exfalso;omega))|(refine bS ?_ ?_ <;> intro hg hq <;> try (exfalso;omega))|fail)
 all_goals (refine aD rfl ⟨?_,rfl⟩; simp only [aO,AV.v.injEq,Value.bool.injEq]; unfold PR;grind)
theorem A5 {ts:List Int}{n v:Nat}{q:Mc}(h:¬ (ts[v]! = 2 ∧ q.slots[v]!.set = true)):cT ts (n + 1) v q = cT ts n (v + 1) q:=by
 rw [cT,if_neg h]
theorem HX {ts:List Int}{n v:Nat}{q:Mc}(h:ts[v]! = 2 ∧ q.slots[v]!.set = true) (hk:a7 q.cells q.slots[v]!.ptr true = 0):cT ts (n + 1) v q = cT ts n (v + 1) ⟨q.slots.set v gP,g8 q.cells q.slots[v]!.ptr,q.read⟩:=by
 rw [cT,if_pos h,if_pos hk]
theorem I7 {ts:List Int}{n v:Nat}{q:Mc}(h:ts[v]! = 2 ∧ q.slots[v]!.set = true) (hk:¬ a7 q.cells q.slots[v]!.ptr true = 0):cT ts (n + 1) v q = (⟨q.slots,g8 q.cells q.slots[v]!.ptr,q.read⟩,eJ (a7 q.cells q.slots[v]!.ptr true)):=by
 rw [cT,if_pos h,if_neg hk]
theorem MK (ts:List Int) (s:Mc) (hm:OkM s.cells) (hsl:s.slots.length = ts.length) (hl:ts.length ≤ 1000000):PC Tryz.prog 213 [sl cI ts,gG s] (fun r => r = .tup [gG (cT ts ts.length 0 s).1,iv (cT ts ts.length 0 s).2]):=by
 refine aC Tryz.func213 Tryz.ntmps213 ?_
 repeat' (first|refine aE ?_|fail)
 refine aH (σ := Nat × Mc) [0,3,4] [1] (fun k => [(6,iv (k.1 : Int))]) (fun k => [(0,some [sl dK k.2.slots,sl bO k.2.cells,sl cI k.2.read])]) (fun k => k.1 ≤ ts.length ∧ cT ts (ts.length - k.1) k.1 k.2 = cT ts ts.length 0 s ∧ OkM k.2.cells ∧ k.2.slots.length = ts.length) (fun k => ts.length - k.1) (0,s) ⟨Nat.zero_le _,rfl,hm,hsl⟩ ?_
 rintro ⟨v,q⟩ ⟨hv,hf,hmq,hlq⟩
 dsimp only at hv hf hmq hlq ⊢
 have hfr := nA q.cells hmq q.slots[v]!.ptr
 have hcl := fun h => r9 ⟨q.slots,g8 q.cells q.slots[v]!.ptr,q.read⟩ v h (by show q.slots.length ≤ _; omega)
 repeat' (first|(apply aF;first|(apply aA (k := 245);rfl;exact hfr;exact Pur.pf;rfl)|(apply aA (k := 247);rfl;(exact hcl (by show v < q.slots.length;omega));exact Pur.pf;rfl)|(apply aA (k := 246);rfl;(apply k5);(rfl);rfl))|refine aE ?_|(refine aK ?_ ?_ <;> intro hc hq <;> try (exfalso;omega))|(refine bS ?_ ?_ <;> intro hg hq <;> try (exfalso;omega))|refine bQ ?_|fail)
 ·(refine bE (v + 1, q) (Le.renA [(0, 0), (1, 1)]) ?_ ?_)
  ·refine ⟨by omega, ?_, hmq, hlq⟩
   dsimp only
   rw [← hf, show ts.length - v = (ts.length - (v + 1)) + 1 by omega, A5 (fun h => by
    have h2 : q.slots[v]!.set = false := by assumption
    rw [h2] at h;exact absurd h.2 (by decide))]
  ·dsimp only;omega
 ·have hk : ¬ a7 q.cells q.slots[v]!.ptr true = 0 := by assumption
  have hq2 : cT ts ts.length 0 s = (⟨q.slots, g8 q.cells q.slots[v]!.ptr, q.read⟩, eJ (a7 q.cells q.slots[v]!.ptr true)) := by
   rw [← hf,show ts.length - v = (ts.length - (v + 1)) + 1 by omega,I7 ⟨by assumption,by assumption⟩ hk]
  rw [hq2]
  refine aD (l := [gG ⟨q.slots,g8 q.cells q.slots[v]!.ptr,q.read⟩,iv (if a7 q.cells q.slots[v]!.ptr true = 1 then 3 else if a7 q.cells q.slots[v]!.ptr true = 0 then 0 else 4)]) rfl ?_
  rw [AQ hk]
  exact ⟨rfl,by exact Pur.pf⟩
 ·(refine bE (v + 1, ⟨q.slots.set v gP, g8 q.cells q.slots[v]!.ptr, q.read⟩) (Le.renA [(0, 0), (1, 1)]) ?_ ?_)
  ·refine ⟨by omega, ?_, hmq.fr _, by show (q.slots.set v gP).length = _; rw [List.length_set]; exact hlq⟩
   dsimp only
   rw [← hf,show ts.length - v = (ts.length - (v + 1)) + 1 by omega,HX ⟨by assumption,by assumption⟩ (by assumption)]
  ·dsimp only;omega
 ·(refine bE (v + 1, q) (Le.renA [(0, 0), (1, 1)]) ?_ ?_)
  ·refine ⟨by omega, ?_, hmq, hlq⟩
   dsimp only
   rw [← hf, show ts.length - v = (ts.length - (v + 1)) + 1 by omega, A5 (fun h => by
    have h2 : ¬ ts[v]! = 2 := by assumption
    exact h2 h.1)]
  ·dsimp only;omega
 ·have hve : v = ts.length := by omega
  have hq2 : cT ts ts.length 0 s = (q,0) := by rw [← hf,hve,Nat.sub_self]; rfl
  rw [hq2]
  exact aD (l := [gG q,iv 0]) rfl ⟨rfl,by exact Pur.pf⟩
theorem AD (p:Prg) (hl:p.types.length ≤ 1000000) (hs:aT p.body ≤ 1000000):PC Tryz.prog 151 [b8 p] (fun r => r = sl cM (if bD p = true then aB p else [])):=by
 have hval := fX p hl (by omega)
 have h2 := dP p hs
 refine aC Tryz.func151 Tryz.ntmps151 ?_
 repeat' (first|(apply aF;first|(apply aA (k := 61);rfl;exact hval;exact Pur.pf;rfl)|(apply aA (k := 132);rfl;exact h2;exact Pur.pf;rfl)|(apply aJ (t := _);rfl;rfl;rfl;(rfl);rfl;rfl))|refine aE ?_|(refine aK ?_ ?_ <;> intro hc hq <;> try (exfalso;omega))|fail)
 ·refine aD rfl ⟨?_, (by (rfl))⟩
  rw [if_neg (by simp [hq])]; rfl
 ·refine aD rfl ⟨?_, (by (exact bB _ _))⟩
  rw [if_pos hq]; rfl
def wm (pts : List Pnt) (n a : Nat) (cs : List Int) : List Int × Bool := ((dN pts n a cs).1.map (fun a : Nat => (a : Int)),(dN pts n a cs).2)
theorem I8 {pts:List Pnt}{n a:Nat}{cs:List Int}(h:pts[a]!.op = 11):wm pts n a cs = ([(a:Int)],true):=by
 have e : dN pts n a cs = ([a],true) := by cases n <;> (unfold dN;rw [if_pos h])
 unfold wm;rw [e]; rfl
theorem KH {pts:List Pnt}{a:Nat}{cs:List Int}(h:¬ pts[a]!.op = 11):wm pts 0 a cs = ([],false):=by
 have e : dN pts 0 a cs = ([],false) := by unfold dN;rw [if_neg h]
 unfold wm;rw [e]; rfl
theorem QK {pts:List Pnt}{n a:Nat}{cs:List Int}(h:¬ pts[a]!.op = 11):wm pts (n + 1) a cs = ((a:Int) :: (wm pts n (g7 pts a cs).1 (g7 pts a cs).2).1,(wm pts n (g7 pts a cs).1 (g7 pts a cs).2).2):=by
 unfold wm;rw [dN,if_neg h]; rfl
theorem NI {pts:List Pnt}{a:Nat}{cs:List Int}(h:¬ pts[a]!.next.length = 2):g7 pts a cs = ((pts[a]!.next[0]!).toNat,cs):=by
 unfold g7;rw [if_neg h]
theorem Rh {pts:List Pnt}{a u:Nat}{cs:List Int}(h:pts[a]!.next.length = 2) (hu:cs.length ≤ u):g7 pts a (cs.drop u) = ((pts[a]!.next[1]!).toNat,cs.drop (u + 1)):=by
 unfold g7;rw [if_pos h,List.drop_eq_nil_of_le hu,List.drop_eq_nil_of_le (by omega)]
theorem NU {pts:List Pnt}{a u:Nat}{cs:List Int}(h:pts[a]!.next.length = 2) (hu:u < cs.length):g7 pts a (cs.drop u) = ((pts[a]!.next[if cs[u]!.tmod 2 = 0 then 0 else 1]!).toNat,cs.drop (u + 1)):=by
 have e : (cs[u]! % 2).toNat = if cs[u]!.tmod 2 = 0 then 0 else 1 := by
  by_cases q : cs[u]!.tmod 2 = 0
  ·rw [if_pos q,Int.emod_eq_zero_of_dvd (Int.dvd_of_tmod_eq_zero q)]; rfl
  ·rw [if_neg q]
   have : ¬ cs[u]! % 2 = 0 := fun q2 => q (Int.tmod_eq_zero_of_dvd (Int.dvd_of_emod_eq_zero q2))
   omega
 have e2 : cs.drop u = cs[u]! :: cs.drop (u + 1) := by rw [List.drop_eq_getElem_cons hu,bC _ _ hu]
 unfold g7
 rw [if_pos h,e2]
 dsimp only
 rw [e]
theorem pI {pts:List Pnt}{n a:Nat}{out cs cs2:List Int}{b:Nat}{q:List Int × Bool}(h:¬ pts[a]!.op = 11) (ho:out.length < n) (hs:g7 pts a cs = (b,cs2)) (hq:q = (out ++ (wm pts (n - out.length) a cs).1,(wm pts (n - out.length) a cs).2)) :
  q = ((out ++ [(a : Int)]) ++ (wm pts (n - (out ++ [(a : Int)]).length) b cs2).1,(wm pts (n - (out ++ [(a : Int)]).length) b cs2).2) := by
 rw [hq,show n - out.length = (n - (out.length + 1)) + 1 by omega,QK h,hs,List.length_append,List.append_assoc]
 rfl
theorem DS (p:Prg) (cs:List Int) (n:Nat) (hv:bD p = true) (hl:p.types.length ≤ 1000000) (hs:aT p.body ≤ 1000000) (hn:n ≤ 1000) (hcl:cs.length ≤ 1000000):PC Tryz.prog 212 [b8 p,sl cI cs,iv (n:Int)] (fun r => r = .tup [sl cI (wm (aB p) n 0 cs).1,bv (wm (aB p) n 0 cs).2]):=by
 have hpo := AD p hl hs
 rw [if_pos hv] at hpo
 have w := WG.of_valid hv
 have wa := WA.of_valid hv
 obtain ⟨pts,hpts⟩ : ∃ pts,pts = aB p := ⟨_,rfl⟩
 rw [← hpts] at hpo w wa ⊢
 have hpl := w.pl
 have hp0 := w.p0
 refine aC Tryz.func212 Tryz.ntmps212 ?_
 repeat' (first|(apply aF;(apply aA (k := 151);rfl;exact hpo;exact Pur.pf;rfl))|refine aE ?_|(refine aK ?_ ?_ <;> intro hc hq <;> try (exfalso;omega))|(refine bS ?_ ?_ <;> intro hg hq <;> try (exfalso;omega))|fail)
 refine aH (σ := Int × Nat × List Int × Nat) [1,2,9] [] (fun k => [(10,iv k.1),(11,iv (k.2.1 : Int)),(8,.own 1 0 k.2.2.2 1)]) (fun k => [(1,some (flat cI k.2.2.1))]) (fun k => (0 ≤ k.1 ∧ k.1 < pts.length) ∧ k.2.1 ≤ k.2.2.1.length ∧ k.2.2.1.length ≤ n ∧ k.2.2.2 = k.2.2.1.length ∧ wm pts n 0 cs = (k.2.2.1 ++ (wm pts (n - k.2.2.1.length) k.1.toNat (cs.drop k.2.1)).1,(wm pts (n - k.2.2.1.length) k.1.toNat (cs.drop k.2.1)).2)) (fun k => n + 1 - k.2.2.1.length) (0,0,[],0) ⟨⟨Int.le_refl _,by show (0 : Int) < _; omega⟩,Nat.le_refl _,Nat.zero_le _,rfl,rfl⟩ ?_
 rintro ⟨a,u,out,m⟩ ⟨⟨ha0,ha⟩,hu,ho,hm,hw⟩
 dsimp only at ha0 ha hu ho hm hw ⊢
 have hat : (a.toNat : Int) = a := Int.toNat_of_nonneg ha0
 have hnx := w.nx a.toNat (by omega)
 have hnl := w.nl a.toNat (by omega)
 have hn1 := wa.n a.toNat (by omega)
 have hk : ∀ k,k < pts[a.toNat]!.next.length → 0 ≤ pts[a.toNat]!.next[k]! ∧ pts[a.toNat]!.next[k]! < pts.length := fun k h => hnx _ (aW _ _ h)
 repeat' (first|(apply aF;(apply aJ (t := _);rfl;rfl;rfl;exact (rfl:_=some [_]);rfl;rfl))|refine aE ?_|(refine aK ?_ ?_ <;> intro hc hq <;> try (exfalso;omega))|(refine bS ?_ ?_ <;> intro hg hq <;> try (exfalso;omega))|fail)
 ·have hop : ¬ pts[a.toNat]!.op = 11 := by assumption
  have e : wm pts n 0 cs = (out,false) := by rw [hw,show n - out.length = 0 by omega,KH hop,List.append_nil]
  rw [e]
  (refine aS (Le.frzD (d := 6) (i := 1) rfl rfl) ?_; refine aD rfl ?_)
  refine ⟨?_,(by exact Pur.pf)⟩
  simp only [aO,sl]
  rw [hm]
 ·have hop : ¬ pts[a.toNat]!.op = 11 := by assumption
  have hst := pI hop (by omega) ((NU (by omega) (by omega)).trans (by rw [if_pos (by assumption)])) hw
  rw [hat] at hst
  have hk := hk 0 (by omega)
  (refine bE (pts[a.toNat]!.next[0]!,u + 1,_,_) (Le.renA [(1,3)]) ?_ ?_)
  ·refine ⟨hk,?_,?_,?_,hst⟩ <;> (dsimp only;rw [List.length_append]; simp only [List.length_singleton]; omega)
  ·dsimp only;rw [List.length_append]; simp only [List.length_singleton]; omega
 ·have hop : ¬ pts[a.toNat]!.op = 11 := by assumption
  have hst := pI hop (by omega) ((NU (by omega) (by omega)).trans (by rw [if_neg (by assumption)])) hw
  rw [hat] at hst
  have hk := hk 1 (by omega)
  (refine bE (pts[a.toNat]!.next[1]!,u + 1,_,_) (Le.renA [(1,3)]) ?_ ?_)
  ·refine ⟨hk,?_,?_,?_,hst⟩ <;> (dsimp only;rw [List.length_append]; simp only [List.length_singleton]; omega)
  ·dsimp only;rw [List.length_append]; simp only [List.length_singleton]; omega
 ·have hop : ¬ pts[a.toNat]!.op = 11 := by assumption
  have hst := pI hop (by omega) (Rh (by omega) (by omega)) hw
  rw [hat] at hst
  have hk := hk 1 (by omega)
  (refine bE (pts[a.toNat]!.next[1]!,u + 1,_,_) (Le.renA [(1,3)]) ?_ ?_)
  ·refine ⟨hk,?_,?_,?_,hst⟩ <;> (dsimp only;rw [List.length_append]; simp only [List.length_singleton]; omega)
  ·dsimp only;rw [List.length_append]; simp only [List.length_singleton]; omega
 ·have hop : ¬ pts[a.toNat]!.op = 11 := by assumption
  have hst := pI hop (by omega) (NI (by omega)) hw
  rw [hat] at hst
  have hk := hk 0 (by omega)
  (refine bE (pts[a.toNat]!.next[0]!,u,_,_) (Le.renA [(1,3)]) ?_ ?_)
  ·refine ⟨hk,?_,?_,?_,hst⟩ <;> (dsimp only;rw [List.length_append]; simp only [List.length_singleton]; omega)
  ·dsimp only;rw [List.length_append]; simp only [List.length_singleton]; omega
 ·have hop : pts[a.toNat]!.op = 11 := by assumption
  have e : wm pts n 0 cs = (out ++ [a],true) := by rw [hw,I8 hop,hat]
  rw [e]
  (refine aS (Le.frzD (d := 6) (i := 3) rfl rfl) ?_; refine aD rfl ?_)
  refine ⟨?_,(by exact Pur.pf)⟩
  simp only [aO,sl]
  rw [hm,List.length_append]; rfl
theorem Og {ts:List Int}{s:Mc}{x:Pnt}(hx:(x.op = 7 ∨ x.op = 8) → 0 ≤ x.x ∧ x.x < ts.length) (hy:(x.op = 3 ∨ x.op = 4 ∨ x.op = 5 ∨ x.op = 6 ∨ x.op = 7) → 0 ≤ x.y ∧ x.y < ts.length):PR s x = cE ts s x:=by
 have hX : ∀ v : Nat,(v : Int) = x.x → v = x.x.toNat := fun v h => by omega
 have hY : ∀ v : Nat,(v : Int) = x.y → v = x.y.toNat := fun v h => by omega
 cases hu : cE ts s x with
 | true =>
  obtain ⟨v,hv,hne,hs⟩ := wU hu
  unfold aP at hne
  unfold PR
  by_cases h3 : x.op = 3
  ·rw [if_pos h3] at hne
   by_cases e : (v : Int) = x.y
   ·rw [if_pos (.inl h3),← hY v e,hs]; rfl
   ·rw [if_neg e] at hne;exact absurd rfl hne
  ·rw [if_neg h3] at hne
   by_cases h4 : x.op = 4 ∨ x.op = 5 ∨ x.op = 6
   ·rw [if_pos h4] at hne
    by_cases e : (v : Int) = x.y
    ·rw [if_pos (by omega),← hY v e,hs]; rfl
    ·rw [if_neg e] at hne;exact absurd rfl hne
   ·rw [if_neg h4] at hne
    rw [if_neg (by omega)]
    by_cases h7 : x.op = 7
    ·rw [if_pos h7] at hne ⊢
     by_cases e : (v : Int) = x.x
     ·rw [← hX v e,hs]; rfl
     ·rw [if_neg e] at hne
      by_cases e2 : (v : Int) = x.y
      ·rw [← hY v e2,hs]; simp
      ·rw [if_neg e2] at hne;exact absurd rfl hne
    ·rw [if_neg h7] at hne ⊢
     by_cases h8 : x.op = 8
     ·rw [if_pos h8] at hne ⊢
      by_cases e : (v : Int) = x.x
      ·rw [← hX v e,hs]; rfl
      ·rw [if_neg e] at hne;exact absurd rfl hne
     ·rw [if_neg h8] at hne;exact absurd rfl hne
 | false =>
  have hS : ∀ v : Nat,v < ts.length → aP ts x v ≠ 0 → s.slots[v]!.set = true := fun v hv h => iI hu hv h
  unfold PR
  by_cases h3 : x.op = 3
  ·have := hy (.inl h3)
   rw [if_pos (.inl h3),hS x.y.toNat (by omega) (by unfold aP;rw [if_pos h3,if_pos (by omega)]; split <;> decide)]; rfl
  ·by_cases h4 : x.op = 4 ∨ x.op = 5 ∨ x.op = 6
   ·have := hy (by omega)
    rw [if_pos (by omega),hS x.y.toNat (by omega) (by unfold aP;rw [if_neg h3,if_pos h4,if_pos (by omega)]; decide)]; rfl
   ·rw [if_neg (by omega)]
    by_cases h7 : x.op = 7
    ·have hy7 := hy (by omega)
     have hx7 := hx (.inl h7)
     rw [if_pos h7, hS x.x.toNat (by omega) (by unfold aP; rw [if_neg h3, if_neg h4, if_pos h7, if_pos (by omega)]; decide),
      hS x.y.toNat (by omega) (by unfold aP;rw [if_neg h3,if_neg h4,if_pos h7]; split;decide;rw [if_pos (by omega)]; decide)]; rfl
    ·rw [if_neg h7]
     by_cases h8 : x.op = 8
     ·have hx8 := hx (.inr h8)
      rw [if_pos h8,hS x.x.toNat (by omega) (by unfold aP;rw [if_neg h3,if_neg h4,if_neg h7,if_pos h8,if_pos (by omega)]; decide)]; rfl
     ·rw [if_neg h8]
theorem Ee (k:Int):kI k ≠ 0:=by
 unfold kI eJ;split
 ·decide
 ·split <;> decide
theorem Fb (k:Int):eJ k ≠ 0 := by unfold eJ;split <;> decide
theorem p7 {ts:List Int}{s:Mc}{v:Nat}{y:Sl}:(bK ts s v y).2 ≠ 0:=by
 unfold bK;split
 ·exact Ee _
 ·show (-1 : Int) ≠ 0;decide
theorem Qh {ts:List Int}{s:Mc}{x:Pnt}(h:x.op ≠ 11):(bT ts s x).2 ≠ 0:=by
 unfold bT
 split
 ·exact p7
 split
 ·split
  ·show (1 : Int) ≠ 0;decide
  ·exact p7
 split
 ·exact p7
 split
 ·split
  ·exact p7
  ·exact Fb _
 split
 ·split
  ·exact p7
  ·exact Fb _
 split
 ·exact Ee _
 split
 ·exact Ee _
 show (-1 : Int) ≠ 0;decide
theorem Q3 {ts:List Int}{s:Mc}{x:Pnt}(h:x.op ≠ 11):gk (bT ts s x).2 = 0 ↔ (bT ts s x).2 = -1:=by
 have := Qh (ts := ts) (s := s) h
 unfold gk;split
 ·simp [*]
 ·constructor <;> (intro q;contradiction)
theorem N8 (ts:List Int) (s:Mc) (x:Pnt) (ho:x.op = 9 ∨ x.op = 10):PC Tryz.prog 215 [sl cI ts,gG s,dY x] (fun r => r = .tup [gG (bT ts s x).1,iv (gk (bT ts s x).2)]):=by
 have h0 : bT ts s x = (s, -1) := by
  unfold bT;rw [if_neg (show ¬ x.op = 1 by omega),if_neg (show ¬ x.op = 2 by omega),if_neg (show ¬ x.op = 3 by omega),if_neg (show ¬ (x.op = 4 ∨ x.op = 5) by omega),if_neg (show ¬ x.op = 6 by omega),if_neg (show ¬ x.op = 7 by omega),if_neg (show ¬ x.op = 8 by omega),if_neg (show ¬ x.op = 11 by omega)]
 rw [h0]
 refine aC Tryz.func215 Tryz.ntmps215 ?_
 repeat' (first|refine aE ?_|(refine aK ?_ ?_ <;> intro hc hq <;> try (exfalso;omega))|fail)
 exact aD (l := [gG s,iv 0]) rfl ⟨rfl,by exact Pur.pf⟩
theorem OF (ts:List Int) (s:Mc) (x:Pnt) (h11:x.op ≠ 11) (hop:1 ≤ x.op ∧ x.op ≤ 11) (hm:OkM s.cells) (hsl:s.slots.length = ts.length) (hx:x.op ≤ 8 → 0 ≤ x.x ∧ x.x < ts.length) (hy:3 ≤ x.op → x.op ≤ 7 → 0 ≤ x.y ∧ x.y < ts.length) (hn:x.op = 2 → 0 ≤ x.n ∧ x.n ≤ 9) (hl:ts.length ≤ 1000000) (hrl:s.read.length ≤ 1000000):PC Tryz.prog 215 [sl cI ts,gG s,dY x] (fun r => r = .tup [gG (bT ts s x).1,iv (gk (bT ts s x).2)]):=by
 by_cases h1 : x.op = 1
 ·exact Ou ts s x h1 hm hsl (hx (by omega)) hl
 by_cases h2 : x.op = 2
 ·exact PZ ts s x h2 hm hsl (hx (by omega)) (hn h2) hl
 by_cases h3 : x.op = 3
 ·exact OW ts s x h3 hm hsl (hx (by omega)) (hy (by omega) (by omega)) hl
 by_cases h4 : x.op = 4 ∨ x.op = 5
 ·exact K7 ts s x h4 hm hsl (hx (by omega)) (hy (by omega) (by omega)) hl
 by_cases h6 : x.op = 6
 ·exact Ov ts s x h6 hm hsl (hx (by omega)) (hy (by omega) (by omega)) hl hrl
 by_cases h7 : x.op = 7
 ·exact OA ts s x h7 hm hsl (hx (by omega)) (hy (by omega) (by omega)) hl
 by_cases h8 : x.op = 8
 ·exact O2 ts s x h8 hm hsl (hx (by omega)) hl
 ·exact N8 ts s x (by omega)
theorem lB {ts:List Int}{s:Mc}{v:Nat}{y:Sl}:(bK ts s v y).1.read = s.read := by unfold bK;split <;> rfl
theorem Cj {ts:List Int}{s:Mc}{x:Pnt}(h:x.op ≠ 11):(bT ts s x).1.read.length ≤ s.read.length + 1:=by
 unfold bT
 split
 ·rw [lB]; omega
 split
 ·split
  ·dsimp only;omega
  ·rw [lB]; dsimp only;omega
 split
 ·rw [lB]; split <;> (first|omega|(dsimp only;omega))
 split
 ·split
  ·rw [lB]; dsimp only;omega
  ·dsimp only;omega
 split
 ·split
  ·rw [lB]; dsimp only;rw [List.length_append]; simp only [List.length_singleton]; omega
  ·dsimp only;omega
 split
 ·dsimp only;omega
 split
 ·dsimp only;omega
 dsimp only;omega
theorem E0 (pts:List Pnt):∀ n a cs,(dN pts n a cs).2 = true → ∃ l b,(dN pts n a cs).1 = l ++ [b] ∧ pts[b]!.op = 11
 | 0, a, cs, h => by
  unfold dN at h ⊢
  by_cases e : pts[a]!.op = 11
  ·rw [if_pos e]; exact ⟨[],a,rfl,e⟩
  ·rw [if_neg e] at h;exact absurd h (by decide)
 | n + 1, a, cs, h => by
  rw [dN] at h ⊢
  by_cases e : pts[a]!.op = 11
  ·rw [if_pos e]; exact ⟨[],a,rfl,e⟩
  ·rw [if_neg e] at h ⊢
   obtain ⟨l,b,h1,h2⟩ := E0 pts n _ _ h
   exact ⟨a :: l,b,by dsimp only;rw [h1]; rfl,h2⟩
theorem OM {s:Mc}{x:Pnt}(h:x.op = 11):PR s x = false:=by
 unfold PR;rw [if_neg (by omega),if_neg (by omega),if_neg (by omega)]
theorem LV (p:Prg) (cs:List Int) (n:Nat) (hv:bD p = true) (hl:p.types.length ≤ 1000000) (hs:aT p.body ≤ 1000000) (hn:n ≤ 150) (hcl:cs.length ≤ 1000000) (hL:∀ a ∈ (dN (aB p) n 0 cs).1,a < (aB p).length) (hLl:(dN (aB p) n 0 cs).1.length ≤ 151):PC Tryz.prog 154 [b8 p,sl cI cs,iv (n:Int)] (fun r => r = .tup [gG (dT p.types (aB p) cs n).1,iv (dT p.types (aB p) cs n).2.1,iv (dT p.types (aB p) cs n).2.2]):=by
 have hpo := dP p hs
 have hru := DS p cs n hv hl hs (by omega) hcl
 have w := WG.of_valid hv
 have wa := WA.of_valid hv
 obtain ⟨q,hq⟩ : ∃ q,q = dT p.types (aB p) cs n := ⟨_,rfl⟩
 rw [← hq]
 unfold dT at hq
 unfold wm at hru
 obtain ⟨L,hLe⟩ : ∃ L,L = (dN (aB p) n 0 cs).1 := ⟨_,rfl⟩
 obtain ⟨dn,hdn⟩ : ∃ dn,dn = (dN (aB p) n 0 cs).2 := ⟨_,rfl⟩
 rw [← hLe,← hdn] at hru
 rw [← hLe] at hq hL hLl
 have hgx : ∀ i,i < L.length → (L.map (fun a : Nat => (a : Int)))[i]! = (L[i]! : Int) := fun i h => by rw [bC _ _ (by rw [List.length_map]; exact h),List.getElem_map,bC _ _ h]
 have hml : (L.map (fun a : Nat => (a : Int))).length = L.length := List.length_map _
 generalize (L.map (fun a : Nat => (a : Int))) = LI at *
 generalize hP : aB p = pts at *
 have e1 : AV.imm p.types.length ((List.replicate p.types.length ([Value.bool false, Value.int .i64 0, Value.int .i64 0, Value.int .i64 0].map AV.v)).flatten) = sl dK (List.replicate p.types.length gP) := by
  rw [wT (f := dK) (x := gP) (l := [Value.bool false,Value.int .i64 0,Value.int .i64 0,Value.int .i64 0].map AV.v) rfl]; exact fF (by simp)
 refine aC Tryz.func154 Tryz.ntmps154 ?_
 repeat' (first|(apply aF;first|(apply aA (k := 132);rfl;exact hpo;exact Pur.pf;rfl)|(with_reducible apply aY (d := 27))|(apply aJ (t := _);rfl;rfl;rfl;(rfl);rfl;rfl))|refine aE ?_|fail)
 refine bZ (c8 ?_ (Le.frzD (d := 24) (i := 2) rfl rfl))
 rw [e1]
 repeat' (first|(apply aF;(apply aA (k := 212);rfl;exact hru;exact Pur.pf;rfl))|refine aE ?_|fail)
 refine aH (σ := Nat × Mc) [3,6,9,10,11,12] [0,1] (fun k => [(13,iv (k.1 : Int))]) (fun k => [(5,some [sl dK k.2.slots,sl bO k.2.cells,sl cI k.2.read])]) (fun k => k.1 ≤ L.length ∧ hO p.types pts (L.drop k.1) k.2 (if k.1 = 0 then 0 else L[k.1 - 1]!) = q ∧ OkS p.types.length k.2 ∧ k.2.read.length ≤ k.1 ∧ (∀ j,j < k.1 → pts[L[j]!]!.op ≠ 11)) (fun k => L.length - k.1) (0,mc0 p.types.length) ⟨Nat.zero_le _,by rw [hq]; rfl,OkS.mc0 _,Nat.le_refl _,fun j h => absurd h (by omega)⟩ ?_
 rintro ⟨i,s⟩ ⟨hi,hf,hok,hrd,h11⟩
 dsimp only at hi hf hok hrd h11 ⊢
 have hil : i < L.length → L[i]! < pts.length := fun h => hL _ (aW _ _ h)
 have hex := fun h => MK p.types s hok.m hok.l h
 by_cases hiL : i < L.length
 ·have hap := hil hiL
  have hop := w.op L[i]! hap
  have hwx := w.x L[i]! hap
  have hwy := w.y L[i]! hap
  have hA := wa.a L[i]! hap
  have hg := hgx i hiL
  have hen := hex hl
  have hun := Gr s pts[L[i]!]! (fun h => by have := hok.l;omega) (fun h => by have := hok.l;omega)
  have hun2 := Og (ts := p.types) (s := s) (x := pts[L[i]!]!) (fun h => by omega) (fun h => by omega)
  rw [hun2] at hun
  have hdo := fun h => OF p.types s pts[L[i]!]! h hop hok.m hok.l (fun h => by omega) (fun h h2 => by omega) (fun h => hA.n (.inr h)) hl (by omega)
  repeat' (first|(apply aF;(with_reducible apply aY (d := 46)))|refine aE ?_|(refine aK ?_ ?_ <;> intro hc hq <;> try (exfalso;omega))|fail)
  refine bZ ?_
  rw [hg]
  repeat' (first|(apply aF;first|(apply aA (k := 213);rfl;exact hen;exact Pur.pf;rfl)|(apply aA (k := 214);rfl;exact hun;exact Pur.pf;rfl)|(apply aA (k := 215);rfl;exact hdo (by assumption);exact Pur.pf;rfl))|refine aE ?_|(refine aK ?_ ?_ <;> intro hc hq <;> try (exfalso;omega))|refine bQ ?_|fail)
  all_goals have hdr : L.drop i = L[i]! :: L.drop (i + 1) := by rw [List.drop_eq_getElem_cons hiL,bC _ _ hiL]
  all_goals rw [hdr] at hf
  ·have ho : pts[L[i]!]!.op = 11 := by assumption
   have hqq : q = ((cT p.types p.types.length 0 s).1, (cT p.types p.types.length 0 s).2, L[i]!) := by
    rw [← hf,hO,if_neg (by rw [← hun2,OM ho]; decide),wM ho,if_neg (by have := n6 p.types p.types.length 0 s;omega)]
   rw [hqq]
   refine aD (l := [gG (cT p.types p.types.length 0 s).1,iv (cT p.types p.types.length 0 s).2,iv LI[i]!]) rfl ?_
   rw [hg]
   exact ⟨rfl,by exact Pur.pf⟩
  ·have hu : cE p.types s pts[L[i]!]! = true := by assumption
   have hqq : q = (s,2,L[i]!) := by rw [← hf,hO,if_pos hu]
   rw [hqq]
   refine aD (l := [gG s,iv 2,iv LI[i]!]) rfl ?_
   rw [hg]
   exact ⟨rfl,by exact Pur.pf⟩
  ·have ho : ¬ pts[L[i]!]!.op = 11 := by assumption
   have hu : cE p.types s pts[L[i]!]! = false := by assumption
   have hk : ¬ gk (bT p.types s pts[L[i]!]!).2 = 0 := by assumption
   have hk2 : ¬ (bT p.types s pts[L[i]!]!).2 = -1 := fun e => hk ((Q3 ho).2 e)
   have hqq : q = ((bT p.types s pts[L[i]!]!).1,(bT p.types s pts[L[i]!]!).2,L[i]!) := by rw [← hf,hO,if_neg (by rw [hu]; decide),if_neg hk2]
   rw [hqq]
   refine aD (l := [gG (bT p.types s pts[L[i]!]!).1,iv (gk (bT p.types s pts[L[i]!]!).2),iv LI[i]!]) rfl ?_
   rw [hg,show gk (bT p.types s pts[L[i]!]!).2 = (bT p.types s pts[L[i]!]!).2 by unfold gk;rw [if_neg hk2]]
   exact ⟨rfl,by exact Pur.pf⟩
  ·have ho : ¬ pts[L[i]!]!.op = 11 := by assumption
   have hu : cE p.types s pts[L[i]!]! = false := by assumption
   have hk2 : (bT p.types s pts[L[i]!]!).2 = -1 := (Q3 ho).1 (by assumption)
   (refine bE (i + 1,(bT p.types s pts[L[i]!]!).1) (Le.renA [(0,0),(1,1),(5,5)]) ?_ ?_)
   ·refine ⟨by dsimp only; omega, ?_, hok.do ⟨fun h => hA.n (.inr h)⟩, ?_, ?_⟩
    ·dsimp only
     rw [← hf,if_neg (by omega),show i + 1 - 1 = i by omega,hO,if_neg (by rw [hu]; decide),if_pos hk2]
    ·dsimp only;have := Cj (ts := p.types) (s := s) ho;omega
    ·intro j hj
     rcases Nat.lt_or_ge j i with h|h
     ·exact h11 j h
     ·rw [show j = i by omega]; exact ho
   ·dsimp only;omega
 ·repeat' (first | refine aE ?_ | (refine aK ?_ ?_ <;> intro hc hq <;> try (exfalso; omega)) | (refine bS ?_ ?_ <;> intro hg hq <;> try (exfalso; omega)) | refine bQ ?_|fail)
  all_goals have hie : i = L.length := by omega
  all_goals have hqq : q = (s,1,if i = 0 then 0 else L[i - 1]!) := by rw [← hf,hie,List.drop_length]; rfl
  ·rw [hqq, if_neg (by omega)]
   refine aD (l := [gG s,iv 1,iv LI[((LI.length : Int) - 1).toNat]!]) rfl ?_
   rw [show ((LI.length : Int) - 1).toNat = i - 1 by omega,hgx (i - 1) (by omega)]
   exact ⟨rfl,by exact Pur.pf⟩
  ·rw [hqq, if_pos (by omega)]
   exact aD (l := [gG s,iv 1,iv 0]) rfl ⟨rfl,by exact Pur.pf⟩
  ·exfalso
   have hd1 : dn = true := by assumption
   obtain ⟨l,b,e1,e2⟩ := E0 pts n 0 cs (by rw [← hdn]; exact hd1)
   rw [← hLe] at e1
   have hlen : L.length = l.length + 1 := by rw [e1,List.length_append]; rfl
   have hb : L[l.length]! = b := by rw [bC _ _ (by omega)]; simp [e1]
   have := h11 l.length (by omega)
   rw [hb] at this
   exact this e2
theorem De {ts:List Int}{pts:List Pnt}(w:WG ts pts) (A:WA ts pts):∀ n a cs,a < pts.length → ∀ x ∈ (dN pts n a cs).1,x < pts.length
 | 0, a, cs, ha, x, hx => by
  unfold dN at hx
  by_cases e : pts[a]!.op = 11
  ·rw [if_pos e] at hx;rw [List.mem_singleton.1 hx]; exact ha
  ·rw [if_neg e] at hx;exact absurd hx (by simp)
 | n + 1, a, cs, ha, x, hx => by
  rw [dN] at hx
  by_cases e : pts[a]!.op = 11
  ·rw [if_pos e] at hx;rw [List.mem_singleton.1 hx]; exact ha
  ·rw [if_neg e] at hx
   rcases List.mem_cons.1 hx with h|h
   ·rw [h]; exact ha
   ·have he := wE w A ha e cs
    have := w.nx a ha _ he.2
    exact De w A n _ _ (by omega) x h
theorem tV {pts:List Pnt}:∀ n a cs,(dN pts n a cs).1.length ≤ n + 1
 | 0,a,cs => by unfold dN;split <;> simp
 | n + 1, a, cs => by
  rw [dN]; split
  ·simp
  ·have := tV (pts := pts) n (g7 pts a cs).1 (g7 pts a cs).2
   dsimp only;rw [List.length_cons]; omega
theorem J8 (p:Prg) (cs:List Int) (n:Nat) (hv:bD p = true) (hl:p.types.length ≤ 1000000) (hs:aT p.body ≤ 1000000) (hn:n ≤ 150) (hcl:cs.length ≤ 1000000):PC Go.Proofs.Tryz.prog 154 [b8 p,sl cI cs,iv (n:Int)] (fun r => r = .tup [gG (dT p.types (aB p) cs n).1,iv (dT p.types (aB p) cs n).2.1,iv (dT p.types (aB p) cs n).2.2]) :=
 LV p cs n hv hl hs hn hcl (De (WG.of_valid hv) (WA.of_valid hv) n 0 cs (WG.of_valid hv).p0) (by have := tV (pts := aB p) n 0 cs;omega)
def Bz (p : Prg) (most : Int) : Bool := bD p && (decide (0 ≤ most) && decide (most ≤ 150))
theorem Gf (p:Prg) (most:Int) (hl:p.types.length ≤ 1000000) (hs:aT p.body ≤ 1000000):PC Tryz.prog 153 [b8 p,iv most] (fun r => r = bv (Bz p most)):=by
 have hval := fX p hl (by omega)
 refine aC Tryz.func153 Tryz.ntmps153 ?_
 repeat' (first|(apply aF;(apply aA (k := 61);rfl;exact hval;exact Pur.pf;rfl))|refine aE ?_|(refine bS ?_ ?_ <;> intro hg hq <;> try (exfalso;omega))|fail)
 all_goals (refine aD rfl ⟨?_,rfl⟩; simp only [aO,AV.v.injEq,Value.bool.injEq]; unfold Bz;grind)
theorem xO (p:Prg) (cs:List Int) (most:Int) (hl:p.types.length ≤ 1000000) (hs:aT p.body ≤ 1000000) (hcl:cs.length ≤ 1000000):PC Tryz.prog 84 [b8 p,sl cI cs,iv most] (fun r => r = .tup (if Bz p most = true then [iv (dT p.types (aB p) cs most.toNat).2.1,iv (dT p.types (aB p) cs most.toNat).2.2] else [iv 5,iv 0])):=by
 have hrt := Gf p most hl hs
 by_cases h : Bz p most = true
 ·have h' := h
  unfold Bz at h'
  simp only [Bool.and_eq_true,decide_eq_true_eq] at h'
  obtain ⟨hv,h0,h1⟩ := h'
  have hru := J8 p cs most.toNat hv hl hs (by omega) hcl
  rw [Int.toNat_of_nonneg h0] at hru
  rw [h] at hrt
  rw [if_pos h]
  refine aC Tryz.func84 Tryz.ntmps84 ?_
  repeat' (first|(apply aF;first|(apply aA (k := 153);rfl;exact hrt;exact Pur.pf;rfl)|(apply aA (k := 154);rfl;exact hru;exact Pur.pf;rfl))|refine aE ?_|fail)
  exact aD (l := [iv (dT p.types (aB p) cs most.toNat).2.1,iv (dT p.types (aB p) cs most.toNat).2.2]) rfl ⟨rfl,rfl⟩
 ·rw [if_neg h]
  have h2 : Bz p most = false := by simpa using h
  rw [h2] at hrt
  refine aC Tryz.func84 Tryz.ntmps84 ?_
  repeat' (first|(apply aF;(apply aA (k := 153);rfl;exact hrt;exact Pur.pf;rfl))|refine aE ?_|fail)
  exact aD (l := [iv 5,iv 0]) rfl ⟨rfl,rfl⟩
theorem Qj {p:Prg}{cs:List Int}{n:Nat}(hv:bD p = true):OkS p.types.length (dT p.types (aB p) cs n).1:=by
 have wa := WA.of_valid hv
 have hp : ∀ a : Nat, PtN (aB p)[a]! := fun a => by
  by_cases h : a < (aB p).length
  ·exact ⟨fun e => (wa.a a h).n (.inr e)⟩
  ·refine ⟨fun e => ?_⟩
   rw [Ii,dif_neg h] at e
   exact absurd e (by decide)
 exact OkS.run hp _ _ _ (OkS.mc0 _)
theorem CF {ts:List Int}{s:Mc}{x:Pnt}:(bT ts s x).1.read.length ≤ s.read.length + 1:=by
 by_cases h : x.op = 11
 ·rw [wM h,vJ]; omega
 ·exact Cj h
theorem yC (ts:List Int) (pts:List Pnt):∀ (l:List Nat) (s:Mc) (last:Nat),(hO ts pts l s last).1.read.length ≤ s.read.length + l.length
 | [],s,last => by unfold hO;simp
 | a :: l, s, last => by
  have h := CF (ts := ts) (s := s) (x := pts[a]!)
  unfold hO;split
  ·dsimp only;omega
  ·split
   ·have := yC ts pts l (bT ts s pts[a]!).1 a
    rw [List.length_cons]; omega
   ·rw [List.length_cons]; dsimp only;omega
theorem DN {ts:List Int}{pts:List Pnt}{cs:List Int}{n:Nat}(hn:n ≤ 150):(dT ts pts cs n).1.read.length ≤ 151:=by
 have h := yC ts pts (dN pts n 0 cs).1 (mc0 ts.length) 0
 have h2 := tV (pts := pts) n 0 cs
 have h3 : (mc0 ts.length).read.length = 0 := rfl
 unfold dT;omega
theorem Qz:Go.Proofs.Tryz.prog.underlying 280 = some (.map 3 4) := by kernel_rfl
theorem QF:Go.Proofs.Tryz.prog.underlying 3 = some (.int .i64) := by kernel_rfl
theorem Rs:(Go.Proofs.Tryz.prog.info? 4).bind (·.zero) = some (.bool false) := by kernel_rfl
theorem QC {a b c:Int}(h:a ≤ b ∧ b ≤ c):(!(decide (a ≤ b) && decide (b ≤ c))) = false := by simp [h.1,h.2]
theorem iH (m:List Cl) (hm:OkM m):PC Tryz.prog 239 [sl bO m] (fun r => r = bv true):=by
 have hml := hm.l
 refine aC Tryz.func239 Tryz.ntmps239 ?_
 repeat' (first|refine aE ?_|(refine aK ?_ ?_ <;> intro hc hq <;> try (exfalso;omega))|fail)
 all_goals (try (exfalso;omega))
 refine aH (σ := Nat) [11,12] [] (fun i => [(13,iv (i : Int))]) (fun i => []) (fun i => i ≤ m.length) (fun i => m.length - i) (0) (Nat.zero_le _) ?_
 rintro i hi
 by_cases hin : i < m.length
 ·have hc := (c7 m).1 hm |>.2 i hin
  obtain ⟨h1,h2,h3,h4,h5⟩ := (pS _).1 hc
  repeat' (first|(apply aF;(apply aA (k := 54);rfl;(apply dO);(rfl);rfl))|(apply EV;with_reducible apply J6)|refine aE ?_|(refine aK ?_ ?_ <;> intro hc hq <;> try (exfalso;omega))|(refine bS ?_ ?_ <;> intro hg hq <;> try (exfalso;omega))|fail)
  ·exfalso
   have hu : m[i]!.stk[Int.toNat 0]!.uq = false := by assumption
   rw [show Int.toNat 0 = 0 from rfl,h4] at hu;exact absurd hu (by decide)
  ·refine Pr (Jl rfl (fun r => ?_))
   refine BA ?_
   repeat' (first|refine HJ ?_|fail)
   refine ⟨rfl,rfl,?_⟩
   refine lS (pD ?_)
   repeat' (first|refine aE ?_|fail)
   show tP _ _ _ _ _ _ _
   refine yG ?_
   refine G0 (σ := Nat) [4,5,11,12,13,44,45] [(4,_),(5,_),(11,_),(12,_),(13,_),(44,_),(45,_)] [0] [(0,some _)] (fun k => [(46,iv (k : Int))]) (fun k => []) (fun k => (m[i]!.stk.take k).map (·.id)) (fun k => k ≤ m[i]!.stk.length) (fun k => m[i]!.stk.length - k) (0) (Nat.zero_le _) (rfl) rfl rfl (by repeat' (first|exact trivial|refine And.intro rfl ?_)) (by repeat' (exact trivial)) ?_
   rintro k hk
   refine lS (pD ?_)
   repeat' (first|refine aE ?_|fail)
   show tP _ _ _ _ _ _ _
   refine lS (CE rfl (fun hb => CD ?_) (fun hb => Kh ?_))
   ·show tP _ _ _ _ _ _ _
    have hkl : k < m[i]!.stk.length := by have := of_decide_eq_true hb;omega
    obtain ⟨g1,g2,g3⟩ := h5 k hkl
    have hw := QC (a := 0) (b := m[i]!.stk[k]!.id) (c := m[i]!.next - 1) ⟨g1,by omega⟩
    have hni : m[i]!.stk[k]!.id ∉ (m[i]!.stk.take k).map (·.id) := fun q => by
     obtain ⟨t,ht,e⟩ := List.mem_map.1 q
     obtain ⟨j,hj,rfl⟩ := List.getElem_of_mem ht
     rw [List.length_take] at hj
     have f := wJ (stk := m[i]!.stk) (id := m[i]!.stk[k]!.id) (by omega) j (by omega)
     rw [bC _ _ (by omega)] at f
     rw [List.getElem_take] at e
     exact f e
    refine lS (yG (lS (pD ?_)))
    repeat' (first|refine aE ?_|fail)
    show tP _ _ _ _ _ _ _
    refine lS (lS (uH ?_))
    refine BE (l1 := [_,_,_,_,_,_,_,_,_,_,_]) (l2 := [_,_]) ?_
    repeat' (first|(apply aF;(apply aA (k := 54);rfl;(apply dO);(rfl);rfl))|refine HJ ?_|fail)
    refine ⟨rfl,?_⟩
    refine FR rfl rfl hw ?_
    refine Df Qz QF Rs rfl rfl hni rfl ?_
    refine BA ?_
    repeat' (first|refine HJ ?_|fail)
    refine ⟨rfl,?_⟩
    show tP _ _ _ _ _ _ _
    refine CE rfl (fun h => by cases h) (fun _ => CD ?_)
    show tP _ _ _ _ _ _ _
    refine uH ?_
    refine BE (l1 := [_,_,_]) (l2 := [_]) ?_
    repeat' (first|refine HJ ?_|fail)
    refine ⟨rfl,?_⟩
    refine Dh Qz QF Rs rfl rfl hni ?_
    refine Nc ?_
    show tP _ _ _ _ _ _ _
    refine pD ?_
    repeat' (first|refine aE ?_|fail)
    refine ⟨k + 1,by omega,by omega,?_,?_⟩
    ·refine Le.ren [(0,0)] rfl (by decide) ?_ ?_ <;> repeat' (first|exact trivial|refine And.intro ⟨_,rfl,?_⟩ ?_|refine And.intro ⟨_,_,rfl,rfl,?_⟩ ?_|exact Or.inr rfl|refine Or.inl ⟨?_,(by first|rfl|exact bB _ _|exact Pur.pf)⟩|rfl)
    ·rw [bG _ k hkl,List.map_append]; rfl
   ·have hkl : k = m[i]!.stk.length := by have := of_decide_eq_false hb; omega
    refine KM ?_
    show C3 1 _ _ _
    repeat' (first|refine aE ?_|fail)
    (refine bE (i + 1) (Le.renA []) ?_ ?_)
    ·omega
    ·omega
 ·repeat' (first | refine aE ?_ | (refine aK ?_ ?_ <;> intro hc hq <;> try (exfalso; omega))|fail)
  refine aD rfl ⟨rfl,rfl⟩
theorem Le.bump {ts:List (Nat × AV)}{hs:List (Nat × Option (List AV))}{n:Nat}{z0:Lo}(k:Nat):Le ⟨ts,hs,n,z0⟩ ⟨ts,hs,n + k,z0⟩ := Le.of (fun _ _ h => h) (fun _ _ h => h) (Nat.le_add_right _ _) rfl
theorem xT {m:List Cl}{x0:Operand}(ha0:ev (lk tsl) x0 = some (sl bO m)) (hmc:MC Tryz.prog 265 [sl bO m] [] 0 (fun _:Unit => True) (fun _ => .own 1 0 m.length 4) (fun _ => [(1,some (flat bO m))])) (hM:Nat.ble (nidl + 2) aX = true) (hN:Nat.blt d N = true){md':Md}[hmd:MdA md (fP [x0] ++ []) (List.map Sum.inr (List.map Prod.fst ([((nidl + 1),some (flat bO m))]:List (Nat × Option (List AV)))) ++ [.inl d]) md'] (kk:RW Tryz.prog N all Q md' rest ⟨(d,.own (nidl + 1) 0 m.length 4) :: tsl,gR hsl [((nidl + 1),some (flat bO m))],nidl + 2,z0⟩):RW Tryz.prog N all Q md (⟨some d,.call ⟨.value (.func 265),#[x0],tys⟩,ty,pos,af,none⟩ :: rest) ⟨tsl,hsl,nidl,z0⟩:=by
 exact aZ (l := [x0]) [] 2 [((nidl + 1),some (flat bO m))] hmc (avs := [sl bO m]) (by simp only [evL,ha0]) rfl hM hN (md' := md') (hmd := hmd) kk
theorem Cc (m:List Cl) (hl:m.length ≤ 1000000):MC Tryz.prog 265 [sl bO m] [] 0 (fun _:Unit => True) (fun _ => .own 1 0 m.length 4) (fun _ => [(1,some (flat bO m))]):=by
 refine aV Tryz.func265 Tryz.ntmps265 ?_
 repeat' (first|(apply aF;(apply BT;rfl;rfl;(intro b hb)))|refine aE ?_|(refine aK ?_ ?_ <;> intro hc hq <;> try (exfalso;omega))|fail)
 ·have h0 : m = [] := List.eq_nil_of_length_eq_zero (hb (by assumption))
  subst h0
  refine aS (Le.bump 1) ?_
  refine aS (Le.nilOwn (d := 2) 4 rfl (by decide)) ?_
  (refine aD rfl ?_; refine aR () trivial ?_ ⟨sE ?_,trivial⟩)
  ·rfl
  ·rfl
 ·(refine aD rfl ?_; refine aR () trivial ?_ ⟨sE ?_, trivial⟩)
  ·show AV.own 1 0 (0 + m.length) 4 = _; rw [Nat.zero_add]
  ·rfl
theorem sH {m:List Tg}{x0:Operand}(ha0:ev (lk tsl) x0 = some (sl cL m)) (hmc:MC Tryz.prog 266 [sl cL m] [] 0 (fun _:Unit => True) (fun _ => .own 1 0 m.length 2) (fun _ => [(1,some (flat cL m))])) (hM:Nat.ble (nidl + 2) aX = true) (hN:Nat.blt d N = true){md':Md}[hmd:MdA md (fP [x0] ++ []) (List.map Sum.inr (List.map Prod.fst ([((nidl + 1),some (flat cL m))]:List (Nat × Option (List AV)))) ++ [.inl d]) md'] (kk:RW Tryz.prog N all Q md' rest ⟨(d,.own (nidl + 1) 0 m.length 2) :: tsl,gR hsl [((nidl + 1),some (flat cL m))],nidl + 2,z0⟩):RW Tryz.prog N all Q md (⟨some d,.call ⟨.value (.func 266),#[x0],tys⟩,ty,pos,af,none⟩ :: rest) ⟨tsl,hsl,nidl,z0⟩:=by
 exact aZ (l := [x0]) [] 2 [((nidl + 1),some (flat cL m))] hmc (avs := [sl cL m]) (by simp only [evL,ha0]) rfl hM hN (md' := md') (hmd := hmd) kk
theorem Ct (m:List Tg) (hl:m.length ≤ 1000000):MC Tryz.prog 266 [sl cL m] [] 0 (fun _:Unit => True) (fun _ => .own 1 0 m.length 2) (fun _ => [(1,some (flat cL m))]):=by
 refine aV Tryz.func266 Tryz.ntmps266 ?_
 repeat' (first|(apply aF;(apply BT;rfl;rfl;(intro b hb)))|refine aE ?_|(refine aK ?_ ?_ <;> intro hc hq <;> try (exfalso;omega))|fail)
 ·have h0 : m = [] := List.eq_nil_of_length_eq_zero (hb (by assumption))
  subst h0
  refine aS (Le.bump 1) ?_
  refine aS (Le.nilOwn (d := 2) 2 rfl (by decide)) ?_
  (refine aD rfl ?_; refine aR () trivial ?_ ⟨sE ?_,trivial⟩)
  ·rfl
  ·rfl
 ·(refine aD rfl ?_; refine aR () trivial ?_ ⟨sE ?_, trivial⟩)
  ·show AV.own 1 0 (0 + m.length) 2 = _; rw [Nat.zero_add]
  ·rfl
theorem Ir (t:Tg) (c g:Int):PC Tryz.prog 268 [R7 t,.iptr [iv c,iv g]] (fun r => r = bv (decide (t.id = g))):=by
 refine aC Tryz.func268 Tryz.ntmps268 ?_
 repeat' (first|refine aE ?_|fail)
 exact aD rfl ⟨rfl,rfl⟩
theorem B0 (t:Tg):PC Tryz.prog 270 [R7 t] (fun r => r = bv t.uq):=by
 refine aC Tryz.func270 Tryz.ntmps270 ?_
 repeat' (first|refine aE ?_|fail)
 exact aD rfl ⟨rfl,rfl⟩
theorem AR (stk:List Tg) (c g:Int) (hl:stk.length ≤ 1000000):PC Tryz.prog 267 [sl cL stk,.clos (.func 268) [] [.iptr [iv c,iv g]]] (fun r => r = iv (cD stk g)):=by
 refine aC Tryz.func267 Tryz.ntmps267 ?_
 repeat' (first|refine aE ?_|fail)
 refine aH (σ := Nat) [0,1,7] [] (fun k => [(8,iv (k : Int))]) (fun k => []) (fun k => k ≤ stk.length ∧ ∀ j,j < k → stk[j]!.id ≠ g) (fun k => stk.length - k) (0) ⟨by omega,by omega⟩ ?_
 rintro k ⟨hk,hall⟩
 by_cases hkn : k < stk.length
 ·have hcl := Ir stk[k]! c g
  repeat' (first|(apply aF;(apply gW;rfl;rfl;infer_instance;rfl;(apply hcl);(rfl);rfl))|refine aE ?_|(refine aK ?_ ?_ <;> intro hc hq <;> try (exfalso;omega))|fail)
  ·refine aD rfl ⟨?_, rfl⟩
   simp only [aO]; rw [zZ hkn (by assumption) hall]
  ·(refine bE (k + 1) (Le.renA []) ?_ ?_)
   ·refine ⟨by omega, fun j hj => ?_⟩
    by_cases e : j = k
    ·subst e;assumption
    ·exact hall j (by omega)
   ·omega
 ·repeat' (first | refine aE ?_ | (refine aK ?_ ?_ <;> intro hc hq <;> try (exfalso; omega))|fail)
  refine aD rfl ⟨?_,rfl⟩
  have h2 : cD stk g < 0 := oB.2 (fun t ht => by obtain ⟨j,hj,rfl⟩ := List.getElem_of_mem ht;have := hall j (by omega);rwa [bC _ _ hj] at this)
  have hb := eG stk g
  simp only [aO]; rw [show cD stk g = -1 by omega]
def tE (xs : List Tg) : Int := match xs.findIdx? (fun t => t.uq) with | some i => i | none => -1
theorem L7 (stk:List Tg) (hl:stk.length ≤ 1000000):PC Tryz.prog 267 [sl cL stk,.v (.func (.func 270) #[] #[])] (fun r => r = iv (tE stk)):=by
 refine aC Tryz.func267 Tryz.ntmps267 ?_
 repeat' (first|refine aE ?_|fail)
 refine aH (σ := Nat) [0,1,7] [] (fun k => [(8,iv (k : Int))]) (fun k => []) (fun k => k ≤ stk.length ∧ ∀ j,j < k → stk[j]!.uq = false) (fun k => stk.length - k) (0) ⟨by omega,by omega⟩ ?_
 rintro k ⟨hk,hall⟩
 by_cases hkn : k < stk.length
 ·have hcl := B0 stk[k]!
  repeat' (first|(apply aF;(apply gW;rfl;rfl;infer_instance;rfl;(apply hcl);(rfl);rfl))|refine aE ?_|(refine aK ?_ ?_ <;> intro hc hq <;> try (exfalso;omega))|fail)
  ·refine aD rfl ⟨?_, rfl⟩
   have hu : stk[k]!.uq = true := by assumption
   have : stk.findIdx? (fun t => t.uq) = some k := by
    rw [List.findIdx?_eq_some_iff_getElem]
    refine ⟨hkn,by rw [← bC stk k hkn]; exact hu,fun j hj => ?_⟩
    have := hall j hj;rw [bC stk j (by omega)] at this;rw [this]; decide
   simp only [aO,tE,this]
  ·have hu : stk[k]!.uq = false := by assumption
   (refine bE (k + 1) (Le.renA []) ?_ ?_)
   ·refine ⟨by omega, fun j hj => ?_⟩
    by_cases e : j = k
    ·subst e;exact hu
    ·exact hall j (by omega)
   ·omega
 ·repeat' (first | refine aE ?_ | (refine aK ?_ ?_ <;> intro hc hq <;> try (exfalso; omega))|fail)
  refine aD rfl ⟨?_,rfl⟩
  have : stk.findIdx? (fun t => t.uq) = none := by
   rw [List.findIdx?_eq_none_iff]
   intro x hx
   obtain ⟨j,hj,rfl⟩ := List.getElem_of_mem hx
   have := hall j (by omega);rw [bC stk j hj] at this;exact this
  simp only [aO,tE,this]
theorem Rp {xs:List Tg}{k:Nat}{a:Int}{b:Bool}(hk:k < xs.length):hZ (flat cL xs) (0 + k * 2) [iv a,bv b] = flat cL (xs.set k ⟨a,b⟩) := iR hk rfl
theorem JC {cs new:List AV}{k:Nat}(h:k ≤ cs.length):(hZ cs (0 + k) new).take k = cs.take k:=by
 unfold hZ
 rw [Nat.zero_add,List.append_assoc,List.take_left' (by rw [List.length_take]; omega)]
def shr (xs : List Tg) : List Tg := xs.filter (fun t => !t.uq)
theorem FZ {xs:List Tg}(h:tE xs = -1):shr xs = xs:=by
 unfold tE at h
 split at h
 ·omega
 ·rename_i hn
  rw [List.findIdx?_eq_none_iff] at hn
  unfold shr
  rw [List.filter_eq_self]
  intro t ht
  have := hn t ht
  simp [this]
theorem G5 {xs:List Tg}{i:Nat}(h:tE xs = (i:Int)):i < xs.length ∧ xs[i]!.uq = true ∧ shr (xs.take (i + 1)) = xs.take i:=by
 unfold tE at h
 split at h
 ·rename_i k hk
  obtain ⟨h1,h2,h3⟩ := List.findIdx?_eq_some_iff_getElem.1 hk
  have e : k = i := by omega
  subst e
  have hs : shr (xs.take k) = xs.take k := by
   unfold shr
   rw [List.filter_eq_self]
   intro t ht
   obtain ⟨j,hj,rfl⟩ := List.getElem_of_mem ht
   rw [List.length_take] at hj
   have := h3 j (by omega)
   rw [List.getElem_take]; simpa using this
  refine ⟨h1,by rw [bC _ _ h1]; exact h2,?_⟩
  rw [bG xs k h1]
  unfold shr at hs ⊢
  rw [List.filter_append,hs,nW (by rw [bC _ _ h1,h2]; rfl),List.append_nil]
 ·omega
theorem Nv (xs:List Tg):-1 ≤ tE xs ∧ tE xs < xs.length:=by
 unfold tE
 split
 ·rename_i k hk
  obtain ⟨h1,_⟩ := List.findIdx?_eq_some_iff_getElem.1 hk
  omega
 ·omega
theorem Li {xs:List Tg}{j:Nat}(hj:j < xs.length) (h:xs[j]!.uq = false):shr (xs.take (j + 1)) = shr (xs.take j) ++ [xs[j]!]:=by
 rw [bG xs j hj]; unfold shr
 rw [List.filter_append,rK (by rw [h]; rfl)]
theorem KG {xs:List Tg}{j:Nat}(hj:j < xs.length) (h:xs[j]!.uq = true):shr (xs.take (j + 1)) = shr (xs.take j):=by
 rw [bG xs j hj]; unfold shr
 rw [List.filter_append,nW (by rw [h]; rfl),List.append_nil]
theorem JS {α:Type}[Inhabited α] {L:List α}{i:Nat}{x:α}(h:i < L.length):(L.set i x).take (i + 1) = L.take i ++ [x]:=by
 rw [List.set_eq_take_append_cons_drop,if_pos h]
 have h1 : (L.take i).length = i := by rw [List.length_take]; omega
 rw [List.take_append,h1,show i + 1 - i = 1 by omega,List.take_of_length_le (by omega)]
 rfl
theorem Ko {α:Type}[Inhabited α] {L M:List α}{j:Nat}(h:L.drop j = M.drop j) (hl:L.length = M.length) (hj:j < M.length):L[j]! = M[j]!:=by
 rw [bC _ _ (by omega),bC _ _ hj]
 rw [List.drop_eq_getElem_cons (by omega : j < L.length),List.drop_eq_getElem_cons hj] at h
 exact (List.cons.inj h).1
theorem wK {α:Type}{L M:List α}{j:Nat}(h:L.drop j = M.drop j):L.drop (j + 1) = M.drop (j + 1):=by
 rw [← List.drop_drop,h,List.drop_drop]
theorem Mh {xs:List Tg}{m:Nat}{x0 x1:Operand}{i0:Nat}(ha0:ev (lk tsl) x0 = some (.own i0 0 m 2)) (ha1:ev (lk tsl) x1 = some (.v (.func (.func 270) #[] #[]))) (hH0:aU hsl i0 = some (flat cL xs)) (hmc:MC Tryz.prog 269 [.own 0 0 m 2,.v (.func (.func 270) #[] #[])] [(0,some (flat cL xs))] 1 (fun _:Unit => True) (fun _ => .own 0 0 (shr xs).length 2) (fun _ => [(0,some (flat cL (shr xs)))])) (hM:Nat.ble (nidl + 0) aX = true) (hN:Nat.blt d N = true){md':Md}[hmd:MdA md (fP [x0,x1] ++ [.inr i0]) (List.map Sum.inr (List.map Prod.fst ([(i0,some (flat cL (shr xs)))]:List (Nat × Option (List AV)))) ++ [.inl d]) md'] (kk:RW Tryz.prog N all Q md' rest ⟨(d,.own i0 0 (shr xs).length 2) :: tsl,gR hsl [(i0,some (flat cL (shr xs)))],nidl + 0,z0⟩):RW Tryz.prog N all Q md (⟨some d,.call ⟨.value (.func 269),#[x0,x1],tys⟩,ty,pos,af,none⟩ :: rest) ⟨tsl,hsl,nidl,z0⟩:=by
 exact aZ (l := [x0,x1]) [i0] 1 [(i0,some (flat cL (shr xs)))] hmc (avs := [.own i0 0 m 2,.v (.func (.func 270) #[] #[])]) (by simp only [evL,ha0,ha1]) rfl hM hN (md' := md') (hmd := hmd) kk
theorem OH (xs:List Tg) (m:Nat) (hm:m = xs.length) (hl:m ≤ 1000000):MC Tryz.prog 269 [.own 0 0 m 2,.v (.func (.func 270) #[] #[])] [(0,some (flat cL xs))] 1 (fun _:Unit => True) (fun _ => .own 0 0 (shr xs).length 2) (fun _ => [(0,some (flat cL (shr xs)))]):=by
 subst hm
 have hix := L7 xs hl
 have hbd := Nv xs
 by_cases hn : tE xs = -1
 ·rw [hn] at hix
  have hs := FZ hn
  refine aV Tryz.func269 Tryz.ntmps269 ?_
  repeat' (first|(apply aF;(apply qK (k := 267);(case ha => rfl);(case hl => (repeat' (first|exact nV|apply lJ|exact zH|exact nN rfl inferInstance)));(case h => exact hix);(case hfr|hN => rfl);(case hmd => infer_instance)))|refine aE ?_|fail)
  all_goals (
   (refine aD rfl ?_; refine aR () trivial ?_ ⟨sE ?_,trivial⟩)
   ·rw [hs]; rfl
   ·rw [hs])
 ·obtain ⟨i0, hi0⟩ := Int.eq_ofNat_of_zero_le (show 0 ≤ tE xs by omega)
  obtain ⟨g1,g2,g3⟩ := G5 hi0
  rw [hi0] at hix
  refine aV Tryz.func269 Tryz.ntmps269 ?_
  repeat' (first|(apply aF;(apply qK (k := 267);(case ha => rfl);(case hl => (repeat' (first|exact nV|apply lJ|exact zH|exact nN rfl inferInstance)));(case h => exact hix);(case hfr|hN => rfl);(case hmd => infer_instance)))|refine aE ?_|fail)
  all_goals (try (exfalso;omega))
  refine aH (σ := List Tg × Nat × Nat) [0,1] [] (fun s => [(5,iv (s.2.1 : Int)),(6,iv (s.2.2 : Int))]) (fun s => [(0,some (flat cL s.1))]) (fun s => s.1.length = xs.length ∧ s.1.take s.2.1 = shr (xs.take s.2.2) ∧ s.1.drop s.2.2 = xs.drop s.2.2 ∧ s.2.1 < s.2.2 ∧ s.2.2 ≤ xs.length) (fun s => xs.length - s.2.2) (xs,i0,i0 + 1) ⟨rfl,g3.symm,rfl,by dsimp only;omega,by dsimp only;omega⟩ ?_
  rintro ⟨L,i,j⟩ ⟨hL,ht,hd,hij,hj⟩
  dsimp only at hL ht hd hij hj ⊢
  by_cases hjn : j < xs.length
  ·have hcl := B0 L[j]!
   have hg := Ko hd hL hjn
   repeat' (first|(apply aF;first|(apply bF;rfl;rfl;rfl;rfl;rfl;(case hl => (first|(rw [aI]; simp only [gE] <;> omega)|(simp;done)));(exact Rp (by (first|assumption|omega))))|(apply gW;rfl;rfl;infer_instance;rfl;(apply hcl);(rfl);rfl))|refine aE ?_|(refine aK ?_ ?_ <;> intro hc hq <;> try (exfalso;omega))|fail)
   ·have hu : L[j]!.uq = false := by assumption
    (refine bE (_,i + 1,j + 1) (Le.renA []) ?_ ?_)
    ·refine ⟨by dsimp only; rw [List.length_set]; exact hL, ?_, ?_, by dsimp only; omega, by dsimp only; omega⟩
     ·dsimp only
      rw [JS (by omega),ht,Li hjn (by rw [← hg]; exact hu),hg]
     ·dsimp only
      rw [List.drop_set_of_lt (by omega)]
      exact wK hd
    ·dsimp only;omega
   ·have hu : L[j]!.uq = true := by assumption
    (refine bE (L,i,j + 1) (Le.renA []) ?_ ?_)
    ·refine ⟨hL, ?_, wK hd, by dsimp only; omega, by dsimp only; omega⟩
     dsimp only
     rw [ht,KG hjn (by rw [← hg]; exact hu)]
    ·dsimp only;omega
  ·have hfl : (flat cL L).length = L.length * 2 := aI cL L
   repeat' (first|(apply aF;first|(apply iU (d := 38) (l := i) (h := xs.length);rfl;rfl;exact rG rfl (by omega);rfl;exact if_pos (by omega);rfl)|(apply iU (d := 41) (l := 0) (h := i);rfl;rfl;rfl;exact rG rfl (by omega);exact if_pos (by omega);rfl)|(apply Iu;rfl;rfl;omega;rfl;(rw [hfl]; omega);rfl))|refine aE ?_|(refine aK ?_ ?_ <;> intro hc hq <;> try (exfalso;omega))|fail)
   refine aS (Le.cut (i := 0) (i * 2) rfl) ?_
   have hje : j = xs.length := by omega
   have hLt : L.take i = shr xs := by rw [ht,hje,List.take_length]
   have hil : (shr xs).length = i := by rw [← hLt,List.length_take]; omega
   (refine aD rfl ?_; refine aR () trivial ?_ ⟨sE ?_,trivial⟩)
   ·show AV.own 0 (0 + 0 * 2) (i - 0) 2 = _
    rw [hil]; rfl
   ·rw [JC (by omega),eV cL (e := 2),hLt]
theorem iK {m:List Cl}{x0:Operand}(ha0:ev (lk tsl) x0 = some (sl bO m)) (hmc:MC Tryz.prog 241 [sl bO m] [] 0 (fun _:Unit => True) (fun _ => .own 1 0 m.length 4) (fun _ => [(1,some (flat bO m))])) (hM:Nat.ble (nidl + 2) aX = true) (hN:Nat.blt d N = true){md':Md}[hmd:MdA md (fP [x0] ++ []) (List.map Sum.inr (List.map Prod.fst ([((nidl + 1),some (flat bO m))]:List (Nat × Option (List AV)))) ++ [.inl d]) md'] (kk:RW Tryz.prog N all Q md' rest ⟨(d,.own (nidl + 1) 0 m.length 4) :: tsl,gR hsl [((nidl + 1),some (flat bO m))],nidl + 2,z0⟩):RW Tryz.prog N all Q md (⟨some d,.call ⟨.value (.func 241),#[x0],tys⟩,ty,pos,af,none⟩ :: rest) ⟨tsl,hsl,nidl,z0⟩:=by
 exact aZ (l := [x0]) [] 2 [((nidl + 1),some (flat bO m))] hmc (avs := [sl bO m]) (by simp only [evL,ha0]) rfl hM hN (md' := md') (hmd := hmd) kk
theorem pQ {m:List Cl}{j:Nat}{x0:Operand}(ha0:ev (lk tsl) x0 = some (sl bO m)) (hmc:MC Tryz.prog 241 [sl bO m] [] 0 (fun _:Unit => True) (fun _ => .own 1 0 m.length 4) (fun _ => [(1,some (flat fH (dJ m j (.own 2 0 m[j]!.stk.length 2)))),(2,some (flat cL m[j]!.stk))])) (hM:Nat.ble (nidl + 3) aX = true) (hN:Nat.blt d N = true){md':Md}[hmd:MdA md (fP [x0] ++ []) (List.map Sum.inr (List.map Prod.fst ([((nidl + 1),some (flat fH (dJ m j (.own (nidl + 2) 0 m[j]!.stk.length 2)))),((nidl + 2),some (flat cL m[j]!.stk))]:List (Nat × Option (List AV)))) ++ [.inl d]) md'] (kk:RW Tryz.prog N all Q md' rest ⟨(d,.own (nidl + 1) 0 m.length 4) :: tsl,gR hsl [((nidl + 1),some (flat fH (dJ m j (.own (nidl + 2) 0 m[j]!.stk.length 2)))),((nidl + 2),some (flat cL m[j]!.stk))],nidl + 3,z0⟩):RW Tryz.prog N all Q md (⟨some d,.call ⟨.value (.func 241),#[x0],tys⟩,ty,pos,af,none⟩ :: rest) ⟨tsl,hsl,nidl,z0⟩:=by
 exact aZ (l := [x0]) [] 3 [((nidl + 1),some (flat fH (dJ m j (.own (nidl + 2) 0 m[j]!.stk.length 2)))),((nidl + 2),some (flat cL m[j]!.stk))] hmc (avs := [sl bO m]) (by simp only [evL,ha0]) rfl hM hN (md' := md') (hmd := hmd) kk
theorem m8 {α:Type}[Inhabited α] (l:List α) (k:Nat):l.set k l[k]! = l:=by
 rcases Nat.lt_or_ge k l.length with h|h
 ·rw [bC _ _ h]; simp
 ·exact List.set_eq_of_length_le h
theorem Fs {m:List Cl}{i:Nat}(hi:i < m.length):hZ (flat bO m) (0 + i * 4 + 3) [sl cL m[i]!.stk] = flat bO m:=by
 have h := Eh (xs := m) (k := i) (s := m[i]!.stk) hi
 rw [show m.set i { m[i]! with stk := m[i]!.stk } = m from m8 m i] at h
 exact h
theorem Em {m:List Cl}{i j:Nat}{X:AV}(hi:i < m.length) (h:i ≠ j):(dJ m j X)[i]! = tC m[i]!:=by
 unfold dJ
 rw [bC _ _ (by rw [List.length_set,List.length_map]; exact hi),List.getElem_set_ne (fun e => h e.symm),List.getElem_map,bC _ _ hi]
theorem LK {m:List Cl}{i j:Nat}{X:AV}(h:i < m.length ∧ i ≠ j):hZ (flat fH (dJ m j X)) (0 + i * 4 + 3) [sl cL m[i]!.stk] = flat fH (dJ m j X):=by
 have hl := dF (m := m) (j := j) (X := X)
 have e : (dJ m j X).set i { (dJ m j X)[i]! with av := sl cL m[i]!.stk } = dJ m j X := by
  rw [Em h.1 h.2]
  have : ({ tC m[i]! with av := sl cL m[i]!.stk } : Co) = (dJ m j X)[i]! := by rw [Em h.1 h.2]; rfl
  rw [this]; exact m8 _ _
 rw [← e]
 have := eY (f := fH) (xs := dJ m j X) (k := i) (j := 3) (new := [sl cL m[i]!.stk]) (y := { (dJ m j X)[i]! with av := sl cL m[i]!.stk }) (by rw [hl]; exact h.1) (by simp) rfl
 rw [e] at this ⊢
 exact this
theorem pG {mp:List (Nat × Nat)}{lo:Lo}:∀ {cs:List AV},bR cs = true → All2 (G7 mp lo) cs cs
 | [],_ => .nil
 | c :: cs, h => by
  simp only [bR,Bool.and_eq_true] at h
  exact .cons (.inl ⟨rfl,h.1⟩) (pG h.2)
theorem wZ {α β:Type}{R:α → β → Prop}:∀ {a:List α}{b:List β}{c:List α}{d:List β},All2 R a b → All2 R c d → All2 R (a ++ c) (b ++ d)
 | _,_,_,_,.nil,h => h
 | _,_,_,_,.cons h1 h2,h => .cons h1 (wZ h2 h)
theorem Fi {mp:List (Nat × Nat)}{lo:Lo}{m:List Cl}{j k i i':Nat}(h:j < m.length) (hr:Pv mp lo (.own i 0 k 2) = some (.own i' 0 k 2)):All2 (G7 mp lo) (flat fH (dJ m j (.own i 0 k 2))) (flat fH (dJ m j (.own i' 0 k 2))):=by
 rw [jS h,jS h]
 exact wZ (pG (inferInstance : Pur (flat bO _)).pf) (wZ (pG (inferInstance : Pur [iv _,bv _,iv _]).pf) (.cons (.inr hr) (pG (inferInstance : Pur (flat bO _)).pf)))
theorem kU (m:List Cl) (hm:OkM m):MC Tryz.prog 241 [sl bO m] [] 0 (fun _:Unit => True) (fun _ => .own 1 0 m.length 4) (fun _ => [(1,some (flat bO m))]):=by
 have hml := hm.l
 have hcc := Cc m (by omega)
 refine aV Tryz.func241 Tryz.ntmps241 ?_
 repeat' (first|(apply aF;(apply xT;rfl;exact hcc;rfl;rfl))|refine aE ?_|fail)
 refine aH (σ := Nat) [3,8,9] [] (fun k => [(10,iv (k : Int))]) (fun k => [(1,some (flat bO m))]) (fun k => k ≤ m.length) (fun k => m.length - k) (0) (Nat.zero_le _) ?_
 rintro i hi
 by_cases hin : i < m.length
 ·have hst : m[i]!.stk.length ≤ 200 := (((c7 m).1 hm).2 i hin).l.2
  have hct := Ct m[i]!.stk (by omega)
  repeat' (first|(apply aF;first|(apply sH;rfl;exact hct;rfl;rfl)|(with_reducible apply aY (d := 20)))|refine aE ?_|(refine aK ?_ ?_ <;> intro hc hq <;> try (exfalso;omega))|fail)
  refine bZ (c8 ?_ (Le.frzD (d := 19) (i := 4) rfl rfl))
  repeat' (first|(apply aF;(apply bF;rfl;rfl;rfl;rfl;rfl;(rw [aI]; simp only [gE] <;> omega);(exact Fs (by (assumption)))))|refine aE ?_|fail)
  (apply bE (i + 1);focus (refine Le.ren [(1,1)] rfl (by decide) ?_ ?_ <;> repeat' (first|exact trivial|refine And.intro ⟨_,rfl,?_⟩ ?_|refine And.intro ⟨_,_,rfl,rfl,?_⟩ ?_|exact Or.inr rfl|refine Or.inl ⟨?_,(by first|rfl|exact bB _ _)⟩|rfl)))
  ·omega
  ·omega
 ·repeat' (first | refine aE ?_ | (refine aK ?_ ?_ <;> intro hc hq <;> try (exfalso; omega))|fail)
  (refine aD rfl ?_; refine aR () trivial ?_ ⟨sE ?_,trivial⟩)
  ·rfl
  ·rfl
theorem w6 (m:List Cl) (j:Nat) (hm:OkM m) (hj:j < m.length):MC Tryz.prog 241 [sl bO m] [] 0 (fun _:Unit => True) (fun _ => .own 1 0 m.length 4) (fun _ => [(1,some (flat fH (dJ m j (.own 2 0 m[j]!.stk.length 2)))),(2,some (flat cL m[j]!.stk))]):=by
 have hml := hm.l
 have hcc := Cc m (by omega)
 refine aV Tryz.func241 Tryz.ntmps241 ?_
 repeat' (first|(apply aF;(apply xT;rfl;exact hcc;rfl;rfl))|refine aE ?_|fail)
 refine AW.le ?_ (Le.bump 1)
 refine aH (σ := Nat × Bool) [3,8,9] [] (fun k => [(10,iv (k.1 : Int))]) (fun k => [(1,some (cond k.2 (flat fH (dJ m j (.own 2 0 m[j]!.stk.length 2))) (flat bO m))),(2,cond k.2 (some (flat cL m[j]!.stk)) none)]) (fun k => k.1 ≤ m.length ∧ k.2 = decide (j < k.1)) (fun k => m.length - k.1) (0,false) ⟨Nat.zero_le _,by simp⟩ ?_
 rintro ⟨i,b⟩ ⟨hi,hb⟩
 dsimp only at hi hb ⊢
 by_cases hin : i < m.length
 ·have hst : m[i]!.stk.length ≤ 200 := (((c7 m).1 hm).2 i hin).l.2
  have hct := Ct m[i]!.stk (by omega)
  by_cases hij : j < i
  ·rw [decide_eq_true hij] at hb; subst hb
   simp only [cond_true]
   have hol := dF (m := m) (j := j) (X := .own 2 0 m[j]!.stk.length 2)
   have hon := Em (m := m) (i := i) (j := j) (X := .own 2 0 m[j]!.stk.length 2) hin (by omega)
   repeat' (first|(apply aF;(with_reducible apply aY (d := 5)))|refine aE ?_|(refine aK ?_ ?_ <;> intro hc hq <;> try (exfalso;omega))|fail)
   refine bZ ?_
   rw [hon]
   dsimp only [tC]
   repeat' (first|(apply aF;first|(apply sH;rfl;exact hct;rfl;rfl)|(with_reducible apply aY (d := 20)))|refine aE ?_|fail)
   refine bZ (c8 ?_ (Le.frzD (d := 19) (i := 5) rfl rfl))
   repeat' (first|(apply aF;(apply bF;rfl;rfl;rfl;rfl;rfl;(rw [aI]; simp only [gE] <;> omega);(exact LK (by (omega)))))|refine aE ?_|fail)
   (apply bE (i + 1,true);focus (refine Le.ren [(1,1),(2,2)] rfl (by decide) ?_ ?_ <;> repeat' (first|exact trivial|refine And.intro ⟨_,rfl,?_⟩ ?_|refine And.intro ⟨_,_,rfl,rfl,?_⟩ ?_|exact Or.inr rfl|refine Or.inl ⟨?_,(by first|rfl|exact bB _ _)⟩|rfl)))
   ·exact Or.inr (Fi hj rfl)
   ·exact ⟨by dsimp only;omega,by dsimp only;rw [decide_eq_true (by omega)]⟩
   ·dsimp only;omega
  ·rw [decide_eq_false hij] at hb; subst hb
   simp only [cond_false]
   repeat' (first|(apply aF;first|(apply sH;rfl;exact hct;rfl;rfl)|(with_reducible apply aY (d := 20)))|refine aE ?_|(refine aK ?_ ?_ <;> intro hc hq <;> try (exfalso;omega))|fail)
   by_cases hie : i = j
   ·subst hie
    refine bZ ?_
    repeat' (first|(apply aF;(apply bF;rfl;rfl;rfl;rfl;rfl;(rw [aI]; simp only [gE] <;> omega);(exact A2 (by (assumption)))))|refine aE ?_|fail)
    (apply bE (i + 1,true);focus (refine Le.ren [(1,1),(2,5)] rfl (by decide) ?_ ?_ <;> repeat' (first|exact trivial|refine And.intro ⟨_,rfl,?_⟩ ?_|refine And.intro ⟨_,_,rfl,rfl,?_⟩ ?_|exact Or.inr rfl|refine Or.inl ⟨?_,(by first|rfl|exact bB _ _)⟩|rfl)))
    ·exact Or.inr (Fi hin rfl)
    ·exact ⟨by dsimp only;omega,by dsimp only;rw [decide_eq_true (by omega)]⟩
    ·dsimp only;omega
   ·refine bZ (c8 ?_ (Le.frzD (d := 19) (i := 5) rfl rfl))
    repeat' (first|(apply aF;(apply bF;rfl;rfl;rfl;rfl;rfl;(rw [aI]; simp only [gE] <;> omega);(exact Fs (by (assumption)))))|refine aE ?_|fail)
    (apply bE (i + 1,false);focus (refine Le.ren [(1,1)] rfl (by decide) ?_ ?_ <;> repeat' (first|exact trivial|refine And.intro ⟨_,rfl,?_⟩ ?_|refine And.intro ⟨_,_,rfl,rfl,?_⟩ ?_|exact Or.inr rfl|refine Or.inl ⟨?_,(by first|rfl|exact bB _ _)⟩|rfl)))
    ·exact ⟨by dsimp only;omega,by dsimp only;rw [decide_eq_false (by omega)]⟩
    ·dsimp only;omega
 ·rw [decide_eq_true (by omega)] at hb; subst hb
  simp only [cond_true]
  repeat' (first|refine aE ?_|(refine aK ?_ ?_ <;> intro hc hq <;> try (exfalso;omega))|fail)
  (refine aD rfl ?_; refine aR () trivial ?_ ⟨sE ?_,⟨sE ?_,trivial⟩⟩)
  ·rfl
  ·rfl
  ·rfl
theorem nS {m:List Cl}{x:Pt}{wr:Bool}{n:Nat}{x0 x1 x2:Operand}{i0:Nat}(ha0:ev (lk tsl) x0 = some (.own i0 0 n 4)) (ha1:ev (lk tsl) x1 = some (nZ x)) (ha2:ev (lk tsl) x2 = some (bv wr)) (hH0:aU hsl i0 = some (flat bO m)) (hmc:MC Tryz.prog 242 [.own 0 0 n 4,nZ x,bv wr] [(0,some (flat bO m))] 1 (fun _:Unit => True) (fun _ => iv (a7 m x wr)) (fun _ => [(0,some (flat bO m))])) (hM:Nat.ble (nidl + 0) aX = true) (hN:Nat.blt d N = true){md':Md}[hmd:MdA md (fP [x0,x1,x2] ++ [.inr i0]) (List.map Sum.inr (List.map Prod.fst ([(i0,some (flat bO m))]:List (Nat × Option (List AV)))) ++ [.inl d]) md'] (kk:RW Tryz.prog N all Q md' rest ⟨(d,iv (a7 m x wr)) :: tsl,gR hsl [(i0,some (flat bO m))],nidl + 0,z0⟩):RW Tryz.prog N all Q md (⟨some d,.call ⟨.value (.func 242),#[x0,x1,x2],tys⟩,ty,pos,af,none⟩ :: rest) ⟨tsl,hsl,nidl,z0⟩:=by
 exact aZ (l := [x0,x1,x2]) [i0] 1 [(i0,some (flat bO m))] hmc (avs := [.own i0 0 n 4,nZ x,bv wr]) (by simp only [evL,ha0,ha1,ha2]) rfl hM hN (md' := md') (hmd := hmd) kk
theorem x5 {m:List Cl}{j:Nat}{t:Int}{k n:Nat}{x0 x1 x2:Operand}{i0 i1:Nat}(ha0:ev (lk tsl) x0 = some (.own i0 0 n 4)) (ha1:ev (lk tsl) x1 = some (.agg [iv (j:Int),iv t])) (ha2:ev (lk tsl) x2 = some (bv true)) (hH0:aU hsl i0 = some (flat fH (dJ m j (.own i1 0 m[j]!.stk.length 2)))) (hH1:aU hsl i1 = some (flat cL m[j]!.stk)) (hdd:Go.AL.distinct [i0,i1] = true) (hmc:MC Tryz.prog 242 [.own 0 0 n 4,.agg [iv (j:Int),iv t],bv true] [(0,some (flat fH (dJ m j (.own 1 0 m[j]!.stk.length 2)))),(1,some (flat cL m[j]!.stk))] 2 (fun _:Unit => True) (fun _ => iv 0) (fun _ => [(0,some (flat fH (dJ m j (.own 1 0 (k + 1) 2)))),(1,some (flat cL (m[j]!.stk.take (k + 1))))])) (hM:Nat.ble (nidl + 0) aX = true) (hN:Nat.blt d N = true){md':Md}[hmd:MdA md (fP [x0,x1,x2] ++ [.inr i0,.inr i1]) (List.map Sum.inr (List.map Prod.fst ([(i0,some (flat fH (dJ m j (.own i1 0 (k + 1) 2)))),(i1,some (flat cL (m[j]!.stk.take (k + 1))))]:List (Nat × Option (List AV)))) ++ [.inl d]) md'] (kk:RW Tryz.prog N all Q md' rest ⟨(d,iv 0) :: tsl,gR hsl [(i0,some (flat fH (dJ m j (.own i1 0 (k + 1) 2)))),(i1,some (flat cL (m[j]!.stk.take (k + 1))))],nidl + 0,z0⟩):RW Tryz.prog N all Q md (⟨some d,.call ⟨.value (.func 242),#[x0,x1,x2],tys⟩,ty,pos,af,none⟩ :: rest) ⟨tsl,hsl,nidl,z0⟩:=by
 exact aZ (l := [x0,x1,x2]) [i0,i1] 2 [(i0,some (flat fH (dJ m j (.own i1 0 (k + 1) 2)))),(i1,some (flat cL (m[j]!.stk.take (k + 1))))] hmc (avs := [.own i0 0 n 4,.agg [iv (j : Int),iv t],bv true]) (by simp only [evL,ha0,ha1,ha2]) hdd hM hN (md' := md') (hmd := hmd) kk
theorem LdL.app {D:List Nat}{H:Nat → Option (List AV)}:∀ {a b c d:List AV},LdL D H a b → LdL D H c d → bR a = true → LdL D H (a ++ c) (a ++ d)
 | [],_,_,_,_,h,_ => h
 | x :: a, b, c, d, h1, h, hp => by
  simp only [bR,Bool.and_eq_true] at hp
  exact .cons (.pur hp.1) (LdL.app (a := a) (b := a) (.pur hp.2) h hp.2)
theorem OY {D:List Nat}{H:Nat → Option (List AV)}{m:List Cl}{j i k:Nat}{r:List Tg}(hi:i ∈ D) (hH:H i = some (flat cL r)) (hk:k = r.length) (hj:j < m.length):LdL D H (flat fH (dJ m j (.own i 0 k 2))) (flat bO (m.set j { m[j]! with stk := r })):=by
 subst hk
 rw [← Cr,jS hj,jS hj]
 have p1 : bR (flat bO (m.take j)) = true := (inferInstance : Pur (flat bO _)).pf
 have p2 : bR [iv m[j]!.val,bv m[j]!.alive,iv m[j]!.next] = true := rfl
 exact LdL.app (.pur p1) (LdL.app (.pur p2) (.cons (.own hi hH (.pur (inferInstance : Pur (flat cL r)).pf)) (.pur (inferInstance : Pur (flat bO _)).pf)) p2) p1
theorem Fl {D:List Nat}{H:Nat → Option (List AV)}{m:List Cl}{j i:Nat}(hi:i ∈ D) (hH:H i = some (flat cL m[j]!.stk)) (hj:j < m.length):LdL D H (flat fH (dJ m j (.own i 0 m[j]!.stk.length 2))) (flat bO m):=by
 have h := OY (m := m) (r := m[j]!.stk) hi hH rfl hj
 rwa [show m.set j { m[j]! with stk := m[j]!.stk } = m from m8 m j] at h
theorem Pq {m:List Cl}{x:Pt}{wr:Bool}(h:0 ≤ x.cell) (h2:x.cell < m.length) (h3:m[x.cell.toNat]!.alive = true) (h4:0 ≤ cD m[x.cell.toNat]!.stk x.tag) (hw:wr = true) (h5:m[x.cell.toNat]!.stk[(cD m[x.cell.toNat]!.stk x.tag).toNat]!.uq = false):a7 m x wr = 3:=by
 unfold a7;rw [if_neg (by omega),if_neg (by rw [h3]; decide),if_neg (by omega),if_pos ⟨hw,h5⟩]
theorem pX (m:List Cl) (x:Pt) (wr:Bool) (n:Nat) (hm:OkM m) (hn:n = m.length) (hk:a7 m x wr ≠ 0):MC Tryz.prog 242 [.own 0 0 n 4,nZ x,bv wr] [(0,some (flat bO m))] 1 (fun _:Unit => True) (fun _ => iv (a7 m x wr)) (fun _ => [(0,some (flat bO m))]):=by
 subst hn
 have hml := hm.l
 have hcv := iH m hm
 have hst : 0 ≤ x.cell → x.cell < m.length → m[x.cell.toNat]!.stk.length ≤ 200 := fun h1 h2 => (((c7 m).1 hm).2 x.cell.toNat (by omega)).l.2
 have hbd := eG m[x.cell.toNat]!.stk x.tag
 have hidx := fun h => AR m[x.cell.toNat]!.stk x.cell x.tag h
 refine aV Tryz.func242 Tryz.ntmps242 ?_
 repeat' (first|(apply aF;first|(apply qK (k := 239);(case ha => rfl);(case hl => (repeat' (first|exact nV|apply lJ|exact nN rfl inferInstance)));(case h => exact hcv);(case hfr|hN => rfl);(case hmd => infer_instance))|((apply gA 4);(case hx|hH|hc|hN => rfl))|(apply aA (k := 267);rfl;(exact (hidx (by have := hst (by omega) (by omega);omega)));exact Pur.pf;rfl)|(with_reducible apply aY (d := 75))|(apply aA (k := 54);rfl;(apply dO);(rfl);rfl))|refine aE ?_|(refine aK ?_ ?_ <;> intro hc hq <;> try (exfalso;omega))|(refine bS ?_ ?_ <;> intro hg hq <;> try (exfalso;omega))|fail)
 ·(refine aD rfl ?_; refine aR () trivial ?_ ⟨sE ?_, trivial⟩)
  ·rw [Ed (by omega)]; rfl
  ·rfl
 ·(refine aD rfl ?_; refine aR () trivial ?_ ⟨sE ?_, trivial⟩)
  ·rw [JU (by omega) (by omega) (by assumption)]; rfl
  ·rfl
 ·(refine aD rfl ?_; refine aR () trivial ?_ ⟨sE ?_, trivial⟩)
  ·rw [HF (by omega) (by omega) (by assumption) (by assumption)]; rfl
  ·rfl
 ·(refine aD rfl ?_; refine aR () trivial ?_ ⟨sE ?_, trivial⟩)
  ·rw [Pq (by omega) (by omega) (by assumption) (by assumption) (by assumption) (by assumption)]; rfl
  ·rfl
 ·exfalso
  have hw : wr = true := by assumption
  have hu : m[x.cell.toNat]!.stk[(cD m[x.cell.toNat]!.stk x.tag).toNat]!.uq = true := by assumption
  subst hw
  refine hk ?_
  rw [A7,if_pos (tH (by omega) (by omega) (by assumption) (by assumption)),if_neg (by rw [hu]; decide)]
 ·exfalso
  have hw : wr = false := by assumption
  subst hw
  exact hk (tH (by omega) (by omega) (by assumption) (by assumption))
theorem wH (m:List Cl) (j:Nat) (t:Int) (k n:Nat) (hm:OkM m) (hn:n = m.length) (hj:j < m.length) (hk:cD m[j]!.stk t = (k:Int)) (hal:m[j]!.alive = true) (hu:m[j]!.stk[k]!.uq = true):MC Tryz.prog 242 [.own 0 0 n 4,.agg [iv (j:Int),iv t],bv true] [(0,some (flat fH (dJ m j (.own 1 0 m[j]!.stk.length 2)))),(1,some (flat cL m[j]!.stk))] 2 (fun _:Unit => True) (fun _ => iv 0) (fun _ => [(0,some (flat fH (dJ m j (.own 1 0 (k + 1) 2)))),(1,some (flat cL (m[j]!.stk.take (k + 1))))]):=by
 subst hn
 have hml := hm.l
 have hcv := iH m hm
 have hst : m[j]!.stk.length ≤ 200 := (((c7 m).1 hm).2 j hj).l.2
 have hbd := eG m[j]!.stk t
 rw [hk] at hbd
 have hidx := AR m[j]!.stk (j : Int) t (by omega)
 rw [hk] at hidx
 have hog := iF (m := m) (j := j) (X := .own 1 0 m[j]!.stk.length 2) hj
 have hol := dF (m := m) (j := j) (X := .own 1 0 m[j]!.stk.length 2)
 refine aV Tryz.func242 Tryz.ntmps242 ?_
 repeat' (first|(apply aF;first|(apply nF (k := 239) (D := [0,1]) (h := hcv);rfl;exact .cons (.own (by simp) rfl (Fl (by simp) rfl hj)) .nil;rfl;rfl)|(with_reducible apply aY (d := 35))|(apply aA (k := 54);rfl;(apply dO);(rfl);rfl))|refine aE ?_|(refine aK ?_ ?_ <;> intro hc hq <;> try (exfalso;omega))|fail)
 all_goals (try (exfalso;omega))
 ·exfalso
  have h : (dJ m j (.own 1 0 m[j]!.stk.length 2))[j]!.alive = false := by assumption
  rw [hog] at h;simp only [hal] at h;cases h
 refine bZ ?_
 rw [hog]
 dsimp only
 repeat' (first|(apply aF;first|((apply gA 4);(case hx|hH|hc|hN => rfl))|(apply nF (k := 267) (D := [1]) (h := hidx);rfl;exact .cons (.own (by simp) rfl (.pur (inferInstance : Pur (flat cL _)).pf)) (.cons (.pur rfl) .nil);rfl;rfl)|(with_reducible apply aY (d := 68)))|refine aE ?_|fail)
 refine bZ ?_
 rw [hog]
 dsimp only
 repeat' (first|(apply aF;(with_reducible apply aY (d := 81)))|refine aE ?_|(refine aK ?_ ?_ <;> intro hc hq <;> try (exfalso;omega))|fail)
 ·exfalso
  have h : m[j]!.stk[k]!.uq = false := by assumption
  rw [hu] at h;cases h
 refine bZ ?_
 rw [hog]
 dsimp only
 repeat' (first|(apply aF;first|(apply iU (d := 83) (l := 0) (h := k + 1);rfl;rfl;rfl;exact rG rfl (by omega);exact if_pos (by omega);rfl)|(apply bF;rfl;rfl;rfl;rfl;rfl;(rw [aI]; simp only [gE] <;> omega);(exact uE (by (assumption)))))|refine aE ?_|fail)
 refine aS (Le.cut (i := 1) ((k + 1) * 2) rfl) ?_
 (refine aD rfl ?_; refine aR () trivial ?_ ⟨sE ?_,⟨sE ?_,trivial⟩⟩)
 ·rfl
 ·rfl
 ·rw [eV cL (e := 2)]
theorem GP {xs:List Tg}{k n:Nat}{x0:Operand}{i0:Nat}(ha0:ev (lk tsl) x0 = some (.own i0 (0 + k * 2) n 2)) (hH0:aU hsl i0 = some (flat cL xs)) (hmc:MC Tryz.prog 266 [.own 0 (0 + k * 2) n 2] [(0,some (flat cL xs))] 1 (fun _:Unit => True) (fun _ => .own 2 0 n 2) (fun _ => [(0,some (flat cL xs)),(2,some (flat cL (xs.drop k)))])) (hM:Nat.ble (nidl + 2) aX = true) (hN:Nat.blt d N = true){md':Md}[hmd:MdA md (fP [x0] ++ [.inr i0]) (List.map Sum.inr (List.map Prod.fst ([(i0,some (flat cL xs)),((nidl + 1),some (flat cL (xs.drop k)))]:List (Nat × Option (List AV)))) ++ [.inl d]) md'] (kk:RW Tryz.prog N all Q md' rest ⟨(d,.own (nidl + 1) 0 n 2) :: tsl,gR hsl [(i0,some (flat cL xs)),((nidl + 1),some (flat cL (xs.drop k)))],nidl + 2,z0⟩):RW Tryz.prog N all Q md (⟨some d,.call ⟨.value (.func 266),#[x0],tys⟩,ty,pos,af,none⟩ :: rest) ⟨tsl,hsl,nidl,z0⟩:=by
 exact aZ (l := [x0]) [i0] 3 [(i0,some (flat cL xs)),((nidl + 1),some (flat cL (xs.drop k)))] hmc (avs := [.own i0 (0 + k * 2) n 2]) (by simp only [evL,ha0]) rfl hM hN (md' := md') (hmd := hmd) kk
theorem JB (xs:List Tg) (k n:Nat) (hn:n = xs.length - k) (hl:xs.length ≤ 1000000):MC Tryz.prog 266 [.own 0 (0 + k * 2) n 2] [(0,some (flat cL xs))] 1 (fun _:Unit => True) (fun _ => .own 2 0 n 2) (fun _ => [(0,some (flat cL xs)),(2,some (flat cL (xs.drop k)))]):=by
 subst hn
 refine aV Tryz.func266 Tryz.ntmps266 ?_
 repeat' (first|(apply aF;first|(apply GQ;rfl;rfl;(intro b hb))|(apply bX;rfl;rfl;rfl;rfl;rfl;(decide);exact EU rfl rfl;omega;omega;(exact pN rfl);rfl;rfl))|refine aE ?_|(refine aK ?_ ?_ <;> intro hc hq <;> try (exfalso;omega))|fail)
 ·have h0 : xs.length - k = 0 := hb (by assumption)
  have h1 : xs.drop k = [] := List.drop_eq_nil_of_le (by omega)
  refine aS (Le.bump 1) ?_
  refine aS (Le.nilOwn (d := 2) 2 rfl (by decide)) ?_
  (refine aD rfl ?_; refine aR () trivial ?_ ⟨sE ?_,⟨sE ?_,trivial⟩⟩)
  ·show AV.own 2 0 0 2 = _; rw [h0]
  ·rfl
  ·rw [h1]; rfl
 ·(refine aD rfl ?_; refine aR () trivial ?_ ⟨sE ?_, ⟨sE ?_, trivial⟩⟩)
  ·show AV.own 2 0 (0 + (xs.length - k)) 2 = _
   rw [Nat.zero_add]
  ·rfl
  ·rfl
theorem y5 {m:List Cl}{j:Nat}{t:Int}{r:List Tg}{n:Nat}{x0 x1 x2:Operand}{i0 i1:Nat}(ha0:ev (lk tsl) x0 = some (.own i0 0 n 4)) (ha1:ev (lk tsl) x1 = some (.agg [iv (j:Int),iv t])) (ha2:ev (lk tsl) x2 = some (bv false)) (hH0:aU hsl i0 = some (flat fH (dJ m j (.own i1 0 m[j]!.stk.length 2)))) (hH1:aU hsl i1 = some (flat cL m[j]!.stk)) (hdd:Go.AL.distinct [i0,i1] = true) (hmc:MC Tryz.prog 242 [.own 0 0 n 4,.agg [iv (j:Int),iv t],bv false] [(0,some (flat fH (dJ m j (.own 1 0 m[j]!.stk.length 2)))),(1,some (flat cL m[j]!.stk))] 2 (fun _:Unit => True) (fun _ => iv 0) (fun _ => [(0,some (flat fH (dJ m j (.own 5 0 r.length 2)))),(5,some (flat cL r))])) (hM:Nat.ble (nidl + 4) aX = true) (hN:Nat.blt d N = true){md':Md}[hmd:MdA md (fP [x0,x1,x2] ++ [.inr i0,.inr i1]) (List.map Sum.inr (List.map Prod.fst ([(i0,some (flat fH (dJ m j (.own (nidl + 3) 0 r.length 2)))),((nidl + 3),some (flat cL r)),(i1,none)]:List (Nat × Option (List AV)))) ++ [.inl d]) md'] (kk:RW Tryz.prog N all Q md' rest ⟨(d,iv 0) :: tsl,gR hsl [(i0,some (flat fH (dJ m j (.own (nidl + 3) 0 r.length 2)))),((nidl + 3),some (flat cL r)),(i1,none)],nidl + 4,z0⟩):RW Tryz.prog N all Q md (⟨some d,.call ⟨.value (.func 242),#[x0,x1,x2],tys⟩,ty,pos,af,none⟩ :: rest) ⟨tsl,hsl,nidl,z0⟩:=by
 exact aZ (l := [x0,x1,x2]) [i0,i1] 6 [(i0,some (flat fH (dJ m j (.own (nidl + 3) 0 r.length 2)))),((nidl + 3),some (flat cL r)),(i1,none)] hmc (avs := [.own i0 0 n 4,.agg [iv (j : Int),iv t],bv false]) (by simp only [evL,ha0,ha1,ha2]) hdd hM hN (md' := md') (hmd := hmd) kk
theorem Cy (m:List Cl) (j:Nat) (t:Int) (r:List Tg) (k n:Nat) (hm:OkM m) (hn:n = m.length) (hj:j < m.length) (hk:cD m[j]!.stk t = (k:Int)) (hal:m[j]!.alive = true) (hr:r = fE m[j]!.stk k false):MC Tryz.prog 242 [.own 0 0 n 4,.agg [iv (j:Int),iv t],bv false] [(0,some (flat fH (dJ m j (.own 1 0 m[j]!.stk.length 2)))),(1,some (flat cL m[j]!.stk))] 2 (fun _:Unit => True) (fun _ => iv 0) (fun _ => [(0,some (flat fH (dJ m j (.own 5 0 r.length 2)))),(5,some (flat cL r))]):=by
 subst hn
 have hml := hm.l
 have hcv := iH m hm
 have hst : m[j]!.stk.length ≤ 200 := (((c7 m).1 hm).2 j hj).l.2
 have hbd := eG m[j]!.stk t
 rw [hk] at hbd
 have hidx := AR m[j]!.stk (j : Int) t (by omega)
 rw [hk] at hidx
 have hog := iF (m := m) (j := j) (X := .own 1 0 m[j]!.stk.length 2) hj
 have hol := dF (m := m) (j := j) (X := .own 1 0 m[j]!.stk.length 2)
 refine aV Tryz.func242 Tryz.ntmps242 ?_
 repeat' (first|(apply aF;first|(apply nF (k := 239) (D := [0,1]) (h := hcv);rfl;exact .cons (.own (by simp) rfl (Fl (by simp) rfl hj)) .nil;rfl;rfl)|(with_reducible apply aY (d := 35))|(apply aA (k := 54);rfl;(apply dO);(rfl);rfl))|refine aE ?_|(refine aK ?_ ?_ <;> intro hc hq <;> try (exfalso;omega))|fail)
 all_goals (try (exfalso;omega))
 ·exfalso
  have h : (dJ m j (.own 1 0 m[j]!.stk.length 2))[j]!.alive = false := by assumption
  rw [hog] at h;simp only [hal] at h;cases h
 refine bZ ?_
 rw [hog]
 dsimp only
 repeat' (first|(apply aF;first|((apply gA 4);(case hx|hH|hc|hN => rfl))|(apply nF (k := 267) (D := [1]) (h := hidx);rfl;exact .cons (.own (by simp) rfl (.pur (inferInstance : Pur (flat cL _)).pf)) (.cons (.pur rfl) .nil);rfl;rfl)|(with_reducible apply aY (d := 41)))|refine aE ?_|fail)
 refine bZ ?_
 rw [hog]
 dsimp only
 repeat' (first|(apply aF;first|(apply iU (d := 43) (l := k + 1) (h := m[j]!.stk.length);rfl;rfl;exact rG rfl (by omega);rfl;exact if_pos (by omega);rfl)|(apply GP;rfl;rfl;exact JB _ _ _ rfl (by omega);rfl;rfl)|(apply Mh;rfl;rfl;rfl;exact OH _ _ (by rw [List.length_drop]) (by omega);rfl;rfl)|(with_reducible apply aY (d := 51)))|refine aE ?_|fail)
 refine bZ ?_
 rw [hog]
 dsimp only
 have hfl : (flat cL m[j]!.stk).length = m[j]!.stk.length * 2 := aI cL _
 have hsl : (shr (List.drop (k + 1) m[j]!.stk)).length ≤ 200 := Nat.le_trans (List.length_filter_le _ _) (by rw [List.length_drop]; omega)
 repeat' (first|(apply aF;first|(apply iU (d := 53) (l := 0) (h := k + 1);rfl;rfl;rfl;exact rG rfl (by omega);exact if_pos (by omega);rfl)|(apply bX;rfl;rfl;rfl;rfl;rfl;(rw [hfl]; omega);exact EU (k := 0) rfl rfl;omega;omega;rfl;rfl;rfl)|(apply bF;rfl;rfl;rfl;rfl;rfl;(rw [aI]; simp only [gE] <;> omega);(exact uE (by (assumption)))))|refine aE ?_|fail)
 have hre : r = m[j]!.stk.take (k + 1) ++ shr (m[j]!.stk.drop (k + 1)) := by rw [hr]; rfl
 have hrl : r.length = k + 1 + (shr (List.drop (k + 1) m[j]!.stk)).length := by rw [hre,List.length_append,List.length_take]; omega
 (refine aD rfl ?_; refine aR () trivial ?_ ⟨sE ?_,⟨sE ?_,trivial⟩⟩)
 ·rfl
 ·refine congrArg some ?_
  show flat fH (dJ m j (AV.own 5 0 (k + 1 - 0 + (shr (List.drop (k + 1) m[j]!.stk)).length) 2)) = _
  rw [hrl]; rfl
 ·refine congrArg some ?_
  show (List.drop 0 (flat cL m[j]!.stk)).take ((k + 1) * 2) ++ flat cL (List.drop 0 (shr (List.drop (k + 1) m[j]!.stk))) = _
  rw [List.drop_zero,List.drop_zero,eV cL (e := 2),cP,← hre]
theorem LR {m:List Cl}{j:Nat}{X:AV}{v:Int}(h:j < m.length):hZ (flat fH (dJ m j X)) (0 + j * 4 + 0) [iv v] = flat fH (dJ (m.set j { m[j]! with val := v }) j X):=by
 have e : dJ (m.set j { m[j]! with val := v }) j X = (dJ m j X).set j ⟨v, m[j]!.alive, m[j]!.next, X⟩ := by
  have e2 : (m.set j { m[j]! with val := v })[j]! = { m[j]! with val := v } := by rw [bC _ _ (by rw [List.length_set]; exact h),List.getElem_set_self]
  unfold dJ
  rw [e2,List.map_set,List.set_set,List.set_set]; rfl
 rw [e]
 exact eY (by rw [dF]; exact h) (by simp) (by rw [iF h]; rfl)
theorem LZ {m:List Cl}{j:Nat}{X:AV}{b:Bool}(h:j < m.length):hZ (flat fH (dJ m j X)) (0 + j * 4 + 1) [.v (.bool b)] = flat fH (dJ (m.set j { m[j]! with alive := b }) j X):=by
 have e : dJ (m.set j { m[j]! with alive := b }) j X = (dJ m j X).set j ⟨m[j]!.val, b, m[j]!.next, X⟩ := by
  have e2 : (m.set j { m[j]! with alive := b })[j]! = { m[j]! with alive := b } := by rw [bC _ _ (by rw [List.length_set]; exact h),List.getElem_set_self]
  unfold dJ
  rw [e2,List.map_set,List.set_set,List.set_set]; rfl
 rw [e]
 exact eY (by rw [dF]; exact h) (by simp) (by rw [iF h]; rfl)
theorem sJ (m:List Cl) (hm:OkM m) (x:Pt):PC Tryz.prog 202 [sl bO m,nZ x] (fun r => r = .tup [sl bO (cV m x false),iv (oN m x),iv (a7 m x false)]):=by
 have hml := hm.l
 by_cases hk : a7 m x false = 0
 ·obtain ⟨c, t⟩ := x
  obtain ⟨h1,h2,h3,h4,_⟩ := dV hk
  obtain ⟨j,rfl⟩ := Int.eq_ofNat_of_zero_le (show 0 ≤ c from h1)
  have hj : j < m.length := by have : (j : Int) < m.length := h2;omega
  obtain ⟨k,hkk⟩ := Int.eq_ofNat_of_zero_le (show 0 ≤ cD m[j]!.stk t from h4)
  obtain ⟨r,hr⟩ : ∃ r,r = fE m[j]!.stk k false := ⟨_,rfl⟩
  have hto := Cy m j t r k m.length hm rfl hj hkk h3 hr
  have hog := iF (m := m) (j := j) (X := .own (0 + 1 + 3 + 3) 0 r.length 2) hj
  have hol := dF (m := m) (j := j) (X := .own (0 + 1 + 3 + 3) 0 r.length 2)
  refine aC Tryz.func202 Tryz.ntmps202 ?_
  repeat' (first|(apply aF;first|(apply pQ (j := j);rfl;exact w6 m j hm hj;rfl;rfl)|(apply y5 (m := m) (j := j) (t := t) (r := r) (n := m.length);rfl;rfl;rfl;rfl;rfl;rfl;exact hto;rfl;rfl))|refine aE ?_|refine bQ ?_|fail)
  refine aS (Le.cls (o := 2) (q := 7) (j := j) (k := r.length) (m := m) (r := r) rfl rfl rfl hj (by decide)) ?_
  refine aS (Le.frzD (d := 4) (i := 2) rfl rfl) ?_
  rw [hog]
  refine aD (l := [.imm m.length (flat bO (m.set j { m[j]! with stk := r })),iv m[j]!.val,iv 0]) rfl ?_
  have eM : cV m ⟨j, t⟩ false = m.set j { m[j]! with stk := r } := by
   unfold cV iV;rw [if_pos hk]; dsimp only
   rw [Int.toNat_natCast,hkk,Int.toNat_natCast,hr]
  have eN : oN m ⟨j,t⟩ = m[j]!.val := by unfold oN;rw [if_pos hk]; rfl
  rw [eM,eN,hk,fF (by rw [List.length_set])]
  exact ⟨rfl,by exact Pur.pf⟩
 ·refine aC Tryz.func202 Tryz.ntmps202 ?_
  repeat' (first|(apply aF;first|(apply iK;rfl;exact kU m hm;rfl;rfl)|(apply nS (m := m) (x := x) (wr := false) (n := m.length);rfl;rfl;rfl;rfl;exact pX m x false _ hm rfl hk;rfl;rfl))|refine aE ?_|(refine aK ?_ ?_ <;> intro hc hq <;> try (exfalso;omega))|fail)
  (refine aS (Le.frzD (d := 4) (i := 2) rfl rfl) ?_; refine aD rfl ?_)
  refine ⟨?_,by exact Pur.pf⟩
  simp only [aO]
  unfold cV oN;rw [if_neg hk,if_neg hk]
theorem Bi (m:List Cl) (hm:OkM m) (x:Pt):PC Tryz.prog 243 [sl bO m,nZ x] (fun r => r = .tup [sl bO (g8 m x),iv (a7 m x true)]):=by
 have hml := hm.l
 by_cases hk : a7 m x true = 0
 ·obtain ⟨c, t⟩ := x
  obtain ⟨h1,h2,h3,h4,hu⟩ := dV hk
  obtain ⟨j,rfl⟩ := Int.eq_ofNat_of_zero_le (show 0 ≤ c from h1)
  have hj : j < m.length := by have : (j : Int) < m.length := h2;omega
  obtain ⟨k,hkk⟩ := Int.eq_ofNat_of_zero_le (show 0 ≤ cD m[j]!.stk t from h4)
  have huk : m[j]!.stk[k]!.uq = true := by
   have h : m[j]!.stk[(cD m[j]!.stk t).toNat]!.uq = true := hu rfl
   rwa [hkk,Int.toNat_natCast] at h
  have htw := wH m j t k m.length hm rfl hj hkk h3 huk
  have hrl : (m[j]!.stk.take (k + 1)).length = k + 1 := by
   have hb := eG m[j]!.stk t
   rw [List.length_take]; omega
  have hol := dF (m := m) (j := j) (X := .own (0 + 1 + 2) 0 (k + 1) 2)
  have hls : (m.set j { m[j]! with alive := false }).length = m.length := List.length_set
  refine aC Tryz.func243 Tryz.ntmps243 ?_
  repeat' (first|(apply aF;first|(apply pQ (j := j);rfl;exact w6 m j hm hj;rfl;rfl)|(apply x5 (m := m) (j := j) (t := t) (k := k) (n := m.length);rfl;rfl;rfl;rfl;rfl;rfl;exact htw;rfl;rfl)|(apply bF;rfl;rfl;rfl;rfl;rfl;(rw [aI]; simp only [List.length_append,List.length_cons,List.length_nil]; omega);exact LZ hj))|refine aE ?_|fail)
  refine aS (Le.cls (o := 2) (q := 3) (j := j) (k := k + 1) (m := m.set j { m[j]! with alive := false }) (r := m[j]!.stk.take (k + 1)) rfl rfl hrl.symm (by rw [hls]; exact hj) (by decide)) ?_
  refine aS (Le.frzD (d := 4) (i := 2) rfl rfl) ?_
  rw [lN hj,set_set]
  refine aD (l := [.imm m.length (flat bO (m.set j { m[j]! with alive := false,stk := m[j]!.stk.take (k + 1) })),iv 0]) rfl ?_
  have eM : g8 m ⟨j, t⟩ = m.set j { m[j]! with alive := false, stk := m[j]!.stk.take (k + 1) } := by
   unfold g8 iV;rw [if_pos hk]; dsimp only
   rw [Int.toNat_natCast,hkk,Int.toNat_natCast]; unfold fE;rw [if_pos rfl]
  rw [eM,hk,fF (by rw [List.length_set])]
  exact ⟨rfl,by exact Pur.pf⟩
 ·refine aC Tryz.func243 Tryz.ntmps243 ?_
  repeat' (first|(apply aF;first|(apply iK;rfl;exact kU m hm;rfl;rfl)|(apply nS (m := m) (x := x) (wr := true) (n := m.length);rfl;rfl;rfl;rfl;exact pX m x true _ hm rfl hk;rfl;rfl))|refine aE ?_|(refine aK ?_ ?_ <;> intro hc hq <;> try (exfalso;omega))|fail)
  (refine aS (Le.frzD (d := 4) (i := 2) rfl rfl) ?_; refine aD rfl ?_)
  refine ⟨?_,by exact Pur.pf⟩
  simp only [aO]
  unfold g8;rw [if_neg hk]
theorem Ao (m:List Cl) (hm:OkM m) (x:Pt) (v:Int):PC Tryz.prog 203 [sl bO m,nZ x,iv v] (fun r => r = .tup [sl bO (oQ m x v),iv (qU m x v)]):=by
 have hml := hm.l
 by_cases hv : 0 ≤ v ∧ v ≤ 9
 case neg =>
  have hwk : qU m x v = 4 := by unfold qU;rw [if_neg hv]
  have e : oQ m x v = m := by unfold oQ;rw [if_neg (by rw [hwk]; decide)]
  refine aC Tryz.func203 Tryz.ntmps203 ?_
  repeat' (first|(apply aF;first|(apply iK;rfl;exact kU m hm;rfl;rfl)|(apply aA (k := 54);rfl;(apply dO);(rfl);rfl))|refine aE ?_|(refine aK ?_ ?_ <;> intro hc hq <;> try (exfalso;omega))|fail)
  all_goals (try (exfalso;omega))
  all_goals (
   (refine aS (Le.frzD (d := 6) (i := 2) rfl rfl) ?_; refine aD rfl ?_)
   refine ⟨?_,by exact Pur.pf⟩
   simp only [aO]
   rw [e,hwk])
 case pos =>
 have hwk : qU m x v = a7 m x true := by unfold qU;rw [if_pos hv]
 by_cases hk : a7 m x true = 0
 ·obtain ⟨c, t⟩ := x
  obtain ⟨h1,h2,h3,h4,hu⟩ := dV hk
  obtain ⟨j,rfl⟩ := Int.eq_ofNat_of_zero_le (show 0 ≤ c from h1)
  have hj : j < m.length := by have : (j : Int) < m.length := h2;omega
  obtain ⟨k,hkk⟩ := Int.eq_ofNat_of_zero_le (show 0 ≤ cD m[j]!.stk t from h4)
  have huk : m[j]!.stk[k]!.uq = true := by
   have h : m[j]!.stk[(cD m[j]!.stk t).toNat]!.uq = true := hu rfl
   rwa [hkk,Int.toNat_natCast] at h
  have htw := wH m j t k m.length hm rfl hj hkk h3 huk
  have hrl : (m[j]!.stk.take (k + 1)).length = k + 1 := by
   have hb := eG m[j]!.stk t
   rw [List.length_take]; omega
  have hol := dF (m := m) (j := j) (X := .own (0 + 1 + 2) 0 (k + 1) 2)
  have hls : (m.set j { m[j]! with val := v }).length = m.length := List.length_set
  refine aC Tryz.func203 Tryz.ntmps203 ?_
  repeat' (first|(apply aF;first|(apply pQ (j := j);rfl;exact w6 m j hm hj;rfl;rfl)|(apply x5 (m := m) (j := j) (t := t) (k := k) (n := m.length);rfl;rfl;rfl;rfl;rfl;rfl;exact htw;rfl;rfl)|(apply bF;rfl;rfl;rfl;rfl;rfl;(rw [aI]; simp only [List.length_append,List.length_cons,List.length_nil]; omega);exact LR hj)|(apply aA (k := 54);rfl;(apply dO);(rfl);rfl))|refine aE ?_|(refine aK ?_ ?_ <;> intro hc hq <;> try (exfalso;omega))|fail)
  refine aS (Le.cls (o := 2) (q := 3) (j := j) (k := k + 1) (m := m.set j { m[j]! with val := v }) (r := m[j]!.stk.take (k + 1)) rfl rfl hrl.symm (by rw [hls]; exact hj) (by decide)) ?_
  refine aS (Le.frzD (d := 6) (i := 2) rfl rfl) ?_
  rw [lN hj,set_set]
  refine aD (l := [.imm m.length (flat bO (m.set j { m[j]! with val := v,stk := m[j]!.stk.take (k + 1) })),iv 0]) rfl ?_
  have eM : oQ m ⟨j, t⟩ v = m.set j { m[j]! with val := v, stk := m[j]!.stk.take (k + 1) } := by
   unfold oQ iV;rw [hwk,if_pos hk]; dsimp only
   rw [Int.toNat_natCast,hkk,Int.toNat_natCast]; unfold fE;rw [if_pos rfl]
  rw [eM,hwk,hk,fF (by rw [List.length_set])]
  exact ⟨rfl,by exact Pur.pf⟩
 ·refine aC Tryz.func203 Tryz.ntmps203 ?_
  repeat' (first|(apply aF;first|(apply iK;rfl;exact kU m hm;rfl;rfl)|(apply nS (m := m) (x := x) (wr := true) (n := m.length);rfl;rfl;rfl;rfl;exact pX m x true _ hm rfl hk;rfl;rfl)|(apply aA (k := 54);rfl;(apply dO);(rfl);rfl))|refine aE ?_|(refine aK ?_ ?_ <;> intro hc hq <;> try (exfalso;omega))|fail)
  (refine aS (Le.frzD (d := 6) (i := 2) rfl rfl) ?_; refine aD rfl ?_)
  refine ⟨?_,by exact Pur.pf⟩
  simp only [aO]
  unfold oQ;rw [hwk,if_neg hk]
end Go.Proofs.YtahdccneecdmmaaGreat
