/-
 A part of the proofs over this program: rules and contracts of its functions (the contracts).
-/
import Derived.Test.YtahdccneecdmmaaGreatJ5A08
import Derived.Test.YtahdccneecdmmaaGreatRows
set_option linter.unusedVariables false
set_option linter.unusedSimpArgs false
set_option maxHeartbeats 8000000
set_option maxRecDepth 4000
attribute [local irreducible] Go.AL.RW Go.AL.AW Go.AL.Stop
namespace Go.Proofs.YtahdccneecdmmaaGreat
open Go.AL
theorem dG (a b c:Int):PC Tryz.prog 54 [iv a,iv b,iv c] (fun r => r = bv (decide (b ≤ a) && decide (a ≤ c))):=by
 refine aC Tryz.func54 Tryz.ntmps54 ?_
 repeat' (first|refine aE ?_|(refine bW ?_ ?_ <;> intro hg hq <;> try (exfalso;omega))|refine dT ?_|fail)
 all_goals (refine ⟨?_,rfl⟩; simp only [aN,AV.v.injEq,Value.bool.injEq,Value.int.injEq,true_and])
 all_goals grind
theorem oW (t:Int):PC Tryz.prog 234 [iv t] (fun r => r = bv (dV t)):=by
 refine aC Tryz.func234 Tryz.ntmps234 ?_
 repeat' (first|refine aE ?_|(refine bW ?_ ?_ <;> intro hg hq <;> try (exfalso;omega))|refine dT ?_|fail)
 all_goals (refine ⟨?_,rfl⟩; simp only [aN,AV.v.injEq,Value.bool.injEq,Value.int.injEq,true_and])
 all_goals grind [dV]
theorem vI (t:Int):PC Tryz.prog 260 [iv t] (fun r => r = bv (dV t)):=by
 refine aC Tryz.func260 Tryz.ntmps260 ?_
 repeat' (first|refine aE ?_|(refine bW ?_ ?_ <;> intro hg hq <;> try (exfalso;omega))|refine dT ?_|fail)
 all_goals (refine ⟨?_,rfl⟩; simp only [aN,AV.v.injEq,Value.bool.injEq,Value.int.injEq,true_and])
 all_goals grind [dV]
theorem CZ (t:Int):PC Tryz.prog 263 [iv t] (fun r => r = bv (decide (t = 2) || dV t)):=by
 refine aC Tryz.func263 Tryz.ntmps263 ?_
 repeat' (first|(apply aF;(apply aA (k := 234);rfl;(apply oW);(rfl);rfl))|refine aE ?_|(refine bW ?_ ?_ <;> intro hg hq <;> try (exfalso;omega))|refine dT ?_|fail)
 all_goals (refine ⟨?_,rfl⟩; simp only [aN,AV.v.injEq,Value.bool.injEq,Value.int.injEq,true_and])
 all_goals grind
theorem Da (t:Int):PC Tryz.prog 230 [iv t] (fun r => r = bv (decide (t = 9) || decide (t = 10))):=by
 refine aC Tryz.func230 Tryz.ntmps230 ?_
 repeat' (first|refine aE ?_|(refine bW ?_ ?_ <;> intro hg hq <;> try (exfalso;omega))|refine dT ?_|fail)
 all_goals (refine ⟨?_,rfl⟩; simp only [aN,AV.v.injEq,Value.bool.injEq,Value.int.injEq,true_and])
 all_goals grind
theorem Ih (ts:List Int) (v:Int):PC Tryz.prog 264 [sl cI ts,iv v] (fun r => r = iv (fG ts v)):=by
 refine aC Tryz.func264 Tryz.ntmps264 ?_
 repeat' (first|refine aE ?_|(refine aK ?_ ?_ <;> intro hc hq <;> try (exfalso;omega))|(refine bW ?_ ?_ <;> intro hg hq <;> try (exfalso;omega))|refine dT ?_|fail)
 all_goals (refine ⟨?_,rfl⟩; simp only [aN,AV.v.injEq,Value.bool.injEq,Value.int.injEq,true_and])
 all_goals grind [fG]
theorem Jc (ts:List Int) (v:Int) (hl:ts.length ≤ 1000000):PC Tryz.prog 55 [sl cI ts,iv v] (fun r => r = iv (fG ts v)):=by
 refine aC Tryz.func55 Tryz.ntmps55 ?_
 repeat' (first|(apply aF;(apply aA (k := 54);rfl;(apply dG);(rfl);rfl))|refine aE ?_|(refine aK ?_ ?_ <;> intro hc hq <;> try (exfalso;omega))|refine dT ?_|fail)
 all_goals (refine ⟨?_,rfl⟩; simp only [aN,AV.v.injEq,Value.bool.injEq,Value.int.injEq,true_and])
 all_goals grind [fG]
theorem Cv (ts:List Int) (s:AL.Stmt) (hl:b8 ts = true):PC Tryz.prog 231 [sl cI ts,iJ s] (fun r => r = bv (s.th.isEmpty && s.el.isEmpty && dN ts s)):=by
 have hl2 := lN hl
 have hx := iU hl s.x
 have hy := iU hl s.y
 refine aC Tryz.func231 Tryz.ntmps231 ?_
 repeat' (first|(apply aF;(first|(apply aA (k := 54);rfl;(apply dG);(rfl);rfl)|(apply aA (k := 55);rfl;(apply Jc <;> (omega));exact Pur.pf;rfl)|(apply aA (k := 263);rfl;(apply CZ);(rfl);rfl)))|refine aE ?_|(refine aK ?_ ?_ <;> intro hc hq <;> try (exfalso;omega))|(refine bW ?_ ?_ <;> intro hg hq <;> try (exfalso;omega))|refine bQ ?_|refine dT ?_|fail)
 all_goals (refine ⟨?_,rfl⟩; simp only [aN,AV.v.injEq,Value.bool.injEq,Value.int.injEq,true_and])
 all_goals (cases hth : s.th <;> cases hel : s.el <;> simp only [hth,hel,List.length_nil,List.length_cons,List.isEmpty_nil,List.isEmpty_cons,Bool.true_and,Bool.false_and] at *)
 all_goals (try unfold dN)
 all_goals (try simp only [dV,Bool.or_eq_true,Bool.or_eq_false_iff,decide_eq_true_eq,decide_eq_false_iff_not] at *)
 all_goals grind
theorem Dg (ts:List Int) (s:AL.Stmt) (hl:b8 ts = true):PC Tryz.prog 238 [sl cI ts,iJ s] (fun r => r = bv (dN ts s)):=by
 have hl2 := lN hl
 have hx := iU hl s.x
 have hy := iU hl s.y
 refine aC Tryz.func238 Tryz.ntmps238 ?_
 repeat' (first|(apply aF;(apply aA (k := 264);rfl;(apply Ih);exact Pur.pf;rfl))|refine aE ?_|(refine aK ?_ ?_ <;> intro hc hq <;> try (exfalso;omega))|(refine bW ?_ ?_ <;> intro hg hq <;> try (exfalso;omega))|refine dT ?_|fail)
 all_goals (refine ⟨?_,rfl⟩; simp only [aN,AV.v.injEq,Value.bool.injEq,Value.int.injEq,true_and])
 all_goals (try unfold dN)
 all_goals grind
theorem EI (ts:List Int) (hl:b8 ts = true) (m:Nat) (ih:∀ l (d:Int),bE l < m → 0 ≤ d → d ≤ 1000 → PC Tryz.prog 128 [sl cI ts,sl bF l,iv d] (fun r => r = bv (okL ts d.toNat l))) (s:AL.Stmt) (d:Int) (hs:fP s ≤ m) (hd0:0 ≤ d) (hd:d ≤ 1000) :
  PC Tryz.prog 195 [sl cI ts,iJ s,iv d] (fun r => r = bv (qP ts d.toNat s)) := by
 rw [Lu ts d hd0]
 refine aC Tryz.func195 Tryz.ntmps195 ?_
 repeat' (first|(apply aF;(first|(apply aA (k := 128);rfl;(apply ih <;> (first|omega|(have := qC s;omega)));exact Pur.pf;rfl)|(apply aA (k := 238);rfl;(apply Dg <;> (assumption));exact Pur.pf;rfl)))|refine aE ?_|(refine aK ?_ ?_ <;> intro hc hq <;> try (exfalso;omega))|(refine bW ?_ ?_ <;> intro hg hq <;> try (exfalso;omega))|refine dT ?_|fail)
 all_goals (refine ⟨?_,rfl⟩; simp only [aN,AV.v.injEq,Value.bool.injEq,Value.int.injEq,true_and])
 all_goals (cases hth : s.th <;> cases hel : s.el <;> simp only [hth,hel,List.length_nil,List.length_cons,List.isEmpty_nil,List.isEmpty_cons,Bool.true_and,Bool.false_and] at *)
 all_goals grind
theorem Fj (ts:List Int) (hl:b8 ts = true) (m:Nat) (ih:∀ s (d:Int),fP s ≤ m → 0 ≤ d → d ≤ 1000 → PC Tryz.prog 195 [sl cI ts,iJ s,iv d] (fun r => r = bv (qP ts d.toNat s))) (l:List AL.Stmt) (d:Int) (hs:bE l ≤ m) (hm:m ≤ 100000000) (hd0:0 ≤ d) (hd:d ≤ 1000) :
  PC Tryz.prog 128 [sl cI ts,sl bF l,iv d] (fun r => r = bv (okL ts d.toNat l)) := by
 have hlen := jL l
 refine aC Tryz.func128 Tryz.ntmps128 ?_
 repeat' (first|refine aE ?_|fail)
 refine aH (σ := Nat) [0,1,2] [] (fun k => [(7,iv (k : Int))]) (fun k => []) (fun k => k ≤ l.length ∧ ∀ i,i < k → qP ts d.toNat l[i]! = true) (fun k => l.length - k) (0) ⟨by omega,by omega⟩ ?_
 intro k ⟨hk,hall⟩
 have hck := mR l k
 repeat' (first|(apply aF;(apply aA (k := 195);rfl;(apply ih _ d (Nat.le_trans (hck (by omega)) hs) hd0 hd);exact Pur.pf;rfl))|refine aE ?_|(refine aK ?_ ?_ <;> intro hc hq <;> try (exfalso;omega))|refine dT ?_|fail)
 ·(refine ⟨?_, rfl⟩; simp only [aN, AV.v.injEq, Value.bool.injEq, Value.int.injEq, true_and])
  rw [Ie (k := k) (by omega) hq]
 ·(refine bC (k + 1) (Le.renA []) ?_ ?_)
  ·grind
  ·omega
 ·(refine ⟨?_, rfl⟩; simp only [aN, AV.v.injEq, Value.bool.injEq, Value.int.injEq, true_and])
  rw [KS (fun i hi => hall i (by omega))]
theorem Lx (ts:List Int) (hl:b8 ts = true):∀ (m:Nat),m ≤ 100000000 → (∀ s (d:Int),fP s ≤ m → 0 ≤ d → d ≤ 1000 → PC Tryz.prog 195 [sl cI ts,iJ s,iv d] (fun r => r = bv (qP ts d.toNat s))) ∧
  (∀ l (d : Int),bE l ≤ m → 0 ≤ d → d ≤ 1000 → PC Tryz.prog 128 [sl cI ts,sl bF l,iv d] (fun r => r = bv (okL ts d.toNat l))) := by
 intro m
 induction m using Nat.strongRecOn with
 | ind m ih =>
  intro hm
  have h1 : ∀ s (d : Int), fP s ≤ m → 0 ≤ d → d ≤ 1000 → PC Tryz.prog 195 [sl cI ts, iJ s, iv d] (fun r => r = bv (qP ts d.toNat s)) :=
   fun s d h1 h2 h3 => EI ts hl m (fun l d' g1 g2 g3 => (ih (bE l) g1 (by omega)).2 l d' (Nat.le_refl _) g2 g3) s d h1 h2 h3
  exact ⟨h1,fun l d g1 g2 g3 => Fj ts hl m h1 l d g1 hm g2 g3⟩
theorem CT (m0:Nat) (ih:∀ l (most:Int),bE l < m0 → -1 ≤ most → most ≤ 1000 → PC Tryz.prog 129 [sl bF l,iv most] (fun r => r = iv (nE most 0 l))) (l:List AL.Stmt) (most:Int) (hs:bE l ≤ m0) (hm:m0 ≤ 100000000) (hd0:-1 ≤ most) (hd:most ≤ 1000) :
  PC Tryz.prog 129 [sl bF l,iv most] (fun r => r = iv (nE most 0 l)) := by
 have hlen := jL l
 have hall := lL l most 0
 refine aC Tryz.func129 Tryz.ntmps129 ?_
 repeat' (first|refine aE ?_|fail)
 refine aH (σ := Nat × Int) [0,1] [] (fun k => [(6,iv (k.1 : Int)),(5,iv k.2)]) (fun k => []) (fun k => k.1 ≤ l.length ∧ nE most k.2 (l.drop k.1) = nE most 0 l ∧ 0 ≤ k.2 ∧ k.2 ≤ bE l) (fun k => l.length - k.1) (0,0) ⟨by omega,rfl,by omega,by omega⟩ ?_
 rintro ⟨k,n⟩ ⟨hk,hn,hn0,hn1⟩
 dsimp only at hk hn hn0 hn1 ⊢
 have hck := mR l k
 have hct := qC l[k]!
 have b1 := lL l[k]!.th (most - n) 0
 have b2 := fun z => lL l[k]!.el z 0
 have b3 := Ig l[k]! most n
 have b4 := lL (l.drop (k + 1)) most (IV most n l[k]!)
 have b5 := Hf most n l k
 rw [Kj] at b3 b4 b5
 repeat' (first|(apply aF;(apply aA (k := 129);rfl;(apply ih <;> omega);exact Pur.pf;rfl))|refine aE ?_|(refine aK ?_ ?_ <;> intro hc hq <;> try (exfalso;omega))|(refine bW ?_ ?_ <;> intro hg hq <;> try (exfalso;omega))|refine dT ?_|fail)
 ·(refine bC (k + 1, n + 1 + nE (most - n) 0 l[k]!.th + nE (most - (n + 1 + nE (most - n) 0 l[k]!.th)) 0 l[k]!.el) (Le.renA []) ?_ ?_)
  ·dsimp only;grind
  ·dsimp only;omega
 ·(refine bC (k + 1, n + 1 + nE (most - n) 0 l[k]!.th) (Le.renA []) ?_ ?_)
  ·dsimp only;grind
  ·dsimp only;omega
 ·(refine ⟨?_, rfl⟩; simp only [aN, AV.v.injEq, Value.bool.injEq, Value.int.injEq, true_and])
  rw [← hn,HY _ _ _ (by omega)]
 ·(refine ⟨?_, rfl⟩; simp only [aN, AV.v.injEq, Value.bool.injEq, Value.int.injEq, true_and])
  rw [← hn,Kz _ _ _ _ (by omega)]
theorem Ex (l:List AL.Stmt) (most:Int) (hs:bE l ≤ 100000000) (hd0:-1 ≤ most) (hd:most ≤ 1000) :
  PC Tryz.prog 129 [sl bF l,iv most] (fun r => r = iv (nE most 0 l)) := by
 have h : ∀ (m : Nat), m ≤ 100000000 → ∀ l (most : Int), bE l ≤ m → -1 ≤ most → most ≤ 1000 → PC Tryz.prog 129 [sl bF l, iv most] (fun r => r = iv (nE most 0 l)) := by
  intro m
  induction m using Nat.strongRecOn with
  | ind m ih =>
   intro hm l most h1 h2 h3
   exact CT m (fun l' most' g1 g2 g3 => ih _ g1 (by omega) l' most' (Nat.le_refl _) g2 g3) l most h1 hm h2 h3
 exact h _ hs l most (Nat.le_refl _) hd0 hd
theorem Ip (ts:List Int) (l:List AL.Stmt) (d:Int) (hl:b8 ts = true) (hs:bE l ≤ 100000000) (hd0:0 ≤ d) (hd:d ≤ 1000):PC Tryz.prog 128 [sl cI ts,sl bF l,iv d] (fun r => r = bv (okL ts d.toNat l)) :=
 (Lx ts hl _ hs).2 l d (Nat.le_refl _) hd0 hd
theorem xB (ts:List Int) (hl:ts.length ≤ 1000000):PC Tryz.prog 127 [sl cI ts] (fun r => r = bv (b8 ts)):=by
 refine aC Tryz.func127 Tryz.ntmps127 ?_
 repeat' (first|refine aE ?_|fail)
 refine aH (σ := Nat) [0] [] (fun k => [(3,iv (k : Int))]) (fun k => []) (fun k => k ≤ ts.length ∧ ∀ i,i < k → 1 ≤ ts[i]! ∧ ts[i]! ≤ 4) (fun k => ts.length - k) (0) ⟨by omega,by omega⟩ ?_
 intro k ⟨hk,hall⟩
 repeat' (first|refine aE ?_|(refine aK ?_ ?_ <;> intro hc hq <;> try (exfalso;omega))|(refine bW ?_ ?_ <;> intro hg hq <;> try (exfalso;omega))|refine dT ?_|fail)
 ·(refine ⟨?_, rfl⟩; simp only [aN, AV.v.injEq, Value.bool.injEq, Value.int.injEq, true_and])
  unfold b8;grind [mK,mI]
 ·(refine bC (k + 1) (Le.renA []) ?_ ?_)
  ·grind
  ·omega
 ·(refine ⟨?_, rfl⟩; simp only [aN, AV.v.injEq, Value.bool.injEq, Value.int.injEq, true_and])
  unfold b8;grind [mK,mI]
 ·(refine ⟨?_, rfl⟩; simp only [aN, AV.v.injEq, Value.bool.injEq, Value.int.injEq, true_and])
  unfold b8;grind [mK,mI]
theorem gG (p:Prg) (hl:p.types.length ≤ 1000000) (hs:bE p.body ≤ 100000000):PC Tryz.prog 61 [cE p] (fun r => r = bv (bD p)):=by
 unfold bD
 cases ht : b8 p.types
 ·refine aC Tryz.func61 Tryz.ntmps61 ?_
  repeat' (first|(apply aF;(apply aA (k := 127);rfl;(apply xB <;> (assumption));exact Pur.pf;rfl))|refine aE ?_|refine dT ?_|fail)
  (refine ⟨?_,rfl⟩; simp only [aN,AV.v.injEq,Value.bool.injEq,Value.int.injEq,true_and])
  rfl
 ·refine aC Tryz.func61 Tryz.ntmps61 ?_
  repeat' (first|(apply aF;(first|(apply aA (k := 127);rfl;(apply xB <;> (assumption));exact Pur.pf;rfl)|(apply aA (k := 128);rfl;(apply Ip <;> (first|assumption|omega));exact Pur.pf;rfl)|(apply aA (k := 129);rfl;(apply Ex <;> (first|assumption|omega));exact Pur.pf;rfl)))|refine aE ?_|(refine bW ?_ ?_ <;> intro hg hq <;> try (exfalso;omega))|refine dT ?_|fail)
  ·(refine ⟨?_, rfl⟩; simp only [aN, AV.v.injEq, Value.bool.injEq, Value.int.injEq, true_and])
   rw [show okL p.types 4 p.body = true from hq]; simp only [Bool.true_and,M7,decide_eq_decide]; omega
  ·(refine ⟨?_, rfl⟩; simp only [aN, AV.v.injEq, Value.bool.injEq, Value.int.injEq, true_and])
   rw [show okL p.types 4 p.body = false from hq]; rfl
end Go.Proofs.YtahdccneecdmmaaGreat
namespace Go.Proofs.YtahdccneecdmmaaGreat
open Go.AL Go.RowKit
variable {N : Nat} {Q : Exit → AS → Prop} {all : Array Oper} {rest : List Oper} {tsl : List (Nat × AV)} {hsl : List (Nat × Option (List AV))} {nidl : Nat} {z0 : Lo} {md : Md} {d : Nat} {ty : TypeId} {pos : String} {af : Array Edge} {tys : Array TypeId}
theorem K3 {ts:List Int}{s:AL.Stmt}{nest c:Int}{x0 x1 x2 x3:Operand}{i0:Nat}(ha0:ev (lk tsl) x0 = some (sl cI ts)) (ha1:ev (lk tsl) x1 = some (iJ s)) (ha2:ev (lk tsl) x2 = some (iv nest)) (ha3:ev (lk tsl) x3 = some (.optr i0 0)) (hH0:aQ hsl i0 = some ([iv c])) (hmc:MC Tryz.prog 180 [sl cI ts,iJ s,iv nest,.optr 0 0] [(0,some ([iv c]))] 1 (fun _:Unit => True) (fun _ => bv (lH ts nest c s).1) (fun _ => [(0,some ([iv (lH ts nest c s).2]))])) (hM:Nat.ble (nidl + 0) aT = true) (hN:Nat.blt d N = true){md':Md}[hmd:MdA md (fJ [x0,x1,x2,x3] ++ [.inr i0]) (List.map Sum.inr (List.map Prod.fst ([(i0,some ([iv (lH ts nest c s).2]))]:List (Nat × Option (List AV)))) ++ [.inl d]) md'] (kk:RW Tryz.prog N all Q md' rest ⟨(d,bv (lH ts nest c s).1) :: tsl,iA hsl [(i0,some ([iv (lH ts nest c s).2]))],nidl + 0,z0⟩):RW Tryz.prog N all Q md (⟨some d,.call ⟨.value (.func 180),#[x0,x1,x2,x3],tys⟩,ty,pos,af,none⟩ :: rest) ⟨tsl,hsl,nidl,z0⟩:=by
 exact a6 (l := [x0,x1,x2,x3]) [i0] 1 [(i0,some ([iv (lH ts nest c s).2]))] hmc (avs := [sl cI ts,iJ s,iv nest,.optr i0 0]) (by simp only [evL,ha0,ha1,ha2,ha3]) rfl hM hN (md' := md') (hmd := hmd) kk
theorem uT {ts:List Int}{l:List AL.Stmt}{nest c:Int}{x0 x1 x2 x3:Operand}{i0:Nat}(ha0:ev (lk tsl) x0 = some (sl cI ts)) (ha1:ev (lk tsl) x1 = some (sl bF l)) (ha2:ev (lk tsl) x2 = some (iv nest)) (ha3:ev (lk tsl) x3 = some (.optr i0 0)) (hH0:aQ hsl i0 = some ([iv c])) (hmc:MC Tryz.prog 101 [sl cI ts,sl bF l,iv nest,.optr 0 0] [(0,some ([iv c]))] 1 (fun _:Unit => True) (fun _ => bv (j6 ts nest c l).1) (fun _ => [(0,some ([iv (j6 ts nest c l).2]))])) (hM:Nat.ble (nidl + 0) aT = true) (hN:Nat.blt d N = true){md':Md}[hmd:MdA md (fJ [x0,x1,x2,x3] ++ [.inr i0]) (List.map Sum.inr (List.map Prod.fst ([(i0,some ([iv (j6 ts nest c l).2]))]:List (Nat × Option (List AV)))) ++ [.inl d]) md'] (kk:RW Tryz.prog N all Q md' rest ⟨(d,bv (j6 ts nest c l).1) :: tsl,iA hsl [(i0,some ([iv (j6 ts nest c l).2]))],nidl + 0,z0⟩):RW Tryz.prog N all Q md (⟨some d,.call ⟨.value (.func 101),#[x0,x1,x2,x3],tys⟩,ty,pos,af,none⟩ :: rest) ⟨tsl,hsl,nidl,z0⟩:=by
 exact a6 (l := [x0,x1,x2,x3]) [i0] 1 [(i0,some ([iv (j6 ts nest c l).2]))] hmc (avs := [sl cI ts,sl bF l,iv nest,.optr i0 0]) (by simp only [evL,ha0,ha1,ha2,ha3]) rfl hM hN (md' := md') (hmd := hmd) kk
theorem Jx (ts:List Int) (htO:b8 ts = true) (m:Nat) (scanAll_ih:∀ l nest c,bE l < m → 0 ≤ nest → nest ≤ 4 → 0 ≤ c → c ≤ 30 → MC Tryz.prog 101 [sl cI ts,sl bF l,iv nest,.optr 0 0] [(0,some ([iv c]))] 1 (fun _:Unit => True) (fun _ => bv (j6 ts nest c l).1) (fun _ => [(0,some ([iv (j6 ts nest c l).2]))])) (s:AL.Stmt) (nest c:Int) (hs:fP s ≤ m) (hn0:0 ≤ nest) (hn:nest ≤ 4) (hc0:0 ≤ c) (hc:c ≤ 30):MC Tryz.prog 180 [sl cI ts,iJ s,iv nest,.optr 0 0] [(0,some ([iv c]))] 1 (fun _:Unit => True) (fun _ => bv (lH ts nest c s).1) (fun _ => [(0,some ([iv (lH ts nest c s).2]))]):=by
 have ct := qC s
 have hb1 := Mk ts s.th (nest + 1) (c + 1)
 refine aU Tryz.func180 Tryz.ntmps180 ?_
 repeat' (first|(apply aF;(first|(apply uT;rfl;rfl;rfl;rfl;(rfl);(apply scanAll_ih <;> (first|assumption|omega|grind));rfl;rfl)|(apply aA (k := 230);rfl;(apply Da);(rfl);rfl)|(apply aA (k := 231);rfl;(apply Cv <;> (assumption));exact Pur.pf;rfl)))|refine aE ?_|(refine aK ?_ ?_ <;> intro hc hq <;> try (exfalso;omega))|(refine bW ?_ ?_ <;> intro hg hq <;> try (exfalso;omega))|fail)
 all_goals (refine aD rfl ?_; refine aS () trivial ?_ ⟨sE ?_,trivial⟩)
 all_goals (try simp only [aN,AV.v.injEq,Value.bool.injEq,Value.int.injEq,true_and,iB,List.take,List.drop,List.length,List.append,List.nil_append,List.append_nil,Option.some.injEq,List.cons.injEq,and_true])
 all_goals rw [J3]
 all_goals clear scanAll_ih
 all_goals (cases hel : s.el <;> simp only [hel,List.length_nil,List.length_cons] at * <;> grind)
theorem C4 (ts:List Int) (m:Nat) (hm:m ≤ 100000000) (scan_ih:∀ s nest c,fP s ≤ m → 0 ≤ nest → nest ≤ 4 → 0 ≤ c → c ≤ 30 → MC Tryz.prog 180 [sl cI ts,iJ s,iv nest,.optr 0 0] [(0,some ([iv c]))] 1 (fun _:Unit => True) (fun _ => bv (lH ts nest c s).1) (fun _ => [(0,some ([iv (lH ts nest c s).2]))])) (l:List AL.Stmt) (nest c:Int) (hs:bE l ≤ m) (hn0:0 ≤ nest) (hn:nest ≤ 4) (hc0:0 ≤ c) (hc:c ≤ 30):MC Tryz.prog 101 [sl cI ts,sl bF l,iv nest,.optr 0 0] [(0,some ([iv c]))] 1 (fun _:Unit => True) (fun _ => bv (j6 ts nest c l).1) (fun _ => [(0,some ([iv (j6 ts nest c l).2]))]):=by
 have hlen := jL l
 refine aU Tryz.func101 Tryz.ntmps101 ?_
 repeat' (first|refine aE ?_|fail)
 refine aH (σ := Nat × Int) [0,2,3,11,12] [] (fun k => [(13,iv (k.1 : Int))]) (fun k => [(0,some [iv k.2])]) (fun k => k.1 ≤ l.length ∧ j6 ts nest k.2 (l.drop k.1) = j6 ts nest c l ∧ 0 ≤ k.2 ∧ k.2 ≤ 30) (fun k => l.length - k.1) (0,c) ⟨by omega,rfl,by omega,by omega⟩ ?_
 rintro ⟨k,c'⟩ ⟨hk,hn,hn0,hn1⟩
 dsimp only at hk hn hn0 hn1 ⊢
 have hck := mR l k
 have hb1 := MT ts l[k]! nest c'
 have hst := @scL_stop ts nest c' l k
 repeat' (first|(apply aF;(apply K3;rfl;rfl;rfl;rfl;(rfl);(apply scan_ih <;> (first|assumption|omega));rfl;rfl))|refine aE ?_|(refine aK ?_ ?_ <;> intro hc hq <;> try (exfalso;omega))|fail)
 ·(refine aD rfl ?_; refine aS () trivial ?_ ⟨sE ?_, trivial⟩)
  all_goals (try simp only [aN,AV.v.injEq,Value.bool.injEq,Value.int.injEq,true_and,iB,List.take,List.drop,List.length,List.append,List.nil_append,List.append_nil,Option.some.injEq,List.cons.injEq,and_true])
  all_goals (rw [← hn,hst (by omega)]; grind)
 ·(refine bC (k + 1, (lH ts nest c' l[k]!).2) (Le.renA []) ?_ ?_)
  ·dsimp only;grind
  ·dsimp only;omega
 ·(refine aD rfl ?_; refine aS () trivial ?_ ⟨sE ?_, trivial⟩)
  all_goals (try simp only [aN,AV.v.injEq,Value.bool.injEq,Value.int.injEq,true_and,iB,List.take,List.drop,List.length,List.append,List.nil_append,List.append_nil,Option.some.injEq,List.cons.injEq,and_true])
  all_goals (rw [← hn,List.drop_of_length_le (by omega),j6])
theorem EU (ts:List Int) (hl:b8 ts = true):∀ (m:Nat),m ≤ 100000000 → (∀ s (nest c:Int),fP s ≤ m → 0 ≤ nest → nest ≤ 4 → 0 ≤ c → c ≤ 30 → MC Tryz.prog 180 [sl cI ts,iJ s,iv nest,.optr 0 0] [(0,some ([iv c]))] 1 (fun _:Unit => True) (fun _ => bv (lH ts nest c s).1) (fun _ => [(0,some ([iv (lH ts nest c s).2]))])) ∧
  (∀ l (nest c : Int),bE l ≤ m → 0 ≤ nest → nest ≤ 4 → 0 ≤ c → c ≤ 30 → MC Tryz.prog 101 [sl cI ts,sl bF l,iv nest,.optr 0 0] [(0,some ([iv c]))] 1 (fun _ : Unit => True) (fun _ => bv (j6 ts nest c l).1) (fun _ => [(0,some ([iv (j6 ts nest c l).2]))])) := by
 intro m
 induction m using Nat.strongRecOn with
 | ind m ih =>
  intro hm
  have h1 : ∀ s (nest c : Int), fP s ≤ m → 0 ≤ nest → nest ≤ 4 → 0 ≤ c → c ≤ 30 → MC Tryz.prog 180 [sl cI ts, iJ s, iv nest, .optr 0 0] [(0, some ([iv c]))] 1 (fun _ : Unit => True) (fun _ => bv (lH ts nest c s).1) (fun _ => [(0, some ([iv (lH ts nest c s).2]))]) :=
   fun s nest c h1 h2 h3 h4 h5 => Jx ts hl m (fun l nest c g1 g2 g3 g4 g5 => (ih (bE l) g1 (by omega)).2 l nest c (Nat.le_refl _) g2 g3 g4 g5) s nest c h1 h2 h3 h4 h5
  exact ⟨h1,fun l nest c g1 g2 g3 g4 g5 => C4 ts m hm h1 l nest c g1 g2 g3 g4 g5⟩
theorem ET (ts:List Int) (l:List AL.Stmt) (nest c:Int) (hl:b8 ts = true) (hs:bE l ≤ 100000000) (hn0:0 ≤ nest) (hn:nest ≤ 4) (hc0:0 ≤ c) (hc:c ≤ 30):MC Tryz.prog 101 [sl cI ts,sl bF l,iv nest,.optr 0 0] [(0,some ([iv c]))] 1 (fun _:Unit => True) (fun _ => bv (j6 ts nest c l).1) (fun _ => [(0,some ([iv (j6 ts nest c l).2]))]) :=
 (EU ts hl _ hs).2 l nest c (Nat.le_refl _) hn0 hn hc0 hc
theorem CF (t:Int):PC Tryz.prog 179 [iv t] (fun r => r = bv (!(decide (1 ≤ t) && decide (t ≤ 4)))):=by
 refine aC Tryz.func179 Tryz.ntmps179 ?_
 repeat' (first|(apply aF;(apply aA (k := 54);rfl;(apply dG);(rfl);rfl))|refine aE ?_|refine dT ?_|fail)
 all_goals (refine ⟨?_,rfl⟩; simp only [aN,AV.v.injEq,Value.bool.injEq,Value.int.injEq,true_and])
def tT (ts : List Int) : Int := match ts.findIdx? (fun t => !(decide (1 ≤ t) && decide (t ≤ 4))) with | some i => i | none => -1
theorem GN (ts:List Int) (hl:ts.length ≤ 1000000):PC Tryz.prog 216 [sl cI ts,.v (.func (.func 179) #[] #[])] (fun r => r = iv (tT ts)):=by
 refine aC Tryz.func216 Tryz.ntmps216 ?_
 repeat' (first|refine aE ?_|fail)
 refine aH (σ := Nat) [0,1,7] [] (fun k => [(8,iv (k : Int))]) (fun k => []) (fun k => k ≤ ts.length ∧ ∀ i,i < k → 1 ≤ ts[i]! ∧ ts[i]! ≤ 4) (fun k => ts.length - k) (0) ⟨by omega,by omega⟩ ?_
 intro k ⟨hk,hall⟩
 repeat' (first|(apply aF;(apply gI;rfl;rfl;infer_instance;rfl;(apply CF);(rfl);rfl))|refine aE ?_|(refine aK ?_ ?_ <;> intro hc hq <;> try (exfalso;omega))|refine dT ?_|fail)
 ·(refine ⟨?_, rfl⟩; simp only [aN, AV.v.injEq, Value.bool.injEq, Value.int.injEq, true_and])
  have hlt : k < ts.length := by omega
  have : ts.findIdx? (fun t => !(decide (1 ≤ t) && decide (t ≤ 4))) = some k := by
   rw [List.findIdx?_eq_some_iff_getElem]
   refine ⟨hlt,?_,fun j hj => ?_⟩
   ·rw [← a7 ts k hlt]; grind
   ·have := hall j hj;rw [a7 ts j (by omega)] at this;simp;omega
  simp only [tT,this]
 ·(refine bC (k + 1) (Le.renA []) ?_ ?_)
  ·grind
  ·omega
 ·(refine ⟨?_, rfl⟩; simp only [aN, AV.v.injEq, Value.bool.injEq, Value.int.injEq, true_and])
  have : ts.findIdx? (fun t => !(decide (1 ≤ t) && decide (t ≤ 4))) = none := by
   rw [List.findIdx?_eq_none_iff]
   intro x hx
   obtain ⟨i,hi,rfl⟩ := List.getElem_of_mem hx
   have := hall i (by omega);rw [a7 ts i hi] at this;simp;omega
  simp only [tT,this]
theorem FL (ts:List Int):decide (0 ≤ tT ts) = !(ts.all (fun t => decide (1 ≤ t) && decide (t ≤ 4))):=by
 unfold tT
 split
 ·rename_i i h
  obtain ⟨h1,h2,_⟩ := List.findIdx?_eq_some_iff_getElem.1 h
  have : ts.all (fun t => decide (1 ≤ t) && decide (t ≤ 4)) = false := by
   rw [List.all_eq_false]; exact ⟨ts[i],List.getElem_mem h1,by simp at h2 ⊢; omega⟩
  rw [this]; simp
 ·rename_i h
  rw [List.findIdx?_eq_none_iff] at h
  have : ts.all (fun t => decide (1 ≤ t) && decide (t ≤ 4)) = true := by
   rw [List.all_eq_true]; intro x hx;simpa using h x hx
  rw [this]; rfl
theorem FA (ts:List Int) (hl:ts.length ≤ 1000000):PC Tryz.prog 157 [sl cI ts,.v (.func (.func 179) #[] #[])] (fun r => r = bv (!(ts.all (fun t => decide (1 ≤ t) && decide (t ≤ 4))))):=by
 refine aC Tryz.func157 Tryz.ntmps157 ?_
 repeat' (first|(apply aF;(apply aA (k := 216);rfl;(apply GN <;> (assumption));exact Pur.pf;rfl))|refine aE ?_|refine dT ?_|fail)
 (refine ⟨?_,rfl⟩; simp only [aN,AV.v.injEq,Value.bool.injEq,Value.int.injEq,true_and])
 exact FL ts
theorem vH (ts:List Int) (hl:ts.length ≤ 1000000):PC Tryz.prog 100 [sl cI ts] (fun r => r = bv (b8 ts)):=by
 refine aC Tryz.func100 Tryz.ntmps100 ?_
 repeat' (first|(apply aF;(apply aA (k := 157);rfl;(apply FA <;> (assumption));exact Pur.pf;rfl))|refine aE ?_|(refine bW ?_ ?_ <;> intro hg hq <;> try (exfalso;omega))|refine dT ?_|fail)
 all_goals (refine ⟨?_,rfl⟩; simp only [aN,AV.v.injEq,Value.bool.injEq,Value.int.injEq,true_and])
 all_goals (unfold b8;grind)
theorem oI (p:Prg) (hl:p.types.length ≤ 1000000) (hs:bE p.body ≤ 100000000):PC Tryz.prog 39 [cE p] (fun r => r = bv (bD p)):=by
 rw [← FZ]
 cases ht : b8 p.types
 ·refine aC Tryz.func39 Tryz.ntmps39 ?_
  repeat' (first|(apply aF;(apply aA (k := 100);rfl;(apply vH <;> (assumption));exact Pur.pf;rfl))|refine aE ?_|refine dT ?_|fail)
  all_goals (refine ⟨?_,rfl⟩; simp only [aN,AV.v.injEq,Value.bool.injEq,Value.int.injEq,true_and])
  all_goals grind
 ·refine aC Tryz.func39 Tryz.ntmps39 ?_
  repeat' (first|(apply aF;(first|(apply aA (k := 100);rfl;(apply vH <;> (assumption));exact Pur.pf;rfl)|(apply uT;rfl;rfl;rfl;rfl;(rfl);(apply ET <;> (first|assumption|omega));rfl;rfl)))|refine aE ?_|refine dT ?_|fail)
  all_goals (refine ⟨?_,rfl⟩; simp only [aN,AV.v.injEq,Value.bool.injEq,Value.int.injEq,true_and])
  all_goals grind
theorem rJ {l:List AL.Stmt}{pts:List Pnt}{m:Nat}{x0 x1:Operand}{i0:Nat}(ha0:ev (lk tsl) x0 = some (sl bF l)) (ha1:ev (lk tsl) x1 = some (.own i0 0 m 5)) (hH0:aQ hsl i0 = some (flat cG pts)) (hmc:MC Tryz.prog 122 [sl bF l,.own 0 0 m 5] [(0,some (flat cG pts))] 1 (fun _:Unit => True) (fun _ => .own 1 0 (m + dA l) 5) (fun _ => [(1,some (flat cG (pts ++ fV pts.length l)))])) (hM:Nat.ble (nidl + 1) aT = true) (hN:Nat.blt d N = true){md':Md}[hmd:MdA md (fJ [x0,x1] ++ [.inr i0]) (List.map Sum.inr (List.map Prod.fst ([(nidl,some (flat cG (pts ++ fV pts.length l))),(i0,none)]:List (Nat × Option (List AV)))) ++ [.inl d]) md'] (kk:RW Tryz.prog N all Q md' rest ⟨(d,.own nidl 0 (m + dA l) 5) :: tsl,iA hsl [(nidl,some (flat cG (pts ++ fV pts.length l))),(i0,none)],nidl + 1,z0⟩):RW Tryz.prog N all Q md (⟨some d,.call ⟨.value (.func 122),#[x0,x1],tys⟩,ty,pos,af,none⟩ :: rest) ⟨tsl,hsl,nidl,z0⟩:=by
 exact a6 (l := [x0,x1]) [i0] 2 [(nidl,some (flat cG (pts ++ fV pts.length l))),(i0,none)] hmc (avs := [sl bF l,.own i0 0 m 5]) (by simp only [evL,ha0,ha1]) rfl hM hN (md' := md') (hmd := hmd) kk
theorem BP (mm:Nat) (hmm:mm ≤ 1000000) (pointsOf_ih:∀ l pts m,bE l < mm → m = pts.length → m + dA l ≤ 12000000 → MC Tryz.prog 122 [sl bF l,.own 0 0 m 5] [(0,some (flat cG pts))] 1 (fun _:Unit => True) (fun _ => .own 1 0 (m + dA l) 5) (fun _ => [(1,some (flat cG (pts ++ fV pts.length l)))])) (l:List AL.Stmt) (pts:List Pnt) (m:Nat) (hs:bE l ≤ mm) (hm:m = pts.length) (hb:m + dA l ≤ 12000000):MC Tryz.prog 122 [sl bF l,.own 0 0 m 5] [(0,some (flat cG pts))] 1 (fun _:Unit => True) (fun _ => .own 1 0 (m + dA l) 5) (fun _ => [(1,some (flat cG (pts ++ fV pts.length l)))]):=by
 have hlen := jL l
 subst hm
 refine aU Tryz.func122 Tryz.ntmps122 ?_
 repeat' (first|refine aE ?_|fail)
 refine AW.le ?_ (Le.mv (d := 1) (i := 0) (cs := flat cG pts) rfl rfl (by decide))
 refine aH (σ := Nat × List Pnt × Nat) [9,10] [] (fun k => [(11,iv (k.1 : Int)),(1,.own 1 0 k.2.2 5)]) (fun k => [(1,some (flat cG k.2.1))]) (fun k => k.1 ≤ l.length ∧ k.2.1 = pts ++ fV pts.length (l.take k.1) ∧ k.2.2 = k.2.1.length ∧ k.2.2 = pts.length + dA (l.take k.1)) (fun k => l.length - k.1) (0,pts,pts.length) ⟨by omega,by simp [fV],rfl,by simp [dA]⟩ ?_
 rintro ⟨k,xs,m1⟩ ⟨hk,hxs,hm1,hm2⟩
 dsimp only at hk hxs hm1 hm2 ⊢
 have hck := mR l k
 have hct := qC l[k]!
 have hnt := Db l k
 have n9 := Hm l[k]!
 have n10 := CK l[k]!
 have n1 := HS l[k]!
 repeat' (first|(apply aF;first|(apply aM (t := _);rfl;rfl;rfl;(first|exact (rfl:_=some [_])|exact (rfl:_=some [_,_])|exact (rfl:_=some [_,_,_,_,_]));rfl;rfl)|(apply rJ;rfl;rfl;(rfl);(apply pointsOf_ih <;> (first|omega|(simp only [gD] <;> omega)));rfl;rfl))|refine aE ?_|(refine aK ?_ ?_ <;> intro hc hq <;> try (exfalso;omega))|fail)
 ·(refine bC (k + 1, _, _) (Le.renA [(1, 8)]) ?_ ?_)
  ·dsimp only
   rw [zZ hm1,yN hm1,yJ (by rw [bX,hm1]),yA (by rw [bX,hm1]),gB l _ k (by omega),fK l k (by omega),iO,if_pos hq,n9 hq]
   refine ⟨by omega,?_,by simp [bX]; omega,by omega⟩
   have e1 : xs.length = pts.length + dA (l.take k) := by omega
   rw [← List.append_assoc pts,← hxs,← e1]
   simp only [List.append_assoc,List.length_append,List.length_cons,List.length_nil,bX,hm1,Nat.zero_add]
   clear pointsOf_ih hxs hck hnt n9 n10 n1
   grind
  ·dsimp only;omega
 ·(refine bC (k + 1, _, _) (Le.renA [(1, 8)]) ?_ ?_)
  ·dsimp only
   rw [B9 hm1,Dj hm1,gB l _ k (by omega),fK l k (by omega),iO,if_neg (by omega),if_pos hq,n10 hq]
   refine ⟨by omega,?_,by simp [bX]; omega,by omega⟩
   have e1 : xs.length = pts.length + dA (l.take k) := by omega
   rw [← List.append_assoc pts,← hxs,← e1]
   simp only [List.append_assoc,List.length_append,List.length_cons,List.length_nil,bX,hm1,Nat.zero_add]
   clear pointsOf_ih hxs hck hnt n9 n10 n1
   grind
  ·dsimp only;omega
 ·(refine bC (k + 1, _, _) (Le.renA [(1, 5)]) ?_ ?_)
  ·dsimp only
   rw [gB l _ k (by omega),fK l k (by omega),iO,if_neg ‹¬l[k]!.op = 9›,if_neg hq,n1 ‹¬l[k]!.op = 9› hq]
   refine ⟨by omega,?_,by simp [bX]; omega,by omega⟩
   have e1 : xs.length = pts.length + dA (l.take k) := by omega
   rw [← List.append_assoc pts,← hxs,← e1,hm1]
  ·dsimp only;omega
 ·refine aD rfl ?_
  have e2 : l.take k = l := List.take_of_length_le (by omega)
  rw [e2] at hxs hm2
  refine aS () trivial ?_ ⟨sE ?_,trivial⟩
  ·simp only [aN]; rw [hm2]
  ·rw [hxs]
theorem BZ (l:List AL.Stmt) (pts:List Pnt) (m:Nat) (hs:bE l ≤ 1000000) (hm:m = pts.length) (hb:m + dA l ≤ 12000000):MC Tryz.prog 122 [sl bF l,.own 0 0 m 5] [(0,some (flat cG pts))] 1 (fun _:Unit => True) (fun _ => .own 1 0 (m + dA l) 5) (fun _ => [(1,some (flat cG (pts ++ fV pts.length l)))]):=by
 have h : ∀ (mm : Nat), mm ≤ 1000000 → ∀ l pts m, bE l ≤ mm → m = pts.length → m + dA l ≤ 12000000 → MC Tryz.prog 122 [sl bF l, .own 0 0 m 5] [(0, some (flat cG pts))] 1 (fun _ : Unit => True) (fun _ => .own 1 0 (m + dA l) 5) (fun _ => [(1, some (flat cG (pts ++ fV pts.length l)))]) := by
  intro mm
  induction mm using Nat.strongRecOn with
  | ind mm ih =>
   intro h0 l pts m h1 h2 h3
   exact BP mm h0 (fun l' pts' m' g1 g2 g3 => ih _ g1 (by omega) l' pts' m' (Nat.le_refl _) g2 g3) l pts m h1 h2 h3
 exact h _ hs l pts m (Nat.le_refl _) hm hb
theorem zY {l:List AL.Stmt}{x0 x1:Operand}(ha0:ev (lk tsl) x0 = some (sl bF l)) (ha1:ev (lk tsl) x1 = some (.v (.slice none 0 0))) (hmc:MC Tryz.prog 122 [sl bF l,.v (.slice none 0 0)] [] 0 (fun _:Unit => True) (fun _ => .own 0 0 (dA l) 5) (fun _ => [(0,some (flat cG (fV 0 l)))])) (hM:Nat.ble (nidl + 1) aT = true) (hN:Nat.blt d N = true){md':Md}[hmd:MdA md (fJ [x0,x1] ++ []) (List.map Sum.inr (List.map Prod.fst ([(nidl,some (flat cG (fV 0 l)))]:List (Nat × Option (List AV)))) ++ [.inl d]) md'] (kk:RW Tryz.prog N all Q md' rest ⟨(d,.own nidl 0 (dA l) 5) :: tsl,iA hsl [(nidl,some (flat cG (fV 0 l)))],nidl + 1,z0⟩):RW Tryz.prog N all Q md (⟨some d,.call ⟨.value (.func 122),#[x0,x1],tys⟩,ty,pos,af,none⟩ :: rest) ⟨tsl,hsl,nidl,z0⟩:=by
 exact a6 (l := [x0,x1]) [] 1 [(nidl,some (flat cG (fV 0 l)))] hmc (avs := [sl bF l,.v (.slice none 0 0)]) (by simp only [evL,ha0,ha1]) rfl hM hN (md' := md') (hmd := hmd) kk
theorem BR (l:List AL.Stmt) (hs:bE l ≤ 1000000):MC Tryz.prog 122 [sl bF l,.v (.slice none 0 0)] [] 0 (fun _:Unit => True) (fun _ => .own 0 0 (dA l) 5) (fun _ => [(0,some (flat cG (fV 0 l)))]):=by
 have hlen := jL l
 have hn2 := mD l
 refine aU Tryz.func122 Tryz.ntmps122 ?_
 repeat' (first|refine aE ?_|fail)
 refine AW.le ?_ (Le.nilOwn (d := 1) 5 rfl (by decide))
 refine aH (σ := Nat × List Pnt × Nat) [9,10] [] (fun k => [(11,iv (k.1 : Int)),(1,.own 0 0 k.2.2 5)]) (fun k => [(0,some (flat cG k.2.1))]) (fun k => k.1 ≤ l.length ∧ k.2.1 = fV 0 (l.take k.1) ∧ k.2.2 = k.2.1.length ∧ k.2.2 = dA (l.take k.1)) (fun k => l.length - k.1) (0,[],0) ⟨by omega,by simp [fV],rfl,by simp [dA]⟩ ?_
 rintro ⟨k,xs,m1⟩ ⟨hk,hxs,hm1,hm2⟩
 dsimp only at hk hxs hm1 hm2 ⊢
 have hck := mR l k
 have hct := qC l[k]!
 have hnt := Db l k
 have n9 := Hm l[k]!
 have n10 := CK l[k]!
 have n1 := HS l[k]!
 repeat' (first|(apply aF;first|(apply aM (t := _);rfl;rfl;rfl;(first|exact (rfl:_=some [_])|exact (rfl:_=some [_,_])|exact (rfl:_=some [_,_,_,_,_]));rfl;rfl)|(apply rJ;rfl;rfl;(rfl);(apply BZ <;> (first|omega|(simp only [gD] <;> omega)));rfl;rfl))|refine aE ?_|(refine aK ?_ ?_ <;> intro hc hq <;> try (exfalso;omega))|fail)
 ·(refine bC (k + 1, _, _) (Le.renA [(0, 7)]) ?_ ?_)
  ·dsimp only
   rw [zZ hm1,yN hm1,yJ (by rw [bX,hm1]),yA (by rw [bX,hm1]),gB l _ k (by omega),fK l k (by omega),iO,if_pos hq,n9 hq]
   refine ⟨by omega,?_,by simp [bX]; omega,by omega⟩
   have e1 : dA (l.take k) = xs.length := by omega
   rw [Nat.zero_add,e1]
   rw [← hxs]
   simp only [List.append_assoc,List.length_append,List.length_cons,List.length_nil,bX,hm1,Nat.zero_add]
   clear hxs hck hnt n9 n10 n1
   grind
  ·dsimp only;omega
 ·(refine bC (k + 1, _, _) (Le.renA [(0, 7)]) ?_ ?_)
  ·dsimp only
   rw [B9 hm1,Dj hm1,gB l _ k (by omega),fK l k (by omega),iO,if_neg (by omega),if_pos hq,n10 hq]
   refine ⟨by omega,?_,by simp [bX]; omega,by omega⟩
   have e1 : dA (l.take k) = xs.length := by omega
   rw [Nat.zero_add,e1]
   rw [← hxs]
   simp only [List.append_assoc,List.length_append,List.length_cons,List.length_nil,bX,hm1,Nat.zero_add]
   clear hxs hck hnt n9 n10 n1
   grind
  ·dsimp only;omega
 ·(refine bC (k + 1, _, _) (Le.renA [(0, 4)]) ?_ ?_)
  ·dsimp only
   rw [gB l _ k (by omega),fK l k (by omega),iO,if_neg ‹¬l[k]!.op = 9›,if_neg hq,n1 ‹¬l[k]!.op = 9› hq]
   refine ⟨by omega,?_,by simp [bX]; omega,by omega⟩
   have e1 : dA (l.take k) = xs.length := by omega
   rw [Nat.zero_add,e1]
   rw [← hxs,hm1]
  ·dsimp only;omega
 ·refine aD rfl ?_
  have e2 : l.take k = l := List.take_of_length_le (by omega)
  rw [e2] at hxs hm2
  refine aS () trivial ?_ ⟨sE ?_,trivial⟩
  ·simp only [aN]; rw [hm2]
  ·rw [hxs]
theorem IZ (p:Prg) (hs:bE p.body ≤ 1000000):PC Tryz.prog 80 [cE p] (fun r => r = sl cG (aB p)):=by
 have hn := mD p.body
 refine aC Tryz.func80 Tryz.ntmps80 ?_
 repeat' (first|(apply aF;first|(apply aM (t := _);rfl;rfl;rfl;(exact (rfl:_=some [_,_,_,_,_]));rfl;rfl)|(apply zY;rfl;rfl;(apply BR <;> (assumption));rfl;rfl))|refine aE ?_|fail)
 (refine aV (Le.frzD (d := 2) (i := 3) rfl rfl) ?_; refine aD rfl ?_)
 refine ⟨?_,?_⟩
 ·simp only [aN,sl,aB,List.length_append,List.length_cons,List.length_nil,bX,Nat.zero_add]
 ·(exact a8 _ _)
theorem AQ {l:List AL.Stmt}{pts:List Pnt}{m:Nat}{x0 x1:Operand}{i0:Nat}(ha0:ev (lk tsl) x0 = some (.own i0 0 m 5)) (ha1:ev (lk tsl) x1 = some (sl bF l)) (hH0:aQ hsl i0 = some (flat cG pts)) (hmc:MC Tryz.prog 130 [.own 0 0 m 5,sl bF l] [(0,some (flat cG pts))] 1 (fun _:Unit => True) (fun _ => .own 1 0 (m + dA l) 5) (fun _ => [(1,some (flat cG (pts ++ fV pts.length l)))])) (hM:Nat.ble (nidl + 1) aT = true) (hN:Nat.blt d N = true){md':Md}[hmd:MdA md (fJ [x0,x1] ++ [.inr i0]) (List.map Sum.inr (List.map Prod.fst ([(nidl,some (flat cG (pts ++ fV pts.length l))),(i0,none)]:List (Nat × Option (List AV)))) ++ [.inl d]) md'] (kk:RW Tryz.prog N all Q md' rest ⟨(d,.own nidl 0 (m + dA l) 5) :: tsl,iA hsl [(nidl,some (flat cG (pts ++ fV pts.length l))),(i0,none)],nidl + 1,z0⟩):RW Tryz.prog N all Q md (⟨some d,.call ⟨.value (.func 130),#[x0,x1],tys⟩,ty,pos,af,none⟩ :: rest) ⟨tsl,hsl,nidl,z0⟩:=by
 exact a6 (l := [x0,x1]) [i0] 2 [(nidl,some (flat cG (pts ++ fV pts.length l))),(i0,none)] hmc (avs := [.own i0 0 m 5,sl bF l]) (by simp only [evL,ha0,ha1]) rfl hM hN (md' := md') (hmd := hmd) kk
theorem Gx (mm:Nat) (hmm:mm ≤ 1000000) (l2Add_ih:∀ l pts m,bE l < mm → m = pts.length → m + dA l ≤ 12000000 → MC Tryz.prog 130 [.own 0 0 m 5,sl bF l] [(0,some (flat cG pts))] 1 (fun _:Unit => True) (fun _ => .own 1 0 (m + dA l) 5) (fun _ => [(1,some (flat cG (pts ++ fV pts.length l)))])) (l:List AL.Stmt) (pts:List Pnt) (m:Nat) (hs:bE l ≤ mm) (hm:m = pts.length) (hb:m + dA l ≤ 12000000):MC Tryz.prog 130 [.own 0 0 m 5,sl bF l] [(0,some (flat cG pts))] 1 (fun _:Unit => True) (fun _ => .own 1 0 (m + dA l) 5) (fun _ => [(1,some (flat cG (pts ++ fV pts.length l)))]):=by
 have hlen := jL l
 subst hm
 refine aU Tryz.func130 Tryz.ntmps130 ?_
 repeat' (first|refine aE ?_|fail)
 refine AW.le ?_ (Le.mv (d := 0) (i := 0) (cs := flat cG pts) rfl rfl (by decide))
 refine aH (σ := Nat × List Pnt × Nat) [1] [] (fun k => [(5,iv (k.1 : Int)),(0,.own 1 0 k.2.2 5)]) (fun k => [(1,some (flat cG k.2.1))]) (fun k => k.1 ≤ l.length ∧ k.2.1 = pts ++ fV pts.length (l.take k.1) ∧ k.2.2 = k.2.1.length ∧ k.2.2 = pts.length + dA (l.take k.1)) (fun k => l.length - k.1) (0,pts,pts.length) ⟨by omega,by simp [fV],rfl,by simp [dA]⟩ ?_
 rintro ⟨k,xs,m1⟩ ⟨hk,hxs,hm1,hm2⟩
 dsimp only at hk hxs hm1 hm2 ⊢
 have hck := mR l k
 have hct := qC l[k]!
 have hnt := Db l k
 have n9 := Hm l[k]!
 have n10 := CK l[k]!
 have n1 := HS l[k]!
 repeat' (first|(apply aF;first|(apply aM (t := _);rfl;rfl;rfl;(first|exact (rfl:_=some [_])|exact (rfl:_=some [_,_])|exact (rfl:_=some [_,_,_,_,_]));rfl;rfl)|(apply AQ;rfl;rfl;(rfl);(apply l2Add_ih <;> (first|omega|(simp only [gD] <;> omega)));rfl;rfl))|refine aE ?_|(refine aK ?_ ?_ <;> intro hc hq <;> try (exfalso;omega))|fail)
 ·(refine bC (k + 1, _, _) (Le.renA [(1, 8)]) ?_ ?_)
  ·dsimp only
   rw [yJ (by rw [bX,hm1]),yA (by rw [bX,hm1]),zZ hm1,yN hm1,gB l _ k (by omega),fK l k (by omega),iO,if_pos hq,n9 hq]
   refine ⟨by omega,?_,by simp [bX]; omega,by omega⟩
   have e1 : xs.length = pts.length + dA (l.take k) := by omega
   rw [← List.append_assoc pts,← hxs,← e1]
   simp only [List.append_assoc,List.length_append,List.length_cons,List.length_nil,bX,hm1,Nat.zero_add]
   clear l2Add_ih hxs hck hnt n9 n10 n1
   grind
  ·dsimp only;omega
 ·(refine bC (k + 1, _, _) (Le.renA [(1, 8)]) ?_ ?_)
  ·dsimp only
   rw [B9 hm1,Dj hm1,gB l _ k (by omega),fK l k (by omega),iO,if_neg (by omega),if_pos hq,n10 hq]
   refine ⟨by omega,?_,by simp [bX]; omega,by omega⟩
   have e1 : xs.length = pts.length + dA (l.take k) := by omega
   rw [← List.append_assoc pts,← hxs,← e1]
   simp only [List.append_assoc,List.length_append,List.length_cons,List.length_nil,bX,hm1,Nat.zero_add]
   clear l2Add_ih hxs hck hnt n9 n10 n1
   grind
  ·dsimp only;omega
 ·(refine bC (k + 1, _, _) (Le.renA [(1, 5)]) ?_ ?_)
  ·dsimp only
   rw [gB l _ k (by omega),fK l k (by omega),iO,if_neg ‹¬l[k]!.op = 9›,if_neg hq,n1 ‹¬l[k]!.op = 9› hq]
   refine ⟨by omega,?_,by simp [bX]; omega,by omega⟩
   have e1 : xs.length = pts.length + dA (l.take k) := by omega
   rw [← List.append_assoc pts,← hxs,← e1,hm1]
  ·dsimp only;omega
 ·refine aD rfl ?_
  have e2 : l.take k = l := List.take_of_length_le (by omega)
  rw [e2] at hxs hm2
  refine aS () trivial ?_ ⟨sE ?_,trivial⟩
  ·simp only [aN]; rw [hm2]
  ·rw [hxs]
theorem Lk (l:List AL.Stmt) (pts:List Pnt) (m:Nat) (hs:bE l ≤ 1000000) (hm:m = pts.length) (hb:m + dA l ≤ 12000000):MC Tryz.prog 130 [.own 0 0 m 5,sl bF l] [(0,some (flat cG pts))] 1 (fun _:Unit => True) (fun _ => .own 1 0 (m + dA l) 5) (fun _ => [(1,some (flat cG (pts ++ fV pts.length l)))]):=by
 have h : ∀ (mm : Nat), mm ≤ 1000000 → ∀ l pts m, bE l ≤ mm → m = pts.length → m + dA l ≤ 12000000 → MC Tryz.prog 130 [.own 0 0 m 5, sl bF l] [(0, some (flat cG pts))] 1 (fun _ : Unit => True) (fun _ => .own 1 0 (m + dA l) 5) (fun _ => [(1, some (flat cG (pts ++ fV pts.length l)))]) := by
  intro mm
  induction mm using Nat.strongRecOn with
  | ind mm ih =>
   intro h0 l pts m h1 h2 h3
   exact Gx mm h0 (fun l' pts' m' g1 g2 g3 => ih _ g1 (by omega) l' pts' m' (Nat.le_refl _) g2 g3) l pts m h1 h2 h3
 exact h _ hs l pts m (Nat.le_refl _) hm hb
theorem dF (p:Prg) (hs:bE p.body ≤ 1000000):PC Tryz.prog 132 [cE p] (fun r => r = sl cG (aB p)):=by
 have hn := mD p.body
 have e0 : ([] : List AV) = flat cG [] := rfl
 refine aC Tryz.func132 Tryz.ntmps132 ?_
 repeat' (first|(apply aF;(apply AQ;rfl;rfl;(exact EY rfl);(apply Lk <;> (first|assumption|omega|(simp only [gD] <;> omega)));rfl;rfl))|refine aE ?_|fail)
 (refine aV (Le.frzD (d := 2) (i := 4) rfl rfl) ?_; refine aD rfl ?_)
 refine ⟨?_,(by (exact a8 _ _))⟩
 simp only [aN,sl,aB,List.length_append,List.length_cons,List.length_nil,bX,Nat.zero_add,List.nil_append]
theorem zH (ts:List Int) (bd:List AL.Stmt) (pts:List Pnt) (v:Int) (h:0 ≤ v ∧ v < ts.length):PC Tryz.prog 199 [aG ts bd pts,iv v] (fun r => r = bv (vM ts[v.toNat]!)):=by
 refine aC Tryz.func199 Tryz.ntmps199 ?_
 repeat' (first|refine aE ?_|(refine bW ?_ ?_ <;> intro hg hq <;> try (exfalso;omega))|refine dT ?_|fail)
 all_goals (refine ⟨?_,rfl⟩; simp only [aN,AV.v.injEq,Value.bool.injEq,Value.int.injEq,true_and])
 all_goals grind [vM]
theorem OB (ts:List Int) (bd:List AL.Stmt) (pts:List Pnt) (x:Pnt) (v:Int) (h:0 ≤ v ∧ v < ts.length):PC Tryz.prog 244 [aG ts bd pts,dS x,iv v] (fun r => r = iv (aO ts x v)):=by
 refine aC Tryz.func244 Tryz.ntmps244 ?_
 repeat' (first|(apply aF;(apply aA (k := 199);rfl;(apply zH <;> (assumption));exact Pur.pf;rfl))|refine aE ?_|(refine aK ?_ ?_ <;> intro hc hq <;> try (exfalso;omega))|(refine bW ?_ ?_ <;> intro hg hq <;> try (exfalso;omega))|refine dT ?_|fail)
 all_goals (refine ⟨?_,rfl⟩; simp only [aN,AV.v.injEq,Value.bool.injEq,Value.int.injEq,true_and])
 all_goals grind [vM,aO]
theorem yY (x:Pnt):PC Tryz.prog 143 [dS x] (fun r => r = iv (aL x)):=by
 refine aC Tryz.func143 Tryz.ntmps143 ?_
 repeat' (first|refine aE ?_|(refine aK ?_ ?_ <;> intro hc hq <;> try (exfalso;omega))|refine dT ?_|fail)
 all_goals (refine ⟨?_,rfl⟩; simp only [aN,AV.v.injEq,Value.bool.injEq,Value.int.injEq,true_and])
 all_goals grind [aL]
theorem iY (x:Pnt):PC Tryz.prog 233 [dS x] (fun r => r = bv (bT x)):=by
 refine aC Tryz.func233 Tryz.ntmps233 ?_
 repeat' (first|refine aE ?_|(refine bW ?_ ?_ <;> intro hg hq <;> try (exfalso;omega))|refine dT ?_|fail)
 all_goals (refine ⟨?_,rfl⟩; simp only [aN,AV.v.injEq,Value.bool.injEq,Value.int.injEq,true_and])
 all_goals grind [bT]
theorem pC (x:Pnt) (h:aL x < 62):PC Tryz.prog 182 [dS x] (fun r => r = iv (g8 x:Nat)):=by
 refine aC Tryz.func182 Tryz.ntmps182 ?_
 repeat' (first|(apply aF;first|(apply gC;rfl;rfl;infer_instance;omega;rfl;(case' kk => intro hsm))|(apply aA (k := 143);rfl;(apply yY);exact Pur.pf;rfl))|refine aE ?_|(refine aK ?_ ?_ <;> intro hc hq <;> try (exfalso;omega))|refine dT ?_|fail)
 all_goals (refine ⟨?_,rfl⟩; simp only [aN,AV.v.injEq,Value.bool.injEq,Value.int.injEq,true_and])
 all_goals (unfold g8)
 ·rw [if_pos (by omega)]
 ·rw [if_neg (by omega)]; rfl
theorem Pw (ts:List Int) (bd:List AL.Stmt) (pts:List Pnt) (h:ts.length ≤ 6):PC Tryz.prog 232 [aG ts bd pts] (fun r => r = iv ((2 ^ ts.length - 1:Nat):Int)):=by
 have h1 : 2 ^ ts.length ≤ 2 ^ 6 := Nat.pow_le_pow_right (by decide) h
 have h2 : 0 < 2 ^ ts.length := Nat.pow_pos (by decide)
 have h3 : 2 ^ (ts.length : Int).toNat ≤ 2 ^ 6 := h1
 have h4 : 2 ^ (ts.length : Int).toNat = 2 ^ ts.length := rfl
 refine aC Tryz.func232 Tryz.ntmps232 ?_
 repeat' (first|(apply aF;(apply gC;rfl;rfl;infer_instance;omega;rfl;(case' kk => intro hsm)))|refine aE ?_|refine dT ?_|fail)
 all_goals (refine ⟨?_,rfl⟩; simp only [aN,AV.v.injEq,Value.bool.injEq,Value.int.injEq,true_and])
 omega
def Hb (xs : List Int) (v : Int) : Int := match xs.findIdx? (fun t => decide (t = v)) with | some i => i | none => -1
theorem JP (xs:List Int) (v:Int) (hl:xs.length ≤ 1000000):PC Tryz.prog 119 [sl cI xs,iv v] (fun r => r = iv (Hb xs v)):=by
 refine aC Tryz.func119 Tryz.ntmps119 ?_
 repeat' (first|refine aE ?_|fail)
 refine aH (σ := Nat) [0,1,7] [] (fun k => [(8,iv (k : Int))]) (fun k => []) (fun k => k ≤ xs.length ∧ ∀ i,i < k → xs[i]! ≠ v) (fun k => xs.length - k) (0) ⟨by omega,by omega⟩ ?_
 intro k ⟨hk,hall⟩
 repeat' (first|refine aE ?_|(refine aK ?_ ?_ <;> intro hc hq <;> try (exfalso;omega))|refine dT ?_|fail)
 ·(refine ⟨?_, rfl⟩; simp only [aN, AV.v.injEq, Value.bool.injEq, Value.int.injEq, true_and])
  have hlt : k < xs.length := by omega
  have : xs.findIdx? (fun t => decide (t = v)) = some k := by
   rw [List.findIdx?_eq_some_iff_getElem]
   refine ⟨hlt,?_,fun j hj => ?_⟩
   ·rw [← a7 xs k hlt]; grind
   ·have := hall j hj;rw [a7 xs j (by omega)] at this;simpa using this
  simp only [Hb,this]
 ·(refine bC (k + 1) (Le.renA []) ?_ ?_)
  ·grind
  ·omega
 ·(refine ⟨?_, rfl⟩; simp only [aN, AV.v.injEq, Value.bool.injEq, Value.int.injEq, true_and])
  have : xs.findIdx? (fun t => decide (t = v)) = none := by
   rw [List.findIdx?_eq_none_iff]
   intro x hx
   obtain ⟨i,hi,rfl⟩ := List.getElem_of_mem hx
   have := hall i (by omega);rw [a7 xs i hi] at this;simpa using this
  simp only [Hb,this]
theorem JF (xs:List Int) (v:Int):decide (0 ≤ Hb xs v) = decide (v ∈ xs):=by
 unfold Hb
 split
 ·rename_i i h
  obtain ⟨h1,h2,_⟩ := List.findIdx?_eq_some_iff_getElem.1 h
  simp only [decide_eq_true_eq] at h2
  have : v ∈ xs := by rw [← h2]; exact List.getElem_mem h1
  simp [this]
 ·rename_i h
  rw [List.findIdx?_eq_none_iff] at h
  have : v ∉ xs := fun hm => by have := h v hm;simp at this
  simp [this]
theorem Df (xs:List Int) (v:Int) (hl:xs.length ≤ 1000000):PC Tryz.prog 56 [sl cI xs,iv v] (fun r => r = bv (decide (v ∈ xs))):=by
 refine aC Tryz.func56 Tryz.ntmps56 ?_
 repeat' (first|(apply aF;(apply aA (k := 119);rfl;(apply JP <;> (assumption));exact Pur.pf;rfl))|refine aE ?_|refine dT ?_|fail)
 (refine ⟨?_,rfl⟩; simp only [aN,AV.v.injEq,Value.bool.injEq,Value.int.injEq,true_and])
 exact JF xs v
theorem D8 (ts:List Int) (bd:List AL.Stmt) (pts:List Pnt) (x:Pnt) (us:List Int) (h:ts.length ≤ 6) (hu:us.length ≤ 1000):PC Tryz.prog 207 [aG ts bd pts,dS x,sl cI us] (fun r => r = iv (wS ts x us:Nat)):=by
 refine aC Tryz.func207 Tryz.ntmps207 ?_
 repeat' (first|refine aE ?_|fail)
 refine aH (σ := Nat × Nat) [0,2,4,14] [0] (fun k => [(15,iv (k.1 : Int)),(7,iv (k.2 : Int))]) (fun k => []) (fun k => k.1 ≤ ts.length ∧ k.2 = e5 (fun v => decide (aO ts x v ∈ us)) k.1) (fun k => ts.length - k.1) (0,0) ⟨by omega,rfl⟩ ?_
 rintro ⟨k,A⟩ ⟨hk,hA⟩
 dsimp only at hk hA ⊢
 have hsm : Sm A := hA ▸ bV (by omega)
 repeat' (first|(apply aF;first|(apply gC;rfl;rfl;infer_instance;omega;rfl;(case' kk => intro hsm))|(first|(apply aA (k := 56);rfl;(apply Df <;> (omega));exact Pur.pf;rfl)|(apply aA (k := 244);rfl;(apply OB <;> (omega));exact Pur.pf;rfl)))|refine aE ?_|(refine aK ?_ ?_ <;> intro hc hq <;> try (exfalso;omega))|refine dT ?_|fail)
 ·(refine bC (k + 1, _) (Le.renA [(0, 0)]) ?_ ?_)
  ·dsimp only
   rw [hA]
   exact ⟨by omega,rD _ _ (by simpa using hq)⟩
  ·dsimp only;omega
 ·(refine bC (k + 1, _) (Le.renA [(0, 0)]) ?_ ?_)
  ·dsimp only
   rw [hA]
   exact ⟨by omega,lI _ _ (by simpa using hq)⟩
  ·dsimp only;omega
 ·(refine ⟨?_, rfl⟩; simp only [aN, AV.v.injEq, Value.bool.injEq, Value.int.injEq, true_and])
  rw [hA,show k = ts.length by omega]; rfl
theorem gJ (ts:List Int) (bd:List AL.Stmt) (pts:List Pnt) (x:Pnt) (h:ts.length ≤ 6):PC Tryz.prog 158 [aG ts bd pts,dS x] (fun r => r = iv (wS ts x [1,2,3]:Nat)):=by
 refine aC Tryz.func158 Tryz.ntmps158 ?_
 repeat' (first|(apply aF;first|(apply aM (t := _);rfl;rfl;rfl;(exact (rfl:_=some [_,_,_]));rfl;rfl)|(apply aA (k := 207);rfl;(apply D8 (us := [1,2,3]) <;> (first|assumption|decide));exact Pur.pf;rfl))|refine aE ?_|refine dT ?_|fail)
 (refine ⟨?_,rfl⟩; simp only [aN,AV.v.injEq,Value.bool.injEq,Value.int.injEq,true_and])
theorem r9 (ts:List Int) (bd:List AL.Stmt) (pts:List Pnt) (x:Pnt) (h:ts.length ≤ 6):PC Tryz.prog 142 [aG ts bd pts,dS x] (fun r => r = iv (wS ts x [2]:Nat)):=by
 refine aC Tryz.func142 Tryz.ntmps142 ?_
 repeat' (first|(apply aF;first|(apply aM (t := _);rfl;rfl;rfl;exact (rfl:_=some [_]);rfl;rfl)|(apply aA (k := 207);rfl;(apply D8 (us := [2]) <;> (first|assumption|decide));exact Pur.pf;rfl))|refine aE ?_|refine dT ?_|fail)
 (refine ⟨?_,rfl⟩; simp only [aN,AV.v.injEq,Value.bool.injEq,Value.int.injEq,true_and])
theorem tO (ts:List Int) (bd:List AL.Stmt) (pts:List Pnt) (i:Int) (A:Nat) (h:WG ts pts) (hi:0 ≤ i ∧ i < pts.length) (hA:Sm A):PC Tryz.prog 103 [aG ts bd pts,iv i,iv (A:Int)] (fun r => r = iv (gN ts pts[i.toNat]! A:Nat)):=by
 have htl := h.tl
 have hst := (h.set i.toNat (by omega)).1
 have hs1 : Sm (wS ts pts[i.toNat]! [2]) := bV (by omega)
 have hs2 : Sm (g8 pts[i.toNat]!) := sR (by omega)
 refine aC Tryz.func103 Tryz.ntmps103 ?_
 repeat' (first|(apply aF;(first|(apply aA (k := 142);rfl;(apply r9 <;> (assumption));exact Pur.pf;rfl)|(apply aA (k := 182);rfl;(apply pC <;> (omega));exact Pur.pf;rfl)))|refine aE ?_|refine bQ ?_|refine dT ?_|fail)
 (refine ⟨?_,rfl⟩; simp only [aN,AV.v.injEq,Value.bool.injEq,Value.int.injEq,true_and])
 rfl
theorem CP (ts:List Int) (bd:List AL.Stmt) (pts:List Pnt) (A:List Nat) (w:WG ts pts) (hA:l9 ts pts A):PC Tryz.prog 181 [aG ts bd pts,iv 0,bv false,.clos (.func 103) [aG ts bd pts] []] (fun r => r = .imm pts.length (flat cN A)):=by
 have hpl := w.pl
 have hp0 := w.p0
 have htl := w.tl
 have fl := OX w
 refine aC Tryz.func181 Tryz.ntmps181 ?_
 repeat' (first|refine aE ?_|fail)
 refine aH (σ := List Nat × Bool) [0,2,3,9] [] (fun s => [(11,bv s.2)]) (fun s => [(0,some (flat cN s.1))]) (fun s => SG pts (OZ ts pts) s.1 ∧ True ∧ (s.2 = false → lA nN (fun i A => gN ts pts[i]! A) pts s.1)) (fun s => 2 * eI (s.1.map (fun a => 2 ^ ts.length - a)) + s.2.toNat) (((List.replicate pts.length 0).set 0 0),true) ⟨by rw [mG (by rw [a7 _ _ (by simpa using hp0),List.getElem_replicate]) (by simpa using hp0)]; exact Cx fun i hi => ⟨Nat.pow_pos (by decide),fun v h => by simp at h⟩,trivial,fun h => by cases h⟩ ?_
 rintro ⟨s,b⟩ ⟨hS,hE,hC⟩
 dsimp only at hS hE hC ⊢
 repeat' (first|refine aE ?_|(refine aK ?_ ?_ <;> intro hc hq <;> try (exfalso;omega))|fail)
 ·refine aH (σ := Nat × (List Nat × Bool)) [0, 2, 3, 9, 43, 44] [] (fun k => [(45, iv (k.1 : Int)), (11, bv k.2.2)]) (fun k => [(0, some (flat cN k.2.1))]) (fun k => k.1 ≤ pts.length ∧ k.2 = (List.range k.1).foldl (xZ nN (fun i A => gN ts pts[i]! A) pts) (s, false) ∧ SG pts (OZ ts pts) k.2.1 ∧ True) (fun k => pts.length - k.1) (0, (s, false)) ⟨by omega, rfl, hS, hE⟩ ?_
  rintro ⟨k,u,c⟩ ⟨hk,hf,hS2,hE2⟩
  dsimp only at hk hf hS2 hE2 ⊢
  have hsm : ∀ z,Sm u[z]! := uG hS2 (fun i A h => h.1) htl
  have hul := hS2.1
  repeat' (first|(apply aF;(apply gI;rfl;rfl;infer_instance;rfl;(apply tO <;> (first|assumption|omega|infer_instance));exact Pur.pf;rfl))|refine aE ?_|(refine aK ?_ ?_ <;> intro hc hq <;> try (exfalso;omega))|fail)
  ·have hkn : k < pts.length := by omega
   have hv := m7 w hkn (hS2.2 k hkn).1
   have hvs : Sm (gN ts pts[k]! u[k]!) := ⟨Nat.lt_of_lt_of_le hv (Nat.pow_le_pow_right (by decide) (by omega))⟩
   have hvs' : Sm (gN ts pts[(k : Int).toNat]! u[k]!) := hvs
   have hnl := w.nl k hkn
   refine aH (σ := Nat × (List Nat × Bool)) [0,2,3,9,14,43,44,45,58,59] [] (fun j => [(60,iv (j.1 : Int)),(11,bv j.2.2)]) (fun j => [(0,some (flat cN j.2.1))]) (fun j => j.1 ≤ pts[k]!.next.length ∧ j.2 = ((vO pts k).take j.1).foldl (kQ nN (gN ts pts[k]! u[k]!)) (u,c) ∧ SG pts (OZ ts pts) j.2.1 ∧ True) (fun j => pts[k]!.next.length - j.1) (0,(u,c)) ⟨by omega,rfl,hS2,hE2⟩ ?_
   rintro ⟨j,u2,c2⟩ ⟨hj,hf2,hS3,hE3⟩
   dsimp only at hj hf2 hS3 hE3 ⊢
   have hsm2 : ∀ z,Sm u2[z]! := uG hS3 (fun i A h => h.1) htl
   have hul2 := hS3.1
   have hz : j < pts[k]!.next.length → 0 ≤ pts[k]!.next[j]! ∧ pts[k]!.next[j]! < pts.length := fun h => w.nx k hkn _ (aR _ _ h)
   repeat' (first|refine aE ?_|(refine aK ?_ ?_ <;> intro hc hq <;> try (exfalso;omega))|fail)
   ·have hzz := hz (by omega)
    have hed : cR pts k (pts[k]!.next[j]!).toNat := ⟨hkn,by rw [Int.toNat_of_nonneg hzz.1]; exact aR _ _ (by omega)⟩
    have hne : nN u2[(pts[k]!.next[j]!).toNat]! (gN ts pts[k]! u[k]!) ≠ u2[(pts[k]!.next[j]!).toNat]! := fun h => hq (congrArg Int.ofNat h)
    (refine bC (j + 1,(_,true)) (Le.renA [(0,0)]) ?_ ?_)
    ·dsimp only
     refine ⟨by omega,?_,y4 fl w (hS2.2 k hkn) hed hS3,trivial⟩
     rw [iV (by omega),← hf2,y5 hne]; rfl
    ·dsimp only;omega
   ·have hzz := hz (by omega)
    have hne : nN u2[(pts[k]!.next[j]!).toNat]! (gN ts pts[k]! u[k]!) = u2[(pts[k]!.next[j]!).toNat]! := Int.ofNat.inj hq
    (refine bC (j + 1,(u2,c2)) (Le.renA [(0,0)]) ?_ ?_)
    ·dsimp only
     refine ⟨by omega,?_,hS3,hE3⟩
     rw [iV (by omega),← hf2,zV hne]
    ·dsimp only;omega
   ·(refine bC (k + 1, (u2, c2)) (Le.renA [(0, 0)]) ?_ ?_)
    ·dsimp only
     refine ⟨by omega,?_,hS3,hE3⟩
     rw [eF,← hf,hf2,List.take_of_length_le (by rw [kZ]; omega)]; rfl
    ·dsimp only;omega
  ·have law := uL w fl s false hS
   have hfull : (u, c) = zL nN (fun i A => gN ts pts[i]! A) pts (s, false) := by
    rw [hf,show k = pts.length by omega]; rfl
   rw [show zL (fun a s => nN a s) (fun i A => gN ts pts[i]! A) pts (s,false) = (u,c) from hfull.symm] at law
   (refine bC (u,c) (Le.renA [(0,0)]) ?_ ?_)
   ·dsimp only
    refine ⟨hS2,hE2,fun h => ?_⟩
    rcases law.2 with ⟨e1,e2⟩ | ⟨e1,_⟩
    ·cases e1;exact e2
    ·dsimp only at e1;rw [h] at e1;cases e1
   ·dsimp only
    have hb : b = true := by assumption
    subst hb
    rcases law.2 with ⟨e1,e2⟩ | ⟨e1,e2⟩
    ·cases e1;simp
    ·dsimp only at e1 e2;subst e1;omega
 ·have hb : b = false := by assumption
  refine aV (Le.frzD (d := 8) (i := 0) rfl rfl) ?_
  refine aD rfl ⟨?_,(by (exact a8 _ _))⟩
  simp only [aN]
  rw [Eu hA (GR w hS (hC hb))]
theorem CE (ts:List Int) (bd:List AL.Stmt) (pts:List Pnt) (A:List Nat) (w:WG ts pts) (hA:nJ ts pts A):PC Tryz.prog 181 [aG ts bd pts,iv 0,bv true,.clos (.func 103) [aG ts bd pts] []] (fun r => r = .imm pts.length (flat cN A)):=by
 have hpl := w.pl
 have hp0 := w.p0
 have htl := w.tl
 have fl := OV w
 refine aC Tryz.func181 Tryz.ntmps181 ?_
 repeat' (first|refine aE ?_|fail)
 refine aH (σ := Nat × List Nat) [0,1,2,3,9,26] [] (fun k => [(27,iv (k.1 : Int))]) (fun k => [(0,some (flat cN k.2))]) (fun k => k.1 ≤ pts.length ∧ k.2 = List.replicate k.1 (2 ^ ts.length - 1) ++ List.replicate (pts.length - k.1) 0) (fun k => pts.length - k.1) (0,List.replicate pts.length 0) ⟨by omega,by simp⟩ ?_
 rintro ⟨k0,u0⟩ ⟨hk0,hu0⟩
 dsimp only at hk0 hu0 ⊢
 have hul0 : u0.length = pts.length := by rw [hu0]; simp;omega
 repeat' (first|(apply aF;(apply aA (k := 232);rfl;(apply Pw <;> (assumption));exact Pur.pf;rfl))|refine aE ?_|(refine aK ?_ ?_ <;> intro hc hq <;> try (exfalso;omega))|fail)
 ·(refine bC (k0 + 1, _) (Le.renA [(0, 0)]) ?_ ?_)
  ·dsimp only
   exact ⟨by omega,by rw [hu0]; exact Kr (by omega)⟩
  ·dsimp only;omega
 have hk1 : k0 = pts.length := by omega
 subst hk1
 rw [Nat.sub_self,List.replicate_zero,List.append_nil] at hu0
 refine aH (σ := List Nat × Bool) [0,2,3,9] [] (fun s => [(11,bv s.2)]) (fun s => [(0,some (flat cN s.1))]) (fun s => SG pts (On ts pts) s.1 ∧ s.1[0]! = 0 ∧ (s.2 = false → lA Np (fun i A => gN ts pts[i]! A) pts s.1)) (fun s => 2 * eI (s.1.map (fun a => a)) + s.2.toNat) ((u0.set 0 0),true) ⟨(Gz w hu0).1,(Gz w hu0).2,fun h => by cases h⟩ ?_
 rintro ⟨s,b⟩ ⟨hS,hE,hC⟩
 dsimp only at hS hE hC ⊢
 repeat' (first|refine aE ?_|(refine aK ?_ ?_ <;> intro hc hq <;> try (exfalso;omega))|fail)
 ·refine aH (σ := Nat × (List Nat × Bool)) [0, 2, 3, 9, 43, 44] [] (fun k => [(45, iv (k.1 : Int)), (11, bv k.2.2)]) (fun k => [(0, some (flat cN k.2.1))]) (fun k => k.1 ≤ pts.length ∧ k.2 = (List.range k.1).foldl (xZ Np (fun i A => gN ts pts[i]! A) pts) (s, false) ∧ SG pts (On ts pts) k.2.1 ∧ k.2.1[0]! = 0) (fun k => pts.length - k.1) (0, (s, false)) ⟨by omega, rfl, hS, hE⟩ ?_
  rintro ⟨k,u,c⟩ ⟨hk,hf,hS2,hE2⟩
  dsimp only at hk hf hS2 hE2 ⊢
  have hsm : ∀ z,Sm u[z]! := uG hS2 (fun i A h => h.1) htl
  have hul := hS2.1
  repeat' (first|(apply aF;(apply gI;rfl;rfl;infer_instance;rfl;(apply tO <;> (first|assumption|omega|infer_instance));exact Pur.pf;rfl))|refine aE ?_|(refine aK ?_ ?_ <;> intro hc hq <;> try (exfalso;omega))|fail)
  ·have hkn : k < pts.length := by omega
   have hv := m7 w hkn (hS2.2 k hkn).1
   have hvs : Sm (gN ts pts[k]! u[k]!) := ⟨Nat.lt_of_lt_of_le hv (Nat.pow_le_pow_right (by decide) (by omega))⟩
   have hvs' : Sm (gN ts pts[(k : Int).toNat]! u[k]!) := hvs
   have hnl := w.nl k hkn
   refine aH (σ := Nat × (List Nat × Bool)) [0,2,3,9,14,43,44,45,58,59] [] (fun j => [(60,iv (j.1 : Int)),(11,bv j.2.2)]) (fun j => [(0,some (flat cN j.2.1))]) (fun j => j.1 ≤ pts[k]!.next.length ∧ j.2 = ((vO pts k).take j.1).foldl (kQ Np (gN ts pts[k]! u[k]!)) (u,c) ∧ SG pts (On ts pts) j.2.1 ∧ j.2.1[0]! = 0) (fun j => pts[k]!.next.length - j.1) (0,(u,c)) ⟨by omega,rfl,hS2,hE2⟩ ?_
   rintro ⟨j,u2,c2⟩ ⟨hj,hf2,hS3,hE3⟩
   dsimp only at hj hf2 hS3 hE3 ⊢
   have hsm2 : ∀ z,Sm u2[z]! := uG hS3 (fun i A h => h.1) htl
   have hul2 := hS3.1
   have hz : j < pts[k]!.next.length → 0 ≤ pts[k]!.next[j]! ∧ pts[k]!.next[j]! < pts.length := fun h => w.nx k hkn _ (aR _ _ h)
   repeat' (first|refine aE ?_|(refine aK ?_ ?_ <;> intro hc hq <;> try (exfalso;omega))|fail)
   ·have hzz := hz (by omega)
    have hed : cR pts k (pts[k]!.next[j]!).toNat := ⟨hkn,by rw [Int.toNat_of_nonneg hzz.1]; exact aR _ _ (by omega)⟩
    have hne : Np u2[(pts[k]!.next[j]!).toNat]! (gN ts pts[k]! u[k]!) ≠ u2[(pts[k]!.next[j]!).toNat]! := fun h => hq (congrArg Int.ofNat h)
    (refine bC (j + 1,(_,true)) (Le.renA [(0,0)]) ?_ ?_)
    ·dsimp only
     refine ⟨by omega,?_,y4 fl w (hS2.2 k hkn) hed hS3,(by rw [dD _ _ _ _ (by rw [hS3.1]; exact cY w hed)]; split <;> first|exact hE3|(rename_i q;rw [← q,hE3]; exact Nat.zero_and _))⟩
     rw [iV (by omega),← hf2,y5 hne]; rfl
    ·dsimp only;omega
   ·have hzz := hz (by omega)
    have hne : Np u2[(pts[k]!.next[j]!).toNat]! (gN ts pts[k]! u[k]!) = u2[(pts[k]!.next[j]!).toNat]! := Int.ofNat.inj hq
    (refine bC (j + 1,(u2,c2)) (Le.renA [(0,0)]) ?_ ?_)
    ·dsimp only
     refine ⟨by omega,?_,hS3,hE3⟩
     rw [iV (by omega),← hf2,zV hne]
    ·dsimp only;omega
   ·(refine bC (k + 1, (u2, c2)) (Le.renA [(0, 0)]) ?_ ?_)
    ·dsimp only
     refine ⟨by omega,?_,hS3,hE3⟩
     rw [eF,← hf,hf2,List.take_of_length_le (by rw [kZ]; omega)]; rfl
    ·dsimp only;omega
  ·have law := uL w fl s false hS
   have hfull : (u, c) = zL Np (fun i A => gN ts pts[i]! A) pts (s, false) := by
    rw [hf,show k = pts.length by omega]; rfl
   rw [show zL (fun a s => Np a s) (fun i A => gN ts pts[i]! A) pts (s,false) = (u,c) from hfull.symm] at law
   (refine bC (u,c) (Le.renA [(0,0)]) ?_ ?_)
   ·dsimp only
    refine ⟨hS2,hE2,fun h => ?_⟩
    rcases law.2 with ⟨e1,e2⟩ | ⟨e1,_⟩
    ·cases e1;exact e2
    ·dsimp only at e1;rw [h] at e1;cases e1
   ·dsimp only
    have hb : b = true := by assumption
    subst hb
    rcases law.2 with ⟨e1,e2⟩ | ⟨e1,e2⟩
    ·cases e1;simp
    ·dsimp only at e1 e2;subst e1;omega
 ·have hb : b = false := by assumption
  refine aV (Le.frzD (d := 8) (i := 0) rfl rfl) ?_
  refine aD rfl ⟨?_,(by (exact a8 _ _))⟩
  simp only [aN]
  rw [FO hA (GK w hS hE (hC hb))]
theorem tE (ts:List Int) (bd:List AL.Stmt) (pts:List Pnt) (A:List Nat) (w:WG ts pts) (hA:nJ ts pts A):PC Tryz.prog 121 [aG ts bd pts,iv 0] (fun r => r = .imm pts.length (flat cN A)):=by
 refine aC Tryz.func121 Tryz.ntmps121 ?_
 repeat' (first|(apply aF;(apply aA (k := 181);rfl;exact CE ts bd pts A w hA;exact Pur.pf;rfl))|refine aE ?_|refine dT ?_|fail)
 exact ⟨rfl,(by (exact a8 _ _))⟩
theorem sG (ts:List Int) (bd:List AL.Stmt) (pts:List Pnt) (A:List Nat) (w:WG ts pts) (hA:l9 ts pts A):PC Tryz.prog 102 [aG ts bd pts] (fun r => r = .imm pts.length (flat cN A)):=by
 refine aC Tryz.func102 Tryz.ntmps102 ?_
 repeat' (first|(apply aF;(apply aA (k := 181);rfl;exact CP ts bd pts A w hA;exact Pur.pf;rfl))|refine aE ?_|refine dT ?_|fail)
 exact ⟨rfl,(by (exact a8 _ _))⟩
theorem DN (ts:List Int) (bd:List AL.Stmt) (pts:List Pnt) (n:Nat) (B:List Nat) (i:Int) (w:WG ts pts) (hn:n = B.length) (hB:B.length = pts.length) (hs:∀ z:Nat,Sm B[z]!) (hi:0 ≤ i ∧ i < pts.length):PC Tryz.prog 189 [aG ts bd pts,.imm n (flat cN B),iv i] (fun r => r = iv (K9 pts B i.toNat:Nat)):=by
 subst hn
 have hin : i.toNat < pts.length := by omega
 have hnl := w.nl _ hin
 have hpl := w.pl
 refine aC Tryz.func189 Tryz.ntmps189 ?_
 repeat' (first|refine aE ?_|fail)
 refine aH (σ := Nat × Nat) [1,17,18] [] (fun k => [(19,iv (k.1 : Int)),(7,iv (k.2 : Int))]) (fun k => []) (fun k => k.1 ≤ pts[i.toNat]!.next.length ∧ k.2 = ((vO pts i.toNat).take k.1).foldl (fun a k => nN a B[k]!) 0 ∧ Sm k.2) (fun k => pts[i.toNat]!.next.length - k.1) (0,0) ⟨by omega,rfl,inferInstance⟩ ?_
 rintro ⟨k,a⟩ ⟨hk,ha,hsa⟩
 dsimp only at hk ha hsa ⊢
 have hz : k < pts[i.toNat]!.next.length → 0 ≤ pts[i.toNat]!.next[k]! ∧ pts[i.toNat]!.next[k]! < pts.length := fun h => w.nx _ hin _ (aR _ _ h)
 repeat' (first|refine aE ?_|(refine aK ?_ ?_ <;> intro hc hq <;> try (exfalso;omega))|refine dT ?_|fail)
 ·(refine bC (k + 1, _) (Le.renA []) ?_ ?_)
  ·dsimp only
   refine ⟨by omega,?_,inferInstance⟩
   rw [dH _ _ _ _ (by rw [kZ]; omega),zO (by omega),← ha]
  ·dsimp only;omega
 ·(refine ⟨?_, rfl⟩; simp only [aN, AV.v.injEq, Value.bool.injEq, Value.int.injEq, true_and])
  rw [ha,List.take_of_length_le (by rw [kZ]; omega)]; rfl
theorem IH (ts:List Int) (bd:List AL.Stmt) (pts:List Pnt) (A:List Nat) (w:WG ts pts) (hA:tK ts pts A):PC Tryz.prog 188 [aG ts bd pts] (fun r => r = .imm pts.length (flat cN A)):=by
 have hpl := w.pl
 have hp0 := w.p0
 have htl := w.tl
 refine aC Tryz.func188 Tryz.ntmps188 ?_
 repeat' (first|refine aE ?_|fail)
 refine aH (σ := List Nat × Bool) [0,3] [] (fun s => [(4,bv s.2)]) (fun s => [(0,some (flat cN s.1))]) (fun s => SN ts pts s.1 ∧ (s.2 = false → ∀ i,i < pts.length → p8 ts pts s.1 i = s.1[i]!)) (fun s => 2 * eI (s.1.map (fun a => 2 ^ ts.length - a)) + s.2.toNat) (List.replicate pts.length 0,true) ⟨N9,fun h => by cases h⟩ ?_
 rintro ⟨s,b⟩ ⟨hS,hC⟩
 dsimp only at hS hC ⊢
 repeat' (first|refine aE ?_|(refine aK ?_ ?_ <;> intro hc hq <;> try (exfalso;omega))|fail)
 ·refine aH (σ := Nat × Int × (List Nat × Bool)) [0, 3] [] (fun k => [(5, iv k.2.1), (4, bv k.2.2.2)]) (fun k => [(0, some (flat cN k.2.2.1))]) (fun k => k.1 ≤ pts.length ∧ k.2.1 = (pts.length : Int) - 1 - k.1 ∧ k.2.2 = ((List.range pts.length).reverse.take k.1).foldl (lE ts pts) (s, false) ∧ SN ts pts k.2.2.1) (fun k => pts.length - k.1) (0, (pts.length : Int) - 1, (s, false)) ⟨by omega, by simp, rfl, hS⟩ ?_
  rintro ⟨k,z,u,c⟩ ⟨hk,hz,hf,hS2⟩
  dsimp only at hk hz hf hS2 ⊢
  have hsm : ∀ z : Nat,Sm u[z]! := uG hS2.1 (fun i A h => h.1) htl
  have hul := hS2.1.1
  have hst := fun h : z.toNat < pts.length => (w.set z.toNat h).1
  have hst2 : aL pts[z.toNat]! < 62 := by
   by_cases h : z.toNat < pts.length
   ·have := hst h;omega
   ·rw [getElem!_neg pts z.toNat h]; decide
  have hs1 : Sm (wS ts pts[z.toNat]! [1,2,3]) := bV (by omega)
  have hs2 : Sm (g8 pts[z.toNat]!) := sR (by omega)
  have hs3 : Sm (K9 pts u z.toNat) := by
   unfold K9
   have : ∀ (L : List Nat) (a : Nat), Sm a → Sm (L.foldl (fun a k => a ||| u[k]!) a) := by
    intro L;induction L with
    | nil => exact fun a h => h
    | cons x L ih => exact fun a h => ih _ (inferInstance : Sm (a ||| u[x]!))
   exact this _ _ inferInstance
  have hlaw := fun h : z.toNat < pts.length => xJ w u c z.toNat h hS2
  repeat' (first|(apply aF;(first|(apply aA (k := 158);rfl;(apply gJ <;> (assumption));exact Pur.pf;rfl)|(apply aA (k := 182);rfl;(apply pC <;> (assumption));exact Pur.pf;rfl)|(apply pA (k := 189);(case ha => rfl);(case hl => (repeat' (first|exact mM|apply k8|exact zC|exact mY rfl inferInstance|exact C9 inferInstance)));(case h => (apply DN <;> (first|assumption|omega)));(case hfr|hN => rfl);(case hmd => infer_instance))))|refine aE ?_|(refine aK ?_ ?_ <;> intro hc hq <;> try (exfalso;omega))|refine bQ ?_|fail)
  ·have hzn : z.toNat < pts.length := by omega
   have hne : p8 ts pts u z.toNat ≠ u[z.toNat]! := fun h => hq (congrArg Int.ofNat h)
   have hl := hlaw hzn
   rw [D0 hne] at hl
   have hrg : (List.range pts.length).reverse[k]! = z.toNat := by rw [A6 (by omega)]; omega
   (refine bC (k + 1,_,(_,true)) (Le.renA [(0,0)]) ?_ ?_)
   ·dsimp only
    refine ⟨by omega,by omega,?_,hl.1⟩
    rw [dH _ _ _ _ (by simp;omega),← hf,hrg,D0 hne]; rfl
   ·dsimp only;omega
  ·have hzn : z.toNat < pts.length := by omega
   have hne : p8 ts pts u z.toNat = u[z.toNat]! := Int.ofNat.inj hq
   have hrg : (List.range pts.length).reverse[k]! = z.toNat := by rw [A6 (by omega)]; omega
   (refine bC (k + 1,_,(u,c)) (Le.renA [(0,0)]) ?_ ?_)
   ·dsimp only
    refine ⟨by omega,by omega,?_,hS2⟩
    rw [dH _ _ _ _ (by simp;omega),← hf,hrg,Kb hne]
   ·dsimp only;omega
  ·have law := E1 w s false hS
   have hfull : (u, c) = A9 ts pts (s, false) := by
    rw [hf,List.take_of_length_le (by simp;omega)]; rfl
   rw [← hfull] at law
   (refine bC (u,c) (Le.renA [(0,0)]) ?_ ?_)
   ·dsimp only
    refine ⟨hS2,fun h => ?_⟩
    rcases law.2 with ⟨e1,e2⟩ | ⟨e1,_⟩
    ·cases e1;exact e2
    ·dsimp only at e1;rw [h] at e1;cases e1
   ·dsimp only
    have hb : b = true := by assumption
    subst hb
    rcases law.2 with ⟨e1,e2⟩ | ⟨e1,e2⟩
    ·cases e1;simp
    ·dsimp only at e1 e2;subst e1;omega
 ·have hb : b = false := by assumption
  refine aV (Le.frzD (d := 2) (i := 0) rfl rfl) ?_
  refine aD rfl ⟨?_,(by (exact a8 _ _))⟩
  simp only [aN]
  rw [FF hA (Hv w hS (hC hb))]
theorem rK (ts:List Int) (bd:List AL.Stmt) (pts:List Pnt) (B A:List Nat) (w:WG ts pts) (hB:tK ts pts B) (hA:pW ts pts A):PC Tryz.prog 108 [aG ts bd pts] (fun r => r = .imm pts.length (flat cN A)):=by
 have hpl := w.pl
 have htl := w.tl
 have hBl := hB.1
 have hsm : ∀ z : Nat, Sm B[z]! := by
  intro z
  by_cases hz : z < pts.length
  ·refine ⟨Nat.lt_of_lt_of_le (Nat.lt_pow_two_of_testBit _ (n := 6) fun v hv => ?_) (by decide)⟩
   cases hq : B[z]!.testBit v with
   | false => rfl
   | true => have := oZ w ((hB.2 z hz v).1 hq);dsimp only at this;omega
  ·rw [getElem!_neg B z (by rw [hBl]; exact hz)]; exact ⟨by decide⟩
 refine aC Tryz.func108 Tryz.ntmps108 ?_
 repeat' (first|(apply aF;(apply aA (k := 188);rfl;(apply IH <;> (assumption));exact Pur.pf;rfl))|refine aE ?_|fail)
 refine AW.le ?_ (Le.nilOwn (d := 4) 1 rfl (by decide))
 refine aH (σ := Nat × List Nat) [0,3,12] [] (fun k => [(13,iv (k.1 : Int)),(4,.own 0 0 k.1 1)]) (fun k => [(0,some (flat cN k.2))]) (fun k => k.1 ≤ pts.length ∧ k.2 = (List.range k.1).map (K9 pts B)) (fun k => pts.length - k.1) (0,[]) ⟨by omega,rfl⟩ ?_
 rintro ⟨k,u⟩ ⟨hk,hu⟩
 dsimp only at hk hu ⊢
 have hul : u.length = k := by rw [hu]; simp
 repeat' (first|(apply aF;first|(apply aM (t := _);rfl;rfl;rfl;exact (rfl:_=some [_]);rfl;rfl)|(apply aA (k := 189);rfl;(apply DN <;> (first|assumption|omega));exact Pur.pf;rfl))|refine aE ?_|(refine aK ?_ ?_ <;> intro hc hq <;> try (exfalso;omega))|fail)
 ·(refine bC (k + 1, _) (Le.renA [(0, 2)]) ?_ ?_)
  ·dsimp only
   refine ⟨by omega,?_⟩
   rw [hu,List.range_succ,List.map_append]; rfl
  ·dsimp only;omega
 ·refine aV (Le.frzD (d := 2) (i := 0) rfl rfl) ?_
  refine aD rfl ⟨?_,(by (exact a8 _ _))⟩
  simp only [aN]
  have hkn : k = pts.length := by omega
  subst hkn
  rw [wJ hA (Bx w hB),hu]
theorem fQ (A:Nat) (hA:Sm A):PC Tryz.prog 120 [iv (A:Int)] (fun r => r = sl cI (aZ A)):=by
 refine aC Tryz.func120 Tryz.ntmps120 ?_
 repeat' (first|refine aE ?_|fail)
 refine AW.le ?_ (Le.nilOwn (d := 3) 1 rfl (by decide))
 refine aH (σ := Nat × List Int × Nat) [0] [] (fun k => [(4,iv (k.1 : Int)),(3,.own 0 0 k.2.2 1)]) (fun k => [(0,some (flat cI k.2.1))]) (fun k => k.1 ≤ 62 ∧ k.2.1 = ((List.range k.1).filter (A.testBit ·)).map (fun v : Nat => (v : Int)) ∧ k.2.2 = k.2.1.length ∧ k.2.2 ≤ k.1) (fun k => 62 - k.1) (0,[],0) ⟨by omega,rfl,rfl,Nat.le_refl _⟩ ?_
 rintro ⟨k,u,m⟩ ⟨hk,hu,hm,hmk⟩
 dsimp only at hk hu hm hmk ⊢
 repeat' (first|(apply aF;(apply aM (t := _);rfl;rfl;rfl;exact (rfl:_=some [_]);rfl;rfl))|refine aE ?_|(refine aK ?_ ?_ <;> intro hc hq <;> try (exfalso;omega))|fail)
 ·have hlt := DT hA (show 0 < ((A >>> k : Nat) : Int) by assumption)
  (refine bC (k + 1,_,_) (Le.renA [(0,2)]) ?_ ?_)
  ·dsimp only
   exact ⟨by omega,xF hq hu,by simp;omega,by omega⟩
  ·dsimp only;omega
 ·have hlt := DT hA (show 0 < ((A >>> k : Nat) : Int) by assumption)
  (refine bC (k + 1,u,m) (Le.renA [(0,0)]) ?_ ?_)
  ·dsimp only
   exact ⟨by omega,wI hq hu,hm,by omega⟩
  ·dsimp only;omega
 ·(refine aV (Le.frzD (d := 2) (i := 0) rfl rfl) ?_; refine aD rfl ?_)
  refine ⟨?_,(by (exact a8 _ _))⟩
  simp only [aN,sl]
  rw [qL (k := k) (fun v hv => He hq v hv) (by omega) hA,← hu,← hm]
theorem kT (A:Nat) (hA:Sm A):PC Tryz.prog 76 [.v (.int .u64 (A:Int))] (fun r => r = sl cI (aZ A)):=by
 refine aC Tryz.func76 Tryz.ntmps76 ?_
 repeat' (first|refine aE ?_|fail)
 refine AW.le ?_ (Le.nilOwn (d := 3) 1 rfl (by decide))
 refine aH (σ := Nat × List Int × Nat) [0] [] (fun k => [(5,iv (k.1 : Int)),(3,.own 0 0 k.2.2 1)]) (fun k => [(0,some (flat cI k.2.1))]) (fun k => k.1 ≤ 64 ∧ k.2.1 = ((List.range k.1).filter (A.testBit ·)).map (fun v : Nat => (v : Int)) ∧ k.2.2 = k.2.1.length ∧ k.2.2 ≤ k.1) (fun k => 64 - k.1) (0,[],0) ⟨by omega,rfl,rfl,Nat.le_refl _⟩ ?_
 rintro ⟨k,u,m⟩ ⟨hk,hu,hm,hmk⟩
 dsimp only at hk hu hm hmk ⊢
 repeat' (first|(apply aF;(apply aM (t := _);rfl;rfl;rfl;exact (rfl:_=some [_]);rfl;rfl))|refine aE ?_|(refine aK ?_ ?_ <;> intro hc hq <;> try (exfalso;omega))|fail)
 ·(refine bC (k + 1, _, _) (Le.renA [(0, 2)]) ?_ ?_)
  ·dsimp only
   exact ⟨by omega,xF hq hu,by simp;omega,by omega⟩
  ·dsimp only;omega
 ·(refine bC (k + 1, u, m) (Le.renA [(0, 0)]) ?_ ?_)
  ·dsimp only
   exact ⟨by omega,wI hq hu,hm,by omega⟩
  ·dsimp only;omega
 ·(refine aV (Le.frzD (d := 2) (i := 0) rfl rfl) ?_; refine aD rfl ?_)
  refine ⟨?_,(by (exact a8 _ _))⟩
  simp only [aN,sl]
  rw [qL (k := k) (fun v hv => Nat.testBit_lt_two_pow (Nat.lt_of_lt_of_le hA.pf (Nat.pow_le_pow_right (by decide) (by omega)))) (by omega) hA,← hu,← hm]
theorem Ak (ts:List Int) (bd:List AL.Stmt) (pts:List Pnt) (V:Nat) (w:WG ts pts) (hV:Sm V):PC Tryz.prog 235 [aG ts bd pts,iv (V:Int)] (fun r => r = .v (.int .u64 (rU pts V:Nat))):=by
 have hpl := w.pl
 have htl := w.tl
 refine aC Tryz.func235 Tryz.ntmps235 ?_
 repeat' (first|refine aE ?_|fail)
 refine aH (σ := Nat × Nat) [1,11,12] [] (fun k => [(13,iv (k.1 : Int)),(5,.v (.int .u64 (k.2 : Int)))]) (fun k => []) (fun k => k.1 ≤ pts.length ∧ k.2 = e5 (fun l => bT pts[l]! && V.testBit (pts[l]!.y.toNat)) k.1) (fun k => pts.length - k.1) (0,0) ⟨by omega,rfl⟩ ?_
 rintro ⟨k,A⟩ ⟨hk,hA⟩
 dsimp only at hk hA ⊢
 have hsm : Sm A := hA ▸ bV (by omega)
 cases hln : bT pts[k]!
 ·repeat' (first | (apply aF; (apply aA (k := 233);rfl;(apply iY);exact Pur.pf;rfl)) | refine aE ?_ | (refine aK ?_ ?_ <;> intro hc hq <;> try (exfalso; omega)) | refine dT ?_|fail)
  ·(refine bC (k + 1, A) (Le.renA []) ?_ ?_)
   ·dsimp only
    exact ⟨by omega,by rw [hA]; exact lI _ _ (by rw [hln]; rfl)⟩
   ·dsimp only;omega
  ·(refine ⟨?_, rfl⟩; simp only [aN, AV.v.injEq, Value.bool.injEq, Value.int.injEq, true_and])
   rw [hA,show k = pts.length by omega]; rfl
 ·have hy := fun (h : k < pts.length) => l5 w h hln
  repeat' (first|(apply aF;first|(apply gC;rfl;rfl;infer_instance;omega;rfl;(case' kk => intro hsm))|(apply aA (k := 233);rfl;(apply iY);exact Pur.pf;rfl))|refine aE ?_|(refine aK ?_ ?_ <;> intro hc hq <;> try (exfalso;omega))|refine dT ?_|fail)
  ·(refine bC (k + 1, _) (Le.renA []) ?_ ?_)
   ·dsimp only
    exact ⟨by omega,by rw [hA]; exact rD _ _ (by rw [hln,Bool.true_and]; exact (mB _ _).1 hq)⟩
   ·dsimp only;omega
  ·(refine bC (k + 1, A) (Le.renA []) ?_ ?_)
   ·dsimp only
    exact ⟨by omega,by rw [hA]; exact lI _ _ (by rw [hln,Bool.true_and]; cases hb : V.testBit (pts[k]!.y.toNat) with|false => rfl|true => exact absurd ((mB _ _).2 hb) hq)⟩
   ·dsimp only;omega
  ·(refine ⟨?_, rfl⟩; simp only [aN, AV.v.injEq, Value.bool.injEq, Value.int.injEq, true_and])
   rw [hA,show k = pts.length by omega]; rfl
theorem tF (ts:List Int) (bd:List AL.Stmt) (pts:List Pnt) (A:List Nat) (w:WG ts pts) (hA:nK ts pts A):PC Tryz.prog 184 [aG ts bd pts] (fun r => r = .imm pts.length (flat cW A)):=by
 have hpl := w.pl
 have hp0 := w.p0
 have htl := w.tl
 have fl := ON w
 refine aC Tryz.func184 Tryz.ntmps184 ?_
 repeat' (first|refine aE ?_|fail)
 refine aH (σ := List Nat × Bool) [0,3] [] (fun s => [(4,bv s.2)]) (fun s => [(0,some (flat cW s.1))]) (fun s => SG pts (Pd ts pts) s.1 ∧ (s.2 = false → lA nN (xY ts pts) pts s.1)) (fun s => 2 * eI (s.1.map (fun a => 2 ^ pts.length - a)) + s.2.toNat) (List.replicate pts.length 0,true) ⟨Cx fun i hi => ⟨Nat.pow_pos (by decide),fun v h => by simp at h⟩,fun h => by cases h⟩ ?_
 rintro ⟨s,b⟩ ⟨hS,hC⟩
 dsimp only at hS hC ⊢
 repeat' (first|refine aE ?_|(refine aK ?_ ?_ <;> intro hc hq <;> try (exfalso;omega))|fail)
 ·refine aH (σ := Nat × (List Nat × Bool)) [0, 3, 20, 21] [] (fun k => [(22, iv (k.1 : Int)), (4, bv k.2.2)]) (fun k => [(0, some (flat cW k.2.1))]) (fun k => k.1 ≤ pts.length ∧ k.2 = (List.range k.1).foldl (xZ nN (xY ts pts) pts) (s, false) ∧ SG pts (Pd ts pts) k.2.1) (fun k => pts.length - k.1) (0, (s, false)) ⟨by omega, rfl, hS⟩ ?_
  rintro ⟨k,u,c⟩ ⟨hk,hf,hS2⟩
  dsimp only at hk hf hS2 ⊢
  have hul := hS2.1
  by_cases hkn : k < pts.length
  ·have hst := (w.set k hkn).1
   have hsm : ∀ z : Nat, Sm u[z]! := by
    intro z
    by_cases hz : z < pts.length
    ·exact ⟨Nat.lt_of_lt_of_le (hS2.2 z hz).1 (Nat.pow_le_pow_right (by decide) (by omega))⟩
    ·rw [getElem!_neg u z (by rw [hul]; exact hz)]; exact ⟨by decide⟩
   have hs1 : Sm (wS ts pts[k]! [2]) := bV (by omega)
   have hs2 : Sm (g8 pts[k]!) := sR (by omega)
   have hs3 : ∀ V,Sm (rU pts V) := fun V => Jh w V
   have hnl := w.nl k hkn
   have e1 : bT pts[k]! = true → iE u[k]! (rU pts (wS ts pts[k]! [2] ||| g8 pts[k]!)) ||| 2 ^ (k : Int).toNat = xY ts pts k u[k]! := fun h => by unfold xY Ng;rw [if_pos h]; rfl
   have e0 : bT pts[k]! = false → iE u[k]! (rU pts (wS ts pts[k]! [2] ||| g8 pts[k]!)) = xY ts pts k u[k]! := fun h => by unfold xY Ng;rw [if_neg (by rw [h]; simp),Nat.or_zero]
   have hps : Sm (xY ts pts k u[k]!) := ⟨Nat.lt_of_lt_of_le (CR w hkn (hS2.2 k hkn).1) (Nat.pow_le_pow_right (by decide) (by omega))⟩
   repeat' (first|(apply aF;first|(apply gC;rfl;rfl;infer_instance;omega;rfl;(case' kk => intro hsm))|(first|(apply aA (k := 142);rfl;(apply r9 <;> (assumption));exact Pur.pf;rfl)|(apply aA (k := 182);rfl;(apply pC <;> (omega));exact Pur.pf;rfl)|(apply aA (k := 233);rfl;(apply iY);exact Pur.pf;rfl)|(apply aA (k := 235);rfl;(apply Ak <;> (first|assumption|infer_instance));exact Pur.pf;rfl)))|refine aE ?_|(refine aK ?_ ?_ <;> intro hc hq <;> try (exfalso;omega))|refine bQ ?_|fail)
   all_goals first|rw [e1 (by assumption)]|rw [e0 (by assumption)]
   all_goals
    refine aH (σ := Nat × (List Nat × Bool)) [0,3,7,20,21,22,47,48] [] (fun j => [(49,iv (j.1 : Int)),(4,bv j.2.2)]) (fun j => [(0,some (flat cW j.2.1))]) (fun j => j.1 ≤ pts[k]!.next.length ∧ j.2 = ((vO pts k).take j.1).foldl (kQ nN (xY ts pts k u[k]!)) (u,c) ∧ SG pts (Pd ts pts) j.2.1) (fun j => pts[k]!.next.length - j.1) (0,(u,c)) ⟨by omega,rfl,hS2⟩ ?_
    rintro ⟨j,u2,c2⟩ ⟨hj,hf2,hS3⟩
    dsimp only at hj hf2 hS3 ⊢
    have hul2 := hS3.1
    have hsm2 : ∀ z : Nat, Sm u2[z]! := by
     intro z
     by_cases hz : z < pts.length
     ·exact ⟨Nat.lt_of_lt_of_le (hS3.2 z hz).1 (Nat.pow_le_pow_right (by decide) (by omega))⟩
     ·rw [getElem!_neg u2 z (by rw [hul2]; exact hz)]; exact ⟨by decide⟩
    have hz : j < pts[k]!.next.length → 0 ≤ pts[k]!.next[j]! ∧ pts[k]!.next[j]! < pts.length := fun h => w.nx k hkn _ (aR _ _ h)
    repeat' (first|refine aE ?_|(refine aK ?_ ?_ <;> intro hc hq <;> try (exfalso;omega))|refine bQ ?_|fail)
    ·have hzz := hz (by omega)
     have hed : cR pts k (pts[k]!.next[j]!).toNat := ⟨hkn,by rw [Int.toNat_of_nonneg hzz.1]; exact aR _ _ (by omega)⟩
     have hne : nN u2[(pts[k]!.next[j]!).toNat]! (xY ts pts k u[k]!) ≠ u2[(pts[k]!.next[j]!).toNat]! := fun h => hq (congrArg Int.ofNat h)
     (refine bC (j + 1,(_,true)) (Le.renA [(0,0)]) ?_ ?_)
     ·dsimp only
      refine ⟨by omega,?_,y4 fl w (hS2.2 k hkn) hed hS3⟩
      rw [iV (by omega),← hf2,y5 hne]
     ·dsimp only;omega
    ·have hzz := hz (by omega)
     have hne : nN u2[(pts[k]!.next[j]!).toNat]! (xY ts pts k u[k]!) = u2[(pts[k]!.next[j]!).toNat]! := Int.ofNat.inj hq
     (refine bC (j + 1,(u2,c2)) (Le.renA [(0,0)]) ?_ ?_)
     ·dsimp only
      refine ⟨by omega,?_,hS3⟩
      rw [iV (by omega),← hf2,zV hne]
     ·dsimp only;omega
    ·(refine bC (k + 1, (u2, c2)) (Le.renA [(0, 0)]) ?_ ?_)
     ·dsimp only
      refine ⟨by omega,?_,hS3⟩
      rw [eF,← hf,hf2,List.take_of_length_le (by rw [kZ]; omega)]; rfl
     ·dsimp only;omega
  ·repeat' (first | refine aE ?_ | (refine aK ?_ ?_ <;> intro hc hq <;> try (exfalso; omega))|fail)
   have law := uL w fl s false hS
   have hfull : (u, c) = zL nN (xY ts pts) pts (s, false) := by
    rw [hf,show k = pts.length by omega]; rfl
   rw [← hfull] at law
   (refine bC (u,c) (Le.renA [(0,0)]) ?_ ?_)
   ·dsimp only
    refine ⟨hS2,fun h => ?_⟩
    rcases law.2 with ⟨e1,e2⟩ | ⟨e1,_⟩
    ·cases e1;exact e2
    ·dsimp only at e1;rw [h] at e1;cases e1
   ·dsimp only
    have hb : b = true := by assumption
    subst hb
    rcases law.2 with ⟨e1,e2⟩ | ⟨e1,e2⟩
    ·cases e1;simp
    ·dsimp only at e1 e2;subst e1;omega
 ·have hb : b = false := by assumption
  refine aV (Le.frzD (d := 2) (i := 0) rfl rfl) ?_
  refine aD rfl ⟨?_,(by (exact a8 _ _))⟩
  simp only [aN]
  rw [FG hA (Hp w hS (hC hb))]
theorem CM (ts:List Int) (bd:List AL.Stmt) (pts:List Pnt) (i:Int) (f:List Nat) (w:WG ts pts) (hi:0 ≤ i ∧ i < pts.length) (hf:f.length = 6) (hs:∀ z:Nat,Sm f[z]!):PC Tryz.prog 183 [aG ts bd pts,iv i,.agg (flat cW f)] (fun r => r = .agg (flat cW (x5 ts pts i.toNat f))):=by
 have hpl := w.pl
 have htl := w.tl
 have hin : i.toNat < pts.length := by omega
 have hst := (w.set i.toNat hin)
 have hy := w.y i.toNat hin
 have hbl := cC (wS ts pts[i.toNat]! [2])
 have hT : Sm (wS ts pts[i.toNat]! [2]) := bV (by omega)
 refine aC Tryz.func183 Tryz.ntmps183 ?_
 repeat' (first|(apply aF;(first|(apply aA (k := 120);rfl;(apply fQ <;> (assumption));(rfl);rfl)|(apply aA (k := 142);rfl;(apply r9 <;> (assumption));exact Pur.pf;rfl)))|refine aE ?_|fail)
 refine aH (σ := Nat × List Nat) [0,1,5,6,7,8,23,24] [0,1,2] (fun k => [(25,iv (k.1 : Int))]) (fun k => [(3,some (flat cW k.2))]) (fun k => k.1 ≤ (aZ (wS ts pts[i.toNat]! [2])).length ∧ k.2 = nT ((aZ (wS ts pts[i.toNat]! [2])).take k.1) f ∧ k.2.length = 6) (fun k => (aZ (wS ts pts[i.toNat]! [2])).length - k.1) (0,f) ⟨by omega,rfl,hf⟩ ?_
 rintro ⟨k,u⟩ ⟨hk,hu,hul⟩
 dsimp only at hk hu hul ⊢
 have hbb : k < (aZ (wS ts pts[i.toNat]! [2])).length → 0 ≤ (aZ (wS ts pts[i.toNat]! [2]))[k]! ∧ (aZ (wS ts pts[i.toNat]! [2]))[k]! < ts.length := fun h => gH (xD (fun v => decide (aO ts pts[i.toNat]! v ∈ [2])) ts.length) h
 have husm : ∀ z : Nat,Sm u[z]! := by intro z;rw [hu]; exact Nt hs z
 have hset : ∀ (k a : Nat) [Sm a] (z : Nat),Sm (u.set k a)[z]! := fun k a h z => Cm husm h z
 have hset2 : ∀ (k a k2 a2 : Nat) [Sm a] [Sm a2] (z : Nat),Sm ((u.set k a).set k2 a2)[z]! := fun k a k2 a2 h h2 z => Cm (Cm husm h) h2 z
 by_cases hkn : k < (aZ (wS ts pts[i.toNat]! [2])).length
 ·have hbk := hbb hkn
  repeat' (first|refine aE ?_|(refine aK ?_ ?_ <;> intro hc hq <;> try (exfalso;omega))|fail)
  (refine bC (k + 1,u.set ((aZ (wS ts pts[i.toNat]! [2]))[k]!).toNat 0) (Le.renA [(0,0),(1,1),(2,2),(3,3)]) ?_ ?_)
  ·dsimp only
   exact ⟨by omega,by rw [Ga hkn,← hu],by simpa using hul⟩
  ·dsimp only;omega
 ·have hu' : u = nT (aZ (wS ts pts[i.toNat]! [2])) f := by rw [hu, List.take_of_length_le (by omega)]
  cases hln : bT pts[i.toNat]!
  ·repeat' (first | (apply aF; (first | (apply aA (k := 143);rfl;(apply yY);exact Pur.pf;rfl) | (apply aA (k := 233);rfl;(apply iY);exact Pur.pf;rfl))) | refine aE ?_ | (refine aK ?_ ?_ <;> intro hc hq <;> try (exfalso; omega)) | refine bQ ?_|fail)
   all_goals (refine aD (gQ (z := 6) rfl rfl (by first|exact hul|(simp only [List.length_set]; exact hul)) (by decide)) ⟨?_,(by (exact a8 _ _))⟩)
   all_goals simp only [aN,x5,← hu',hln,Bool.false_eq_true,false_and,false_or,if_false]
   all_goals congr 2
   all_goals grind
  ·have hop := fN hln
   repeat' (first|(apply aF;first|(apply gC;rfl;rfl;infer_instance;omega;rfl;(case' kk => intro hsm))|(first|(apply aA (k := 143);rfl;(apply yY);exact Pur.pf;rfl)|(apply aA (k := 233);rfl;(apply iY);exact Pur.pf;rfl)|(apply aA (k := 234);rfl;(apply oW);(rfl);rfl)))|refine aE ?_|(refine aK ?_ ?_ <;> intro hc hq <;> try (exfalso;omega))|(refine bW ?_ ?_ <;> intro hg hq <;> try (exfalso;omega))|refine bQ ?_|fail)
   all_goals (refine aD (gQ (z := 6) rfl rfl (by first|exact hul|(simp only [List.length_set]; exact hul)) (by decide)) ⟨?_,(by (exact a8 _ _))⟩)
   all_goals simp only [aN,x5,← hu',hln,true_and,if_true]
   all_goals congr 2
   all_goals grind
theorem xQ (ts:List Int) (bd:List AL.Stmt) (pts:List Pnt) (A:List Nat) (w:WG ts pts) (hA:pM ts pts A):PC Tryz.prog 104 [aG ts bd pts] (fun r => r = .imm pts.length (flat cW A)):=by
 have hpl := w.pl
 have hp0 := w.p0
 have htl := w.tl
 refine aC Tryz.func104 Tryz.ntmps104 ?_
 repeat' (first|refine aE ?_|fail)
 refine aH (σ := List Nat × Bool) [0,3] [] (fun s => [(4,bv s.2)]) (fun s => [(0,some (flat cW s.1))]) (fun s => SF ts pts s.1 ∧ (s.2 = false → x8 ts pts s.1)) (fun s => 2 * eI (s.1.map (fun x => 2 ^ pts.length - x)) + s.2.toNat) (List.replicate (pts.length * 6) 0,true) ⟨MW,fun h => by cases h⟩ ?_
 rintro ⟨s,b⟩ ⟨hS,hC⟩
 dsimp only at hS hC ⊢
 repeat' (first|refine aE ?_|(refine aK ?_ ?_ <;> intro hc hq <;> try (exfalso;omega))|fail)
 ·refine aH (σ := Nat × (List Nat × Bool)) [0, 3, 22, 23] [] (fun k => [(24, iv (k.1 : Int)), (4, bv k.2.2)]) (fun k => [(0, some (flat cW k.2.1))]) (fun k => k.1 ≤ pts.length ∧ k.2 = (List.range k.1).foldl (CG ts pts) (s, false) ∧ SF ts pts k.2.1) (fun k => pts.length - k.1) (0, (s, false)) ⟨by omega, rfl, hS⟩ ?_
  rintro ⟨i,u,c⟩ ⟨hk,hf,hS2⟩
  dsimp only at hk hf hS2 ⊢
  have hul := hS2.1
  have hsm : ∀ z : Nat,Sm u[z]! := LM w hS2
  by_cases hin : i < pts.length
  ·have hnl := w.nl i hin
   have hrl : ((u.drop (i * 6)).take 6).length = 6 := dZ hul hin
   have hrs : ∀ z : Nat, Sm ((u.drop (i * 6)).take 6)[z]! := by
    intro z
    by_cases hz : z < 6
    ·have := dK hul hin hz;unfold cD at this;rw [this]; exact hsm _
    ·rw [getElem!_neg _ z (by rw [hrl]; exact hz)]; exact ⟨by decide⟩
   have hcl : (x5 ts pts (i : Int).toNat ((u.drop (i * 6)).take 6)).length = 6 := (KB ts pts i ((u.drop (i * 6)).take 6)).trans hrl
   repeat' (first|(apply aF;(apply aA (k := 183);rfl;(apply CM <;> (first|assumption|omega));exact Pur.pf;rfl))|refine aE ?_|(refine aK ?_ ?_ <;> intro hc hq <;> try (exfalso;omega))|fail)
   generalize hcf : x5 ts pts (i : Int).toNat ((u.drop (i * 6)).take 6) = a at hcl
   have hcf' : x5 ts pts i (cD u i) = a := hcf
   have hasnd : ∀ k,cR pts i k → ∀ v,v < 6 → OA ts pts k v a[v]! := fun k e v hv => by rw [← hcf']; exact D5 w hS2 e hv
   refine aH (σ := Nat × (List Nat × Bool)) [0,3,7,22,23,24,37,38] [2] (fun j => [(39,iv (j.1 : Int)),(4,bv j.2.2)]) (fun j => [(0,some (flat cW j.2.1))]) (fun j => j.1 ≤ pts[i]!.next.length ∧ j.2 = ((vO pts i).take j.1).foldl (v7 a) (u,c) ∧ SF ts pts j.2.1) (fun j => pts[i]!.next.length - j.1) (0,(u,c)) ⟨by omega,rfl,hS2⟩ ?_
   rintro ⟨j,u2,c2⟩ ⟨hj,hf2,hS3⟩
   dsimp only at hj hf2 hS3 ⊢
   have hul2 := hS3.1
   by_cases hjn : j < pts[i]!.next.length
   ·have hzz : 0 ≤ pts[i]!.next[j]! ∧ pts[i]!.next[j]! < pts.length := w.nx i hin _ (aR _ _ hjn)
    have hed : cR pts i (pts[i]!.next[j]!).toNat := ⟨hin,by rw [Int.toNat_of_nonneg hzz.1]; exact aR _ _ hjn⟩
    have hap := hasnd _ hed
    have hasm : ∀ z : Nat, Sm a[z]! := by
     intro z
     by_cases hz : z < 6
     ·exact ⟨Nat.lt_of_lt_of_le (hap z hz).1 (Nat.pow_le_pow_right (by decide) (by omega))⟩
     ·rw [getElem!_neg a z (by rw [hcl]; exact hz)]; exact ⟨by decide⟩
    repeat' (first|refine aE ?_|(refine aK ?_ ?_ <;> intro hc hq <;> try (exfalso;omega))|fail)
    refine aH (σ := Nat × (List Nat × Bool)) [0,3,7,9,22,23,24,37,38,39,43] [2] (fun v => [(44,iv (v.1 : Int)),(4,bv v.2.2)]) (fun v => [(0,some (flat cW v.2.1))]) (fun v => v.1 ≤ 6 ∧ v.2 = (List.range v.1).foldl (qD a (pts[i]!.next[j]!).toNat) (u2,c2) ∧ SF ts pts v.2.1) (fun v => 6 - v.1) (0,(u2,c2)) ⟨by omega,rfl,hS3⟩ ?_
    rintro ⟨v,u3,c3⟩ ⟨hv,hf3,hS4⟩
    dsimp only at hv hf3 hS4 ⊢
    have hul3 := hS4.1
    have hsm3 : ∀ z : Nat,Sm u3[z]! := LM w hS4
    by_cases hvn : v < 6
    ·have hlaw := Bi (cY w hed) hap u3 c3 v hvn hS4
     repeat' (first|refine aE ?_|(refine aK ?_ ?_ <;> intro hc hq <;> try (exfalso;omega))|refine bQ ?_|fail)
     ·have hne : nN u3[(pts[i]!.next[j]!).toNat * 6 + v]! a[v]! ≠ u3[(pts[i]!.next[j]!).toNat * 6 + v]! := fun h => hq (congrArg Int.ofNat h)
      have e1 : qD a (pts[i]!.next[j]!).toNat (u3,c3) v = (u3.set ((pts[i]!.next[j]!).toNat * 6 + v) (nN u3[(pts[i]!.next[j]!).toNat * 6 + v]! a[v]!),true) := y5 hne
      rw [e1] at hlaw
      (refine bC (v + 1,(_,true)) (Le.renA [(0,0),(2,2)]) ?_ ?_)
      ·dsimp only
       refine ⟨by omega,?_,hlaw.1⟩
       rw [wV,← hf3,e1]; rfl
      ·dsimp only;omega
     ·have hne : nN u3[(pts[i]!.next[j]!).toNat * 6 + v]! a[v]! = u3[(pts[i]!.next[j]!).toNat * 6 + v]! := Int.ofNat.inj hq
      have e1 : qD a (pts[i]!.next[j]!).toNat (u3,c3) v = (u3,c3) := zV hne
      (refine bC (v + 1,(u3,c3)) (Le.renA [(0,0),(2,2)]) ?_ ?_)
      ·dsimp only
       refine ⟨by omega,?_,hS4⟩
       rw [wV,← hf3,e1]
      ·dsimp only;omega
    ·have hv6 : v = 6 := by omega
     subst hv6
     repeat' (first|refine aE ?_|fail)
     (refine bC (j + 1,(u3,c3)) (Le.renA [(0,0),(2,2)]) ?_ ?_)
     ·dsimp only
      refine ⟨by omega,?_,hS4⟩
      rw [Fx hjn,← hf2,hf3]; rfl
     ·dsimp only;omega
   ·repeat' (first | refine aE ?_ | (refine aK ?_ ?_ <;> intro hc hq <;> try (exfalso; omega))|fail)
    (refine bC (i + 1,(u2,c2)) (Le.renA [(0,0)]) ?_ ?_)
    ·dsimp only
     refine ⟨by omega,?_,hS3⟩
     rw [eF,← hf,hf2,List.take_of_length_le (by rw [kZ]; omega),← hcf']; rfl
    ·dsimp only;omega
  ·repeat' (first | refine aE ?_ | (refine aK ?_ ?_ <;> intro hc hq <;> try (exfalso; omega))|fail)
   have law := Gm w s false hS
   have hfull : (u, c) = Ii ts pts (s, false) := by
    rw [hf,show i = pts.length by omega]; rfl
   rw [← hfull] at law
   (refine bC (u,c) (Le.renA [(0,0)]) ?_ ?_)
   ·dsimp only
    refine ⟨hS2,fun h => ?_⟩
    rcases law.2 with ⟨e1,e2⟩ | ⟨e1,_⟩
    ·cases e1;exact e2
    ·dsimp only at e1;rw [h] at e1;cases e1
   ·dsimp only
    have hb : b = true := by assumption
    subst hb
    rcases law.2 with ⟨e1,e2⟩ | ⟨e1,e2⟩
    ·cases e1;simp
    ·dsimp only at e1 e2;subst e1;omega
 ·have hb : b = false := by assumption
  refine aV (Le.frzD (d := 2) (i := 0) rfl rfl) ?_
  refine aD rfl ⟨?_,(by (exact a8 _ _))⟩
  simp only [aN]
  rw [FR hA (I1 w hS (hC hb))]
theorem CL (ts:List Int) (bd:List AL.Stmt) (pts:List Pnt) (i:Int) (lv:Nat) (f:List Nat) (w:WG ts pts) (hi:0 ≤ i ∧ i < pts.length) (hlv:lv < 2 ^ ts.length) (hf:f.length = 6) (hs:∀ z:Nat,Sm f[z]!):PC Tryz.prog 186 [aG ts bd pts,iv i,iv (lv:Int),.agg (flat cW f)] (fun r => r = .v (.int .u64 (kN ts pts[i.toNat]! lv f:Nat))):=by
 have hpl := w.pl
 have htl := w.tl
 have hin : i.toNat < pts.length := by omega
 have hst := (w.set i.toNat hin)
 have hsl : Sm lv := ⟨Nat.lt_of_lt_of_le hlv (Nat.pow_le_pow_right (by decide) (by omega))⟩
 have hT : Sm (wS ts pts[i.toNat]! [2]) := bV (by omega)
 have hB : Sm (g8 pts[i.toNat]!) := sR (by omega)
 have hbl := cC (iE lv (wS ts pts[i.toNat]! [2] ||| g8 pts[i.toNat]!))
 have hlt : iE lv (wS ts pts[i.toNat]! [2] ||| g8 pts[i.toNat]!) < 2 ^ ts.length := Nat.xor_lt_two_pow hlv (Nat.lt_of_le_of_lt Nat.and_le_left hlv)
 refine aC Tryz.func186 Tryz.ntmps186 ?_
 repeat' (first|(apply aF;(first|(apply aA (k := 120);rfl;(apply fQ <;> (infer_instance));(rfl);rfl)|(apply aA (k := 142);rfl;(apply r9 <;> (assumption));exact Pur.pf;rfl)|(apply aA (k := 182);rfl;(apply pC <;> (omega));exact Pur.pf;rfl)))|refine aE ?_|refine bQ ?_|fail)
 refine aH (σ := Nat × Nat) [7,28,29] [0] (fun k => [(30,iv (k.1 : Int)),(10,.v (.int .u64 (k.2 : Int)))]) (fun k => []) (fun k => k.1 ≤ (aZ (iE lv (wS ts pts[i.toNat]! [2] ||| g8 pts[i.toNat]!))).length ∧ k.2 = Ov f ((aZ (iE lv (wS ts pts[i.toNat]! [2] ||| g8 pts[i.toNat]!))).take k.1) 0 ∧ Sm k.2) (fun k => (aZ (iE lv (wS ts pts[i.toNat]! [2] ||| g8 pts[i.toNat]!))).length - k.1) (0,0) ⟨by omega,rfl,inferInstance⟩ ?_
 rintro ⟨k,a⟩ ⟨hk,ha,hsa⟩
 dsimp only at hk ha hsa ⊢
 have hbb : k < (aZ (iE lv (wS ts pts[i.toNat]! [2] ||| g8 pts[i.toNat]!))).length → 0 ≤ (aZ (iE lv (wS ts pts[i.toNat]! [2] ||| g8 pts[i.toNat]!)))[k]! ∧ (aZ (iE lv (wS ts pts[i.toNat]! [2] ||| g8 pts[i.toNat]!)))[k]! < ts.length := fun h => gH hlt h
 repeat' (first|refine aE ?_|(refine aK ?_ ?_ <;> intro hc hq <;> try (exfalso;omega))|fail)
 ·(refine bC (k + 1, _) (Le.renA [(0, 0)]) ?_ ?_)
  ·dsimp only
   refine ⟨by omega,?_,inferInstance⟩
   rw [ha]; unfold Ov;rw [dH _ _ _ _ (by omega)]
  ·dsimp only;omega
 ·refine aD rfl ⟨?_, rfl⟩
  simp only [aN]
  rw [ha,List.take_of_length_le (by omega)]; rfl
theorem B4 (ts:List Int) (bd:List AL.Stmt) (pts:List Pnt) (x:Pnt) (mb:Nat) (htl:ts.length ≤ 6) (hmb:Sm mb) (hst:aL x < ts.length) (hy:0 ≤ x.y ∧ (3 ≤ x.op → x.op ≤ 7 → x.y < ts.length)):PC Tryz.prog 236 [aG ts bd pts,dS x,iv (mb:Int)] (fun r => r = sl Fs (fE ts x (mb.testBit (aL x).toNat))):=by
 refine aC Tryz.func236 Tryz.ntmps236 ?_
 repeat' (first|(apply aF;first|(apply fC (d := 7) (e := 2);rfl;rfl)|(first|(apply aA (k := 143);rfl;(apply yY);exact Pur.pf;rfl)|(apply aA (k := 199);rfl;(apply zH <;> (omega));exact Pur.pf;rfl)))|refine aE ?_|(refine aK ?_ ?_ <;> intro hc hq <;> try (exfalso;omega))|(refine bW ?_ ?_ <;> intro hg hq <;> try (exfalso;omega))|fail)
 all_goals first|refine aV (Le.frzD (d := 6) (i := 1) rfl rfl) ?_|refine aV (Le.frzD (d := 6) (i := 3) rfl rfl) ?_|refine aV (Le.frzD (d := 6) (i := 5) rfl rfl) ?_
 all_goals refine aD rfl ⟨?_,(by (rfl))⟩
 all_goals simp only [aN,fE]
 all_goals have h1 := mB mb (aL x).toNat
 all_goals (try (rw [if_neg (show ¬ (0 ≤ aL x ∧ ts[(aL x).toNat]! = 2 ∧ mb.testBit (aL x).toNat = true) from fun h => by omega)]))
 all_goals (simp_all <;> rfl)
theorem qZ (ts:List Int) (bd:List AL.Stmt) (pts:List Pnt) (i:Int) (mb loans:Nat) (w:WG ts pts) (hi:0 ≤ i ∧ i < pts.length) (hmb:Sm mb) (hlo:loans < 2 ^ pts.length):PC Tryz.prog 185 [aG ts bd pts,iv i,iv (mb:Int),.v (.int .u64 (loans:Int))] (fun r => r = .v (.int .u64 (DG pts loans (fE ts pts[i.toNat]! (mb.testBit (aL pts[i.toNat]!).toNat)) 0:Nat))):=by
 have hpl := w.pl
 have htl := w.tl
 have hin : i.toNat < pts.length := by omega
 have hst := (w.set i.toNat hin).1
 have hy := w.y i.toNat hin
 have hx := w.x i.toNat hin
 have hop := w.op i.toNat hin
 have hlsm : Sm loans := ⟨Nat.lt_of_lt_of_le hlo (Nat.pow_le_pow_right (by decide) (by omega))⟩
 have hacc := sO (mb.testBit (aL pts[i.toNat]!).toNat) w hin
 have hal := pS ts pts[i.toNat]! (mb.testBit (aL pts[i.toNat]!).toNat)
 refine aC Tryz.func185 Tryz.ntmps185 ?_
 repeat' (first|(apply aF;(apply aA (k := 236);rfl;(apply B4 <;> (assumption));exact Pur.pf;rfl))|refine aE ?_|fail)
 generalize fE ts pts[i.toNat]! (mb.testBit (aL pts[i.toNat]!).toNat) = acs at hacc hal
 refine aH (σ := Nat × Nat) [0,3,23,24] [] (fun k => [(25,iv (k.1 : Int)),(9,.v (.int .u64 (k.2 : Int)))]) (fun k => []) (fun k => k.1 ≤ acs.length ∧ k.2 = DG pts loans (acs.take k.1) 0 ∧ k.2 < 2 ^ pts.length) (fun k => acs.length - k.1) (0,0) ⟨by omega,rfl,Nat.pow_pos (by decide)⟩ ?_
 rintro ⟨k,a⟩ ⟨hk,ha,hab⟩
 dsimp only at hk ha hab ⊢
 by_cases hkn : k < acs.length
 ·have hcv := hacc _ (aR acs k hkn)
  have hof : ∀ V,Sm (rU pts V) := fun V => Jh w V
  have hll := cC (loans &&& rU pts (2 ^ (acs[k]!.var).toNat))
  have hlb : loans &&& rU pts (2 ^ (acs[k]!.var).toNat) < 2 ^ pts.length := Nat.lt_of_le_of_lt Nat.and_le_left hlo
  have htk := dH (fun a c => JT pts c.write (aZ (loans &&& rU pts (2 ^ c.var.toNat))) a) acs 0 k hkn
  repeat' (first|(apply aF;first|(apply gC;rfl;rfl;infer_instance;omega;rfl;(case' kk => intro hsm))|(first|(apply aA (k := 76);rfl;(apply kT <;> (infer_instance));(rfl);rfl)|(apply aA (k := 235);rfl;(apply Ak <;> (assumption));exact Pur.pf;rfl)))|refine aE ?_|(refine aK ?_ ?_ <;> intro hc hq <;> try (exfalso;omega))|fail)
  refine aH (σ := Nat × Nat) [0,3,11,23,24,25,36,37] [0] (fun j => [(38,iv (j.1 : Int)),(9,.v (.int .u64 (j.2 : Int)))]) (fun j => []) (fun j => j.1 ≤ (aZ (loans &&& rU pts (2 ^ (acs[k]!.var).toNat))).length ∧ j.2 = JT pts acs[k]!.write ((aZ (loans &&& rU pts (2 ^ (acs[k]!.var).toNat))).take j.1) a ∧ j.2 < 2 ^ pts.length) (fun j => (aZ (loans &&& rU pts (2 ^ (acs[k]!.var).toNat))).length - j.1) (0,a) ⟨by omega,rfl,hab⟩ ?_
  rintro ⟨j,b⟩ ⟨hj,hb,hbb⟩
  dsimp only at hj hb hbb ⊢
  have hbsm : Sm b := ⟨Nat.lt_of_lt_of_le hbb (Nat.pow_le_pow_right (by decide) (by omega))⟩
  by_cases hjn : j < (aZ (loans &&& rU pts (2 ^ (acs[k]!.var).toNat))).length
  ·have hlz := gH hlb hjn
   have hstep : JT pts acs[k]!.write ((aZ (loans &&& rU pts (2 ^ (acs[k]!.var).toNat))).take (j + 1)) a = if acs[k]!.write = true ∨ pts[((aZ (loans &&& rU pts (2 ^ (acs[k]!.var).toNat)))[j]!).toNat]!.op = 5 then b ||| 2 ^ ((aZ (loans &&& rU pts (2 ^ (acs[k]!.var).toNat)))[j]!).toNat else b := by
    rw [hb]; unfold JT;rw [dH _ _ _ _ hjn]
   have hb2 : b ||| 2 ^ ((aZ (loans &&& rU pts (2 ^ (acs[k]!.var).toNat)))[j]!).toNat < 2 ^ pts.length := Nat.or_lt_two_pow hbb (Nat.pow_lt_pow_right (by decide) (by omega))
   repeat' (first|(apply aF;(apply gC;rfl;rfl;infer_instance;omega;rfl;(case' kk => intro hsm)))|refine aE ?_|(refine aK ?_ ?_ <;> intro hc hq <;> try (exfalso;omega))|(refine bW ?_ ?_ <;> intro hg hq <;> try (exfalso;omega))|fail)
   all_goals first
    | ((refine bC (j + 1, b ||| 2 ^ ((aZ (loans &&& rU pts (2 ^ (acs[k]!.var).toNat)))[j]!).toNat) (Le.renA [(0, 0)]) ?_ ?_)
       ·dsimp only
        refine ⟨by omega,?_,hb2⟩
        rw [hstep,if_pos (by first|exact .inl (by assumption)|exact .inr (by assumption))]
       ·dsimp only;omega)
    | ((refine bC (j + 1, b) (Le.renA [(0, 0)]) ?_ ?_)
       ·dsimp only
        refine ⟨by omega,?_,hbb⟩
        rw [hstep,if_neg (fun h => h.elim (fun h1 => Bool.noConfusion (h1.symm.trans (by assumption : acs[k]!.write = false))) (fun h2 => absurd h2 (by assumption)))]
       ·dsimp only;omega)
  ·repeat' (first | refine aE ?_ | (refine aK ?_ ?_ <;> intro hc hq <;> try (exfalso; omega))|fail)
   (refine bC (k + 1,b) (Le.renA []) ?_ ?_)
   ·dsimp only
    refine ⟨by omega,?_,hbb⟩
    rw [hb,List.take_of_length_le (by omega),ha]; unfold DG;rw [htk]
   ·dsimp only;omega
 ·repeat' (first | refine aE ?_ | (refine aK ?_ ?_ <;> intro hc hq <;> try (exfalso; omega))|fail)
  refine aD rfl ⟨?_,rfl⟩
  simp only [aN]
  rw [ha,List.take_of_length_le (by omega)]
end Go.Proofs.YtahdccneecdmmaaGreat
