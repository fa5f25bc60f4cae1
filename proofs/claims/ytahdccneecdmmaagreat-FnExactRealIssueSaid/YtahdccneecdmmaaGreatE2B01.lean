/-
 A part of the proofs over this program: rules and contracts of its functions (the contracts).
-/
import Derived.Test.YtahdccneecdmmaaGreatE2A07
import Derived.Test.YtahdccneecdmmaaGreatRows
set_option linter.unusedVariables false
set_option linter.unusedSimpArgs false
set_option maxHeartbeats 8000000
set_option maxRecDepth 4000
attribute [local irreducible] Go.AL.RW Go.AL.AW Go.AL.Stop
namespace Go.Proofs.YtahdccneecdmmaaGreat
open Go.AL
theorem c9 (a b c:Int):PC Tryz.prog 54 [iv a,iv b,iv c] (fun r => r = bv (decide (b ≤ a) && decide (a ≤ c))):=by
 refine aB Tryz.func54 Tryz.ntmps54 ?_
 repeat' (first|refine aE ?_|(refine bO ?_ ?_ <;> intro hg hq <;> try (exfalso;omega))|refine dF ?_|fail)
 all_goals (refine ⟨?_,rfl⟩; simp only [aM,AV.v.injEq,Value.bool.injEq,Value.int.injEq,true_and])
 all_goals grind
theorem z2 (t:Int):PC Tryz.prog 234 [iv t] (fun r => r = bv (gC t)):=by
 refine aB Tryz.func234 Tryz.ntmps234 ?_
 repeat' (first|refine aE ?_|(refine bO ?_ ?_ <;> intro hg hq <;> try (exfalso;omega))|refine dF ?_|fail)
 all_goals (refine ⟨?_,rfl⟩; simp only [aM,AV.v.injEq,Value.bool.injEq,Value.int.injEq,true_and])
 all_goals grind [gC]
theorem GG (t:Int):PC Tryz.prog 260 [iv t] (fun r => r = bv (gC t)):=by
 refine aB Tryz.func260 Tryz.ntmps260 ?_
 repeat' (first|refine aE ?_|(refine bO ?_ ?_ <;> intro hg hq <;> try (exfalso;omega))|refine dF ?_|fail)
 all_goals (refine ⟨?_,rfl⟩; simp only [aM,AV.v.injEq,Value.bool.injEq,Value.int.injEq,true_and])
 all_goals grind [gC]
theorem BH (t:Int):PC Tryz.prog 263 [iv t] (fun r => r = bv (decide (t = 2) || gC t)):=by
 refine aB Tryz.func263 Tryz.ntmps263 ?_
 repeat' (first|(apply aF;(apply aA (k := 234);rfl;(apply z2);(rfl);rfl))|refine aE ?_|(refine bO ?_ ?_ <;> intro hg hq <;> try (exfalso;omega))|refine dF ?_|fail)
 all_goals (refine ⟨?_,rfl⟩; simp only [aM,AV.v.injEq,Value.bool.injEq,Value.int.injEq,true_and])
 all_goals grind
theorem Ct (t:Int):PC Tryz.prog 230 [iv t] (fun r => r = bv (decide (t = 9) || decide (t = 10))):=by
 refine aB Tryz.func230 Tryz.ntmps230 ?_
 repeat' (first|refine aE ?_|(refine bO ?_ ?_ <;> intro hg hq <;> try (exfalso;omega))|refine dF ?_|fail)
 all_goals (refine ⟨?_,rfl⟩; simp only [aM,AV.v.injEq,Value.bool.injEq,Value.int.injEq,true_and])
 all_goals grind
theorem Il (ts:List Int) (v:Int):PC Tryz.prog 264 [sl cI ts,iv v] (fun r => r = iv (eV ts v)):=by
 refine aB Tryz.func264 Tryz.ntmps264 ?_
 repeat' (first|refine aE ?_|(refine aJ ?_ ?_ <;> intro hc hq <;> try (exfalso;omega))|(refine bO ?_ ?_ <;> intro hg hq <;> try (exfalso;omega))|refine dF ?_|fail)
 all_goals (refine ⟨?_,rfl⟩; simp only [aM,AV.v.injEq,Value.bool.injEq,Value.int.injEq,true_and])
 all_goals grind [eV]
theorem GN (ts:List Int) (v:Int) (hl:ts.length ≤ 1048576):PC Tryz.prog 55 [sl cI ts,iv v] (fun r => r = iv (eV ts v)):=by
 refine aB Tryz.func55 Tryz.ntmps55 ?_
 repeat' (first|(apply aF;(apply aA (k := 54);rfl;(apply c9);(rfl);rfl))|refine aE ?_|(refine aJ ?_ ?_ <;> intro hc hq <;> try (exfalso;omega))|refine dF ?_|fail)
 all_goals (refine ⟨?_,rfl⟩; simp only [aM,AV.v.injEq,Value.bool.injEq,Value.int.injEq,true_and])
 all_goals grind [eV]
theorem CA (ts:List Int) (s:AL.Stmt) (hl:bW ts = true):PC Tryz.prog 231 [sl cI ts,cK s] (fun r => r = bv (s.th.isEmpty && s.el.isEmpty && dA ts s)):=by
 have hl2 := lO hl
 have hx := iG hl s.x
 have hy := iG hl s.y
 refine aB Tryz.func231 Tryz.ntmps231 ?_
 repeat' (first|(apply aF;(first|(apply aA (k := 54);rfl;(apply c9);(rfl);rfl)|(apply aA (k := 55);rfl;(apply GN <;> (omega));exact Pur.pf;rfl)|(apply aA (k := 263);rfl;(apply BH);(rfl);rfl)))|refine aE ?_|(refine aJ ?_ ?_ <;> intro hc hq <;> try (exfalso;omega))|(refine bO ?_ ?_ <;> intro hg hq <;> try (exfalso;omega))|refine bI ?_|refine dF ?_|fail)
 all_goals (refine ⟨?_,rfl⟩; simp only [aM,AV.v.injEq,Value.bool.injEq,Value.int.injEq,true_and])
 all_goals (cases hth : s.th <;> cases hel : s.el <;> simp only [hth,hel,List.length_nil,List.length_cons,List.isEmpty_nil,List.isEmpty_cons,Bool.true_and,Bool.false_and] at *)
 all_goals (try unfold dA)
 all_goals (try simp only [gC,Bool.or_eq_true,Bool.or_eq_false_iff,decide_eq_true_eq,decide_eq_false_iff_not] at *)
 all_goals grind
theorem CE (ts:List Int) (s:AL.Stmt) (hl:bW ts = true):PC Tryz.prog 238 [sl cI ts,cK s] (fun r => r = bv (dA ts s)):=by
 have hl2 := lO hl
 have hx := iG hl s.x
 have hy := iG hl s.y
 refine aB Tryz.func238 Tryz.ntmps238 ?_
 repeat' (first|(apply aF;(apply aA (k := 264);rfl;(apply Il);exact Pur.pf;rfl))|refine aE ?_|(refine aJ ?_ ?_ <;> intro hc hq <;> try (exfalso;omega))|(refine bO ?_ ?_ <;> intro hg hq <;> try (exfalso;omega))|refine dF ?_|fail)
 all_goals (refine ⟨?_,rfl⟩; simp only [aM,AV.v.injEq,Value.bool.injEq,Value.int.injEq,true_and])
 all_goals (try unfold dA)
 all_goals grind
theorem EI (ts:List Int) (hl:bW ts = true) (m:Nat) (ih:∀ l (d:Int),aU l < m → 0 ≤ d → d ≤ 1000 → PC Tryz.prog 128 [sl cI ts,sl aY l,iv d] (fun r => r = bv (okL ts d.toNat l))) (s:AL.Stmt) (d:Int) (hs:dY s ≤ m) (hd0:0 ≤ d) (hd:d ≤ 1000) :
  PC Tryz.prog 195 [sl cI ts,cK s,iv d] (fun r => r = bv (rR ts d.toNat s)) := by
 rw [J4 ts d hd0]
 refine aB Tryz.func195 Tryz.ntmps195 ?_
 repeat' (first|(apply aF;(first|(apply aA (k := 128);rfl;(apply ih <;> (first|omega|(have := k5 s;omega)));exact Pur.pf;rfl)|(apply aA (k := 238);rfl;(apply CE <;> (assumption));exact Pur.pf;rfl)))|refine aE ?_|(refine aJ ?_ ?_ <;> intro hc hq <;> try (exfalso;omega))|(refine bO ?_ ?_ <;> intro hg hq <;> try (exfalso;omega))|refine dF ?_|fail)
 all_goals (refine ⟨?_,rfl⟩; simp only [aM,AV.v.injEq,Value.bool.injEq,Value.int.injEq,true_and])
 all_goals (cases hth : s.th <;> cases hel : s.el <;> simp only [hth,hel,List.length_nil,List.length_cons,List.isEmpty_nil,List.isEmpty_cons,Bool.true_and,Bool.false_and] at *)
 all_goals grind
theorem EN (ts:List Int) (hl:bW ts = true) (m:Nat) (ih:∀ s (d:Int),dY s ≤ m → 0 ≤ d → d ≤ 1000 → PC Tryz.prog 195 [sl cI ts,cK s,iv d] (fun r => r = bv (rR ts d.toNat s))) (l:List AL.Stmt) (d:Int) (hs:aU l ≤ m) (hm:m ≤ 100000000) (hd0:0 ≤ d) (hd:d ≤ 1000) :
  PC Tryz.prog 128 [sl cI ts,sl aY l,iv d] (fun r => r = bv (okL ts d.toNat l)) := by
 have hlen := fJ l
 refine aB Tryz.func128 Tryz.ntmps128 ?_
 repeat' (first|refine aE ?_|fail)
 refine aH (σ := Nat) [0,1,2] [] (fun k => [(7,iv (k : Int))]) (fun k => []) (fun k => k ≤ l.length ∧ ∀ i,i < k → rR ts d.toNat l[i]! = true) (fun k => l.length - k) (0) ⟨by omega,by omega⟩ ?_
 intro k ⟨hk,hall⟩
 have hck := iE l k
 repeat' (first|(apply aF;(apply aA (k := 195);rfl;(apply ih _ d (Nat.le_trans (hck (by omega)) hs) hd0 hd);exact Pur.pf;rfl))|refine aE ?_|(refine aJ ?_ ?_ <;> intro hc hq <;> try (exfalso;omega))|refine dF ?_|fail)
 ·(refine ⟨?_, rfl⟩; simp only [aM, AV.v.injEq, Value.bool.injEq, Value.int.injEq, true_and])
  rw [GV (k := k) (by omega) hq]
 ·(refine bC (k + 1) (Le.renA []) ?_ ?_)
  ·grind
  ·omega
 ·(refine ⟨?_, rfl⟩; simp only [aM, AV.v.injEq, Value.bool.injEq, Value.int.injEq, true_and])
  rw [JE (fun i hi => hall i (by omega))]
theorem KH (ts:List Int) (hl:bW ts = true):∀ (m:Nat),m ≤ 100000000 → (∀ s (d:Int),dY s ≤ m → 0 ≤ d → d ≤ 1000 → PC Tryz.prog 195 [sl cI ts,cK s,iv d] (fun r => r = bv (rR ts d.toNat s))) ∧
  (∀ l (d : Int),aU l ≤ m → 0 ≤ d → d ≤ 1000 → PC Tryz.prog 128 [sl cI ts,sl aY l,iv d] (fun r => r = bv (okL ts d.toNat l))) := by
 intro m
 induction m using Nat.strongRecOn with
 | ind m ih =>
  intro hm
  have h1 : ∀ s (d : Int), dY s ≤ m → 0 ≤ d → d ≤ 1000 → PC Tryz.prog 195 [sl cI ts, cK s, iv d] (fun r => r = bv (rR ts d.toNat s)) :=
   fun s d h1 h2 h3 => EI ts hl m (fun l d' g1 g2 g3 => (ih (aU l) g1 (by omega)).2 l d' (Nat.le_refl _) g2 g3) s d h1 h2 h3
  exact ⟨h1,fun l d g1 g2 g3 => EN ts hl m h1 l d g1 hm g2 g3⟩
theorem BK (m0:Nat) (ih:∀ l (most:Int),aU l < m0 → -1 ≤ most → most ≤ 1000 → PC Tryz.prog 129 [sl aY l,iv most] (fun r => r = iv (nC most 0 l))) (l:List AL.Stmt) (most:Int) (hs:aU l ≤ m0) (hm:m0 ≤ 100000000) (hd0:-1 ≤ most) (hd:most ≤ 1000) :
  PC Tryz.prog 129 [sl aY l,iv most] (fun r => r = iv (nC most 0 l)) := by
 have hlen := fJ l
 have hall := lF l most 0
 refine aB Tryz.func129 Tryz.ntmps129 ?_
 repeat' (first|refine aE ?_|fail)
 refine aH (σ := Nat × Int) [0,1] [] (fun k => [(6,iv (k.1 : Int)),(5,iv k.2)]) (fun k => []) (fun k => k.1 ≤ l.length ∧ nC most k.2 (l.drop k.1) = nC most 0 l ∧ 0 ≤ k.2 ∧ k.2 ≤ aU l) (fun k => l.length - k.1) (0,0) ⟨by omega,rfl,by omega,by omega⟩ ?_
 rintro ⟨k,n⟩ ⟨hk,hn,hn0,hn1⟩
 dsimp only at hk hn hn0 hn1 ⊢
 have hck := iE l k
 have hct := k5 l[k]!
 have b1 := lF l[k]!.th (most - n) 0
 have b2 := fun z => lF l[k]!.el z 0
 have b3 := IC l[k]! most n
 have b4 := lF (l.drop (k + 1)) most (IJ most n l[k]!)
 have b5 := HA most n l k
 rw [KV] at b3 b4 b5
 repeat' (first|(apply aF;(apply aA (k := 129);rfl;(apply ih <;> omega);exact Pur.pf;rfl))|refine aE ?_|(refine aJ ?_ ?_ <;> intro hc hq <;> try (exfalso;omega))|(refine bO ?_ ?_ <;> intro hg hq <;> try (exfalso;omega))|refine dF ?_|fail)
 ·(refine bC (k + 1, n + 1 + nC (most - n) 0 l[k]!.th + nC (most - (n + 1 + nC (most - n) 0 l[k]!.th)) 0 l[k]!.el) (Le.renA []) ?_ ?_)
  ·dsimp only;grind
  ·dsimp only;omega
 ·(refine bC (k + 1, n + 1 + nC (most - n) 0 l[k]!.th) (Le.renA []) ?_ ?_)
  ·dsimp only;grind
  ·dsimp only;omega
 ·(refine ⟨?_, rfl⟩; simp only [aM, AV.v.injEq, Value.bool.injEq, Value.int.injEq, true_and])
  rw [← hn,G6 _ _ _ (by omega)]
 ·(refine ⟨?_, rfl⟩; simp only [aM, AV.v.injEq, Value.bool.injEq, Value.int.injEq, true_and])
  rw [← hn,JU _ _ _ _ (by omega)]
theorem E7 (l:List AL.Stmt) (most:Int) (hs:aU l ≤ 100000000) (hd0:-1 ≤ most) (hd:most ≤ 1000) :
  PC Tryz.prog 129 [sl aY l,iv most] (fun r => r = iv (nC most 0 l)) := by
 have h : ∀ (m : Nat), m ≤ 100000000 → ∀ l (most : Int), aU l ≤ m → -1 ≤ most → most ≤ 1000 → PC Tryz.prog 129 [sl aY l, iv most] (fun r => r = iv (nC most 0 l)) := by
  intro m
  induction m using Nat.strongRecOn with
  | ind m ih =>
   intro hm l most h1 h2 h3
   exact BK m (fun l' most' g1 g2 g3 => ih _ g1 (by omega) l' most' (Nat.le_refl _) g2 g3) l most h1 hm h2 h3
 exact h _ hs l most (Nat.le_refl _) hd0 hd
theorem Gy (ts:List Int) (l:List AL.Stmt) (d:Int) (hl:bW ts = true) (hs:aU l ≤ 100000000) (hd0:0 ≤ d) (hd:d ≤ 1000):PC Tryz.prog 128 [sl cI ts,sl aY l,iv d] (fun r => r = bv (okL ts d.toNat l)) :=
 (KH ts hl _ hs).2 l d (Nat.le_refl _) hd0 hd
theorem vG (ts:List Int) (hl:ts.length ≤ 1048576):PC Tryz.prog 127 [sl cI ts] (fun r => r = bv (bW ts)):=by
 refine aB Tryz.func127 Tryz.ntmps127 ?_
 repeat' (first|refine aE ?_|fail)
 refine aH (σ := Nat) [0] [] (fun k => [(3,iv (k : Int))]) (fun k => []) (fun k => k ≤ ts.length ∧ ∀ i,i < k → 1 ≤ ts[i]! ∧ ts[i]! ≤ 4) (fun k => ts.length - k) (0) ⟨by omega,by omega⟩ ?_
 intro k ⟨hk,hall⟩
 repeat' (first|refine aE ?_|(refine aJ ?_ ?_ <;> intro hc hq <;> try (exfalso;omega))|(refine bO ?_ ?_ <;> intro hg hq <;> try (exfalso;omega))|refine dF ?_|fail)
 ·(refine ⟨?_, rfl⟩; simp only [aM, AV.v.injEq, Value.bool.injEq, Value.int.injEq, true_and])
  unfold bW;grind [mZ,mY]
 ·(refine bC (k + 1) (Le.renA []) ?_ ?_)
  ·grind
  ·omega
 ·(refine ⟨?_, rfl⟩; simp only [aM, AV.v.injEq, Value.bool.injEq, Value.int.injEq, true_and])
  unfold bW;grind [mZ,mY]
 ·(refine ⟨?_, rfl⟩; simp only [aM, AV.v.injEq, Value.bool.injEq, Value.int.injEq, true_and])
  unfold bW;grind [mZ,mY]
theorem j6 (p:Prg) (hl:p.types.length ≤ 1048576) (hs:aU p.body ≤ 100000000):PC Tryz.prog 61 [bQ p] (fun r => r = bv (bK p)):=by
 unfold bK
 cases ht : bW p.types
 ·refine aB Tryz.func61 Tryz.ntmps61 ?_
  repeat' (first|(apply aF;(apply aA (k := 127);rfl;(apply vG <;> (assumption));exact Pur.pf;rfl))|refine aE ?_|refine dF ?_|fail)
  (refine ⟨?_,rfl⟩; simp only [aM,AV.v.injEq,Value.bool.injEq,Value.int.injEq,true_and])
  rfl
 ·refine aB Tryz.func61 Tryz.ntmps61 ?_
  repeat' (first|(apply aF;(first|(apply aA (k := 127);rfl;(apply vG <;> (assumption));exact Pur.pf;rfl)|(apply aA (k := 128);rfl;(apply Gy <;> (first|assumption|omega));exact Pur.pf;rfl)|(apply aA (k := 129);rfl;(apply E7 <;> (first|assumption|omega));exact Pur.pf;rfl)))|refine aE ?_|(refine bO ?_ ?_ <;> intro hg hq <;> try (exfalso;omega))|refine dF ?_|fail)
  ·(refine ⟨?_, rfl⟩; simp only [aM, AV.v.injEq, Value.bool.injEq, Value.int.injEq, true_and])
   rw [show okL p.types 4 p.body = true from hq]; simp only [Bool.true_and,LF,decide_eq_decide]; omega
  ·(refine ⟨?_, rfl⟩; simp only [aM, AV.v.injEq, Value.bool.injEq, Value.int.injEq, true_and])
   rw [show okL p.types 4 p.body = false from hq]; rfl
end Go.Proofs.YtahdccneecdmmaaGreat
namespace Go.Proofs.YtahdccneecdmmaaGreat
open Go.AL Go.RowKit
variable {N : Nat} {Q : Exit → AS → Prop} {all : Array Oper} {rest : List Oper} {tsl : List (Nat × AV)} {hsl : List (Nat × Option (List AV))} {nidl : Nat} {z0 : Lo} {md : Md} {d : Nat} {ty : TypeId} {pos : String} {af : Array Edge} {tys : Array TypeId}
theorem Jj {ts:List Int}{s:AL.Stmt}{nest c:Int}{x0 x1 x2 x3:Operand}{i0:Nat}(ha0:ev (lk tsl) x0 = some (sl cI ts)) (ha1:ev (lk tsl) x1 = some (cK s)) (ha2:ev (lk tsl) x2 = some (iv nest)) (ha3:ev (lk tsl) x3 = some (.optr i0 0)) (hH0:aO hsl i0 = some ([iv c])) (hmc:MC Tryz.prog 180 [sl cI ts,cK s,iv nest,.optr 0 0] [(0,some ([iv c]))] 1 (fun _:Unit => True) (fun _ => bv (lU ts nest c s).1) (fun _ => [(0,some ([iv (lU ts nest c s).2]))])) (hM:Nat.ble (nidl + 0) aV = true) (hN:Nat.blt d N = true){md':Md}[hmd:MdA md (fU [x0,x1,x2,x3] ++ [.inr i0]) (List.map Sum.inr (List.map Prod.fst ([(i0,some ([iv (lU ts nest c s).2]))]:List (Nat × Option (List AV)))) ++ [.inl d]) md'] (kk:RW Tryz.prog N all Q md' rest ⟨(d,bv (lU ts nest c s).1) :: tsl,hO hsl [(i0,some ([iv (lU ts nest c s).2]))],nidl + 0,z0⟩):RW Tryz.prog N all Q md (⟨some d,.call ⟨.value (.func 180),#[x0,x1,x2,x3],tys⟩,ty,pos,af,none⟩ :: rest) ⟨tsl,hsl,nidl,z0⟩:=by
 exact aZ (l := [x0,x1,x2,x3]) [i0] 1 [(i0,some ([iv (lU ts nest c s).2]))] hmc (avs := [sl cI ts,cK s,iv nest,.optr i0 0]) (by simp only [evL,ha0,ha1,ha2,ha3]) rfl hM hN (md' := md') (hmd := hmd) kk
theorem rX {ts:List Int}{l:List AL.Stmt}{nest c:Int}{x0 x1 x2 x3:Operand}{i0:Nat}(ha0:ev (lk tsl) x0 = some (sl cI ts)) (ha1:ev (lk tsl) x1 = some (sl aY l)) (ha2:ev (lk tsl) x2 = some (iv nest)) (ha3:ev (lk tsl) x3 = some (.optr i0 0)) (hH0:aO hsl i0 = some ([iv c])) (hmc:MC Tryz.prog 101 [sl cI ts,sl aY l,iv nest,.optr 0 0] [(0,some ([iv c]))] 1 (fun _:Unit => True) (fun _ => bv (jV ts nest c l).1) (fun _ => [(0,some ([iv (jV ts nest c l).2]))])) (hM:Nat.ble (nidl + 0) aV = true) (hN:Nat.blt d N = true){md':Md}[hmd:MdA md (fU [x0,x1,x2,x3] ++ [.inr i0]) (List.map Sum.inr (List.map Prod.fst ([(i0,some ([iv (jV ts nest c l).2]))]:List (Nat × Option (List AV)))) ++ [.inl d]) md'] (kk:RW Tryz.prog N all Q md' rest ⟨(d,bv (jV ts nest c l).1) :: tsl,hO hsl [(i0,some ([iv (jV ts nest c l).2]))],nidl + 0,z0⟩):RW Tryz.prog N all Q md (⟨some d,.call ⟨.value (.func 101),#[x0,x1,x2,x3],tys⟩,ty,pos,af,none⟩ :: rest) ⟨tsl,hsl,nidl,z0⟩:=by
 exact aZ (l := [x0,x1,x2,x3]) [i0] 1 [(i0,some ([iv (jV ts nest c l).2]))] hmc (avs := [sl cI ts,sl aY l,iv nest,.optr i0 0]) (by simp only [evL,ha0,ha1,ha2,ha3]) rfl hM hN (md' := md') (hmd := hmd) kk
theorem K3 (ts:List Int) (htO:bW ts = true) (m:Nat) (scanAll_ih:∀ l nest c,aU l < m → 0 ≤ nest → nest ≤ 4 → 0 ≤ c → c ≤ 30 → MC Tryz.prog 101 [sl cI ts,sl aY l,iv nest,.optr 0 0] [(0,some ([iv c]))] 1 (fun _:Unit => True) (fun _ => bv (jV ts nest c l).1) (fun _ => [(0,some ([iv (jV ts nest c l).2]))])) (s:AL.Stmt) (nest c:Int) (hs:dY s ≤ m) (hn0:0 ≤ nest) (hn:nest ≤ 4) (hc0:0 ≤ c) (hc:c ≤ 30):MC Tryz.prog 180 [sl cI ts,cK s,iv nest,.optr 0 0] [(0,some ([iv c]))] 1 (fun _:Unit => True) (fun _ => bv (lU ts nest c s).1) (fun _ => [(0,some ([iv (lU ts nest c s).2]))]):=by
 have ct := k5 s
 have hb1 := Nz ts s.th (nest + 1) (c + 1)
 refine aX Tryz.func180 Tryz.ntmps180 ?_
 repeat' (first|(apply aF;(first|(apply rX;rfl;rfl;rfl;rfl;(rfl);(apply scanAll_ih <;> (first|assumption|omega|grind));rfl;rfl)|(apply aA (k := 230);rfl;(apply Ct);(rfl);rfl)|(apply aA (k := 231);rfl;(apply CA <;> (assumption));exact Pur.pf;rfl)))|refine aE ?_|(refine aJ ?_ ?_ <;> intro hc hq <;> try (exfalso;omega))|(refine bO ?_ ?_ <;> intro hg hq <;> try (exfalso;omega))|fail)
 all_goals (refine aD rfl ?_; refine aT () trivial ?_ ⟨sE ?_,trivial⟩)
 all_goals (try simp only [aM,AV.v.injEq,Value.bool.injEq,Value.int.injEq,true_and,gM,List.take,List.drop,List.length,List.append,List.nil_append,List.append_nil,Option.some.injEq,List.cons.injEq,and_true])
 all_goals rw [Kv]
 all_goals clear scanAll_ih
 all_goals (cases hel : s.el <;> simp only [hel,List.length_nil,List.length_cons] at * <;> grind)
theorem Cg (ts:List Int) (m:Nat) (hm:m ≤ 100000000) (scan_ih:∀ s nest c,dY s ≤ m → 0 ≤ nest → nest ≤ 4 → 0 ≤ c → c ≤ 30 → MC Tryz.prog 180 [sl cI ts,cK s,iv nest,.optr 0 0] [(0,some ([iv c]))] 1 (fun _:Unit => True) (fun _ => bv (lU ts nest c s).1) (fun _ => [(0,some ([iv (lU ts nest c s).2]))])) (l:List AL.Stmt) (nest c:Int) (hs:aU l ≤ m) (hn0:0 ≤ nest) (hn:nest ≤ 4) (hc0:0 ≤ c) (hc:c ≤ 30):MC Tryz.prog 101 [sl cI ts,sl aY l,iv nest,.optr 0 0] [(0,some ([iv c]))] 1 (fun _:Unit => True) (fun _ => bv (jV ts nest c l).1) (fun _ => [(0,some ([iv (jV ts nest c l).2]))]):=by
 have hlen := fJ l
 refine aX Tryz.func101 Tryz.ntmps101 ?_
 repeat' (first|refine aE ?_|fail)
 refine aH (σ := Nat × Int) [0,2,3,11,12] [] (fun k => [(13,iv (k.1 : Int))]) (fun k => [(0,some [iv k.2])]) (fun k => k.1 ≤ l.length ∧ jV ts nest k.2 (l.drop k.1) = jV ts nest c l ∧ 0 ≤ k.2 ∧ k.2 ≤ 30) (fun k => l.length - k.1) (0,c) ⟨by omega,rfl,by omega,by omega⟩ ?_
 rintro ⟨k,c'⟩ ⟨hk,hn,hn0,hn1⟩
 dsimp only at hk hn hn0 hn1 ⊢
 have hck := iE l k
 have hb1 := L1 ts l[k]! nest c'
 have hst := @scL_stop ts nest c' l k
 repeat' (first|(apply aF;(apply Jj;rfl;rfl;rfl;rfl;(rfl);(apply scan_ih <;> (first|assumption|omega));rfl;rfl))|refine aE ?_|(refine aJ ?_ ?_ <;> intro hc hq <;> try (exfalso;omega))|fail)
 ·(refine aD rfl ?_; refine aT () trivial ?_ ⟨sE ?_, trivial⟩)
  all_goals (try simp only [aM,AV.v.injEq,Value.bool.injEq,Value.int.injEq,true_and,gM,List.take,List.drop,List.length,List.append,List.nil_append,List.append_nil,Option.some.injEq,List.cons.injEq,and_true])
  all_goals (rw [← hn,hst (by omega)]; grind)
 ·(refine bC (k + 1, (lU ts nest c' l[k]!).2) (Le.renA []) ?_ ?_)
  ·dsimp only;grind
  ·dsimp only;omega
 ·(refine aD rfl ?_; refine aT () trivial ?_ ⟨sE ?_, trivial⟩)
  all_goals (try simp only [aM,AV.v.injEq,Value.bool.injEq,Value.int.injEq,true_and,gM,List.take,List.drop,List.length,List.append,List.nil_append,List.append_nil,Option.some.injEq,List.cons.injEq,and_true])
  all_goals (rw [← hn,List.drop_of_length_le (by omega),jV])
theorem Eg (ts:List Int) (hl:bW ts = true):∀ (m:Nat),m ≤ 100000000 → (∀ s (nest c:Int),dY s ≤ m → 0 ≤ nest → nest ≤ 4 → 0 ≤ c → c ≤ 30 → MC Tryz.prog 180 [sl cI ts,cK s,iv nest,.optr 0 0] [(0,some ([iv c]))] 1 (fun _:Unit => True) (fun _ => bv (lU ts nest c s).1) (fun _ => [(0,some ([iv (lU ts nest c s).2]))])) ∧
  (∀ l (nest c : Int),aU l ≤ m → 0 ≤ nest → nest ≤ 4 → 0 ≤ c → c ≤ 30 → MC Tryz.prog 101 [sl cI ts,sl aY l,iv nest,.optr 0 0] [(0,some ([iv c]))] 1 (fun _ : Unit => True) (fun _ => bv (jV ts nest c l).1) (fun _ => [(0,some ([iv (jV ts nest c l).2]))])) := by
 intro m
 induction m using Nat.strongRecOn with
 | ind m ih =>
  intro hm
  have h1 : ∀ s (nest c : Int), dY s ≤ m → 0 ≤ nest → nest ≤ 4 → 0 ≤ c → c ≤ 30 → MC Tryz.prog 180 [sl cI ts, cK s, iv nest, .optr 0 0] [(0, some ([iv c]))] 1 (fun _ : Unit => True) (fun _ => bv (lU ts nest c s).1) (fun _ => [(0, some ([iv (lU ts nest c s).2]))]) :=
   fun s nest c h1 h2 h3 h4 h5 => K3 ts hl m (fun l nest c g1 g2 g3 g4 g5 => (ih (aU l) g1 (by omega)).2 l nest c (Nat.le_refl _) g2 g3 g4 g5) s nest c h1 h2 h3 h4 h5
  exact ⟨h1,fun l nest c g1 g2 g3 g4 g5 => Cg ts m hm h1 l nest c g1 g2 g3 g4 g5⟩
theorem FM (ts:List Int) (l:List AL.Stmt) (nest c:Int) (hl:bW ts = true) (hs:aU l ≤ 100000000) (hn0:0 ≤ nest) (hn:nest ≤ 4) (hc0:0 ≤ c) (hc:c ≤ 30):MC Tryz.prog 101 [sl cI ts,sl aY l,iv nest,.optr 0 0] [(0,some ([iv c]))] 1 (fun _:Unit => True) (fun _ => bv (jV ts nest c l).1) (fun _ => [(0,some ([iv (jV ts nest c l).2]))]) :=
 (Eg ts hl _ hs).2 l nest c (Nat.le_refl _) hn0 hn hc0 hc
theorem Ch (t:Int):PC Tryz.prog 179 [iv t] (fun r => r = bv (!(decide (1 ≤ t) && decide (t ≤ 4)))):=by
 refine aB Tryz.func179 Tryz.ntmps179 ?_
 repeat' (first|(apply aF;(apply aA (k := 54);rfl;(apply c9);(rfl);rfl))|refine aE ?_|refine dF ?_|fail)
 all_goals (refine ⟨?_,rfl⟩; simp only [aM,AV.v.injEq,Value.bool.injEq,Value.int.injEq,true_and])
def s7 (ts : List Int) : Int := match ts.findIdx? (fun t => !(decide (1 ≤ t) && decide (t ≤ 4))) with | some i => i | none => -1
theorem G5 (ts:List Int) (hl:ts.length ≤ 1048576):PC Tryz.prog 216 [sl cI ts,.v (.func (.func 179) #[] #[])] (fun r => r = iv (s7 ts)):=by
 refine aB Tryz.func216 Tryz.ntmps216 ?_
 repeat' (first|refine aE ?_|fail)
 refine aH (σ := Nat) [0,1,7] [] (fun k => [(8,iv (k : Int))]) (fun k => []) (fun k => k ≤ ts.length ∧ ∀ i,i < k → 1 ≤ ts[i]! ∧ ts[i]! ≤ 4) (fun k => ts.length - k) (0) ⟨by omega,by omega⟩ ?_
 intro k ⟨hk,hall⟩
 repeat' (first|(apply aF;(apply fW;rfl;rfl;infer_instance;rfl;(apply Ch);(rfl);rfl))|refine aE ?_|(refine aJ ?_ ?_ <;> intro hc hq <;> try (exfalso;omega))|refine dF ?_|fail)
 ·(refine ⟨?_, rfl⟩; simp only [aM, AV.v.injEq, Value.bool.injEq, Value.int.injEq, true_and])
  have hlt : k < ts.length := by omega
  have : ts.findIdx? (fun t => !(decide (1 ≤ t) && decide (t ≤ 4))) = some k := by
   rw [List.findIdx?_eq_some_iff_getElem]
   refine ⟨hlt,?_,fun j hj => ?_⟩
   ·rw [← aS ts k hlt]; grind
   ·have := hall j hj;rw [aS ts j (by omega)] at this;simp;omega
  simp only [s7,this]
 ·(refine bC (k + 1) (Le.renA []) ?_ ?_)
  ·grind
  ·omega
 ·(refine ⟨?_, rfl⟩; simp only [aM, AV.v.injEq, Value.bool.injEq, Value.int.injEq, true_and])
  have : ts.findIdx? (fun t => !(decide (1 ≤ t) && decide (t ≤ 4))) = none := by
   rw [List.findIdx?_eq_none_iff]
   intro x hx
   obtain ⟨i,hi,rfl⟩ := List.getElem_of_mem hx
   have := hall i (by omega);rw [aS ts i hi] at this;simp;omega
  simp only [s7,this]
theorem Ek (ts:List Int):decide (0 ≤ s7 ts) = !(ts.all (fun t => decide (1 ≤ t) && decide (t ≤ 4))):=by
 unfold s7
 split
 ·rename_i i h
  obtain ⟨h1,h2,_⟩ := List.findIdx?_eq_some_iff_getElem.1 h
  have : ts.all (fun t => decide (1 ≤ t) && decide (t ≤ 4)) = false := by
   rw [List.all_eq_false]; exact ⟨ts[i],List.getElem_mem h1,by simp at h2 ⊢; omega⟩
  rw [this]; simp
 ·rename_i h
  rw [List.findIdx?_eq_none_iff] at h
  have : ts.all (fun t => decide (1 ≤ t) && decide (t ≤ 4)) = true := by
   rw [List.all_eq_true]; intro x hx;simpa using h x hx
  rw [this]; rfl
theorem E4 (ts:List Int) (hl:ts.length ≤ 1048576):PC Tryz.prog 157 [sl cI ts,.v (.func (.func 179) #[] #[])] (fun r => r = bv (!(ts.all (fun t => decide (1 ≤ t) && decide (t ≤ 4))))):=by
 refine aB Tryz.func157 Tryz.ntmps157 ?_
 repeat' (first|(apply aF;(apply aA (k := 216);rfl;(apply G5 <;> (assumption));exact Pur.pf;rfl))|refine aE ?_|refine dF ?_|fail)
 (refine ⟨?_,rfl⟩; simp only [aM,AV.v.injEq,Value.bool.injEq,Value.int.injEq,true_and])
 exact Ek ts
theorem sZ (ts:List Int) (hl:ts.length ≤ 1048576):PC Tryz.prog 100 [sl cI ts] (fun r => r = bv (bW ts)):=by
 refine aB Tryz.func100 Tryz.ntmps100 ?_
 repeat' (first|(apply aF;(apply aA (k := 157);rfl;(apply E4 <;> (assumption));exact Pur.pf;rfl))|refine aE ?_|(refine bO ?_ ?_ <;> intro hg hq <;> try (exfalso;omega))|refine dF ?_|fail)
 all_goals (refine ⟨?_,rfl⟩; simp only [aM,AV.v.injEq,Value.bool.injEq,Value.int.injEq,true_and])
 all_goals (unfold bW;grind)
theorem IL (p:Prg) (hl:p.types.length ≤ 1048576) (hs:aU p.body ≤ 100000000):PC Tryz.prog 39 [bQ p] (fun r => r = bv (bK p)):=by
 rw [← E5]
 cases ht : bW p.types
 ·refine aB Tryz.func39 Tryz.ntmps39 ?_
  repeat' (first|(apply aF;(apply aA (k := 100);rfl;(apply sZ <;> (assumption));exact Pur.pf;rfl))|refine aE ?_|refine dF ?_|fail)
  all_goals (refine ⟨?_,rfl⟩; simp only [aM,AV.v.injEq,Value.bool.injEq,Value.int.injEq,true_and])
  all_goals grind
 ·refine aB Tryz.func39 Tryz.ntmps39 ?_
  repeat' (first|(apply aF;(first|(apply aA (k := 100);rfl;(apply sZ <;> (assumption));exact Pur.pf;rfl)|(apply rX;rfl;rfl;rfl;rfl;(rfl);(apply FM <;> (first|assumption|omega));rfl;rfl)))|refine aE ?_|refine dF ?_|fail)
  all_goals (refine ⟨?_,rfl⟩; simp only [aM,AV.v.injEq,Value.bool.injEq,Value.int.injEq,true_and])
  all_goals grind
theorem qQ {l:List AL.Stmt}{pts:List Pnt}{m:Nat}{x0 x1:Operand}{i0:Nat}(ha0:ev (lk tsl) x0 = some (sl aY l)) (ha1:ev (lk tsl) x1 = some (.own i0 0 m 5)) (hH0:aO hsl i0 = some (flat bZ pts)) (hmc:MC Tryz.prog 122 [sl aY l,.own 0 0 m 5] [(0,some (flat bZ pts))] 1 (fun _:Unit => True) (fun _ => .own 1 0 (m + cR l) 5) (fun _ => [(1,some (flat bZ (pts ++ fD pts.length l)))])) (hM:Nat.ble (nidl + 1) aV = true) (hN:Nat.blt d N = true){md':Md}[hmd:MdA md (fU [x0,x1] ++ [.inr i0]) (List.map Sum.inr (List.map Prod.fst ([(nidl,some (flat bZ (pts ++ fD pts.length l))),(i0,none)]:List (Nat × Option (List AV)))) ++ [.inl d]) md'] (kk:RW Tryz.prog N all Q md' rest ⟨(d,.own nidl 0 (m + cR l) 5) :: tsl,hO hsl [(nidl,some (flat bZ (pts ++ fD pts.length l))),(i0,none)],nidl + 1,z0⟩):RW Tryz.prog N all Q md (⟨some d,.call ⟨.value (.func 122),#[x0,x1],tys⟩,ty,pos,af,none⟩ :: rest) ⟨tsl,hsl,nidl,z0⟩:=by
 exact aZ (l := [x0,x1]) [i0] 2 [(nidl,some (flat bZ (pts ++ fD pts.length l))),(i0,none)] hmc (avs := [sl aY l,.own i0 0 m 5]) (by simp only [evL,ha0,ha1]) rfl hM hN (md' := md') (hmd := hmd) kk
theorem Ac (mm:Nat) (hmm:mm ≤ 1048576) (pointsOf_ih:∀ l pts m,aU l < mm → m = pts.length → m + cR l ≤ 13000000 → MC Tryz.prog 122 [sl aY l,.own 0 0 m 5] [(0,some (flat bZ pts))] 1 (fun _:Unit => True) (fun _ => .own 1 0 (m + cR l) 5) (fun _ => [(1,some (flat bZ (pts ++ fD pts.length l)))])) (l:List AL.Stmt) (pts:List Pnt) (m:Nat) (hs:aU l ≤ mm) (hm:m = pts.length) (hb:m + cR l ≤ 13000000):MC Tryz.prog 122 [sl aY l,.own 0 0 m 5] [(0,some (flat bZ pts))] 1 (fun _:Unit => True) (fun _ => .own 1 0 (m + cR l) 5) (fun _ => [(1,some (flat bZ (pts ++ fD pts.length l)))]):=by
 have hlen := fJ l
 subst hm
 refine aX Tryz.func122 Tryz.ntmps122 ?_
 repeat' (first|refine aE ?_|fail)
 refine AW.le ?_ (Le.mv (d := 1) (i := 0) (cs := flat bZ pts) rfl rfl (by decide))
 refine aH (σ := Nat × List Pnt × Nat) [9,10] [] (fun k => [(11,iv (k.1 : Int)),(1,.own 1 0 k.2.2 5)]) (fun k => [(1,some (flat bZ k.2.1))]) (fun k => k.1 ≤ l.length ∧ k.2.1 = pts ++ fD pts.length (l.take k.1) ∧ k.2.2 = k.2.1.length ∧ k.2.2 = pts.length + cR (l.take k.1)) (fun k => l.length - k.1) (0,pts,pts.length) ⟨by omega,by simp [fD],rfl,by simp [cR]⟩ ?_
 rintro ⟨k,xs,m1⟩ ⟨hk,hxs,hm1,hm2⟩
 dsimp only at hk hxs hm1 hm2 ⊢
 have hck := iE l k
 have hct := k5 l[k]!
 have hnt := CN l k
 have n9 := IQ l[k]!
 have n10 := BU l[k]!
 have n1 := IS l[k]!
 repeat' (first|(apply aF;first|(apply aL (t := _);rfl;rfl;rfl;(first|exact (rfl:_=some [_])|exact (rfl:_=some [_,_])|exact (rfl:_=some [_,_,_,_,_]));rfl;rfl)|(apply qQ;rfl;rfl;(rfl);(apply pointsOf_ih <;> (first|omega|(simp only [gB] <;> omega)));rfl;rfl))|refine aE ?_|(refine aJ ?_ ?_ <;> intro hc hq <;> try (exfalso;omega))|fail)
 ·(refine bC (k + 1, _, _) (Le.renA [(1, 8)]) ?_ ?_)
  ·dsimp only
   rw [xK hm1,xY hm1,yS (by rw [bJ,hm1]),xA (by rw [bJ,hm1]),fT l _ k (by omega),eX l k (by omega),iD,if_pos hq,n9 hq]
   refine ⟨by omega,?_,by simp [bJ]; omega,by omega⟩
   have e1 : xs.length = pts.length + cR (l.take k) := by omega
   rw [← List.append_assoc pts,← hxs,← e1]
   simp only [List.append_assoc,List.length_append,List.length_cons,List.length_nil,bJ,hm1,Nat.zero_add]
   clear pointsOf_ih hxs hck hnt n9 n10 n1
   grind
  ·dsimp only;omega
 ·(refine bC (k + 1, _, _) (Le.renA [(1, 8)]) ?_ ?_)
  ·dsimp only
   rw [B4 hm1,BD hm1,fT l _ k (by omega),eX l k (by omega),iD,if_neg (by omega),if_pos hq,n10 hq]
   refine ⟨by omega,?_,by simp [bJ]; omega,by omega⟩
   have e1 : xs.length = pts.length + cR (l.take k) := by omega
   rw [← List.append_assoc pts,← hxs,← e1]
   simp only [List.append_assoc,List.length_append,List.length_cons,List.length_nil,bJ,hm1,Nat.zero_add]
   clear pointsOf_ih hxs hck hnt n9 n10 n1
   grind
  ·dsimp only;omega
 ·(refine bC (k + 1, _, _) (Le.renA [(1, 5)]) ?_ ?_)
  ·dsimp only
   rw [fT l _ k (by omega),eX l k (by omega),iD,if_neg ‹¬l[k]!.op = 9›,if_neg hq,n1 ‹¬l[k]!.op = 9› hq]
   refine ⟨by omega,?_,by simp [bJ]; omega,by omega⟩
   have e1 : xs.length = pts.length + cR (l.take k) := by omega
   rw [← List.append_assoc pts,← hxs,← e1,hm1]
  ·dsimp only;omega
 ·refine aD rfl ?_
  have e2 : l.take k = l := List.take_of_length_le (by omega)
  rw [e2] at hxs hm2
  refine aT () trivial ?_ ⟨sE ?_,trivial⟩
  ·simp only [aM]; rw [hm2]
  ·rw [hxs]
theorem B7 (l:List AL.Stmt) (pts:List Pnt) (m:Nat) (hs:aU l ≤ 1048576) (hm:m = pts.length) (hb:m + cR l ≤ 13000000):MC Tryz.prog 122 [sl aY l,.own 0 0 m 5] [(0,some (flat bZ pts))] 1 (fun _:Unit => True) (fun _ => .own 1 0 (m + cR l) 5) (fun _ => [(1,some (flat bZ (pts ++ fD pts.length l)))]):=by
 have h : ∀ (mm : Nat), mm ≤ 1048576 → ∀ l pts m, aU l ≤ mm → m = pts.length → m + cR l ≤ 13000000 → MC Tryz.prog 122 [sl aY l, .own 0 0 m 5] [(0, some (flat bZ pts))] 1 (fun _ : Unit => True) (fun _ => .own 1 0 (m + cR l) 5) (fun _ => [(1, some (flat bZ (pts ++ fD pts.length l)))]) := by
  intro mm
  induction mm using Nat.strongRecOn with
  | ind mm ih =>
   intro h0 l pts m h1 h2 h3
   exact Ac mm h0 (fun l' pts' m' g1 g2 g3 => ih _ g1 (by omega) l' pts' m' (Nat.le_refl _) g2 g3) l pts m h1 h2 h3
 exact h _ hs l pts m (Nat.le_refl _) hm hb
theorem x7 {l:List AL.Stmt}{x0 x1:Operand}(ha0:ev (lk tsl) x0 = some (sl aY l)) (ha1:ev (lk tsl) x1 = some (.v (.slice none 0 0))) (hmc:MC Tryz.prog 122 [sl aY l,.v (.slice none 0 0)] [] 0 (fun _:Unit => True) (fun _ => .own 0 0 (cR l) 5) (fun _ => [(0,some (flat bZ (fD 0 l)))])) (hM:Nat.ble (nidl + 1) aV = true) (hN:Nat.blt d N = true){md':Md}[hmd:MdA md (fU [x0,x1] ++ []) (List.map Sum.inr (List.map Prod.fst ([(nidl,some (flat bZ (fD 0 l)))]:List (Nat × Option (List AV)))) ++ [.inl d]) md'] (kk:RW Tryz.prog N all Q md' rest ⟨(d,.own nidl 0 (cR l) 5) :: tsl,hO hsl [(nidl,some (flat bZ (fD 0 l)))],nidl + 1,z0⟩):RW Tryz.prog N all Q md (⟨some d,.call ⟨.value (.func 122),#[x0,x1],tys⟩,ty,pos,af,none⟩ :: rest) ⟨tsl,hsl,nidl,z0⟩:=by
 exact aZ (l := [x0,x1]) [] 1 [(nidl,some (flat bZ (fD 0 l)))] hmc (avs := [sl aY l,.v (.slice none 0 0)]) (by simp only [evL,ha0,ha1]) rfl hM hN (md' := md') (hmd := hmd) kk
theorem Bq (l:List AL.Stmt) (hs:aU l ≤ 1048576):MC Tryz.prog 122 [sl aY l,.v (.slice none 0 0)] [] 0 (fun _:Unit => True) (fun _ => .own 0 0 (cR l) 5) (fun _ => [(0,some (flat bZ (fD 0 l)))]):=by
 have hlen := fJ l
 have hn2 := lC l
 refine aX Tryz.func122 Tryz.ntmps122 ?_
 repeat' (first|refine aE ?_|fail)
 refine AW.le ?_ (Le.nilOwn (d := 1) 5 rfl (by decide))
 refine aH (σ := Nat × List Pnt × Nat) [9,10] [] (fun k => [(11,iv (k.1 : Int)),(1,.own 0 0 k.2.2 5)]) (fun k => [(0,some (flat bZ k.2.1))]) (fun k => k.1 ≤ l.length ∧ k.2.1 = fD 0 (l.take k.1) ∧ k.2.2 = k.2.1.length ∧ k.2.2 = cR (l.take k.1)) (fun k => l.length - k.1) (0,[],0) ⟨by omega,by simp [fD],rfl,by simp [cR]⟩ ?_
 rintro ⟨k,xs,m1⟩ ⟨hk,hxs,hm1,hm2⟩
 dsimp only at hk hxs hm1 hm2 ⊢
 have hck := iE l k
 have hct := k5 l[k]!
 have hnt := CN l k
 have n9 := IQ l[k]!
 have n10 := BU l[k]!
 have n1 := IS l[k]!
 repeat' (first|(apply aF;first|(apply aL (t := _);rfl;rfl;rfl;(first|exact (rfl:_=some [_])|exact (rfl:_=some [_,_])|exact (rfl:_=some [_,_,_,_,_]));rfl;rfl)|(apply qQ;rfl;rfl;(rfl);(apply B7 <;> (first|omega|(simp only [gB] <;> omega)));rfl;rfl))|refine aE ?_|(refine aJ ?_ ?_ <;> intro hc hq <;> try (exfalso;omega))|fail)
 ·(refine bC (k + 1, _, _) (Le.renA [(0, 7)]) ?_ ?_)
  ·dsimp only
   rw [xK hm1,xY hm1,yS (by rw [bJ,hm1]),xA (by rw [bJ,hm1]),fT l _ k (by omega),eX l k (by omega),iD,if_pos hq,n9 hq]
   refine ⟨by omega,?_,by simp [bJ]; omega,by omega⟩
   have e1 : cR (l.take k) = xs.length := by omega
   rw [Nat.zero_add,e1]
   rw [← hxs]
   simp only [List.append_assoc,List.length_append,List.length_cons,List.length_nil,bJ,hm1,Nat.zero_add]
   clear hxs hck hnt n9 n10 n1
   grind
  ·dsimp only;omega
 ·(refine bC (k + 1, _, _) (Le.renA [(0, 7)]) ?_ ?_)
  ·dsimp only
   rw [B4 hm1,BD hm1,fT l _ k (by omega),eX l k (by omega),iD,if_neg (by omega),if_pos hq,n10 hq]
   refine ⟨by omega,?_,by simp [bJ]; omega,by omega⟩
   have e1 : cR (l.take k) = xs.length := by omega
   rw [Nat.zero_add,e1]
   rw [← hxs]
   simp only [List.append_assoc,List.length_append,List.length_cons,List.length_nil,bJ,hm1,Nat.zero_add]
   clear hxs hck hnt n9 n10 n1
   grind
  ·dsimp only;omega
 ·(refine bC (k + 1, _, _) (Le.renA [(0, 4)]) ?_ ?_)
  ·dsimp only
   rw [fT l _ k (by omega),eX l k (by omega),iD,if_neg ‹¬l[k]!.op = 9›,if_neg hq,n1 ‹¬l[k]!.op = 9› hq]
   refine ⟨by omega,?_,by simp [bJ]; omega,by omega⟩
   have e1 : cR (l.take k) = xs.length := by omega
   rw [Nat.zero_add,e1]
   rw [← hxs,hm1]
  ·dsimp only;omega
 ·refine aD rfl ?_
  have e2 : l.take k = l := List.take_of_length_le (by omega)
  rw [e2] at hxs hm2
  refine aT () trivial ?_ ⟨sE ?_,trivial⟩
  ·simp only [aM]; rw [hm2]
  ·rw [hxs]
theorem Gc (p:Prg) (hs:aU p.body ≤ 1048576):PC Tryz.prog 80 [bQ p] (fun r => r = sl bZ (aC p)):=by
 have hn := lC p.body
 refine aB Tryz.func80 Tryz.ntmps80 ?_
 repeat' (first|(apply aF;first|(apply aL (t := _);rfl;rfl;rfl;(exact (rfl:_=some [_,_,_,_,_]));rfl;rfl)|(apply x7;rfl;rfl;(apply Bq <;> (assumption));rfl;rfl))|refine aE ?_|fail)
 (refine aR (Le.frzD (d := 2) (i := 3) rfl rfl) ?_; refine aD rfl ?_)
 refine ⟨?_,?_⟩
 ·simp only [aM,sl,aC,List.length_append,List.length_cons,List.length_nil,bJ,Nat.zero_add]
 ·(exact a9 _ _)
theorem zQ {l:List AL.Stmt}{pts:List Pnt}{m:Nat}{x0 x1:Operand}{i0:Nat}(ha0:ev (lk tsl) x0 = some (.own i0 0 m 5)) (ha1:ev (lk tsl) x1 = some (sl aY l)) (hH0:aO hsl i0 = some (flat bZ pts)) (hmc:MC Tryz.prog 130 [.own 0 0 m 5,sl aY l] [(0,some (flat bZ pts))] 1 (fun _:Unit => True) (fun _ => .own 1 0 (m + cR l) 5) (fun _ => [(1,some (flat bZ (pts ++ fD pts.length l)))])) (hM:Nat.ble (nidl + 1) aV = true) (hN:Nat.blt d N = true){md':Md}[hmd:MdA md (fU [x0,x1] ++ [.inr i0]) (List.map Sum.inr (List.map Prod.fst ([(nidl,some (flat bZ (pts ++ fD pts.length l))),(i0,none)]:List (Nat × Option (List AV)))) ++ [.inl d]) md'] (kk:RW Tryz.prog N all Q md' rest ⟨(d,.own nidl 0 (m + cR l) 5) :: tsl,hO hsl [(nidl,some (flat bZ (pts ++ fD pts.length l))),(i0,none)],nidl + 1,z0⟩):RW Tryz.prog N all Q md (⟨some d,.call ⟨.value (.func 130),#[x0,x1],tys⟩,ty,pos,af,none⟩ :: rest) ⟨tsl,hsl,nidl,z0⟩:=by
 exact aZ (l := [x0,x1]) [i0] 2 [(nidl,some (flat bZ (pts ++ fD pts.length l))),(i0,none)] hmc (avs := [.own i0 0 m 5,sl aY l]) (by simp only [evL,ha0,ha1]) rfl hM hN (md' := md') (hmd := hmd) kk
theorem FW (mm:Nat) (hmm:mm ≤ 1048576) (l2Add_ih:∀ l pts m,aU l < mm → m = pts.length → m + cR l ≤ 13000000 → MC Tryz.prog 130 [.own 0 0 m 5,sl aY l] [(0,some (flat bZ pts))] 1 (fun _:Unit => True) (fun _ => .own 1 0 (m + cR l) 5) (fun _ => [(1,some (flat bZ (pts ++ fD pts.length l)))])) (l:List AL.Stmt) (pts:List Pnt) (m:Nat) (hs:aU l ≤ mm) (hm:m = pts.length) (hb:m + cR l ≤ 13000000):MC Tryz.prog 130 [.own 0 0 m 5,sl aY l] [(0,some (flat bZ pts))] 1 (fun _:Unit => True) (fun _ => .own 1 0 (m + cR l) 5) (fun _ => [(1,some (flat bZ (pts ++ fD pts.length l)))]):=by
 have hlen := fJ l
 subst hm
 refine aX Tryz.func130 Tryz.ntmps130 ?_
 repeat' (first|refine aE ?_|fail)
 refine AW.le ?_ (Le.mv (d := 0) (i := 0) (cs := flat bZ pts) rfl rfl (by decide))
 refine aH (σ := Nat × List Pnt × Nat) [1] [] (fun k => [(5,iv (k.1 : Int)),(0,.own 1 0 k.2.2 5)]) (fun k => [(1,some (flat bZ k.2.1))]) (fun k => k.1 ≤ l.length ∧ k.2.1 = pts ++ fD pts.length (l.take k.1) ∧ k.2.2 = k.2.1.length ∧ k.2.2 = pts.length + cR (l.take k.1)) (fun k => l.length - k.1) (0,pts,pts.length) ⟨by omega,by simp [fD],rfl,by simp [cR]⟩ ?_
 rintro ⟨k,xs,m1⟩ ⟨hk,hxs,hm1,hm2⟩
 dsimp only at hk hxs hm1 hm2 ⊢
 have hck := iE l k
 have hct := k5 l[k]!
 have hnt := CN l k
 have n9 := IQ l[k]!
 have n10 := BU l[k]!
 have n1 := IS l[k]!
 repeat' (first|(apply aF;first|(apply aL (t := _);rfl;rfl;rfl;(first|exact (rfl:_=some [_])|exact (rfl:_=some [_,_])|exact (rfl:_=some [_,_,_,_,_]));rfl;rfl)|(apply zQ;rfl;rfl;(rfl);(apply l2Add_ih <;> (first|omega|(simp only [gB] <;> omega)));rfl;rfl))|refine aE ?_|(refine aJ ?_ ?_ <;> intro hc hq <;> try (exfalso;omega))|fail)
 ·(refine bC (k + 1, _, _) (Le.renA [(1, 8)]) ?_ ?_)
  ·dsimp only
   rw [yS (by rw [bJ,hm1]),xA (by rw [bJ,hm1]),xK hm1,xY hm1,fT l _ k (by omega),eX l k (by omega),iD,if_pos hq,n9 hq]
   refine ⟨by omega,?_,by simp [bJ]; omega,by omega⟩
   have e1 : xs.length = pts.length + cR (l.take k) := by omega
   rw [← List.append_assoc pts,← hxs,← e1]
   simp only [List.append_assoc,List.length_append,List.length_cons,List.length_nil,bJ,hm1,Nat.zero_add]
   clear l2Add_ih hxs hck hnt n9 n10 n1
   grind
  ·dsimp only;omega
 ·(refine bC (k + 1, _, _) (Le.renA [(1, 8)]) ?_ ?_)
  ·dsimp only
   rw [B4 hm1,BD hm1,fT l _ k (by omega),eX l k (by omega),iD,if_neg (by omega),if_pos hq,n10 hq]
   refine ⟨by omega,?_,by simp [bJ]; omega,by omega⟩
   have e1 : xs.length = pts.length + cR (l.take k) := by omega
   rw [← List.append_assoc pts,← hxs,← e1]
   simp only [List.append_assoc,List.length_append,List.length_cons,List.length_nil,bJ,hm1,Nat.zero_add]
   clear l2Add_ih hxs hck hnt n9 n10 n1
   grind
  ·dsimp only;omega
 ·(refine bC (k + 1, _, _) (Le.renA [(1, 5)]) ?_ ?_)
  ·dsimp only
   rw [fT l _ k (by omega),eX l k (by omega),iD,if_neg ‹¬l[k]!.op = 9›,if_neg hq,n1 ‹¬l[k]!.op = 9› hq]
   refine ⟨by omega,?_,by simp [bJ]; omega,by omega⟩
   have e1 : xs.length = pts.length + cR (l.take k) := by omega
   rw [← List.append_assoc pts,← hxs,← e1,hm1]
  ·dsimp only;omega
 ·refine aD rfl ?_
  have e2 : l.take k = l := List.take_of_length_le (by omega)
  rw [e2] at hxs hm2
  refine aT () trivial ?_ ⟨sE ?_,trivial⟩
  ·simp only [aM]; rw [hm2]
  ·rw [hxs]
theorem Ju (l:List AL.Stmt) (pts:List Pnt) (m:Nat) (hs:aU l ≤ 1048576) (hm:m = pts.length) (hb:m + cR l ≤ 13000000):MC Tryz.prog 130 [.own 0 0 m 5,sl aY l] [(0,some (flat bZ pts))] 1 (fun _:Unit => True) (fun _ => .own 1 0 (m + cR l) 5) (fun _ => [(1,some (flat bZ (pts ++ fD pts.length l)))]):=by
 have h : ∀ (mm : Nat), mm ≤ 1048576 → ∀ l pts m, aU l ≤ mm → m = pts.length → m + cR l ≤ 13000000 → MC Tryz.prog 130 [.own 0 0 m 5, sl aY l] [(0, some (flat bZ pts))] 1 (fun _ : Unit => True) (fun _ => .own 1 0 (m + cR l) 5) (fun _ => [(1, some (flat bZ (pts ++ fD pts.length l)))]) := by
  intro mm
  induction mm using Nat.strongRecOn with
  | ind mm ih =>
   intro h0 l pts m h1 h2 h3
   exact FW mm h0 (fun l' pts' m' g1 g2 g3 => ih _ g1 (by omega) l' pts' m' (Nat.le_refl _) g2 g3) l pts m h1 h2 h3
 exact h _ hs l pts m (Nat.le_refl _) hm hb
theorem c6 (p:Prg) (hs:aU p.body ≤ 1048576):PC Tryz.prog 132 [bQ p] (fun r => r = sl bZ (aC p)):=by
 have hn := lC p.body
 have e0 : ([] : List AV) = flat bZ [] := rfl
 refine aB Tryz.func132 Tryz.ntmps132 ?_
 repeat' (first|(apply aF;(apply zQ;rfl;rfl;(exact Ff rfl);(apply Ju <;> (first|assumption|omega|(simp only [gB] <;> omega)));rfl;rfl))|refine aE ?_|fail)
 (refine aR (Le.frzD (d := 2) (i := 4) rfl rfl) ?_; refine aD rfl ?_)
 refine ⟨?_,(by (exact a9 _ _))⟩
 simp only [aM,sl,aC,List.length_append,List.length_cons,List.length_nil,bJ,Nat.zero_add,List.nil_append]
theorem xB (ts:List Int) (bd:List AL.Stmt) (pts:List Pnt) (v:Int) (h:0 ≤ v ∧ v < ts.length):PC Tryz.prog 199 [aG ts bd pts,iv v] (fun r => r = bv (zA ts[v.toNat]!)):=by
 refine aB Tryz.func199 Tryz.ntmps199 ?_
 repeat' (first|refine aE ?_|(refine bO ?_ ?_ <;> intro hg hq <;> try (exfalso;omega))|refine dF ?_|fail)
 all_goals (refine ⟨?_,rfl⟩; simp only [aM,AV.v.injEq,Value.bool.injEq,Value.int.injEq,true_and])
 all_goals grind [zA]
theorem Oh (ts:List Int) (bd:List AL.Stmt) (pts:List Pnt) (x:Pnt) (v:Int) (h:0 ≤ v ∧ v < ts.length):PC Tryz.prog 244 [aG ts bd pts,dD x,iv v] (fun r => r = iv (a6 ts x v)):=by
 refine aB Tryz.func244 Tryz.ntmps244 ?_
 repeat' (first|(apply aF;(apply aA (k := 199);rfl;(apply xB <;> (assumption));exact Pur.pf;rfl))|refine aE ?_|(refine aJ ?_ ?_ <;> intro hc hq <;> try (exfalso;omega))|(refine bO ?_ ?_ <;> intro hg hq <;> try (exfalso;omega))|refine dF ?_|fail)
 all_goals (refine ⟨?_,rfl⟩; simp only [aM,AV.v.injEq,Value.bool.injEq,Value.int.injEq,true_and])
 all_goals grind [zA,a6]
theorem xL (x:Pnt):PC Tryz.prog 143 [dD x] (fun r => r = iv (aP x)):=by
 refine aB Tryz.func143 Tryz.ntmps143 ?_
 repeat' (first|refine aE ?_|(refine aJ ?_ ?_ <;> intro hc hq <;> try (exfalso;omega))|refine dF ?_|fail)
 all_goals (refine ⟨?_,rfl⟩; simp only [aM,AV.v.injEq,Value.bool.injEq,Value.int.injEq,true_and])
 all_goals grind [aP]
theorem lE (x:Pnt):PC Tryz.prog 233 [dD x] (fun r => r = bv (bY x)):=by
 refine aB Tryz.func233 Tryz.ntmps233 ?_
 repeat' (first|refine aE ?_|(refine bO ?_ ?_ <;> intro hg hq <;> try (exfalso;omega))|refine dF ?_|fail)
 all_goals (refine ⟨?_,rfl⟩; simp only [aM,AV.v.injEq,Value.bool.injEq,Value.int.injEq,true_and])
 all_goals grind [bY]
theorem oY (x:Pnt) (h:aP x < 62):PC Tryz.prog 182 [dD x] (fun r => r = iv (iA x:Nat)):=by
 refine aB Tryz.func182 Tryz.ntmps182 ?_
 repeat' (first|(apply aF;first|(apply jN;rfl;rfl;infer_instance;omega;rfl;(case' kk => intro hsm))|(apply aA (k := 143);rfl;(apply xL);exact Pur.pf;rfl))|refine aE ?_|(refine aJ ?_ ?_ <;> intro hc hq <;> try (exfalso;omega))|refine dF ?_|fail)
 all_goals (refine ⟨?_,rfl⟩; simp only [aM,AV.v.injEq,Value.bool.injEq,Value.int.injEq,true_and])
 all_goals (unfold iA)
 ·rw [if_pos (by omega)]
 ·rw [if_neg (by omega)]; rfl
theorem N2 (ts:List Int) (bd:List AL.Stmt) (pts:List Pnt) (h:ts.length ≤ 6):PC Tryz.prog 232 [aG ts bd pts] (fun r => r = iv ((2 ^ ts.length - 1:Nat):Int)):=by
 have h1 : 2 ^ ts.length ≤ 2 ^ 6 := Nat.pow_le_pow_right (by decide) h
 have h2 : 0 < 2 ^ ts.length := Nat.pow_pos (by decide)
 have h3 : 2 ^ (ts.length : Int).toNat ≤ 2 ^ 6 := h1
 have h4 : 2 ^ (ts.length : Int).toNat = 2 ^ ts.length := rfl
 refine aB Tryz.func232 Tryz.ntmps232 ?_
 repeat' (first|(apply aF;(apply jN;rfl;rfl;infer_instance;omega;rfl;(case' kk => intro hsm)))|refine aE ?_|refine dF ?_|fail)
 all_goals (refine ⟨?_,rfl⟩; simp only [aM,AV.v.injEq,Value.bool.injEq,Value.int.injEq,true_and])
 omega
def HE (xs : List Int) (v : Int) : Int := match xs.findIdx? (fun t => decide (t = v)) with | some i => i | none => -1
theorem Ku (xs:List Int) (v:Int) (hl:xs.length ≤ 1048576):PC Tryz.prog 119 [sl cI xs,iv v] (fun r => r = iv (HE xs v)):=by
 refine aB Tryz.func119 Tryz.ntmps119 ?_
 repeat' (first|refine aE ?_|fail)
 refine aH (σ := Nat) [0,1,7] [] (fun k => [(8,iv (k : Int))]) (fun k => []) (fun k => k ≤ xs.length ∧ ∀ i,i < k → xs[i]! ≠ v) (fun k => xs.length - k) (0) ⟨by omega,by omega⟩ ?_
 intro k ⟨hk,hall⟩
 repeat' (first|refine aE ?_|(refine aJ ?_ ?_ <;> intro hc hq <;> try (exfalso;omega))|refine dF ?_|fail)
 ·(refine ⟨?_, rfl⟩; simp only [aM, AV.v.injEq, Value.bool.injEq, Value.int.injEq, true_and])
  have hlt : k < xs.length := by omega
  have : xs.findIdx? (fun t => decide (t = v)) = some k := by
   rw [List.findIdx?_eq_some_iff_getElem]
   refine ⟨hlt,?_,fun j hj => ?_⟩
   ·rw [← aS xs k hlt]; grind
   ·have := hall j hj;rw [aS xs j (by omega)] at this;simpa using this
  simp only [HE,this]
 ·(refine bC (k + 1) (Le.renA []) ?_ ?_)
  ·grind
  ·omega
 ·(refine ⟨?_, rfl⟩; simp only [aM, AV.v.injEq, Value.bool.injEq, Value.int.injEq, true_and])
  have : xs.findIdx? (fun t => decide (t = v)) = none := by
   rw [List.findIdx?_eq_none_iff]
   intro x hx
   obtain ⟨i,hi,rfl⟩ := List.getElem_of_mem hx
   have := hall i (by omega);rw [aS xs i hi] at this;simpa using this
  simp only [HE,this]
theorem KA (xs:List Int) (v:Int):decide (0 ≤ HE xs v) = decide (v ∈ xs):=by
 unfold HE
 split
 ·rename_i i h
  obtain ⟨h1,h2,_⟩ := List.findIdx?_eq_some_iff_getElem.1 h
  simp only [decide_eq_true_eq] at h2
  have : v ∈ xs := by rw [← h2]; exact List.getElem_mem h1
  simp [this]
 ·rename_i h
  rw [List.findIdx?_eq_none_iff] at h
  have : v ∉ xs := fun hm => by have := h v hm;simp at this
  simp [this]
theorem nZ (xs:List Int) (v:Int) (hl:xs.length ≤ 1048576):PC Tryz.prog 56 [sl cI xs,iv v] (fun r => r = bv (decide (v ∈ xs))):=by
 refine aB Tryz.func56 Tryz.ntmps56 ?_
 repeat' (first|(apply aF;(apply aA (k := 119);rfl;(apply Ku <;> (assumption));exact Pur.pf;rfl))|refine aE ?_|refine dF ?_|fail)
 (refine ⟨?_,rfl⟩; simp only [aM,AV.v.injEq,Value.bool.injEq,Value.int.injEq,true_and])
 exact KA xs v
theorem CP (ts:List Int) (bd:List AL.Stmt) (pts:List Pnt) (x:Pnt) (us:List Int) (h:ts.length ≤ 6) (hu:us.length ≤ 1000):PC Tryz.prog 207 [aG ts bd pts,dD x,sl cI us] (fun r => r = iv (wS ts x us:Nat)):=by
 refine aB Tryz.func207 Tryz.ntmps207 ?_
 repeat' (first|refine aE ?_|fail)
 refine aH (σ := Nat × Nat) [0,2,4,14] [0] (fun k => [(15,iv (k.1 : Int)),(7,iv (k.2 : Int))]) (fun k => []) (fun k => k.1 ≤ ts.length ∧ k.2 = eJ (fun v => decide (a6 ts x v ∈ us)) k.1) (fun k => ts.length - k.1) (0,0) ⟨by omega,rfl⟩ ?_
 rintro ⟨k,A⟩ ⟨hk,hA⟩
 dsimp only at hk hA ⊢
 have hsm : Sm A := hA ▸ bR (by omega)
 repeat' (first|(apply aF;first|(apply jN;rfl;rfl;infer_instance;omega;rfl;(case' kk => intro hsm))|(first|(apply aA (k := 56);rfl;(apply nZ <;> (omega));exact Pur.pf;rfl)|(apply aA (k := 244);rfl;(apply Oh <;> (omega));exact Pur.pf;rfl)))|refine aE ?_|(refine aJ ?_ ?_ <;> intro hc hq <;> try (exfalso;omega))|refine dF ?_|fail)
 ·(refine bC (k + 1, _) (Le.renA [(0, 0)]) ?_ ?_)
  ·dsimp only
   rw [hA]
   exact ⟨by omega,qG _ _ (by simpa using hq)⟩
  ·dsimp only;omega
 ·(refine bC (k + 1, _) (Le.renA [(0, 0)]) ?_ ?_)
  ·dsimp only
   rw [hA]
   exact ⟨by omega,l9 _ _ (by simpa using hq)⟩
  ·dsimp only;omega
 ·(refine ⟨?_, rfl⟩; simp only [aM, AV.v.injEq, Value.bool.injEq, Value.int.injEq, true_and])
  rw [hA,show k = ts.length by omega]; rfl
theorem fR (ts:List Int) (bd:List AL.Stmt) (pts:List Pnt) (x:Pnt) (h:ts.length ≤ 6):PC Tryz.prog 158 [aG ts bd pts,dD x] (fun r => r = iv (wS ts x [1,2,3]:Nat)):=by
 refine aB Tryz.func158 Tryz.ntmps158 ?_
 repeat' (first|(apply aF;first|(apply aL (t := _);rfl;rfl;rfl;(exact (rfl:_=some [_,_,_]));rfl;rfl)|(apply aA (k := 207);rfl;(apply CP (us := [1,2,3]) <;> (first|assumption|decide));exact Pur.pf;rfl))|refine aE ?_|refine dF ?_|fail)
 (refine ⟨?_,rfl⟩; simp only [aM,AV.v.injEq,Value.bool.injEq,Value.int.injEq,true_and])
theorem qZ (ts:List Int) (bd:List AL.Stmt) (pts:List Pnt) (x:Pnt) (h:ts.length ≤ 6):PC Tryz.prog 142 [aG ts bd pts,dD x] (fun r => r = iv (wS ts x [2]:Nat)):=by
 refine aB Tryz.func142 Tryz.ntmps142 ?_
 repeat' (first|(apply aF;first|(apply aL (t := _);rfl;rfl;rfl;exact (rfl:_=some [_]);rfl;rfl)|(apply aA (k := 207);rfl;(apply CP (us := [2]) <;> (first|assumption|decide));exact Pur.pf;rfl))|refine aE ?_|refine dF ?_|fail)
 (refine ⟨?_,rfl⟩; simp only [aM,AV.v.injEq,Value.bool.injEq,Value.int.injEq,true_and])
theorem Ab (ts:List Int) (bd:List AL.Stmt) (pts:List Pnt) (i:Int) (A:Nat) (h:WG ts pts) (hi:0 ≤ i ∧ i < pts.length) (hA:Sm A):PC Tryz.prog 103 [aG ts bd pts,iv i,iv (A:Int)] (fun r => r = iv (gY ts pts[i.toNat]! A:Nat)):=by
 have htl := h.tl
 have hst := (h.set i.toNat (by omega)).1
 have hs1 : Sm (wS ts pts[i.toNat]! [2]) := bR (by omega)
 have hs2 : Sm (iA pts[i.toNat]!) := rH (by omega)
 refine aB Tryz.func103 Tryz.ntmps103 ?_
 repeat' (first|(apply aF;(first|(apply aA (k := 142);rfl;(apply qZ <;> (assumption));exact Pur.pf;rfl)|(apply aA (k := 182);rfl;(apply oY <;> (omega));exact Pur.pf;rfl)))|refine aE ?_|refine bI ?_|refine dF ?_|fail)
 (refine ⟨?_,rfl⟩; simp only [aM,AV.v.injEq,Value.bool.injEq,Value.int.injEq,true_and])
 rfl
theorem BP (ts:List Int) (bd:List AL.Stmt) (pts:List Pnt) (A:List Nat) (w:WG ts pts) (hA:qL ts pts A):PC Tryz.prog 181 [aG ts bd pts,iv 0,bv false,.clos (.func 103) [aG ts bd pts] []] (fun r => r = .imm pts.length (flat cN A)):=by
 have hpl := w.pl
 have hp0 := w.p0
 have htl := w.tl
 have fl := Oi w
 refine aB Tryz.func181 Tryz.ntmps181 ?_
 repeat' (first|refine aE ?_|fail)
 refine aH (σ := List Nat × Bool) [0,2,3,9] [] (fun s => [(11,bv s.2)]) (fun s => [(0,some (flat cN s.1))]) (fun s => SG pts (Ow ts pts) s.1 ∧ True ∧ (s.2 = false → kX nY (fun i A => gY ts pts[i]! A) pts s.1)) (fun s => 2 * eT (s.1.map (fun a => 2 ^ ts.length - a)) + s.2.toNat) (((List.replicate pts.length 0).set 0 0),true) ⟨by rw [l6 (by rw [aS _ _ (by simpa using hp0),List.getElem_replicate]) (by simpa using hp0)]; exact Ce fun i hi => ⟨Nat.pow_pos (by decide),fun v h => by simp at h⟩,trivial,fun h => by cases h⟩ ?_
 rintro ⟨s,b⟩ ⟨hS,hE,hC⟩
 dsimp only at hS hE hC ⊢
 repeat' (first|refine aE ?_|(refine aJ ?_ ?_ <;> intro hc hq <;> try (exfalso;omega))|fail)
 ·refine aH (σ := Nat × (List Nat × Bool)) [0, 2, 3, 9, 43, 44] [] (fun k => [(45, iv (k.1 : Int)), (11, bv k.2.2)]) (fun k => [(0, some (flat cN k.2.1))]) (fun k => k.1 ≤ pts.length ∧ k.2 = (List.range k.1).foldl (yM nY (fun i A => gY ts pts[i]! A) pts) (s, false) ∧ SG pts (Ow ts pts) k.2.1 ∧ True) (fun k => pts.length - k.1) (0, (s, false)) ⟨by omega, rfl, hS, hE⟩ ?_
  rintro ⟨k,u,c⟩ ⟨hk,hf,hS2,hE2⟩
  dsimp only at hk hf hS2 hE2 ⊢
  have hsm : ∀ z,Sm u[z]! := rY hS2 (fun i A h => h.1) htl
  have hul := hS2.1
  repeat' (first|(apply aF;(apply fW;rfl;rfl;infer_instance;rfl;(apply Ab <;> (first|assumption|omega|infer_instance));exact Pur.pf;rfl))|refine aE ?_|(refine aJ ?_ ?_ <;> intro hc hq <;> try (exfalso;omega))|fail)
  ·have hkn : k < pts.length := by omega
   have hv := rT w hkn (hS2.2 k hkn).1
   have hvs : Sm (gY ts pts[k]! u[k]!) := ⟨Nat.lt_of_lt_of_le hv (Nat.pow_le_pow_right (by decide) (by omega))⟩
   have hvs' : Sm (gY ts pts[(k : Int).toNat]! u[k]!) := hvs
   have hnl := w.nl k hkn
   refine aH (σ := Nat × (List Nat × Bool)) [0,2,3,9,14,43,44,45,58,59] [] (fun j => [(60,iv (j.1 : Int)),(11,bv j.2.2)]) (fun j => [(0,some (flat cN j.2.1))]) (fun j => j.1 ≤ pts[k]!.next.length ∧ j.2 = ((uK pts k).take j.1).foldl (kZ nY (gY ts pts[k]! u[k]!)) (u,c) ∧ SG pts (Ow ts pts) j.2.1 ∧ True) (fun j => pts[k]!.next.length - j.1) (0,(u,c)) ⟨by omega,rfl,hS2,hE2⟩ ?_
   rintro ⟨j,u2,c2⟩ ⟨hj,hf2,hS3,hE3⟩
   dsimp only at hj hf2 hS3 hE3 ⊢
   have hsm2 : ∀ z,Sm u2[z]! := rY hS3 (fun i A h => h.1) htl
   have hul2 := hS3.1
   have hz : j < pts[k]!.next.length → 0 ≤ pts[k]!.next[j]! ∧ pts[k]!.next[j]! < pts.length := fun h => w.nx k hkn _ (aN _ _ h)
   repeat' (first|refine aE ?_|(refine aJ ?_ ?_ <;> intro hc hq <;> try (exfalso;omega))|fail)
   ·have hzz := hz (by omega)
    have hed : cE pts k (pts[k]!.next[j]!).toNat := ⟨hkn,by rw [Int.toNat_of_nonneg hzz.1]; exact aN _ _ (by omega)⟩
    have hne : nY u2[(pts[k]!.next[j]!).toNat]! (gY ts pts[k]! u[k]!) ≠ u2[(pts[k]!.next[j]!).toNat]! := fun h => hq (congrArg Int.ofNat h)
    (refine bC (j + 1,(_,true)) (Le.renA [(0,0)]) ?_ ?_)
    ·dsimp only
     refine ⟨by omega,?_,wN fl w (hS2.2 k hkn) hed hS3,trivial⟩
     rw [iL (by omega),← hf2,wW hne]; rfl
    ·dsimp only;omega
   ·have hzz := hz (by omega)
    have hne : nY u2[(pts[k]!.next[j]!).toNat]! (gY ts pts[k]! u[k]!) = u2[(pts[k]!.next[j]!).toNat]! := Int.ofNat.inj hq
    (refine bC (j + 1,(u2,c2)) (Le.renA [(0,0)]) ?_ ?_)
    ·dsimp only
     refine ⟨by omega,?_,hS3,hE3⟩
     rw [iL (by omega),← hf2,yY hne]
    ·dsimp only;omega
   ·(refine bC (k + 1, (u2, c2)) (Le.renA [(0, 0)]) ?_ ?_)
    ·dsimp only
     refine ⟨by omega,?_,hS3,hE3⟩
     rw [dL,← hf,hf2,List.take_of_length_le (by rw [kU]; omega)]; rfl
    ·dsimp only;omega
  ·have law := tG w fl s false hS
   have hfull : (u, c) = xN nY (fun i A => gY ts pts[i]! A) pts (s, false) := by
    rw [hf,show k = pts.length by omega]; rfl
   rw [show xN (fun a s => nY a s) (fun i A => gY ts pts[i]! A) pts (s,false) = (u,c) from hfull.symm] at law
   (refine bC (u,c) (Le.renA [(0,0)]) ?_ ?_)
   ·dsimp only
    refine ⟨hS2,hE2,fun h => ?_⟩
    rcases law.2 with ⟨e1,e2⟩ | ⟨e1,_⟩
    ·cases e1;exact e2
    ·dsimp only at e1;rw [h] at e1;cases e1
   ·dsimp only
    have hb : b = true := by assumption
    subst hb
    rcases law.2 with ⟨e1,e2⟩ | ⟨e1,e2⟩
    ·cases e1;simp
    ·dsimp only at e1 e2;subst e1;omega
 ·have hb : b = false := by assumption
  refine aR (Le.frzD (d := 8) (i := 0) rfl rfl) ?_
  refine aD rfl ⟨?_,(by (exact a9 _ _))⟩
  simp only [aM]
  rw [ER hA (HO w hS (hC hb))]
theorem B2 (ts:List Int) (bd:List AL.Stmt) (pts:List Pnt) (A:List Nat) (w:WG ts pts) (hA:qN ts pts A):PC Tryz.prog 181 [aG ts bd pts,iv 0,bv true,.clos (.func 103) [aG ts bd pts] []] (fun r => r = .imm pts.length (flat cN A)):=by
 have hpl := w.pl
 have hp0 := w.p0
 have htl := w.tl
 have fl := NS w
 refine aB Tryz.func181 Tryz.ntmps181 ?_
 repeat' (first|refine aE ?_|fail)
 refine aH (σ := Nat × List Nat) [0,1,2,3,9,26] [] (fun k => [(27,iv (k.1 : Int))]) (fun k => [(0,some (flat cN k.2))]) (fun k => k.1 ≤ pts.length ∧ k.2 = List.replicate k.1 (2 ^ ts.length - 1) ++ List.replicate (pts.length - k.1) 0) (fun k => pts.length - k.1) (0,List.replicate pts.length 0) ⟨by omega,by simp⟩ ?_
 rintro ⟨k0,u0⟩ ⟨hk0,hu0⟩
 dsimp only at hk0 hu0 ⊢
 have hul0 : u0.length = pts.length := by rw [hu0]; simp;omega
 repeat' (first|(apply aF;(apply aA (k := 232);rfl;(apply N2 <;> (assumption));exact Pur.pf;rfl))|refine aE ?_|(refine aJ ?_ ?_ <;> intro hc hq <;> try (exfalso;omega))|fail)
 ·(refine bC (k0 + 1, _) (Le.renA [(0, 0)]) ?_ ?_)
  ·dsimp only
   exact ⟨by omega,by rw [hu0]; exact KO (by omega)⟩
  ·dsimp only;omega
 have hk1 : k0 = pts.length := by omega
 subst hk1
 rw [Nat.sub_self,List.replicate_zero,List.append_nil] at hu0
 refine aH (σ := List Nat × Bool) [0,2,3,9] [] (fun s => [(11,bv s.2)]) (fun s => [(0,some (flat cN s.1))]) (fun s => SG pts (ND ts pts) s.1 ∧ s.1[0]! = 0 ∧ (s.2 = false → kX Nb (fun i A => gY ts pts[i]! A) pts s.1)) (fun s => 2 * eT (s.1.map (fun a => a)) + s.2.toNat) ((u0.set 0 0),true) ⟨(Gl w hu0).1,(Gl w hu0).2,fun h => by cases h⟩ ?_
 rintro ⟨s,b⟩ ⟨hS,hE,hC⟩
 dsimp only at hS hE hC ⊢
 repeat' (first|refine aE ?_|(refine aJ ?_ ?_ <;> intro hc hq <;> try (exfalso;omega))|fail)
 ·refine aH (σ := Nat × (List Nat × Bool)) [0, 2, 3, 9, 43, 44] [] (fun k => [(45, iv (k.1 : Int)), (11, bv k.2.2)]) (fun k => [(0, some (flat cN k.2.1))]) (fun k => k.1 ≤ pts.length ∧ k.2 = (List.range k.1).foldl (yM Nb (fun i A => gY ts pts[i]! A) pts) (s, false) ∧ SG pts (ND ts pts) k.2.1 ∧ k.2.1[0]! = 0) (fun k => pts.length - k.1) (0, (s, false)) ⟨by omega, rfl, hS, hE⟩ ?_
  rintro ⟨k,u,c⟩ ⟨hk,hf,hS2,hE2⟩
  dsimp only at hk hf hS2 hE2 ⊢
  have hsm : ∀ z,Sm u[z]! := rY hS2 (fun i A h => h.1) htl
  have hul := hS2.1
  repeat' (first|(apply aF;(apply fW;rfl;rfl;infer_instance;rfl;(apply Ab <;> (first|assumption|omega|infer_instance));exact Pur.pf;rfl))|refine aE ?_|(refine aJ ?_ ?_ <;> intro hc hq <;> try (exfalso;omega))|fail)
  ·have hkn : k < pts.length := by omega
   have hv := rT w hkn (hS2.2 k hkn).1
   have hvs : Sm (gY ts pts[k]! u[k]!) := ⟨Nat.lt_of_lt_of_le hv (Nat.pow_le_pow_right (by decide) (by omega))⟩
   have hvs' : Sm (gY ts pts[(k : Int).toNat]! u[k]!) := hvs
   have hnl := w.nl k hkn
   refine aH (σ := Nat × (List Nat × Bool)) [0,2,3,9,14,43,44,45,58,59] [] (fun j => [(60,iv (j.1 : Int)),(11,bv j.2.2)]) (fun j => [(0,some (flat cN j.2.1))]) (fun j => j.1 ≤ pts[k]!.next.length ∧ j.2 = ((uK pts k).take j.1).foldl (kZ Nb (gY ts pts[k]! u[k]!)) (u,c) ∧ SG pts (ND ts pts) j.2.1 ∧ j.2.1[0]! = 0) (fun j => pts[k]!.next.length - j.1) (0,(u,c)) ⟨by omega,rfl,hS2,hE2⟩ ?_
   rintro ⟨j,u2,c2⟩ ⟨hj,hf2,hS3,hE3⟩
   dsimp only at hj hf2 hS3 hE3 ⊢
   have hsm2 : ∀ z,Sm u2[z]! := rY hS3 (fun i A h => h.1) htl
   have hul2 := hS3.1
   have hz : j < pts[k]!.next.length → 0 ≤ pts[k]!.next[j]! ∧ pts[k]!.next[j]! < pts.length := fun h => w.nx k hkn _ (aN _ _ h)
   repeat' (first|refine aE ?_|(refine aJ ?_ ?_ <;> intro hc hq <;> try (exfalso;omega))|fail)
   ·have hzz := hz (by omega)
    have hed : cE pts k (pts[k]!.next[j]!).toNat := ⟨hkn,by rw [Int.toNat_of_nonneg hzz.1]; exact aN _ _ (by omega)⟩
    have hne : Nb u2[(pts[k]!.next[j]!).toNat]! (gY ts pts[k]! u[k]!) ≠ u2[(pts[k]!.next[j]!).toNat]! := fun h => hq (congrArg Int.ofNat h)
    (refine bC (j + 1,(_,true)) (Le.renA [(0,0)]) ?_ ?_)
    ·dsimp only
     refine ⟨by omega,?_,wN fl w (hS2.2 k hkn) hed hS3,(by rw [cU _ _ _ _ (by rw [hS3.1]; exact c8 w hed)]; split <;> first|exact hE3|(rename_i q;rw [← q,hE3]; exact Nat.zero_and _))⟩
     rw [iL (by omega),← hf2,wW hne]; rfl
    ·dsimp only;omega
   ·have hzz := hz (by omega)
    have hne : Nb u2[(pts[k]!.next[j]!).toNat]! (gY ts pts[k]! u[k]!) = u2[(pts[k]!.next[j]!).toNat]! := Int.ofNat.inj hq
    (refine bC (j + 1,(u2,c2)) (Le.renA [(0,0)]) ?_ ?_)
    ·dsimp only
     refine ⟨by omega,?_,hS3,hE3⟩
     rw [iL (by omega),← hf2,yY hne]
    ·dsimp only;omega
   ·(refine bC (k + 1, (u2, c2)) (Le.renA [(0, 0)]) ?_ ?_)
    ·dsimp only
     refine ⟨by omega,?_,hS3,hE3⟩
     rw [dL,← hf,hf2,List.take_of_length_le (by rw [kU]; omega)]; rfl
    ·dsimp only;omega
  ·have law := tG w fl s false hS
   have hfull : (u, c) = xN Nb (fun i A => gY ts pts[i]! A) pts (s, false) := by
    rw [hf,show k = pts.length by omega]; rfl
   rw [show xN (fun a s => Nb a s) (fun i A => gY ts pts[i]! A) pts (s,false) = (u,c) from hfull.symm] at law
   (refine bC (u,c) (Le.renA [(0,0)]) ?_ ?_)
   ·dsimp only
    refine ⟨hS2,hE2,fun h => ?_⟩
    rcases law.2 with ⟨e1,e2⟩ | ⟨e1,_⟩
    ·cases e1;exact e2
    ·dsimp only at e1;rw [h] at e1;cases e1
   ·dsimp only
    have hb : b = true := by assumption
    subst hb
    rcases law.2 with ⟨e1,e2⟩ | ⟨e1,e2⟩
    ·cases e1;simp
    ·dsimp only at e1 e2;subst e1;omega
 ·have hb : b = false := by assumption
  refine aR (Le.frzD (d := 8) (i := 0) rfl rfl) ?_
  refine aD rfl ⟨?_,(by (exact a9 _ _))⟩
  simp only [aM]
  rw [D5 hA (GA w hS hE (hC hb))]
theorem FV (ts:List Int) (bd:List AL.Stmt) (pts:List Pnt) (A:List Nat) (w:WG ts pts) (hA:qN ts pts A):PC Tryz.prog 121 [aG ts bd pts,iv 0] (fun r => r = .imm pts.length (flat cN A)):=by
 refine aB Tryz.func121 Tryz.ntmps121 ?_
 repeat' (first|(apply aF;(apply aA (k := 181);rfl;exact B2 ts bd pts A w hA;exact Pur.pf;rfl))|refine aE ?_|refine dF ?_|fail)
 exact ⟨rfl,(by (exact a9 _ _))⟩
theorem J3 (ts:List Int) (bd:List AL.Stmt) (pts:List Pnt) (A:List Nat) (w:WG ts pts) (hA:qL ts pts A):PC Tryz.prog 102 [aG ts bd pts] (fun r => r = .imm pts.length (flat cN A)):=by
 refine aB Tryz.func102 Tryz.ntmps102 ?_
 repeat' (first|(apply aF;(apply aA (k := 181);rfl;exact BP ts bd pts A w hA;exact Pur.pf;rfl))|refine aE ?_|refine dF ?_|fail)
 exact ⟨rfl,(by (exact a9 _ _))⟩
theorem DI (ts:List Int) (bd:List AL.Stmt) (pts:List Pnt) (n:Nat) (B:List Nat) (i:Int) (w:WG ts pts) (hn:n = B.length) (hB:B.length = pts.length) (hs:∀ z:Nat,Sm B[z]!) (hi:0 ≤ i ∧ i < pts.length):PC Tryz.prog 189 [aG ts bd pts,.imm n (flat cN B),iv i] (fun r => r = iv (Ka pts B i.toNat:Nat)):=by
 subst hn
 have hin : i.toNat < pts.length := by omega
 have hnl := w.nl _ hin
 have hpl := w.pl
 refine aB Tryz.func189 Tryz.ntmps189 ?_
 repeat' (first|refine aE ?_|fail)
 refine aH (σ := Nat × Nat) [1,17,18] [] (fun k => [(19,iv (k.1 : Int)),(7,iv (k.2 : Int))]) (fun k => []) (fun k => k.1 ≤ pts[i.toNat]!.next.length ∧ k.2 = ((uK pts i.toNat).take k.1).foldl (fun a k => nY a B[k]!) 0 ∧ Sm k.2) (fun k => pts[i.toNat]!.next.length - k.1) (0,0) ⟨by omega,rfl,inferInstance⟩ ?_
 rintro ⟨k,a⟩ ⟨hk,ha,hsa⟩
 dsimp only at hk ha hsa ⊢
 have hz : k < pts[i.toNat]!.next.length → 0 ≤ pts[i.toNat]!.next[k]! ∧ pts[i.toNat]!.next[k]! < pts.length := fun h => w.nx _ hin _ (aN _ _ h)
 repeat' (first|refine aE ?_|(refine aJ ?_ ?_ <;> intro hc hq <;> try (exfalso;omega))|refine dF ?_|fail)
 ·(refine bC (k + 1, _) (Le.renA []) ?_ ?_)
  ·dsimp only
   refine ⟨by omega,?_,inferInstance⟩
   rw [dG _ _ _ _ (by rw [kU]; omega),xM (by omega),← ha]
  ·dsimp only;omega
 ·(refine ⟨?_, rfl⟩; simp only [aM, AV.v.injEq, Value.bool.injEq, Value.int.injEq, true_and])
  rw [ha,List.take_of_length_le (by rw [kU]; omega)]; rfl
theorem Gu (ts:List Int) (bd:List AL.Stmt) (pts:List Pnt) (A:List Nat) (w:WG ts pts) (hA:sJ ts pts A):PC Tryz.prog 188 [aG ts bd pts] (fun r => r = .imm pts.length (flat cN A)):=by
 have hpl := w.pl
 have hp0 := w.p0
 have htl := w.tl
 refine aB Tryz.func188 Tryz.ntmps188 ?_
 repeat' (first|refine aE ?_|fail)
 refine aH (σ := List Nat × Bool) [0,3] [] (fun s => [(4,bv s.2)]) (fun s => [(0,some (flat cN s.1))]) (fun s => SN ts pts s.1 ∧ (s.2 = false → ∀ i,i < pts.length → pZ ts pts s.1 i = s.1[i]!)) (fun s => 2 * eT (s.1.map (fun a => 2 ^ ts.length - a)) + s.2.toNat) (List.replicate pts.length 0,true) ⟨L8,fun h => by cases h⟩ ?_
 rintro ⟨s,b⟩ ⟨hS,hC⟩
 dsimp only at hS hC ⊢
 repeat' (first|refine aE ?_|(refine aJ ?_ ?_ <;> intro hc hq <;> try (exfalso;omega))|fail)
 ·refine aH (σ := Nat × Int × (List Nat × Bool)) [0, 3] [] (fun k => [(5, iv k.2.1), (4, bv k.2.2.2)]) (fun k => [(0, some (flat cN k.2.2.1))]) (fun k => k.1 ≤ pts.length ∧ k.2.1 = (pts.length : Int) - 1 - k.1 ∧ k.2.2 = ((List.range pts.length).reverse.take k.1).foldl (k8 ts pts) (s, false) ∧ SN ts pts k.2.2.1) (fun k => pts.length - k.1) (0, (pts.length : Int) - 1, (s, false)) ⟨by omega, by simp, rfl, hS⟩ ?_
  rintro ⟨k,z,u,c⟩ ⟨hk,hz,hf,hS2⟩
  dsimp only at hk hz hf hS2 ⊢
  have hsm : ∀ z : Nat,Sm u[z]! := rY hS2.1 (fun i A h => h.1) htl
  have hul := hS2.1.1
  have hst := fun h : z.toNat < pts.length => (w.set z.toNat h).1
  have hst2 : aP pts[z.toNat]! < 62 := by
   by_cases h : z.toNat < pts.length
   ·have := hst h;omega
   ·rw [getElem!_neg pts z.toNat h]; decide
  have hs1 : Sm (wS ts pts[z.toNat]! [1,2,3]) := bR (by omega)
  have hs2 : Sm (iA pts[z.toNat]!) := rH (by omega)
  have hs3 : Sm (Ka pts u z.toNat) := by
   unfold Ka
   have : ∀ (L : List Nat) (a : Nat), Sm a → Sm (L.foldl (fun a k => a ||| u[k]!) a) := by
    intro L;induction L with
    | nil => exact fun a h => h
    | cons x L ih => exact fun a h => ih _ (inferInstance : Sm (a ||| u[x]!))
   exact this _ _ inferInstance
  have hlaw := fun h : z.toNat < pts.length => wA w u c z.toNat h hS2
  repeat' (first|(apply aF;(first|(apply aA (k := 158);rfl;(apply fR <;> (assumption));exact Pur.pf;rfl)|(apply aA (k := 182);rfl;(apply oY <;> (assumption));exact Pur.pf;rfl)|(apply pD (k := 189);(case ha => rfl);(case hl => (repeat' (first|exact m7|apply kM|exact yO|exact mP rfl inferInstance|exact Cb inferInstance)));(case h => (apply DI <;> (first|assumption|omega)));(case hfr|hN => rfl);(case hmd => infer_instance))))|refine aE ?_|(refine aJ ?_ ?_ <;> intro hc hq <;> try (exfalso;omega))|refine bI ?_|fail)
  ·have hzn : z.toNat < pts.length := by omega
   have hne : pZ ts pts u z.toNat ≠ u[z.toNat]! := fun h => hq (congrArg Int.ofNat h)
   have hl := hlaw hzn
   rw [CX hne] at hl
   have hrg : (List.range pts.length).reverse[k]! = z.toNat := by rw [zD (by omega)]; omega
   (refine bC (k + 1,_,(_,true)) (Le.renA [(0,0)]) ?_ ?_)
   ·dsimp only
    refine ⟨by omega,by omega,?_,hl.1⟩
    rw [dG _ _ _ _ (by simp;omega),← hf,hrg,CX hne]; rfl
   ·dsimp only;omega
  ·have hzn : z.toNat < pts.length := by omega
   have hne : pZ ts pts u z.toNat = u[z.toNat]! := Int.ofNat.inj hq
   have hrg : (List.range pts.length).reverse[k]! = z.toNat := by rw [zD (by omega)]; omega
   (refine bC (k + 1,_,(u,c)) (Le.renA [(0,0)]) ?_ ?_)
   ·dsimp only
    refine ⟨by omega,by omega,?_,hS2⟩
    rw [dG _ _ _ _ (by simp;omega),← hf,hrg,JF hne]
   ·dsimp only;omega
  ·have law := Ey w s false hS
   have hfull : (u, c) = AX ts pts (s, false) := by
    rw [hf,List.take_of_length_le (by simp;omega)]; rfl
   rw [← hfull] at law
   (refine bC (u,c) (Le.renA [(0,0)]) ?_ ?_)
   ·dsimp only
    refine ⟨hS2,fun h => ?_⟩
    rcases law.2 with ⟨e1,e2⟩ | ⟨e1,_⟩
    ·cases e1;exact e2
    ·dsimp only at e1;rw [h] at e1;cases e1
   ·dsimp only
    have hb : b = true := by assumption
    subst hb
    rcases law.2 with ⟨e1,e2⟩ | ⟨e1,e2⟩
    ·cases e1;simp
    ·dsimp only at e1 e2;subst e1;omega
 ·have hb : b = false := by assumption
  refine aR (Le.frzD (d := 2) (i := 0) rfl rfl) ?_
  refine aD rfl ⟨?_,(by (exact a9 _ _))⟩
  simp only [aM]
  rw [EP hA (H6 w hS (hC hb))]
theorem AK (ts:List Int) (bd:List AL.Stmt) (pts:List Pnt) (B A:List Nat) (w:WG ts pts) (hB:sJ ts pts B) (hA:qD ts pts A):PC Tryz.prog 108 [aG ts bd pts] (fun r => r = .imm pts.length (flat cN A)):=by
 have hpl := w.pl
 have htl := w.tl
 have hBl := hB.1
 have hsm : ∀ z : Nat, Sm B[z]! := by
  intro z
  by_cases hz : z < pts.length
  ·refine ⟨Nat.lt_of_lt_of_le (Nat.lt_pow_two_of_testBit _ (n := 6) fun v hv => ?_) (by decide)⟩
   cases hq : B[z]!.testBit v with
   | false => rfl
   | true => have := tA w ((hB.2 z hz v).1 hq);dsimp only at this;omega
  ·rw [getElem!_neg B z (by rw [hBl]; exact hz)]; exact ⟨by decide⟩
 refine aB Tryz.func108 Tryz.ntmps108 ?_
 repeat' (first|(apply aF;(apply aA (k := 188);rfl;(apply Gu <;> (assumption));exact Pur.pf;rfl))|refine aE ?_|fail)
 refine AW.le ?_ (Le.nilOwn (d := 4) 1 rfl (by decide))
 refine aH (σ := Nat × List Nat) [0,3,12] [] (fun k => [(13,iv (k.1 : Int)),(4,.own 0 0 k.1 1)]) (fun k => [(0,some (flat cN k.2))]) (fun k => k.1 ≤ pts.length ∧ k.2 = (List.range k.1).map (Ka pts B)) (fun k => pts.length - k.1) (0,[]) ⟨by omega,rfl⟩ ?_
 rintro ⟨k,u⟩ ⟨hk,hu⟩
 dsimp only at hk hu ⊢
 have hul : u.length = k := by rw [hu]; simp
 repeat' (first|(apply aF;first|(apply aL (t := _);rfl;rfl;rfl;exact (rfl:_=some [_]);rfl;rfl)|(apply aA (k := 189);rfl;(apply DI <;> (first|assumption|omega));exact Pur.pf;rfl))|refine aE ?_|(refine aJ ?_ ?_ <;> intro hc hq <;> try (exfalso;omega))|fail)
 ·(refine bC (k + 1, _) (Le.renA [(0, 2)]) ?_ ?_)
  ·dsimp only
   refine ⟨by omega,?_⟩
   rw [hu,List.range_succ,List.map_append]; rfl
  ·dsimp only;omega
 ·refine aR (Le.frzD (d := 2) (i := 0) rfl rfl) ?_
  refine aD rfl ⟨?_,(by (exact a9 _ _))⟩
  simp only [aM]
  have hkn : k = pts.length := by omega
  subst hkn
  rw [vL hA (Bu w hB),hu]
theorem fO (A:Nat) (hA:Sm A):PC Tryz.prog 120 [iv (A:Int)] (fun r => r = sl cI (a8 A)):=by
 refine aB Tryz.func120 Tryz.ntmps120 ?_
 repeat' (first|refine aE ?_|fail)
 refine AW.le ?_ (Le.nilOwn (d := 3) 1 rfl (by decide))
 refine aH (σ := Nat × List Int × Nat) [0] [] (fun k => [(4,iv (k.1 : Int)),(3,.own 0 0 k.2.2 1)]) (fun k => [(0,some (flat cI k.2.1))]) (fun k => k.1 ≤ 62 ∧ k.2.1 = ((List.range k.1).filter (A.testBit ·)).map (fun v : Nat => (v : Int)) ∧ k.2.2 = k.2.1.length ∧ k.2.2 ≤ k.1) (fun k => 62 - k.1) (0,[],0) ⟨by omega,rfl,rfl,Nat.le_refl _⟩ ?_
 rintro ⟨k,u,m⟩ ⟨hk,hu,hm,hmk⟩
 dsimp only at hk hu hm hmk ⊢
 repeat' (first|(apply aF;(apply aL (t := _);rfl;rfl;rfl;exact (rfl:_=some [_]);rfl;rfl))|refine aE ?_|(refine aJ ?_ ?_ <;> intro hc hq <;> try (exfalso;omega))|fail)
 ·have hlt := CY hA (show 0 < ((A >>> k : Nat) : Int) by assumption)
  (refine bC (k + 1,_,_) (Le.renA [(0,2)]) ?_ ?_)
  ·dsimp only
   exact ⟨by omega,vP hq hu,by simp;omega,by omega⟩
  ·dsimp only;omega
 ·have hlt := CY hA (show 0 < ((A >>> k : Nat) : Int) by assumption)
  (refine bC (k + 1,u,m) (Le.renA [(0,0)]) ?_ ?_)
  ·dsimp only
   exact ⟨by omega,u9 hq hu,hm,by omega⟩
  ·dsimp only;omega
 ·(refine aR (Le.frzD (d := 2) (i := 0) rfl rfl) ?_; refine aD rfl ?_)
  refine ⟨?_,(by (exact a9 _ _))⟩
  simp only [aM,sl]
  rw [pP (k := k) (fun v hv => Ic hq v hv) (by omega) hA,← hu,← hm]
theorem sV (A:Nat) (hA:Sm A):PC Tryz.prog 76 [.v (.int .u64 (A:Int))] (fun r => r = sl cI (a8 A)):=by
 refine aB Tryz.func76 Tryz.ntmps76 ?_
 repeat' (first|refine aE ?_|fail)
 refine AW.le ?_ (Le.nilOwn (d := 3) 1 rfl (by decide))
 refine aH (σ := Nat × List Int × Nat) [0] [] (fun k => [(5,iv (k.1 : Int)),(3,.own 0 0 k.2.2 1)]) (fun k => [(0,some (flat cI k.2.1))]) (fun k => k.1 ≤ 64 ∧ k.2.1 = ((List.range k.1).filter (A.testBit ·)).map (fun v : Nat => (v : Int)) ∧ k.2.2 = k.2.1.length ∧ k.2.2 ≤ k.1) (fun k => 64 - k.1) (0,[],0) ⟨by omega,rfl,rfl,Nat.le_refl _⟩ ?_
 rintro ⟨k,u,m⟩ ⟨hk,hu,hm,hmk⟩
 dsimp only at hk hu hm hmk ⊢
 repeat' (first|(apply aF;(apply aL (t := _);rfl;rfl;rfl;exact (rfl:_=some [_]);rfl;rfl))|refine aE ?_|(refine aJ ?_ ?_ <;> intro hc hq <;> try (exfalso;omega))|fail)
 ·(refine bC (k + 1, _, _) (Le.renA [(0, 2)]) ?_ ?_)
  ·dsimp only
   exact ⟨by omega,vP hq hu,by simp;omega,by omega⟩
  ·dsimp only;omega
 ·(refine bC (k + 1, u, m) (Le.renA [(0, 0)]) ?_ ?_)
  ·dsimp only
   exact ⟨by omega,u9 hq hu,hm,by omega⟩
  ·dsimp only;omega
 ·(refine aR (Le.frzD (d := 2) (i := 0) rfl rfl) ?_; refine aD rfl ?_)
  refine ⟨?_,(by (exact a9 _ _))⟩
  simp only [aM,sl]
  rw [pP (k := k) (fun v hv => Nat.testBit_lt_two_pow (Nat.lt_of_lt_of_le hA.pf (Nat.pow_le_pow_right (by decide) (by omega)))) (by omega) hA,← hu,← hm]
theorem zX (ts:List Int) (bd:List AL.Stmt) (pts:List Pnt) (V:Nat) (w:WG ts pts) (hV:Sm V):PC Tryz.prog 235 [aG ts bd pts,iv (V:Int)] (fun r => r = .v (.int .u64 (qW pts V:Nat))):=by
 have hpl := w.pl
 have htl := w.tl
 refine aB Tryz.func235 Tryz.ntmps235 ?_
 repeat' (first|refine aE ?_|fail)
 refine aH (σ := Nat × Nat) [1,11,12] [] (fun k => [(13,iv (k.1 : Int)),(5,.v (.int .u64 (k.2 : Int)))]) (fun k => []) (fun k => k.1 ≤ pts.length ∧ k.2 = eJ (fun l => bY pts[l]! && V.testBit (pts[l]!.y.toNat)) k.1) (fun k => pts.length - k.1) (0,0) ⟨by omega,rfl⟩ ?_
 rintro ⟨k,A⟩ ⟨hk,hA⟩
 dsimp only at hk hA ⊢
 have hsm : Sm A := hA ▸ bR (by omega)
 cases hln : bY pts[k]!
 ·repeat' (first | (apply aF; (apply aA (k := 233);rfl;(apply lE);exact Pur.pf;rfl)) | refine aE ?_ | (refine aJ ?_ ?_ <;> intro hc hq <;> try (exfalso; omega)) | refine dF ?_|fail)
  ·(refine bC (k + 1, A) (Le.renA []) ?_ ?_)
   ·dsimp only
    exact ⟨by omega,by rw [hA]; exact l9 _ _ (by rw [hln]; rfl)⟩
   ·dsimp only;omega
  ·(refine ⟨?_, rfl⟩; simp only [aM, AV.v.injEq, Value.bool.injEq, Value.int.injEq, true_and])
   rw [hA,show k = pts.length by omega]; rfl
 ·have hy := fun (h : k < pts.length) => pR w h hln
  repeat' (first|(apply aF;first|(apply jN;rfl;rfl;infer_instance;omega;rfl;(case' kk => intro hsm))|(apply aA (k := 233);rfl;(apply lE);exact Pur.pf;rfl))|refine aE ?_|(refine aJ ?_ ?_ <;> intro hc hq <;> try (exfalso;omega))|refine dF ?_|fail)
  ·(refine bC (k + 1, _) (Le.renA []) ?_ ?_)
   ·dsimp only
    exact ⟨by omega,by rw [hA]; exact qG _ _ (by rw [hln,Bool.true_and]; exact (lZ _ _).1 hq)⟩
   ·dsimp only;omega
  ·(refine bC (k + 1, A) (Le.renA []) ?_ ?_)
   ·dsimp only
    exact ⟨by omega,by rw [hA]; exact l9 _ _ (by rw [hln,Bool.true_and]; cases hb : V.testBit (pts[k]!.y.toNat) with|false => rfl|true => exact absurd ((lZ _ _).2 hb) hq)⟩
   ·dsimp only;omega
  ·(refine ⟨?_, rfl⟩; simp only [aM, AV.v.injEq, Value.bool.injEq, Value.int.injEq, true_and])
   rw [hA,show k = pts.length by omega]; rfl
theorem Hi (ts:List Int) (bd:List AL.Stmt) (pts:List Pnt) (A:List Nat) (w:WG ts pts) (hA:qI ts pts A):PC Tryz.prog 184 [aG ts bd pts] (fun r => r = .imm pts.length (flat cW A)):=by
 have hpl := w.pl
 have hp0 := w.p0
 have htl := w.tl
 have fl := Ol w
 refine aB Tryz.func184 Tryz.ntmps184 ?_
 repeat' (first|refine aE ?_|fail)
 refine aH (σ := List Nat × Bool) [0,3] [] (fun s => [(4,bv s.2)]) (fun s => [(0,some (flat cW s.1))]) (fun s => SG pts (NU ts pts) s.1 ∧ (s.2 = false → kX nY (xZ ts pts) pts s.1)) (fun s => 2 * eT (s.1.map (fun a => 2 ^ pts.length - a)) + s.2.toNat) (List.replicate pts.length 0,true) ⟨Ce fun i hi => ⟨Nat.pow_pos (by decide),fun v h => by simp at h⟩,fun h => by cases h⟩ ?_
 rintro ⟨s,b⟩ ⟨hS,hC⟩
 dsimp only at hS hC ⊢
 repeat' (first|refine aE ?_|(refine aJ ?_ ?_ <;> intro hc hq <;> try (exfalso;omega))|fail)
 ·refine aH (σ := Nat × (List Nat × Bool)) [0, 3, 20, 21] [] (fun k => [(22, iv (k.1 : Int)), (4, bv k.2.2)]) (fun k => [(0, some (flat cW k.2.1))]) (fun k => k.1 ≤ pts.length ∧ k.2 = (List.range k.1).foldl (yM nY (xZ ts pts) pts) (s, false) ∧ SG pts (NU ts pts) k.2.1) (fun k => pts.length - k.1) (0, (s, false)) ⟨by omega, rfl, hS⟩ ?_
  rintro ⟨k,u,c⟩ ⟨hk,hf,hS2⟩
  dsimp only at hk hf hS2 ⊢
  have hul := hS2.1
  by_cases hkn : k < pts.length
  ·have hst := (w.set k hkn).1
   have hsm : ∀ z : Nat, Sm u[z]! := by
    intro z
    by_cases hz : z < pts.length
    ·exact ⟨Nat.lt_of_lt_of_le (hS2.2 z hz).1 (Nat.pow_le_pow_right (by decide) (by omega))⟩
    ·rw [getElem!_neg u z (by rw [hul]; exact hz)]; exact ⟨by decide⟩
   have hs1 : Sm (wS ts pts[k]! [2]) := bR (by omega)
   have hs2 : Sm (iA pts[k]!) := rH (by omega)
   have hs3 : ∀ V,Sm (qW pts V) := fun V => GI w V
   have hnl := w.nl k hkn
   have e1 : bY pts[k]! = true → nD u[k]! (qW pts (wS ts pts[k]! [2] ||| iA pts[k]!)) ||| 2 ^ (k : Int).toNat = xZ ts pts k u[k]! := fun h => by unfold xZ L4;rw [if_pos h]; rfl
   have e0 : bY pts[k]! = false → nD u[k]! (qW pts (wS ts pts[k]! [2] ||| iA pts[k]!)) = xZ ts pts k u[k]! := fun h => by unfold xZ L4;rw [if_neg (by rw [h]; simp),Nat.or_zero]
   have hps : Sm (xZ ts pts k u[k]!) := ⟨Nat.lt_of_lt_of_le (B8 w hkn (hS2.2 k hkn).1) (Nat.pow_le_pow_right (by decide) (by omega))⟩
   repeat' (first|(apply aF;first|(apply jN;rfl;rfl;infer_instance;omega;rfl;(case' kk => intro hsm))|(first|(apply aA (k := 142);rfl;(apply qZ <;> (assumption));exact Pur.pf;rfl)|(apply aA (k := 182);rfl;(apply oY <;> (omega));exact Pur.pf;rfl)|(apply aA (k := 233);rfl;(apply lE);exact Pur.pf;rfl)|(apply aA (k := 235);rfl;(apply zX <;> (first|assumption|infer_instance));exact Pur.pf;rfl)))|refine aE ?_|(refine aJ ?_ ?_ <;> intro hc hq <;> try (exfalso;omega))|refine bI ?_|fail)
   all_goals first|rw [e1 (by assumption)]|rw [e0 (by assumption)]
   all_goals
    refine aH (σ := Nat × (List Nat × Bool)) [0,3,7,20,21,22,47,48] [] (fun j => [(49,iv (j.1 : Int)),(4,bv j.2.2)]) (fun j => [(0,some (flat cW j.2.1))]) (fun j => j.1 ≤ pts[k]!.next.length ∧ j.2 = ((uK pts k).take j.1).foldl (kZ nY (xZ ts pts k u[k]!)) (u,c) ∧ SG pts (NU ts pts) j.2.1) (fun j => pts[k]!.next.length - j.1) (0,(u,c)) ⟨by omega,rfl,hS2⟩ ?_
    rintro ⟨j,u2,c2⟩ ⟨hj,hf2,hS3⟩
    dsimp only at hj hf2 hS3 ⊢
    have hul2 := hS3.1
    have hsm2 : ∀ z : Nat, Sm u2[z]! := by
     intro z
     by_cases hz : z < pts.length
     ·exact ⟨Nat.lt_of_lt_of_le (hS3.2 z hz).1 (Nat.pow_le_pow_right (by decide) (by omega))⟩
     ·rw [getElem!_neg u2 z (by rw [hul2]; exact hz)]; exact ⟨by decide⟩
    have hz : j < pts[k]!.next.length → 0 ≤ pts[k]!.next[j]! ∧ pts[k]!.next[j]! < pts.length := fun h => w.nx k hkn _ (aN _ _ h)
    repeat' (first|refine aE ?_|(refine aJ ?_ ?_ <;> intro hc hq <;> try (exfalso;omega))|refine bI ?_|fail)
    ·have hzz := hz (by omega)
     have hed : cE pts k (pts[k]!.next[j]!).toNat := ⟨hkn,by rw [Int.toNat_of_nonneg hzz.1]; exact aN _ _ (by omega)⟩
     have hne : nY u2[(pts[k]!.next[j]!).toNat]! (xZ ts pts k u[k]!) ≠ u2[(pts[k]!.next[j]!).toNat]! := fun h => hq (congrArg Int.ofNat h)
     (refine bC (j + 1,(_,true)) (Le.renA [(0,0)]) ?_ ?_)
     ·dsimp only
      refine ⟨by omega,?_,wN fl w (hS2.2 k hkn) hed hS3⟩
      rw [iL (by omega),← hf2,wW hne]
     ·dsimp only;omega
    ·have hzz := hz (by omega)
     have hne : nY u2[(pts[k]!.next[j]!).toNat]! (xZ ts pts k u[k]!) = u2[(pts[k]!.next[j]!).toNat]! := Int.ofNat.inj hq
     (refine bC (j + 1,(u2,c2)) (Le.renA [(0,0)]) ?_ ?_)
     ·dsimp only
      refine ⟨by omega,?_,hS3⟩
      rw [iL (by omega),← hf2,yY hne]
     ·dsimp only;omega
    ·(refine bC (k + 1, (u2, c2)) (Le.renA [(0, 0)]) ?_ ?_)
     ·dsimp only
      refine ⟨by omega,?_,hS3⟩
      rw [dL,← hf,hf2,List.take_of_length_le (by rw [kU]; omega)]; rfl
     ·dsimp only;omega
  ·repeat' (first | refine aE ?_ | (refine aJ ?_ ?_ <;> intro hc hq <;> try (exfalso; omega))|fail)
   have law := tG w fl s false hS
   have hfull : (u, c) = xN nY (xZ ts pts) pts (s, false) := by
    rw [hf,show k = pts.length by omega]; rfl
   rw [← hfull] at law
   (refine bC (u,c) (Le.renA [(0,0)]) ?_ ?_)
   ·dsimp only
    refine ⟨hS2,fun h => ?_⟩
    rcases law.2 with ⟨e1,e2⟩ | ⟨e1,_⟩
    ·cases e1;exact e2
    ·dsimp only at e1;rw [h] at e1;cases e1
   ·dsimp only
    have hb : b = true := by assumption
    subst hb
    rcases law.2 with ⟨e1,e2⟩ | ⟨e1,e2⟩
    ·cases e1;simp
    ·dsimp only at e1 e2;subst e1;omega
 ·have hb : b = false := by assumption
  refine aR (Le.frzD (d := 2) (i := 0) rfl rfl) ?_
  refine aD rfl ⟨?_,(by (exact a9 _ _))⟩
  simp only [aM]
  rw [E9 hA (II w hS (hC hb))]
theorem BS (ts:List Int) (bd:List AL.Stmt) (pts:List Pnt) (i:Int) (f:List Nat) (w:WG ts pts) (hi:0 ≤ i ∧ i < pts.length) (hf:f.length = 6) (hs:∀ z:Nat,Sm f[z]!):PC Tryz.prog 183 [aG ts bd pts,iv i,.agg (flat cW f)] (fun r => r = .agg (flat cW (xH ts pts i.toNat f))):=by
 have hpl := w.pl
 have htl := w.tl
 have hin : i.toNat < pts.length := by omega
 have hst := (w.set i.toNat hin)
 have hy := w.y i.toNat hin
 have hbl := cA (wS ts pts[i.toNat]! [2])
 have hT : Sm (wS ts pts[i.toNat]! [2]) := bR (by omega)
 refine aB Tryz.func183 Tryz.ntmps183 ?_
 repeat' (first|(apply aF;(first|(apply aA (k := 120);rfl;(apply fO <;> (assumption));(rfl);rfl)|(apply aA (k := 142);rfl;(apply qZ <;> (assumption));exact Pur.pf;rfl)))|refine aE ?_|fail)
 refine aH (σ := Nat × List Nat) [0,1,5,6,7,8,23,24] [0,1,2] (fun k => [(25,iv (k.1 : Int))]) (fun k => [(3,some (flat cW k.2))]) (fun k => k.1 ≤ (a8 (wS ts pts[i.toNat]! [2])).length ∧ k.2 = n5 ((a8 (wS ts pts[i.toNat]! [2])).take k.1) f ∧ k.2.length = 6) (fun k => (a8 (wS ts pts[i.toNat]! [2])).length - k.1) (0,f) ⟨by omega,rfl,hf⟩ ?_
 rintro ⟨k,u⟩ ⟨hk,hu,hul⟩
 dsimp only at hk hu hul ⊢
 have hbb : k < (a8 (wS ts pts[i.toNat]! [2])).length → 0 ≤ (a8 (wS ts pts[i.toNat]! [2]))[k]! ∧ (a8 (wS ts pts[i.toNat]! [2]))[k]! < ts.length := fun h => lW (vM (fun v => decide (a6 ts pts[i.toNat]! v ∈ [2])) ts.length) h
 have husm : ∀ z : Nat,Sm u[z]! := by intro z;rw [hu]; exact LB hs z
 have hset : ∀ (k a : Nat) [Sm a] (z : Nat),Sm (u.set k a)[z]! := fun k a h z => BT husm h z
 have hset2 : ∀ (k a k2 a2 : Nat) [Sm a] [Sm a2] (z : Nat),Sm ((u.set k a).set k2 a2)[z]! := fun k a k2 a2 h h2 z => BT (BT husm h) h2 z
 by_cases hkn : k < (a8 (wS ts pts[i.toNat]! [2])).length
 ·have hbk := hbb hkn
  repeat' (first|refine aE ?_|(refine aJ ?_ ?_ <;> intro hc hq <;> try (exfalso;omega))|fail)
  (refine bC (k + 1,u.set ((a8 (wS ts pts[i.toNat]! [2]))[k]!).toNat 0) (Le.renA [(0,0),(1,1),(2,2),(3,3)]) ?_ ?_)
  ·dsimp only
   exact ⟨by omega,by rw [Et hkn,← hu],by simpa using hul⟩
  ·dsimp only;omega
 ·have hu' : u = n5 (a8 (wS ts pts[i.toNat]! [2])) f := by rw [hu, List.take_of_length_le (by omega)]
  cases hln : bY pts[i.toNat]!
  ·repeat' (first | (apply aF; (first | (apply aA (k := 143);rfl;(apply xL);exact Pur.pf;rfl) | (apply aA (k := 233);rfl;(apply lE);exact Pur.pf;rfl))) | refine aE ?_ | (refine aJ ?_ ?_ <;> intro hc hq <;> try (exfalso; omega)) | refine bI ?_|fail)
   all_goals (refine aD (nQ (z := 6) rfl rfl (by first|exact hul|(simp only [List.length_set]; exact hul)) (by decide)) ⟨?_,(by (exact a9 _ _))⟩)
   all_goals simp only [aM,xH,← hu',hln,Bool.false_eq_true,false_and,false_or,if_false]
   all_goals congr 2
   all_goals grind
  ·have hop := k4 hln
   repeat' (first|(apply aF;first|(apply jN;rfl;rfl;infer_instance;omega;rfl;(case' kk => intro hsm))|(first|(apply aA (k := 143);rfl;(apply xL);exact Pur.pf;rfl)|(apply aA (k := 233);rfl;(apply lE);exact Pur.pf;rfl)|(apply aA (k := 234);rfl;(apply z2);(rfl);rfl)))|refine aE ?_|(refine aJ ?_ ?_ <;> intro hc hq <;> try (exfalso;omega))|(refine bO ?_ ?_ <;> intro hg hq <;> try (exfalso;omega))|refine bI ?_|fail)
   all_goals (refine aD (nQ (z := 6) rfl rfl (by first|exact hul|(simp only [List.length_set]; exact hul)) (by decide)) ⟨?_,(by (exact a9 _ _))⟩)
   all_goals simp only [aM,xH,← hu',hln,true_and,if_true]
   all_goals congr 2
   all_goals grind
theorem v8 (ts:List Int) (bd:List AL.Stmt) (pts:List Pnt) (A:List Nat) (w:WG ts pts) (hA:qP ts pts A):PC Tryz.prog 104 [aG ts bd pts] (fun r => r = .imm pts.length (flat cW A)):=by
 have hpl := w.pl
 have hp0 := w.p0
 have htl := w.tl
 refine aB Tryz.func104 Tryz.ntmps104 ?_
 repeat' (first|refine aE ?_|fail)
 refine aH (σ := List Nat × Bool) [0,3] [] (fun s => [(4,bv s.2)]) (fun s => [(0,some (flat cW s.1))]) (fun s => SF ts pts s.1 ∧ (s.2 = false → xT ts pts s.1)) (fun s => 2 * eT (s.1.map (fun x => 2 ^ pts.length - x)) + s.2.toNat) (List.replicate (pts.length * 6) 0,true) ⟨Nr,fun h => by cases h⟩ ?_
 rintro ⟨s,b⟩ ⟨hS,hC⟩
 dsimp only at hS hC ⊢
 repeat' (first|refine aE ?_|(refine aJ ?_ ?_ <;> intro hc hq <;> try (exfalso;omega))|fail)
 ·refine aH (σ := Nat × (List Nat × Bool)) [0, 3, 22, 23] [] (fun k => [(24, iv (k.1 : Int)), (4, bv k.2.2)]) (fun k => [(0, some (flat cW k.2.1))]) (fun k => k.1 ≤ pts.length ∧ k.2 = (List.range k.1).foldl (Cr ts pts) (s, false) ∧ SF ts pts k.2.1) (fun k => pts.length - k.1) (0, (s, false)) ⟨by omega, rfl, hS⟩ ?_
  rintro ⟨i,u,c⟩ ⟨hk,hf,hS2⟩
  dsimp only at hk hf hS2 ⊢
  have hul := hS2.1
  have hsm : ∀ z : Nat,Sm u[z]! := Lp w hS2
  by_cases hin : i < pts.length
  ·have hnl := w.nl i hin
   have hrl : ((u.drop (i * 6)).take 6).length = 6 := fL hul hin
   have hrs : ∀ z : Nat, Sm ((u.drop (i * 6)).take 6)[z]! := by
    intro z
    by_cases hz : z < 6
    ·have := eY hul hin hz;unfold cY at this;rw [this]; exact hsm _
    ·rw [getElem!_neg _ z (by rw [hrl]; exact hz)]; exact ⟨by decide⟩
   have hcl : (xH ts pts (i : Int).toNat ((u.drop (i * 6)).take 6)).length = 6 := (KQ ts pts i ((u.drop (i * 6)).take 6)).trans hrl
   repeat' (first|(apply aF;(apply aA (k := 183);rfl;(apply BS <;> (first|assumption|omega));exact Pur.pf;rfl))|refine aE ?_|(refine aJ ?_ ?_ <;> intro hc hq <;> try (exfalso;omega))|fail)
   generalize hcf : xH ts pts (i : Int).toNat ((u.drop (i * 6)).take 6) = a at hcl
   have hcf' : xH ts pts i (cY u i) = a := hcf
   have hasnd : ∀ k,cE pts i k → ∀ v,v < 6 → NH ts pts k v a[v]! := fun k e v hv => by rw [← hcf']; exact C8 w hS2 e hv
   refine aH (σ := Nat × (List Nat × Bool)) [0,3,7,22,23,24,37,38] [2] (fun j => [(39,iv (j.1 : Int)),(4,bv j.2.2)]) (fun j => [(0,some (flat cW j.2.1))]) (fun j => j.1 ≤ pts[i]!.next.length ∧ j.2 = ((uK pts i).take j.1).foldl (uT a) (u,c) ∧ SF ts pts j.2.1) (fun j => pts[i]!.next.length - j.1) (0,(u,c)) ⟨by omega,rfl,hS2⟩ ?_
   rintro ⟨j,u2,c2⟩ ⟨hj,hf2,hS3⟩
   dsimp only at hj hf2 hS3 ⊢
   have hul2 := hS3.1
   by_cases hjn : j < pts[i]!.next.length
   ·have hzz : 0 ≤ pts[i]!.next[j]! ∧ pts[i]!.next[j]! < pts.length := w.nx i hin _ (aN _ _ hjn)
    have hed : cE pts i (pts[i]!.next[j]!).toNat := ⟨hin,by rw [Int.toNat_of_nonneg hzz.1]; exact aN _ _ hjn⟩
    have hap := hasnd _ hed
    have hasm : ∀ z : Nat, Sm a[z]! := by
     intro z
     by_cases hz : z < 6
     ·exact ⟨Nat.lt_of_lt_of_le (hap z hz).1 (Nat.pow_le_pow_right (by decide) (by omega))⟩
     ·rw [getElem!_neg a z (by rw [hcl]; exact hz)]; exact ⟨by decide⟩
    repeat' (first|refine aE ?_|(refine aJ ?_ ?_ <;> intro hc hq <;> try (exfalso;omega))|fail)
    refine aH (σ := Nat × (List Nat × Bool)) [0,3,7,9,22,23,24,37,38,39,43] [2] (fun v => [(44,iv (v.1 : Int)),(4,bv v.2.2)]) (fun v => [(0,some (flat cW v.2.1))]) (fun v => v.1 ≤ 6 ∧ v.2 = (List.range v.1).foldl (pQ a (pts[i]!.next[j]!).toNat) (u2,c2) ∧ SF ts pts v.2.1) (fun v => 6 - v.1) (0,(u2,c2)) ⟨by omega,rfl,hS3⟩ ?_
    rintro ⟨v,u3,c3⟩ ⟨hv,hf3,hS4⟩
    dsimp only at hv hf3 hS4 ⊢
    have hul3 := hS4.1
    have hsm3 : ∀ z : Nat,Sm u3[z]! := Lp w hS4
    by_cases hvn : v < 6
    ·have hlaw := AB (c8 w hed) hap u3 c3 v hvn hS4
     repeat' (first|refine aE ?_|(refine aJ ?_ ?_ <;> intro hc hq <;> try (exfalso;omega))|refine bI ?_|fail)
     ·have hne : nY u3[(pts[i]!.next[j]!).toNat * 6 + v]! a[v]! ≠ u3[(pts[i]!.next[j]!).toNat * 6 + v]! := fun h => hq (congrArg Int.ofNat h)
      have e1 : pQ a (pts[i]!.next[j]!).toNat (u3,c3) v = (u3.set ((pts[i]!.next[j]!).toNat * 6 + v) (nY u3[(pts[i]!.next[j]!).toNat * 6 + v]! a[v]!),true) := wW hne
      rw [e1] at hlaw
      (refine bC (v + 1,(_,true)) (Le.renA [(0,0),(2,2)]) ?_ ?_)
      ·dsimp only
       refine ⟨by omega,?_,hlaw.1⟩
       rw [vU,← hf3,e1]; rfl
      ·dsimp only;omega
     ·have hne : nY u3[(pts[i]!.next[j]!).toNat * 6 + v]! a[v]! = u3[(pts[i]!.next[j]!).toNat * 6 + v]! := Int.ofNat.inj hq
      have e1 : pQ a (pts[i]!.next[j]!).toNat (u3,c3) v = (u3,c3) := yY hne
      (refine bC (v + 1,(u3,c3)) (Le.renA [(0,0),(2,2)]) ?_ ?_)
      ·dsimp only
       refine ⟨by omega,?_,hS4⟩
       rw [vU,← hf3,e1]
      ·dsimp only;omega
    ·have hv6 : v = 6 := by omega
     subst hv6
     repeat' (first|refine aE ?_|fail)
     (refine bC (j + 1,(u3,c3)) (Le.renA [(0,0),(2,2)]) ?_ ?_)
     ·dsimp only
      refine ⟨by omega,?_,hS4⟩
      rw [Fb hjn,← hf2,hf3]; rfl
     ·dsimp only;omega
   ·repeat' (first | refine aE ?_ | (refine aJ ?_ ?_ <;> intro hc hq <;> try (exfalso; omega))|fail)
    (refine bC (i + 1,(u2,c2)) (Le.renA [(0,0)]) ?_ ?_)
    ·dsimp only
     refine ⟨by omega,?_,hS3⟩
     rw [dL,← hf,hf2,List.take_of_length_le (by rw [kU]; omega),← hcf']; rfl
    ·dsimp only;omega
  ·repeat' (first | refine aE ?_ | (refine aJ ?_ ?_ <;> intro hc hq <;> try (exfalso; omega))|fail)
   have law := F9 w s false hS
   have hfull : (u, c) = Hg ts pts (s, false) := by
    rw [hf,show i = pts.length by omega]; rfl
   rw [← hfull] at law
   (refine bC (u,c) (Le.renA [(0,0)]) ?_ ?_)
   ·dsimp only
    refine ⟨hS2,fun h => ?_⟩
    rcases law.2 with ⟨e1,e2⟩ | ⟨e1,_⟩
    ·cases e1;exact e2
    ·dsimp only at e1;rw [h] at e1;cases e1
   ·dsimp only
    have hb : b = true := by assumption
    subst hb
    rcases law.2 with ⟨e1,e2⟩ | ⟨e1,e2⟩
    ·cases e1;simp
    ·dsimp only at e1 e2;subst e1;omega
 ·have hb : b = false := by assumption
  refine aR (Le.frzD (d := 2) (i := 0) rfl rfl) ?_
  refine aD rfl ⟨?_,(by (exact a9 _ _))⟩
  simp only [aM]
  rw [Fa hA (IA w hS (hC hb))]
theorem MB (ts:List Int) (bd:List AL.Stmt) (pts:List Pnt) (i:Int) (lv:Nat) (f:List Nat) (w:WG ts pts) (hi:0 ≤ i ∧ i < pts.length) (hlv:lv < 2 ^ ts.length) (hf:f.length = 6) (hs:∀ z:Nat,Sm f[z]!):PC Tryz.prog 186 [aG ts bd pts,iv i,iv (lv:Int),.agg (flat cW f)] (fun r => r = .v (.int .u64 (zC ts pts[i.toNat]! lv f:Nat))):=by
 have hpl := w.pl
 have htl := w.tl
 have hin : i.toNat < pts.length := by omega
 have hst := (w.set i.toNat hin)
 have hsl : Sm lv := ⟨Nat.lt_of_lt_of_le hlv (Nat.pow_le_pow_right (by decide) (by omega))⟩
 have hT : Sm (wS ts pts[i.toNat]! [2]) := bR (by omega)
 have hB : Sm (iA pts[i.toNat]!) := rH (by omega)
 have hbl := cA (nD lv (wS ts pts[i.toNat]! [2] ||| iA pts[i.toNat]!))
 have hlt : nD lv (wS ts pts[i.toNat]! [2] ||| iA pts[i.toNat]!) < 2 ^ ts.length := Nat.xor_lt_two_pow hlv (Nat.lt_of_le_of_lt Nat.and_le_left hlv)
 refine aB Tryz.func186 Tryz.ntmps186 ?_
 repeat' (first|(apply aF;(first|(apply aA (k := 120);rfl;(apply fO <;> (infer_instance));(rfl);rfl)|(apply aA (k := 142);rfl;(apply qZ <;> (assumption));exact Pur.pf;rfl)|(apply aA (k := 182);rfl;(apply oY <;> (omega));exact Pur.pf;rfl)))|refine aE ?_|refine bI ?_|fail)
 refine aH (σ := Nat × Nat) [7,28,29] [0] (fun k => [(30,iv (k.1 : Int)),(10,.v (.int .u64 (k.2 : Int)))]) (fun k => []) (fun k => k.1 ≤ (a8 (nD lv (wS ts pts[i.toNat]! [2] ||| iA pts[i.toNat]!))).length ∧ k.2 = NB f ((a8 (nD lv (wS ts pts[i.toNat]! [2] ||| iA pts[i.toNat]!))).take k.1) 0 ∧ Sm k.2) (fun k => (a8 (nD lv (wS ts pts[i.toNat]! [2] ||| iA pts[i.toNat]!))).length - k.1) (0,0) ⟨by omega,rfl,inferInstance⟩ ?_
 rintro ⟨k,a⟩ ⟨hk,ha,hsa⟩
 dsimp only at hk ha hsa ⊢
 have hbb : k < (a8 (nD lv (wS ts pts[i.toNat]! [2] ||| iA pts[i.toNat]!))).length → 0 ≤ (a8 (nD lv (wS ts pts[i.toNat]! [2] ||| iA pts[i.toNat]!)))[k]! ∧ (a8 (nD lv (wS ts pts[i.toNat]! [2] ||| iA pts[i.toNat]!)))[k]! < ts.length := fun h => lW hlt h
 repeat' (first|refine aE ?_|(refine aJ ?_ ?_ <;> intro hc hq <;> try (exfalso;omega))|fail)
 ·(refine bC (k + 1, _) (Le.renA [(0, 0)]) ?_ ?_)
  ·dsimp only
   refine ⟨by omega,?_,inferInstance⟩
   rw [ha]; unfold NB;rw [dG _ _ _ _ (by omega)]
  ·dsimp only;omega
 ·refine aD rfl ⟨?_, rfl⟩
  simp only [aM]
  rw [ha,List.take_of_length_le (by omega)]; rfl
theorem BW (ts:List Int) (bd:List AL.Stmt) (pts:List Pnt) (x:Pnt) (mb:Nat) (htl:ts.length ≤ 6) (hmb:Sm mb) (hst:aP x < ts.length) (hy:0 ≤ x.y ∧ (3 ≤ x.op → x.op ≤ 7 → x.y < ts.length)):PC Tryz.prog 236 [aG ts bd pts,dD x,iv (mb:Int)] (fun r => r = sl Eh (jF ts x (mb.testBit (aP x).toNat))):=by
 refine aB Tryz.func236 Tryz.ntmps236 ?_
 repeat' (first|(apply aF;first|(apply k6 (d := 7) (e := 2);rfl;rfl)|(first|(apply aA (k := 143);rfl;(apply xL);exact Pur.pf;rfl)|(apply aA (k := 199);rfl;(apply xB <;> (omega));exact Pur.pf;rfl)))|refine aE ?_|(refine aJ ?_ ?_ <;> intro hc hq <;> try (exfalso;omega))|(refine bO ?_ ?_ <;> intro hg hq <;> try (exfalso;omega))|fail)
 all_goals first|refine aR (Le.frzD (d := 6) (i := 1) rfl rfl) ?_|refine aR (Le.frzD (d := 6) (i := 3) rfl rfl) ?_|refine aR (Le.frzD (d := 6) (i := 5) rfl rfl) ?_
 all_goals refine aD rfl ⟨?_,(by (rfl))⟩
 all_goals simp only [aM,jF]
 all_goals have h1 := lZ mb (aP x).toNat
 all_goals (try (rw [if_neg (show ¬ (0 ≤ aP x ∧ ts[(aP x).toNat]! = 2 ∧ mb.testBit (aP x).toNat = true) from fun h => by omega)]))
 all_goals (simp_all <;> rfl)
theorem Ei (ts:List Int) (bd:List AL.Stmt) (pts:List Pnt) (i:Int) (mb loans:Nat) (w:WG ts pts) (hi:0 ≤ i ∧ i < pts.length) (hmb:Sm mb) (hlo:loans < 2 ^ pts.length):PC Tryz.prog 185 [aG ts bd pts,iv i,iv (mb:Int),.v (.int .u64 (loans:Int))] (fun r => r = .v (.int .u64 (I6 pts loans (jF ts pts[i.toNat]! (mb.testBit (aP pts[i.toNat]!).toNat)) 0:Nat))):=by
 have hpl := w.pl
 have htl := w.tl
 have hin : i.toNat < pts.length := by omega
 have hst := (w.set i.toNat hin).1
 have hy := w.y i.toNat hin
 have hx := w.x i.toNat hin
 have hop := w.op i.toNat hin
 have hlsm : Sm loans := ⟨Nat.lt_of_lt_of_le hlo (Nat.pow_le_pow_right (by decide) (by omega))⟩
 have hacc := Dr (mb.testBit (aP pts[i.toNat]!).toNat) w hin
 have hal := Av ts pts[i.toNat]! (mb.testBit (aP pts[i.toNat]!).toNat)
 refine aB Tryz.func185 Tryz.ntmps185 ?_
 repeat' (first|(apply aF;(apply aA (k := 236);rfl;(apply BW <;> (assumption));exact Pur.pf;rfl))|refine aE ?_|fail)
 generalize jF ts pts[i.toNat]! (mb.testBit (aP pts[i.toNat]!).toNat) = acs at hacc hal
 refine aH (σ := Nat × Nat) [0,3,23,24] [] (fun k => [(25,iv (k.1 : Int)),(9,.v (.int .u64 (k.2 : Int)))]) (fun k => []) (fun k => k.1 ≤ acs.length ∧ k.2 = I6 pts loans (acs.take k.1) 0 ∧ k.2 < 2 ^ pts.length) (fun k => acs.length - k.1) (0,0) ⟨by omega,rfl,Nat.pow_pos (by decide)⟩ ?_
 rintro ⟨k,a⟩ ⟨hk,ha,hab⟩
 dsimp only at hk ha hab ⊢
 by_cases hkn : k < acs.length
 ·have hcv := hacc _ (aN acs k hkn)
  have hof : ∀ V,Sm (qW pts V) := fun V => GI w V
  have hll := cA (loans &&& qW pts (2 ^ (acs[k]!.var).toNat))
  have hlb : loans &&& qW pts (2 ^ (acs[k]!.var).toNat) < 2 ^ pts.length := Nat.lt_of_le_of_lt Nat.and_le_left hlo
  have htk := dG (fun a c => KW pts c.write (a8 (loans &&& qW pts (2 ^ c.var.toNat))) a) acs 0 k hkn
  repeat' (first|(apply aF;first|(apply jN;rfl;rfl;infer_instance;omega;rfl;(case' kk => intro hsm))|(first|(apply aA (k := 76);rfl;(apply sV <;> (infer_instance));(rfl);rfl)|(apply aA (k := 235);rfl;(apply zX <;> (assumption));exact Pur.pf;rfl)))|refine aE ?_|(refine aJ ?_ ?_ <;> intro hc hq <;> try (exfalso;omega))|fail)
  refine aH (σ := Nat × Nat) [0,3,11,23,24,25,36,37] [0] (fun j => [(38,iv (j.1 : Int)),(9,.v (.int .u64 (j.2 : Int)))]) (fun j => []) (fun j => j.1 ≤ (a8 (loans &&& qW pts (2 ^ (acs[k]!.var).toNat))).length ∧ j.2 = KW pts acs[k]!.write ((a8 (loans &&& qW pts (2 ^ (acs[k]!.var).toNat))).take j.1) a ∧ j.2 < 2 ^ pts.length) (fun j => (a8 (loans &&& qW pts (2 ^ (acs[k]!.var).toNat))).length - j.1) (0,a) ⟨by omega,rfl,hab⟩ ?_
  rintro ⟨j,b⟩ ⟨hj,hb,hbb⟩
  dsimp only at hj hb hbb ⊢
  have hbsm : Sm b := ⟨Nat.lt_of_lt_of_le hbb (Nat.pow_le_pow_right (by decide) (by omega))⟩
  by_cases hjn : j < (a8 (loans &&& qW pts (2 ^ (acs[k]!.var).toNat))).length
  ·have hlz := lW hlb hjn
   have hstep : KW pts acs[k]!.write ((a8 (loans &&& qW pts (2 ^ (acs[k]!.var).toNat))).take (j + 1)) a = if acs[k]!.write = true ∨ pts[((a8 (loans &&& qW pts (2 ^ (acs[k]!.var).toNat)))[j]!).toNat]!.op = 5 then b ||| 2 ^ ((a8 (loans &&& qW pts (2 ^ (acs[k]!.var).toNat)))[j]!).toNat else b := by
    rw [hb]; unfold KW;rw [dG _ _ _ _ hjn]
   have hb2 : b ||| 2 ^ ((a8 (loans &&& qW pts (2 ^ (acs[k]!.var).toNat)))[j]!).toNat < 2 ^ pts.length := Nat.or_lt_two_pow hbb (Nat.pow_lt_pow_right (by decide) (by omega))
   repeat' (first|(apply aF;(apply jN;rfl;rfl;infer_instance;omega;rfl;(case' kk => intro hsm)))|refine aE ?_|(refine aJ ?_ ?_ <;> intro hc hq <;> try (exfalso;omega))|(refine bO ?_ ?_ <;> intro hg hq <;> try (exfalso;omega))|fail)
   all_goals first
    | ((refine bC (j + 1, b ||| 2 ^ ((a8 (loans &&& qW pts (2 ^ (acs[k]!.var).toNat)))[j]!).toNat) (Le.renA [(0, 0)]) ?_ ?_)
       ·dsimp only
        refine ⟨by omega,?_,hb2⟩
        rw [hstep,if_pos (by first|exact .inl (by assumption)|exact .inr (by assumption))]
       ·dsimp only;omega)
    | ((refine bC (j + 1, b) (Le.renA [(0, 0)]) ?_ ?_)
       ·dsimp only
        refine ⟨by omega,?_,hbb⟩
        rw [hstep,if_neg (fun h => h.elim (fun h1 => Bool.noConfusion (h1.symm.trans (by assumption : acs[k]!.write = false))) (fun h2 => absurd h2 (by assumption)))]
       ·dsimp only;omega)
  ·repeat' (first | refine aE ?_ | (refine aJ ?_ ?_ <;> intro hc hq <;> try (exfalso; omega))|fail)
   (refine bC (k + 1,b) (Le.renA []) ?_ ?_)
   ·dsimp only
    refine ⟨by omega,?_,hbb⟩
    rw [hb,List.take_of_length_le (by omega),ha]; unfold I6;rw [htk]
   ·dsimp only;omega
 ·repeat' (first | refine aE ?_ | (refine aJ ?_ ?_ <;> intro hc hq <;> try (exfalso; omega))|fail)
  refine aD rfl ⟨?_,rfl⟩
  simp only [aM]
  rw [ha,List.take_of_length_le (by omega)]
end Go.Proofs.YtahdccneecdmmaaGreat
